import Derived.Test.YtdehklhdjbkneaaDoorMc
import Derived.RangeFuncNested
import Derived.RangeFuncCalls
import Derived.RangeFuncLeaves
import Derived.RangeFuncBox
import Derived.Shelf.RegionOpen
import Derived.WalkKit
import Derived.OwnWalkIn
import Derived.TacticsInMore
import Derived.LoopNIn
import Derived.LoopIn
import Derived.Shelf.Abstract
/- The quotient and the remainder of words. -/
namespace Go.Proofs.YtdehklhdjbkneaaDoor
open Go Go.RowKit
set_option linter.unusedSimpArgs false
set_option linter.unusedVariables false
set_option linter.unusedSectionVars false

/-- What div gives: the quotient is new; the remainder is new, or the dividend itself. -/
structure GivesD (v : Value) (xs ys : List Nat) (w : World) (r : Value) (w' : World) : Prop where
  ex : ∃ N1 N2 v1 v2 zs rs, r = .tuple #[v1, v2] ∧ New (N1 ++ N2) w w' ∧ OwnU N1 v1 zs.length zs ∧ (OwnU N2 v2 rs.length rs ∨ (N2 = [] ∧ v2 = v ∧ rs = xs)) ∧ Dig W32 zs ∧ Dig W32 rs ∧ val W32 xs = val W32 zs * val W32 ys + val W32 rs ∧ val W32 rs < val W32 ys

theorem val_len1 {b : Nat} {ys : List Nat} (h : ys.length = 1) : val b ys = ys.getD 0 0 := by
  match ys, h with
  | [y], _ => simp [val]

theorem kn_inv {A P z V D W Z T U : Nat} (hU : U = z + V * D) (h : A + P * U + V * (P * W * Z) = T) : A + P * z + V * (P * (D + W * Z)) = T := by
  subst hU
  rw [← h]
  simp only [Nat.mul_add, Nat.mul_assoc, Nat.mul_left_comm P V D]
  omega

set_option maxHeartbeats 16000000 in
theorem c_div (w : World) (v u : Value) (n k : Nat) (xs ys : List Nat) (hv : WU w v n xs) (hu : WU w u k ys) (hx : Dig W32 xs) (hy : Dig W32 ys) (h0 : 0 < val W32 ys) (hn : n ≤ 100000) (hk : k ≤ 100000) :
    Calls Tryd.prog 52 #[v, u] w (Ret fun r w' => Kp [] w w' ∧ GivesD v xs ys w r w') := by
  have hlx := hv.len
  have hly := hu.len
  have hk0 : 0 < k := by
    rcases Nat.eq_zero_or_pos k with h | h
    · subst h
      rw [List.eq_nil_of_length_eq_zero hly] at h0
      exact absurd h0 (Nat.lt_irrefl 0)
    · exact h
  refine calls_of_S [⟨11, 1, [], []⟩, ⟨16, 1, [], []⟩, ⟨17, 8, [], []⟩] [] (by simp) [] Tryd.func52 rfl mixed (by kernel_rfl) Tryd.ntmps52 Tryd.results52 rfl ⟨by simp, by simp⟩ (by simp) ?_
  simp only [toS, textOps, toSOp, kindAt, kindOf, odAt, sopsAt, ordOf, zipF]
  (repeat' (first | refine JC.seq ?_ | refine JC.ops ?_ | refine JO.nil ?_ | refine JX.thenN ?_ | (apply r_move; exact rfl; exact rfl; exact rfl) | (apply r_assign; exact rfl; exact rfl; exact rfl)))
  refine r_call0 trivial rfl rfl rfl (fun w hk' hs => c_cmp w _ _ _ _ _ _ (hv.mono hk') (hu.mono hk') hx hy (by omega) (by omega)) fun w v w' _ _ _ hR => ?_
  subst hR
  by_cases hlt : val W32 xs < val W32 ys
  · have hneg := cmpV_neg.2 hlt
    (repeat' (first | refine JC.seq ?_ | refine JC.ops ?_ | refine JO.nil ?_ | refine JX.thenN ?_ | (apply r_move; exact rfl; exact rfl; exact rfl) | (apply r_assign; exact rfl; exact rfl; exact rfl) | (apply r_lss; exact rfl; exact rfl; exact rfl; exact rfl; all_goals intro hc; all_goals try (exfalso; omega)) | refine JX.thenR ?_ | refine JC.ret ?_ | refine JC.condT rfl ?_))
    exact JX.ret2 rfl rfl (fun a w' st => ⟨st.kp, ⟨[], [], _, _, [], xs, rfl, New.nil _ _, OwnU.nil, .inr ⟨rfl, rfl, rfl⟩, Dig.nil _, hx, by simp [val], hlt⟩⟩)
  have hneg : ¬ cmpV (val W32 xs) (val W32 ys) < 0 := fun h => hlt (cmpV_neg.1 h)
  have hkn : k ≤ n := by
    refine Decidable.byContradiction fun h => hlt ?_
    exact len_cmp (by decide) hx hy (by omega)
  by_cases hk1 : k = 1
  · subst hk1
    have hd1 : ys.getD 0 0 < 4294967296 := mem_getD_lt (b := W32) (by decide) hy.lt 0
    have hvy := val_len1 (b := W32) hly
    rw [hvy] at h0
    (repeat' (first | refine JC.seq ?_ | refine JC.ops ?_ | refine JO.nil ?_ | refine JX.thenN ?_ | (apply r_move; exact rfl; exact rfl; exact rfl) | (apply r_idxU; exact rfl; exact rfl; exact rfl; exact rfl; (first | assumption | exact WU.rd (by assumption) rfl [] | exact OwnU.rd (by assumption)); (first | assumption | omega)) | (apply r_ldU; exact rfl; exact rfl; exact rfl; exact rfl; (first | assumption | exact WU.rd (by assumption) rfl [] | exact OwnU.rd (by assumption)); (repeat' first | exact HSub.nil _ | exact HSub.hd | exact HSub.in0 | exact HSub.refl _ | refine HSub.skip ?_ | refine HSub.skipN ?_); (first | assumption | omega)) | (apply r_lenU; exact rfl; exact rfl; exact rfl; (first | assumption | exact WU.rd (by assumption) rfl [] | exact OwnU.rd (by assumption))) | (apply r_lss; exact rfl; exact rfl; exact rfl; exact rfl; all_goals intro hc; all_goals try (exfalso; omega)) | (apply r_eql; exact rfl; exact rfl; exact rfl; exact rfl; all_goals intro hc; all_goals try (exfalso; omega)) | refine JC.skip ?_ | refine JC.condT rfl ?_ | refine JC.condF rfl ?_))
    refine r_callA (A := []) rfl trivial rfl rfl rfl (fun w hk hs => c_small w _ _ _ _ (hv.mono hk) hx.lt h0 hd1 (by omega)) fun w v w' _ _ _ hR => ?_
    obtain ⟨v1, N1, zs, rfl, hN1, hO1, hz1, hval1⟩ := hR
    refine ⟨N1, hN1, ?_⟩
    (repeat' (first | refine JC.seq ?_ | refine JC.ops ?_ | refine JO.nil ?_ | refine JX.thenN ?_ | (apply r_move; exact rfl; exact rfl; exact rfl) | (apply r_assign; exact rfl; exact rfl; exact rfl) | (apply r_extract; exact rfl; exact rfl; exact rfl; exact rfl) | (apply r_build1; exact rfl; exact rfl; exact rfl; exact rfl; exact rfl; (repeat first | exact trivial | refine ⟨rfl, ?_⟩); decide; decide; intro _)))
    rename_i b3
    have hO3 : OwnU [(b3, .cells ⟨[uv (val W32 xs % ys.getD 0 0)]⟩ 68)] (.slice (some ⟨b3, 0, none⟩) 1 1) 1 [val W32 xs % ys.getD 0 0] := own_litU b3 1 [val W32 xs % ys.getD 0 0] _ rfl rfl (by omega)
    refine r_call0 trivial rfl rfl rfl (fun w hk hs => c_norm w _ _ _ _ (hO3.rd.at hk hs (by (repeat' first | exact HSub.nil _ | exact HSub.hd | exact HSub.in0 | exact HSub.refl _ | refine HSub.skip ?_ | refine HSub.skipN ?_))) (by omega)) fun w v w' _ _ _ hR => ?_
    obtain ⟨k3, hk3, rfl, hn3⟩ := hR
    have hO3' := hO3.hd hk3
    rw [← hn3] at hO3'
    have hl3 : (nrm [val W32 xs % ys.getD 0 0]).length = k3 := hO3'.len
    have hmod := Nat.mod_lt (val W32 xs) h0
    (repeat' (first | refine JO.nil ?_ | refine JX.thenN ?_ | (apply r_assign; exact rfl; exact rfl; exact rfl) | refine JX.thenR ?_ | refine JC.ret ?_))
    refine JX.ret2 rfl rfl (fun a w' st => ⟨st.kp, ⟨N1, _, _, _, zs, nrm [val W32 xs % ys.getD 0 0], rfl, st.newOf (N := N1 ++ [(b3, .cells ⟨[uv (val W32 xs % ys.getD 0 0)]⟩ 68)]) rfl ?_, hO1, .inl (by rw [hl3]; exact hO3'), hz1, Dig.of fun x hx' => ?_, ?_, ?_⟩⟩)
    · refine ⟨[], ?_⟩
      simp only [List.append_nil, List.nil_append]
      exact List.perm_append_comm (l₁ := [_])
    · rw [List.mem_singleton] at hx'
      rw [hx']
      show _ < 4294967296
      omega
    · rw [hvy, val_nrm_one, hval1, Nat.mul_comm]
      exact (Nat.div_add_mod _ _).symm
    · rw [hvy, val_nrm_one]; exact hmod
  have hne : ys ≠ [] := fun e => by subst e; simp at hly; omega
  have htlt : ys.getD (k - 1) 0 < 4294967296 := mem_getD_lt (b := W32) (by decide) hy.lt (k - 1)
  have ht0 : 0 < ys.getD (k - 1) 0 := by
    refine Nat.pos_of_ne_zero fun e => ?_
    have h1 := val_ge (b := W32) (by decide) hy.nrm hne
    rw [hly] at h1
    have h2 := val_cut W32 ys (k - 1) (by omega)
    rw [val_drop (by omega), e, val_drop_nil (by omega)] at h2
    have h3 := val_take_lt hy.lt (k := k - 1) (by omega)
    simp only [Nat.mul_zero, Nat.add_zero] at h2
    omega
  (repeat' (first | refine JC.seq ?_ | refine JC.ops ?_ | refine JO.nil ?_ | refine JX.thenN ?_ | (apply r_move; exact rfl; exact rfl; exact rfl) | (apply r_assign; exact rfl; exact rfl; exact rfl) | (apply r_lenU; exact rfl; exact rfl; exact rfl; (first | assumption | exact WU.rd (by assumption) rfl [] | exact OwnU.rd (by assumption))) | (apply r_lss; exact rfl; exact rfl; exact rfl; exact rfl; all_goals intro hc; all_goals try (exfalso; omega)) | (apply r_eql; exact rfl; exact rfl; exact rfl; exact rfl; all_goals intro hc; all_goals try (exfalso; omega)) | refine JC.skip ?_ | refine JC.condF rfl ?_ | refine JC.block ?_))
  refine JC.loopH (ι := Nat) ⟨fun s => [(8, nv s), (0, v), (1, u)], fun _ => [], fun s => s ≤ 31 ∧ ys.getD (k - 1) 0 * 2 ^ s < 4294967296, fun s => 32 - s⟩ 0 ⟨by omega, by simpa using htlt⟩ (by repeat first | exact trivial | refine ⟨rfl, ?_⟩) (by (first | exact HSub.refl _ | (repeat' first | exact HSub.nil _ | exact HSub.refl _ | refine HSub.at 0 rfl ?_ | refine HSub.at 1 rfl ?_ | refine HSub.at 2 rfl ?_ | refine HSub.at 3 rfl ?_ | refine HSub.at 4 rfl ?_ | refine HSub.at 5 rfl ?_ | refine HSub.at 6 rfl ?_ | refine HSub.at 7 rfl ?_))) (fun s hs => ?_)
  obtain ⟨hs31, hts⟩ := hs
  dsimp only at hs31 hts ⊢
  by_cases htop : ys.getD (k - 1) 0 * 2 ^ s / 2 ^ 31 = 0
  · have hsm : ys.getD (k - 1) 0 * 2 ^ s < 2147483648 := by
      have := (Nat.div_eq_zero_iff).1 htop
      omega
    have hs30 : s + 1 ≤ 31 := by
      refine Decidable.byContradiction fun h => ?_
      obtain rfl : s = 31 := by omega
      have := Nat.mul_le_mul_right (2 ^ 31) ht0
      omega
    (repeat' (first | refine JC.seq ?_ | refine JC.ops ?_ | (apply r_move; exact rfl; exact rfl; exact rfl) | (apply r_sub1; exact rfl; exact rfl; exact rfl; exact rfl; omega) | (apply r_idxU; exact rfl; exact rfl; exact rfl; exact rfl; (first | assumption | exact WU.rd (by assumption) rfl [] | exact OwnU.rd (by assumption)); (first | assumption | omega)) | (apply r_ldU; exact rfl; exact rfl; exact rfl; exact rfl; (first | assumption | exact WU.rd (by assumption) rfl [] | exact OwnU.rd (by assumption)); (repeat' first | exact HSub.nil _ | exact HSub.hd | exact HSub.in0 | exact HSub.refl _ | refine HSub.skip ?_ | refine HSub.skipN ?_); (first | assumption | omega)) | (apply r_lenU; exact rfl; exact rfl; exact rfl; (first | assumption | exact WU.rd (by assumption) rfl [] | exact OwnU.rd (by assumption))) | (apply r_shlU; exact rfl; exact rfl; exact rfl; exact rfl; (first | assumption | omega))))
    rw [Nat.mod_eq_of_lt (show ys.getD (k - 1) 0 * 2 ^ s < 18446744073709551616 by omega)]
    refine r_shrU (j := 31) rfl rfl rfl rfl (by omega) ?_
    rw [htop]
    (repeat' (first | refine JC.ops ?_ | refine JO.nil ?_ | refine JX.thenN ?_ | (apply r_move; exact rfl; exact rfl; exact rfl) | (apply r_assign; exact rfl; exact rfl; exact rfl) | (apply r_add1; exact rfl; exact rfl; exact rfl; exact rfl; omega) | (apply r_eql; exact rfl; exact rfl; exact rfl; exact rfl; all_goals intro hc; all_goals try (exfalso; omega)) | refine JC.skip ?_ | refine JC.condT rfl ?_ | refine JC.block ?_ | refine JX.blockN ?_))
    exact JX.roundH (s + 1) ⟨hs30, by rw [Nat.pow_succ, ← Nat.mul_assoc]; omega⟩ (by dsimp only; omega) (by repeat first | exact trivial | refine ⟨rfl, ?_⟩) (by (first | exact HSub.refl _ | (repeat' first | exact HSub.nil _ | exact HSub.refl _ | refine HSub.at 0 rfl ?_ | refine HSub.at 1 rfl ?_ | refine HSub.at 2 rfl ?_ | refine HSub.at 3 rfl ?_ | refine HSub.at 4 rfl ?_ | refine HSub.at 5 rfl ?_ | refine HSub.at 6 rfl ?_ | refine HSub.at 7 rfl ?_)))
  (repeat' (first | refine JC.seq ?_ | refine JC.ops ?_ | (apply r_move; exact rfl; exact rfl; exact rfl) | (apply r_sub1; exact rfl; exact rfl; exact rfl; exact rfl; omega) | (apply r_idxU; exact rfl; exact rfl; exact rfl; exact rfl; (first | assumption | exact WU.rd (by assumption) rfl [] | exact OwnU.rd (by assumption)); (first | assumption | omega)) | (apply r_ldU; exact rfl; exact rfl; exact rfl; exact rfl; (first | assumption | exact WU.rd (by assumption) rfl [] | exact OwnU.rd (by assumption)); (repeat' first | exact HSub.nil _ | exact HSub.hd | exact HSub.in0 | exact HSub.refl _ | refine HSub.skip ?_ | refine HSub.skipN ?_); (first | assumption | omega)) | (apply r_lenU; exact rfl; exact rfl; exact rfl; (first | assumption | exact WU.rd (by assumption) rfl [] | exact OwnU.rd (by assumption))) | (apply r_shlU; exact rfl; exact rfl; exact rfl; exact rfl; (first | assumption | omega))))
  rw [Nat.mod_eq_of_lt (show ys.getD (k - 1) 0 * 2 ^ s < 18446744073709551616 by omega)]
  refine r_shrU (j := 31) rfl rfl rfl rfl (by omega) ?_
  (repeat' (first | refine JC.seq ?_ | refine JC.ops ?_ | refine JO.nil ?_ | refine JX.thenN ?_ | (apply r_move; exact rfl; exact rfl; exact rfl) | (apply r_eql; exact rfl; exact rfl; exact rfl; exact rfl; all_goals intro hc; all_goals try (exfalso; omega)) | refine JX.thenE ?_ | refine JC.exit ?_ | refine JC.condF rfl ?_ | refine JX.blockE ?_))
  refine r_callA (A := []) rfl trivial rfl rfl rfl (fun w hk hs => c_shift w _ _ _ _ (hv.mono hk) hx.lt hs31 (by omega)) fun w v w' _ _ _ hR => ?_
  obtain ⟨Nu, us0, hNu, hOu, hu0, hutop, hval0⟩ := hR
  obtain ⟨bu, capu, restu, rfl, rfl, hcu, hru, hmu⟩ := hOu.blk (by omega)
  refine ⟨_, hNu, ?_⟩
  (repeat' (first | (apply r_move; exact rfl; exact rfl; exact rfl)))
  refine r_callA (A := [_]) rfl trivial rfl rfl rfl (fun w hk' hs => c_shift w _ _ _ _ (hu.mono hk') hy.lt hs31 (by omega)) fun w v w' _ _ _ hR => ?_
  obtain ⟨Nv, vs0, hNv, hOv, hv0, _, hvalv⟩ := hR
  obtain ⟨bv, capv, restv, rfl, rfl, hcv, hrv, hmv⟩ := hOv.blk (by omega)
  refine ⟨_, hNv, ?_⟩
  skip
  refine r_call0 trivial rfl rfl rfl (fun w hk hs => c_norm w _ _ _ _ (hOv.rd.at hk hs (by (repeat' first | exact HSub.nil _ | exact HSub.hd | exact HSub.in0 | exact HSub.refl _ | refine HSub.skip ?_ | refine HSub.skipN ?_))) (by omega)) fun w v w' _ _ _ hR => ?_
  obtain ⟨kv, hkv, rfl, hnv⟩ := hR
  have hOv1 := hOv.hd hkv
  rw [← hnv] at hOv1
  have hDv : Dig W32 (nrm vs0) := Dig.of hv0
  have hVv : val W32 (nrm vs0) = 2 ^ s * val W32 ys := by rw [val_nrm, hvalv]
  obtain ⟨hlv, hVge⟩ := shift_len hs31 hly hk0 hy hts hDv hVv
  obtain rfl : kv = k := by rw [← hlv]; exact hOv1.len.symm
  have hlu0 := hOu.len
  have hV0 : 0 < val W32 (nrm vs0) := by rw [hVv]; exact Nat.mul_pos (Nat.pow_pos (by decide)) h0
  have hbig := shift_top hu0 hlu0 (by omega) hkn hutop hVge
  generalize nrm vs0 = vs at hnv hOv1 hDv hVv hlv hVge hV0 hbig
  clear hvalv hnv
  (repeat' (first | refine JC.seq ?_ | refine JC.ops ?_ | refine JO.nil ?_ | refine JX.thenN ?_ | (apply r_move; exact rfl; exact rfl; exact rfl) | (apply r_assign; exact rfl; exact rfl; exact rfl) | (apply r_len; exact rfl; exact rfl; exact rfl) | (apply r_subN; exact rfl; exact rfl; exact rfl; exact rfl; omega)))
  refine r_make (n := n + 1 - kv) rfl rfl rfl rfl rfl (by omega) (by omega) (fun bq => ?_)
  have hOq := own_zerosU bq (n + 1 - kv) (by simp only [maxLen]; omega)
  have htv : vs.getD (kv - 1) 0 < 4294967296 := mem_getD_lt (b := W32) (by decide) hDv.lt (kv - 1)
  have hsv : vs.getD (kv - 2) 0 < 4294967296 := mem_getD_lt (b := W32) (by decide) hDv.lt (kv - 2)
  have htv0 : 0 < vs.getD (kv - 1) 0 := by
    refine Nat.pos_of_ne_zero fun e => ?_
    have h2 := val_cut W32 vs (kv - 1) (by omega)
    rw [val_drop (by omega), e, val_drop_nil (by omega)] at h2
    have h3 := val_take_lt hDv.lt (k := kv - 1) (by omega)
    simp only [Nat.mul_zero, Nat.add_zero] at h2
    have := Nat.le_mul_of_pos_left (W32 ^ (kv - 1)) (Nat.pow_pos (n := s) (show 0 < 2 by decide))
    have hVge' : 2 ^ s * W32 ^ (kv - 1) ≤ val W32 vs := hVge
    omega
  (repeat' (first | refine JC.seq ?_ | refine JC.ops ?_ | refine JC.opsD ?_ | refine JO.nil ?_ | refine JX.thenN ?_ | (apply r_move; exact rfl; exact rfl; exact rfl) | (apply r_assign; exact rfl; exact rfl; exact rfl) | (apply r_len; exact rfl; exact rfl; exact rfl) | (apply r_sub1; exact rfl; exact rfl; exact rfl; exact rfl; omega) | (apply r_sub2; exact rfl; exact rfl; exact rfl; exact rfl; omega) | (apply r_idxU; exact rfl; exact rfl; exact rfl; exact rfl; (first | assumption | exact WU.rd (by assumption) rfl [] | exact OwnU.rd (by assumption)); (first | assumption | omega)) | (apply r_ldU; exact rfl; exact rfl; exact rfl; exact rfl; (first | assumption | exact WU.rd (by assumption) rfl [] | exact OwnU.rd (by assumption)); (repeat' first | exact HSub.nil _ | exact HSub.hd | exact HSub.in0 | exact HSub.refl _ | refine HSub.skip ?_ | refine HSub.skipN ?_); (first | assumption | omega)) | refine JC.block ?_))
  rw [show (Value.int IntKind.i64 ((n + 1 - kv - 1 : Nat) : Int)) = iv (((n + 1 - kv : Nat) : Int) - 1) from by congr 1; omega]
  have hvs : vs.length = kv := hlv
  refine JC.loopH (ι := Nat × List Nat × SHeap × List Nat) ⟨fun z => [(14, iv ((z.1 : Int) - 1)), (13, uv (vs.getD (kv - 2) 0)), (12, uv (vs.getD (kv - 1) 0)), (11, .slice (some ⟨bq, 0, none⟩) (n + 1 - kv) (n + 1 - kv)), (10, .slice (some ⟨bv, 0, none⟩) kv capv), (9, .slice (some ⟨bu, 0, none⟩) (n + 1) capu), (8, nv s)],
    fun z => (bu, .cells (rowCU z.2.1 restu) 68 (0, 0)) :: (bv, .cells (rowCU vs0 restv) 68 (0, 0)) :: (z.2.2.1 ++ []),
    fun z => z.1 ≤ n + 1 - kv ∧ z.2.1.length = n + 1 ∧ (∀ x ∈ z.2.1, x < W32) ∧ OwnU z.2.2.1 (.slice (some ⟨bq, 0, none⟩) (n + 1 - kv) (n + 1 - kv)) (n + 1 - kv) z.2.2.2 ∧ (∀ x ∈ z.2.2.2, x < W32) ∧ val W32 (z.2.1.drop z.1) < val W32 vs ∧ val W32 z.2.1 + val W32 vs * (W32 ^ z.1 * val W32 (z.2.2.2.drop z.1)) = 2 ^ s * val W32 xs, fun z => z.1⟩
    (n + 1 - kv, us0, _, _) ⟨Nat.le_refl _, hlu0, hu0, hOq, fun x hx => by obtain ⟨a, _, rfl⟩ := List.mem_map.1 hx; decide, hbig, by
      show val W32 us0 + val W32 vs * (W32 ^ (n + 1 - kv) * val W32 ((tab (n + 1 - kv) fun _ => 0).drop (n + 1 - kv))) = _
      rw [val_drop_nil (by simp [tab]), Nat.mul_zero, Nat.mul_zero, Nat.add_zero, hval0]⟩ (by repeat first | exact trivial | refine ⟨rfl, ?_⟩) (by exact HSub.at 1 rfl (HSub.at 1 rfl (HSub.at 0 rfl (HSub.nil _)))) (fun z hz => ?_)
  clear hOu hOq hlu0 hu0 hutop hval0 hbig hNu
  obtain ⟨j, us, Nq, qs⟩ := z
  obtain ⟨hj, hlu, hu0, hOq, hqs, hdr, hval⟩ := hz
  dsimp only at hj hlu hu0 hOq hqs hdr hval ⊢
  have hOu : OwnU [(bu, .cells (rowCU us restu) 68 (0, 0))] (.slice (some ⟨bu, 0, none⟩) (n + 1) capu) (n + 1) us := OwnU.ofNamed hlu hcu hru hmu
  have hlq := hOq.len
  rcases j with _ | i
  · (repeat' (first | refine JC.seq ?_ | refine JC.ops ?_ | refine JO.nil ?_ | refine JX.thenN ?_ | (apply r_move; exact rfl; exact rfl; exact rfl) | (apply r_geq; exact rfl; exact rfl; exact rfl; exact rfl; all_goals intro hc; all_goals try (exfalso; omega)) | refine JX.thenE ?_ | refine JC.exit ?_ | refine JC.condF rfl ?_ | refine JX.blockE ?_))
    refine r_call0 trivial rfl rfl rfl (fun w hk hs => c_norm w _ _ _ _ (hOq.rd.at hk hs (by (repeat' first | exact HSub.nil _ | exact HSub.hd | exact HSub.in0 | exact HSub.refl _ | refine HSub.skip ?_ | refine HSub.skipN ?_))) (by omega)) fun w v w' _ _ _ hR => ?_
    obtain ⟨kq, hkq, rfl, hnq⟩ := hR
    have hOq' := hOq.hd hkq
    rw [← hnq] at hOq'
    have hql : (nrm qs).length = kq := hOq'.len
    (repeat' (first | (apply r_move; exact rfl; exact rfl; exact rfl)))
    refine r_call0 trivial rfl rfl rfl (fun w hk hs => c_norm w _ _ _ _ (hOu.rd.at hk hs (by (repeat' first | exact HSub.nil _ | exact HSub.hd | exact HSub.in0 | exact HSub.refl _ | refine HSub.skip ?_ | refine HSub.skipN ?_))) (by omega)) fun w v w' _ _ _ hR => ?_
    obtain ⟨ku, hku, rfl, hnu⟩ := hR
    have hOu' := hOu.hd hku
    rw [← hnu] at hOu'
    have hDu : Dig W32 (nrm us) := Dig.of hu0
    (repeat' (first | (apply r_move; exact rfl; exact rfl; exact rfl)))
    refine r_callA (A := [_, _]) rfl trivial rfl rfl rfl (fun w hk hs => c_unshift w _ _ _ _ (hOu'.rd.at hk hs (by (repeat' first | exact HSub.nil _ | exact HSub.hd | exact HSub.in0 | exact HSub.refl _ | refine HSub.skip ?_ | refine HSub.skipN ?_))) hDu.lt hs31 (by omega)) fun w v w' _ _ _ hR => ?_
    obtain ⟨Nr, rs, hNr, hOr, hr, hvr⟩ := hR
    refine ⟨Nr, hNr, ?_⟩
    rw [val_nrm] at hvr
    simp only [List.drop_zero, Nat.pow_zero, Nat.one_mul] at hdr hval
    rw [hVv] at hval hdr
    have hfin := div_final (Nat.pow_pos (by decide)) hval hdr
    (repeat' (first | refine JO.nil ?_ | refine JX.thenN ?_ | (apply r_assign; exact rfl; exact rfl; exact rfl) | refine JC.ret ?_))
    exact JX.ret2 rfl rfl (fun a w' st => ⟨st.kp, ⟨Nq, Nr, _, _, nrm qs, rs, rfl, st.newOf rfl (by
      refine HSub.trans ?_ (HSub.skip (HSub.skip (HSub.refl _)))
      exact ⟨[], by simpa using List.perm_append_comm⟩), by rw [hql]; exact hOq', .inl hOr, Dig.of hqs, hr, by rw [val_nrm, hvr]; exact hfin.1, by rw [hvr]; exact hfin.2⟩⟩)
  have hiv : iv (((i + 1 : Nat) : Int) - 1) = nv i := by
    show iv _ = iv _
    congr 1
    omega
  rw [hiv]
  have hst := kn_step (W := W32) hu0 hDv.lt hlv (by omega) (show i + kv < us.length by omega) hdr
  have ha : us.getD (i + kv) 0 < 4294967296 := mem_getD_lt (b := W32) (by decide) hu0 _
  have hb : us.getD (i + kv - 1) 0 < 4294967296 := mem_getD_lt (b := W32) (by decide) hu0 _
  have hcc : us.getD (i + kv - 2) 0 < 4294967296 := mem_getD_lt (b := W32) (by decide) hu0 _
  (repeat' (first | refine JC.seq ?_ | refine JC.ops ?_ | refine JC.opsD ?_ | refine JO.nil ?_ | refine JX.thenN ?_ | (apply r_move; exact rfl; exact rfl; exact rfl) | (apply r_assign; exact rfl; exact rfl; exact rfl) | (apply r_len; exact rfl; exact rfl; exact rfl) | (apply r_addN; exact rfl; exact rfl; exact rfl; exact rfl; omega) | (apply r_sub1; exact rfl; exact rfl; exact rfl; exact rfl; omega) | (apply r_shl32; exact rfl; exact rfl; exact rfl; exact rfl; (first | assumption | omega)) | (apply r_or32; exact rfl; exact rfl; exact rfl; exact rfl; (first | assumption | omega | exact ⟨by assumption, by assumption⟩)) | (apply r_idxU; exact rfl; exact rfl; exact rfl; exact rfl; (first | assumption | exact WU.rd (by assumption) rfl [] | exact OwnU.rd (by assumption)); (first | assumption | omega)) | (apply r_ldU; exact rfl; exact rfl; exact rfl; exact rfl; (first | assumption | exact WU.rd (by assumption) rfl [] | exact OwnU.rd (by assumption)); (repeat' first | exact HSub.nil _ | exact HSub.hd | exact HSub.in0 | exact HSub.refl _ | refine HSub.skip ?_ | refine HSub.skipN ?_); (first | assumption | omega)) | (apply r_quoU; exact rfl; exact rfl; exact rfl; exact rfl; (first | assumption | omega)) | (apply r_remU; exact rfl; exact rfl; exact rfl; exact rfl; (first | assumption | omega)) | (apply r_geq; exact rfl; exact rfl; exact rfl; exact rfl; all_goals intro hc; all_goals try (exfalso; omega)) | refine JC.skip ?_ | refine JC.condT rfl ?_ | refine JC.block ?_))
  obtain ⟨hUlt, ⟨lv, hlv1, hVeq⟩, ⟨lu, hlu1, hUeq⟩, hhead, htail⟩ := hst
  have hq0 := kn_start htv0 hVeq hUeq hcc hlu1
  refine JC.loopH (ι := Nat × Nat) ⟨fun y => [(17, uv y.1), (18, uv y.2), (15, nv (i + kv)), (14, nv i), (13, uv (vs.getD (kv - 2) 0)), (12, uv (vs.getD (kv - 1) 0)), (11, .slice (some ⟨bq, 0, none⟩) (n + 1 - kv) (n + 1 - kv)), (10, .slice (some ⟨bv, 0, none⟩) kv capv), (9, .slice (some ⟨bu, 0, none⟩) (n + 1) capu), (8, nv s)],
    fun _ => (bu, .cells (rowCU us restu) 68 (0, 0)) :: (bv, .cells (rowCU vs0 restv) 68 (0, 0)) :: (Nq ++ []),
    fun y => us.getD (i + kv) 0 * 4294967296 + us.getD (i + kv - 1) 0 = y.1 * vs.getD (kv - 1) 0 + y.2 ∧ val W32 (us.drop i) / val W32 vs ≤ y.1, fun y => y.1⟩
    ((us.getD (i + kv) 0 * 4294967296 + us.getD (i + kv - 1) 0) / vs.getD (kv - 1) 0, (us.getD (i + kv) 0 * 4294967296 + us.getD (i + kv - 1) 0) % vs.getD (kv - 1) 0) ⟨by dsimp only; rw [Nat.mul_comm _ (vs.getD (kv - 1) 0)]; exact (Nat.div_add_mod _ _).symm, hq0⟩ (by repeat first | exact trivial | refine ⟨rfl, ?_⟩) (by (first | exact HSub.refl _ | (repeat' first | exact HSub.nil _ | exact HSub.refl _ | refine HSub.at 0 rfl ?_ | refine HSub.at 1 rfl ?_ | refine HSub.at 2 rfl ?_ | refine HSub.at 3 rfl ?_ | refine HSub.at 4 rfl ?_ | refine HSub.at 5 rfl ?_ | refine HSub.at 6 rfl ?_ | refine HSub.at 7 rfl ?_))) (fun y hyy => ?_)
  obtain ⟨G, R⟩ := y
  obtain ⟨hGR, hqG⟩ := hyy
  dsimp only at hGR hqG ⊢
  have hGle : G ≤ G * vs.getD (kv - 1) 0 := Nat.le_mul_of_pos_right _ htv0
  have hqW : val W32 (us.drop i) / val W32 vs < 4294967296 := Nat.div_lt_of_lt_mul hUlt
  have hdecr : ∀ g r, g * vs.getD (kv - 1) 0 + r = G * vs.getD (kv - 1) 0 + R → g + 1 = G → r = R + vs.getD (kv - 1) 0 := by
    intro g r h1 h2
    rw [← h2, Nat.add_mul, Nat.one_mul] at h1
    omega
  have hround : 1 ≤ G → us.getD (i + kv) 0 * 4294967296 + us.getD (i + kv - 1) 0 = (G - 1) * vs.getD (kv - 1) 0 + (R + vs.getD (kv - 1) 0) := by
    intro h1
    have : G * vs.getD (kv - 1) 0 = (G - 1) * vs.getD (kv - 1) 0 + vs.getD (kv - 1) 0 := by
      conv => lhs; rw [show G = G - 1 + 1 by omega, Nat.add_mul, Nat.one_mul]
    omega
  by_cases hg : 4294967295 < G
  · (repeat' (first | refine JC.seq ?_ | refine JC.ops ?_ | refine JO.nil ?_ | refine JX.thenN ?_ | (apply r_move; exact rfl; exact rfl; exact rfl) | (apply r_assign; exact rfl; exact rfl; exact rfl) | (apply r_pickT; exact rfl; exact rfl; exact rfl; exact rfl) | (apply r_addU; exact rfl; exact rfl; exact rfl; exact rfl; (first | assumption | omega)) | (apply r_decU; exact rfl; exact rfl; exact rfl; exact rfl; (first | assumption | omega)) | (apply r_gtr; exact rfl; exact rfl; exact rfl; exact rfl; all_goals intro hc; all_goals try (exfalso; omega)) | refine JC.skip ?_ | refine JC.condT rfl ?_ | refine JC.block ?_ | refine JX.blockN ?_ | (apply r_skip; exact rfl; exact rfl; (first | (intro h; cases h; done) | (intro _; rfl)))))
    exact JX.roundH (G - 1, R + vs.getD (kv - 1) 0) ⟨hround (by omega), by dsimp only; omega⟩ (by dsimp only; omega) (by repeat first | exact trivial | refine ⟨rfl, ?_⟩) (by (first | exact HSub.refl _ | (repeat' first | exact HSub.nil _ | exact HSub.refl _ | refine HSub.at 0 rfl ?_ | refine HSub.at 1 rfl ?_ | refine HSub.at 2 rfl ?_ | refine HSub.at 3 rfl ?_ | refine HSub.at 4 rfl ?_ | refine HSub.at 5 rfl ?_ | refine HSub.at 6 rfl ?_ | refine HSub.at 7 rfl ?_)))
  have hgs := mul_bound (show G < 4294967296 by omega) hsv
  have hout : G * (vs.getD (kv - 1) 0 * W32 + vs.getD (kv - 2) 0) ≤ (us.getD (i + kv) 0 * W32 + us.getD (i + kv - 1) 0) * W32 + us.getD (i + kv - 2) 0 ∨ (R ≤ 4294967295 ∧ R * 4294967296 + us.getD (i + kv - 2) 0 < G * vs.getD (kv - 2) 0) := by
    by_cases h : R ≤ 4294967295 ∧ R * 4294967296 + us.getD (i + kv - 2) 0 < G * vs.getD (kv - 2) 0
    · exact .inr h
    · refine .inl (kn_out hGR (by show G < 4294967296; omega) hsv ?_)
      show 4294967296 ≤ R ∨ G * vs.getD (kv - 2) 0 ≤ R * 4294967296 + us.getD (i + kv - 2) 0
      omega
  by_cases hdec : R ≤ 4294967295 ∧ R * 4294967296 + us.getD (i + kv - 2) 0 < G * vs.getD (kv - 2) 0
  · obtain ⟨hR1, hR2⟩ := hdec
    have hG1 : 1 ≤ G := by
      rcases Nat.eq_zero_or_pos G with h | h
      · subst h; rw [Nat.zero_mul] at hR2; omega
      · exact h
    have hqlt : val W32 (us.drop i) / val W32 vs < G := by
      refine kn_dec (V2 := vs.getD (kv - 1) 0 * 4294967296 + vs.getD (kv - 2) 0) (U3 := (us.getD (i + kv) 0 * 4294967296 + us.getD (i + kv - 1) 0) * 4294967296 + us.getD (i + kv - 2) 0) hVeq hUeq hlu1 ?_
      rw [hGR, Nat.mul_add, Nat.add_mul, Nat.mul_assoc G]
      omega
    (repeat' (first | refine JC.seq ?_ | refine JC.ops ?_ | refine JO.nil ?_ | refine JX.thenN ?_ | (apply r_move; exact rfl; exact rfl; exact rfl) | (apply r_assign; exact rfl; exact rfl; exact rfl) | (apply r_sub2; exact rfl; exact rfl; exact rfl; exact rfl; omega) | (apply r_pickT; exact rfl; exact rfl; exact rfl; exact rfl) | (apply r_pickF; exact rfl; exact rfl; exact rfl; exact rfl) | (apply r_shl32; exact rfl; exact rfl; exact rfl; exact rfl; (first | assumption | omega)) | (apply r_or32; exact rfl; exact rfl; exact rfl; exact rfl; (first | assumption | omega | exact ⟨by assumption, by assumption⟩)) | (apply r_idxU; exact rfl; exact rfl; exact rfl; exact rfl; (first | assumption | exact WU.rd (by assumption) rfl [] | exact OwnU.rd (by assumption)); (first | assumption | omega)) | (apply r_ldU; exact rfl; exact rfl; exact rfl; exact rfl; (first | assumption | exact WU.rd (by assumption) rfl [] | exact OwnU.rd (by assumption)); (repeat' first | exact HSub.nil _ | exact HSub.hd | exact HSub.in0 | exact HSub.refl _ | refine HSub.skip ?_ | refine HSub.skipN ?_); (first | assumption | omega)) | (apply r_addU; exact rfl; exact rfl; exact rfl; exact rfl; (first | assumption | omega)) | (apply r_mulU; exact rfl; exact rfl; exact rfl; exact rfl; (first | assumption | omega)) | (apply r_decU; exact rfl; exact rfl; exact rfl; exact rfl; (first | assumption | omega)) | (apply r_leq; exact rfl; exact rfl; exact rfl; exact rfl; all_goals intro hc; all_goals try (exfalso; omega)) | (apply r_gtr; exact rfl; exact rfl; exact rfl; exact rfl; all_goals intro hc; all_goals try (exfalso; omega)) | refine JC.skip ?_ | refine JC.condT rfl ?_ | refine JC.block ?_ | refine JX.blockN ?_))
    exact JX.roundH (G - 1, R + vs.getD (kv - 1) 0) ⟨hround hG1, by dsimp only; omega⟩ (by dsimp only; omega) (by repeat first | exact trivial | refine ⟨rfl, ?_⟩) (by (first | exact HSub.refl _ | (repeat' first | exact HSub.nil _ | exact HSub.refl _ | refine HSub.at 0 rfl ?_ | refine HSub.at 1 rfl ?_ | refine HSub.at 2 rfl ?_ | refine HSub.at 3 rfl ?_ | refine HSub.at 4 rfl ?_ | refine HSub.at 5 rfl ?_ | refine HSub.at 6 rfl ?_ | refine HSub.at 7 rfl ?_)))
  have hout1 := hout.resolve_right hdec
  have hV2 : 4294967296 ≤ vs.getD (kv - 1) 0 * W32 + vs.getD (kv - 2) 0 := by
    have h1 : 1 * 4294967296 ≤ vs.getD (kv - 1) 0 * 4294967296 := Nat.mul_le_mul_right _ htv0
    exact Nat.le_trans (by omega) (Nat.le_add_right _ _)
  have hGq := kn_end (g := G) hVeq hlv1 (Nat.lt_of_lt_of_le (by decide) hV2) hUeq hout1 (Nat.le_trans (by omega) (Nat.le_succ_of_le hV2))
  by_cases hRm : R ≤ 4294967295
  · have hR2 : ¬ R * 4294967296 + us.getD (i + kv - 2) 0 < G * vs.getD (kv - 2) 0 := fun h => hdec ⟨hRm, h⟩
    (repeat' (first | refine JC.seq ?_ | refine JC.ops ?_ | refine JO.nil ?_ | refine JX.thenN ?_ | (apply r_move; exact rfl; exact rfl; exact rfl) | (apply r_sub2; exact rfl; exact rfl; exact rfl; exact rfl; omega) | (apply r_pickT; exact rfl; exact rfl; exact rfl; exact rfl) | (apply r_pickF; exact rfl; exact rfl; exact rfl; exact rfl) | (apply r_shl32; exact rfl; exact rfl; exact rfl; exact rfl; (first | assumption | omega)) | (apply r_or32; exact rfl; exact rfl; exact rfl; exact rfl; (first | assumption | omega | exact ⟨by assumption, by assumption⟩)) | (apply r_idxU; exact rfl; exact rfl; exact rfl; exact rfl; (first | assumption | exact WU.rd (by assumption) rfl [] | exact OwnU.rd (by assumption)); (first | assumption | omega)) | (apply r_ldU; exact rfl; exact rfl; exact rfl; exact rfl; (first | assumption | exact WU.rd (by assumption) rfl [] | exact OwnU.rd (by assumption)); (repeat' first | exact HSub.nil _ | exact HSub.hd | exact HSub.in0 | exact HSub.refl _ | refine HSub.skip ?_ | refine HSub.skipN ?_); (first | assumption | omega)) | (apply r_mulU; exact rfl; exact rfl; exact rfl; exact rfl; (first | assumption | omega)) | (apply r_leq; exact rfl; exact rfl; exact rfl; exact rfl; all_goals intro hc; all_goals try (exfalso; omega)) | (apply r_gtr; exact rfl; exact rfl; exact rfl; exact rfl; all_goals intro hc; all_goals try (exfalso; omega)) | refine JX.thenE ?_ | refine JC.exit ?_ | refine JC.condF rfl ?_ | refine JX.blockE ?_))
    refine r_tail (o' := i) rfl rfl rfl rfl (Nat.zero_add _) (by omega) (by omega) ?_
    (repeat' (first | (apply r_move; exact rfl; exact rfl; exact rfl)))
    refine r_call0 trivial rfl rfl rfl (fun w hk hs => by
      have hw := WU.ofBlk (o := i) (k := n + 1 - i) (cc := capu - i) (hs_at hs 0 rfl) (by omega) (by omega)
      rw [List.take_of_length_le (by simp; omega)] at hw
      exact c_less w bu i (n + 1 - i) (capu - i) kv G (us.drop i) vs _ hw (hOv1.rd.at hk hs (by (repeat' first | exact HSub.nil _ | exact HSub.hd | exact HSub.in0 | exact HSub.refl _ | refine HSub.skip ?_ | refine HSub.skipN ?_))) (by omega) (fun x hx => hu0 x (List.mem_of_mem_drop hx)) hDv.lt (by omega) (by omega)) fun w v w' _ _ _ hR => ?_
    subst hR
    rw [hhead]
    by_cases hl : val W32 (us.drop i) < val W32 vs * G
    · rw [decide_eq_true hl]
      have hD : G - 1 = val W32 (us.drop i) / val W32 vs := by
        have h1 := Nat.div_lt_of_lt_mul hl
        generalize val W32 (us.drop i) / val W32 vs = q at *
        omega
      have hG1 : 1 ≤ G := by
        have h1 := Nat.div_lt_of_lt_mul hl
        generalize val W32 (us.drop i) / val W32 vs = q at *
        omega
      have hDlt : G - 1 < 4294967296 := by omega
      (repeat' (first | refine JC.seq ?_ | refine JC.ops ?_ | refine JO.nil ?_ | refine JX.thenN ?_ | (apply r_move; exact rfl; exact rfl; exact rfl) | (apply r_assign; exact rfl; exact rfl; exact rfl) | (apply r_decU; exact rfl; exact rfl; exact rfl; exact rfl; (first | assumption | omega)) | refine JC.condT rfl ?_))
      refine r_tail (o' := i) rfl rfl rfl rfl (Nat.zero_add _) (by omega) (by omega) ?_
      (repeat' (first | (apply r_move; exact rfl; exact rfl; exact rfl)))
      refine r_callO (A := []) (N := [_]) (B := (bv, .cells (rowCU vs0 restv) 68 (0, 0)) :: (Nq ++ [])) rfl trivial rfl rfl rfl (fun w hk hs => by
        have c := c_take w bu i capu kv (G - 1) capv us vs _ restu (hs_at hs 0 rfl) (by omega) (hOv1.rd.at hk hs (by (repeat' first | exact HSub.nil _ | exact HSub.hd | exact HSub.in0 | exact HSub.refl _ | refine HSub.skip ?_ | refine HSub.skipN ?_))) (fun _ => by simpa using (hs_ne hs 1 0 rfl rfl (by decide))) (by omega) hu0 hDv.lt hDlt (by omega) (by rw [hhead, hD]; exact Nat.mul_div_le _ _) (by omega)
        rw [hlu] at c
        exact c) fun w v w' _ _ _ hR => ?_
      obtain ⟨zs, hzl, hz, hvz, hbl⟩ := hR
      refine ⟨[(bu, .cells (rowCU (put i (kv + 1) zs us) restu) 68 (0, 0))], rfl, fun p hp => by cases List.mem_singleton.1 hp; exact hbl, ?_⟩
      (repeat' (first | refine JC.ops ?_ | refine JO.nil ?_ | refine JX.thenN ?_ | (apply r_move; exact rfl; exact rfl; exact rfl) | (apply r_idxU; exact rfl; exact rfl; exact rfl; exact rfl; (first | assumption | exact WU.rd (by assumption) rfl [] | exact OwnU.rd (by assumption)); (first | assumption | omega))))
      refine r_stU (A := [_, _]) hOq rfl rfl trivial rfl rfl (by omega) (fun Nq' hOq' => ?_)
      (repeat' (first | refine JC.ops ?_ | refine JO.nil ?_ | refine JX.thenN ?_ | (apply r_move; exact rfl; exact rfl; exact rfl) | (apply r_assign; exact rfl; exact rfl; exact rfl) | (apply r_sub; exact rfl; exact rfl; exact rfl; exact rfl; omega) | refine JX.blockN ?_))
      have hput := val_put (b := W32) (zs := zs) (show i + (kv + 1) ≤ us.length by omega) htail
      rw [hhead] at hvz
      refine JX.roundH (i, put i (kv + 1) zs us, Nq', _) ⟨by dsimp only; omega, by dsimp only; rw [put_len (by omega) hzl]; exact hlu, put_lt (by decide) hu0 hz.lt, hOq', set_lt hqs hDlt, ?_, ?_⟩ (by dsimp only; omega) (by repeat first | exact trivial | refine ⟨rfl, ?_⟩) (by (first | exact HSub.refl _ | (repeat' first | exact HSub.nil _ | exact HSub.refl _ | refine HSub.at 0 rfl ?_ | refine HSub.at 1 rfl ?_ | refine HSub.at 2 rfl ?_ | refine HSub.at 3 rfl ?_ | refine HSub.at 4 rfl ?_ | refine HSub.at 5 rfl ?_ | refine HSub.at 6 rfl ?_ | refine HSub.at 7 rfl ?_)))
      · dsimp only
        rw [hput]
        rw [hD] at hvz
        have hm := Nat.mod_lt (val W32 (us.drop i)) hV0
        have hdm := Nat.div_add_mod (val W32 (us.drop i)) (val W32 vs)
        omega
      · dsimp only
        have e1 := val_cut W32 (put i (kv + 1) zs us) i (by rw [put_len (by omega) hzl]; omega)
        rw [put_take (by omega), hput] at e1
        rw [e1, val_drop (l := qs.set i _) (by simp; omega), getD_set_self (by omega), drop_set]
        have e2 := val_cut W32 us i (by omega)
        rw [e2, Nat.pow_succ] at hval
        exact kn_inv hvz.symm hval
    · rw [decide_eq_false hl]
      have hD : G = val W32 (us.drop i) / val W32 vs := by
        have h1 : G ≤ val W32 (us.drop i) / val W32 vs := (Nat.le_div_iff_mul_le hV0).2 (by rw [Nat.mul_comm]; omega)
        exact Nat.le_antisymm h1 hqG
      have hDlt : G < 4294967296 := by omega
      (repeat' (first | refine JC.seq ?_ | refine JC.ops ?_ | refine JO.nil ?_ | refine JX.thenN ?_ | (apply r_move; exact rfl; exact rfl; exact rfl) | refine JC.skip ?_ | refine JC.condF rfl ?_))
      refine r_tail (o' := i) rfl rfl rfl rfl (Nat.zero_add _) (by omega) (by omega) ?_
      (repeat' (first | (apply r_move; exact rfl; exact rfl; exact rfl)))
      refine r_callO (A := []) (N := [_]) (B := (bv, .cells (rowCU vs0 restv) 68 (0, 0)) :: (Nq ++ [])) rfl trivial rfl rfl rfl (fun w hk hs => by
        have c := c_take w bu i capu kv (G) capv us vs _ restu (hs_at hs 0 rfl) (by omega) (hOv1.rd.at hk hs (by (repeat' first | exact HSub.nil _ | exact HSub.hd | exact HSub.in0 | exact HSub.refl _ | refine HSub.skip ?_ | refine HSub.skipN ?_))) (fun _ => by simpa using (hs_ne hs 1 0 rfl rfl (by decide))) (by omega) hu0 hDv.lt hDlt (by omega) (by rw [hhead, hD]; exact Nat.mul_div_le _ _) (by omega)
        rw [hlu] at c
        exact c) fun w v w' _ _ _ hR => ?_
      obtain ⟨zs, hzl, hz, hvz, hbl⟩ := hR
      refine ⟨[(bu, .cells (rowCU (put i (kv + 1) zs us) restu) 68 (0, 0))], rfl, fun p hp => by cases List.mem_singleton.1 hp; exact hbl, ?_⟩
      (repeat' (first | refine JC.ops ?_ | refine JO.nil ?_ | refine JX.thenN ?_ | (apply r_move; exact rfl; exact rfl; exact rfl) | (apply r_idxU; exact rfl; exact rfl; exact rfl; exact rfl; (first | assumption | exact WU.rd (by assumption) rfl [] | exact OwnU.rd (by assumption)); (first | assumption | omega))))
      refine r_stU (A := [_, _]) hOq rfl rfl trivial rfl rfl (by omega) (fun Nq' hOq' => ?_)
      (repeat' (first | refine JC.ops ?_ | refine JO.nil ?_ | refine JX.thenN ?_ | (apply r_move; exact rfl; exact rfl; exact rfl) | (apply r_assign; exact rfl; exact rfl; exact rfl) | (apply r_sub; exact rfl; exact rfl; exact rfl; exact rfl; omega) | refine JX.blockN ?_))
      have hput := val_put (b := W32) (zs := zs) (show i + (kv + 1) ≤ us.length by omega) htail
      rw [hhead] at hvz
      refine JX.roundH (i, put i (kv + 1) zs us, Nq', _) ⟨by dsimp only; omega, by dsimp only; rw [put_len (by omega) hzl]; exact hlu, put_lt (by decide) hu0 hz.lt, hOq', set_lt hqs hDlt, ?_, ?_⟩ (by dsimp only; omega) (by repeat first | exact trivial | refine ⟨rfl, ?_⟩) (by (first | exact HSub.refl _ | (repeat' first | exact HSub.nil _ | exact HSub.refl _ | refine HSub.at 0 rfl ?_ | refine HSub.at 1 rfl ?_ | refine HSub.at 2 rfl ?_ | refine HSub.at 3 rfl ?_ | refine HSub.at 4 rfl ?_ | refine HSub.at 5 rfl ?_ | refine HSub.at 6 rfl ?_ | refine HSub.at 7 rfl ?_)))
      · dsimp only
        rw [hput]
        rw [hD] at hvz
        have hm := Nat.mod_lt (val W32 (us.drop i)) hV0
        have hdm := Nat.div_add_mod (val W32 (us.drop i)) (val W32 vs)
        omega
      · dsimp only
        have e1 := val_cut W32 (put i (kv + 1) zs us) i (by rw [put_len (by omega) hzl]; omega)
        rw [put_take (by omega), hput] at e1
        rw [e1, val_drop (l := qs.set i _) (by simp; omega), getD_set_self (by omega), drop_set]
        have e2 := val_cut W32 us i (by omega)
        rw [e2, Nat.pow_succ] at hval
        exact kn_inv hvz.symm hval
  · (repeat' (first | refine JC.seq ?_ | refine JC.ops ?_ | refine JO.nil ?_ | refine JX.thenN ?_ | (apply r_move; exact rfl; exact rfl; exact rfl) | (apply r_pickF; exact rfl; exact rfl; exact rfl; exact rfl) | (apply r_leq; exact rfl; exact rfl; exact rfl; exact rfl; all_goals intro hc; all_goals try (exfalso; omega)) | (apply r_gtr; exact rfl; exact rfl; exact rfl; exact rfl; all_goals intro hc; all_goals try (exfalso; omega)) | refine JX.thenE ?_ | refine JC.exit ?_ | refine JC.condF rfl ?_ | refine JX.blockE ?_ | (apply r_skip; exact rfl; exact rfl; (first | (intro h; cases h; done) | (intro _; rfl)))))
    refine r_tail (o' := i) rfl rfl rfl rfl (Nat.zero_add _) (by omega) (by omega) ?_
    (repeat' (first | (apply r_move; exact rfl; exact rfl; exact rfl)))
    refine r_call0 trivial rfl rfl rfl (fun w hk hs => by
      have hw := WU.ofBlk (o := i) (k := n + 1 - i) (cc := capu - i) (hs_at hs 0 rfl) (by omega) (by omega)
      rw [List.take_of_length_le (by simp; omega)] at hw
      exact c_less w bu i (n + 1 - i) (capu - i) kv G (us.drop i) vs _ hw (hOv1.rd.at hk hs (by (repeat' first | exact HSub.nil _ | exact HSub.hd | exact HSub.in0 | exact HSub.refl _ | refine HSub.skip ?_ | refine HSub.skipN ?_))) (by omega) (fun x hx => hu0 x (List.mem_of_mem_drop hx)) hDv.lt (by omega) (by omega)) fun w v w' _ _ _ hR => ?_
    subst hR
    rw [hhead]
    by_cases hl : val W32 (us.drop i) < val W32 vs * G
    · rw [decide_eq_true hl]
      have hD : G - 1 = val W32 (us.drop i) / val W32 vs := by
        have h1 := Nat.div_lt_of_lt_mul hl
        generalize val W32 (us.drop i) / val W32 vs = q at *
        omega
      have hG1 : 1 ≤ G := by
        have h1 := Nat.div_lt_of_lt_mul hl
        generalize val W32 (us.drop i) / val W32 vs = q at *
        omega
      have hDlt : G - 1 < 4294967296 := by omega
      (repeat' (first | refine JC.seq ?_ | refine JC.ops ?_ | refine JO.nil ?_ | refine JX.thenN ?_ | (apply r_move; exact rfl; exact rfl; exact rfl) | (apply r_assign; exact rfl; exact rfl; exact rfl) | (apply r_decU; exact rfl; exact rfl; exact rfl; exact rfl; (first | assumption | omega)) | refine JC.condT rfl ?_))
      refine r_tail (o' := i) rfl rfl rfl rfl (Nat.zero_add _) (by omega) (by omega) ?_
      (repeat' (first | (apply r_move; exact rfl; exact rfl; exact rfl)))
      refine r_callO (A := []) (N := [_]) (B := (bv, .cells (rowCU vs0 restv) 68 (0, 0)) :: (Nq ++ [])) rfl trivial rfl rfl rfl (fun w hk hs => by
        have c := c_take w bu i capu kv (G - 1) capv us vs _ restu (hs_at hs 0 rfl) (by omega) (hOv1.rd.at hk hs (by (repeat' first | exact HSub.nil _ | exact HSub.hd | exact HSub.in0 | exact HSub.refl _ | refine HSub.skip ?_ | refine HSub.skipN ?_))) (fun _ => by simpa using (hs_ne hs 1 0 rfl rfl (by decide))) (by omega) hu0 hDv.lt hDlt (by omega) (by rw [hhead, hD]; exact Nat.mul_div_le _ _) (by omega)
        rw [hlu] at c
        exact c) fun w v w' _ _ _ hR => ?_
      obtain ⟨zs, hzl, hz, hvz, hbl⟩ := hR
      refine ⟨[(bu, .cells (rowCU (put i (kv + 1) zs us) restu) 68 (0, 0))], rfl, fun p hp => by cases List.mem_singleton.1 hp; exact hbl, ?_⟩
      (repeat' (first | refine JC.ops ?_ | refine JO.nil ?_ | refine JX.thenN ?_ | (apply r_move; exact rfl; exact rfl; exact rfl) | (apply r_idxU; exact rfl; exact rfl; exact rfl; exact rfl; (first | assumption | exact WU.rd (by assumption) rfl [] | exact OwnU.rd (by assumption)); (first | assumption | omega))))
      refine r_stU (A := [_, _]) hOq rfl rfl trivial rfl rfl (by omega) (fun Nq' hOq' => ?_)
      (repeat' (first | refine JC.ops ?_ | refine JO.nil ?_ | refine JX.thenN ?_ | (apply r_move; exact rfl; exact rfl; exact rfl) | (apply r_assign; exact rfl; exact rfl; exact rfl) | (apply r_sub; exact rfl; exact rfl; exact rfl; exact rfl; omega) | refine JX.blockN ?_))
      have hput := val_put (b := W32) (zs := zs) (show i + (kv + 1) ≤ us.length by omega) htail
      rw [hhead] at hvz
      refine JX.roundH (i, put i (kv + 1) zs us, Nq', _) ⟨by dsimp only; omega, by dsimp only; rw [put_len (by omega) hzl]; exact hlu, put_lt (by decide) hu0 hz.lt, hOq', set_lt hqs hDlt, ?_, ?_⟩ (by dsimp only; omega) (by repeat first | exact trivial | refine ⟨rfl, ?_⟩) (by (first | exact HSub.refl _ | (repeat' first | exact HSub.nil _ | exact HSub.refl _ | refine HSub.at 0 rfl ?_ | refine HSub.at 1 rfl ?_ | refine HSub.at 2 rfl ?_ | refine HSub.at 3 rfl ?_ | refine HSub.at 4 rfl ?_ | refine HSub.at 5 rfl ?_ | refine HSub.at 6 rfl ?_ | refine HSub.at 7 rfl ?_)))
      · dsimp only
        rw [hput]
        rw [hD] at hvz
        have hm := Nat.mod_lt (val W32 (us.drop i)) hV0
        have hdm := Nat.div_add_mod (val W32 (us.drop i)) (val W32 vs)
        omega
      · dsimp only
        have e1 := val_cut W32 (put i (kv + 1) zs us) i (by rw [put_len (by omega) hzl]; omega)
        rw [put_take (by omega), hput] at e1
        rw [e1, val_drop (l := qs.set i _) (by simp; omega), getD_set_self (by omega), drop_set]
        have e2 := val_cut W32 us i (by omega)
        rw [e2, Nat.pow_succ] at hval
        exact kn_inv hvz.symm hval
    · rw [decide_eq_false hl]
      have hD : G = val W32 (us.drop i) / val W32 vs := by
        have h1 : G ≤ val W32 (us.drop i) / val W32 vs := (Nat.le_div_iff_mul_le hV0).2 (by rw [Nat.mul_comm]; omega)
        exact Nat.le_antisymm h1 hqG
      have hDlt : G < 4294967296 := by omega
      (repeat' (first | refine JC.seq ?_ | refine JC.ops ?_ | refine JO.nil ?_ | refine JX.thenN ?_ | (apply r_move; exact rfl; exact rfl; exact rfl) | refine JC.skip ?_ | refine JC.condF rfl ?_))
      refine r_tail (o' := i) rfl rfl rfl rfl (Nat.zero_add _) (by omega) (by omega) ?_
      (repeat' (first | (apply r_move; exact rfl; exact rfl; exact rfl)))
      refine r_callO (A := []) (N := [_]) (B := (bv, .cells (rowCU vs0 restv) 68 (0, 0)) :: (Nq ++ [])) rfl trivial rfl rfl rfl (fun w hk hs => by
        have c := c_take w bu i capu kv (G) capv us vs _ restu (hs_at hs 0 rfl) (by omega) (hOv1.rd.at hk hs (by (repeat' first | exact HSub.nil _ | exact HSub.hd | exact HSub.in0 | exact HSub.refl _ | refine HSub.skip ?_ | refine HSub.skipN ?_))) (fun _ => by simpa using (hs_ne hs 1 0 rfl rfl (by decide))) (by omega) hu0 hDv.lt hDlt (by omega) (by rw [hhead, hD]; exact Nat.mul_div_le _ _) (by omega)
        rw [hlu] at c
        exact c) fun w v w' _ _ _ hR => ?_
      obtain ⟨zs, hzl, hz, hvz, hbl⟩ := hR
      refine ⟨[(bu, .cells (rowCU (put i (kv + 1) zs us) restu) 68 (0, 0))], rfl, fun p hp => by cases List.mem_singleton.1 hp; exact hbl, ?_⟩
      (repeat' (first | refine JC.ops ?_ | refine JO.nil ?_ | refine JX.thenN ?_ | (apply r_move; exact rfl; exact rfl; exact rfl) | (apply r_idxU; exact rfl; exact rfl; exact rfl; exact rfl; (first | assumption | exact WU.rd (by assumption) rfl [] | exact OwnU.rd (by assumption)); (first | assumption | omega))))
      refine r_stU (A := [_, _]) hOq rfl rfl trivial rfl rfl (by omega) (fun Nq' hOq' => ?_)
      (repeat' (first | refine JC.ops ?_ | refine JO.nil ?_ | refine JX.thenN ?_ | (apply r_move; exact rfl; exact rfl; exact rfl) | (apply r_assign; exact rfl; exact rfl; exact rfl) | (apply r_sub; exact rfl; exact rfl; exact rfl; exact rfl; omega) | refine JX.blockN ?_))
      have hput := val_put (b := W32) (zs := zs) (show i + (kv + 1) ≤ us.length by omega) htail
      rw [hhead] at hvz
      refine JX.roundH (i, put i (kv + 1) zs us, Nq', _) ⟨by dsimp only; omega, by dsimp only; rw [put_len (by omega) hzl]; exact hlu, put_lt (by decide) hu0 hz.lt, hOq', set_lt hqs hDlt, ?_, ?_⟩ (by dsimp only; omega) (by repeat first | exact trivial | refine ⟨rfl, ?_⟩) (by (first | exact HSub.refl _ | (repeat' first | exact HSub.nil _ | exact HSub.refl _ | refine HSub.at 0 rfl ?_ | refine HSub.at 1 rfl ?_ | refine HSub.at 2 rfl ?_ | refine HSub.at 3 rfl ?_ | refine HSub.at 4 rfl ?_ | refine HSub.at 5 rfl ?_ | refine HSub.at 6 rfl ?_ | refine HSub.at 7 rfl ?_)))
      · dsimp only
        rw [hput]
        rw [hD] at hvz
        have hm := Nat.mod_lt (val W32 (us.drop i)) hV0
        have hdm := Nat.div_add_mod (val W32 (us.drop i)) (val W32 vs)
        omega
      · dsimp only
        have e1 := val_cut W32 (put i (kv + 1) zs us) i (by rw [put_len (by omega) hzl]; omega)
        rw [put_take (by omega), hput] at e1
        rw [e1, val_drop (l := qs.set i _) (by simp; omega), getD_set_self (by omega), drop_set]
        have e2 := val_cut W32 us i (by omega)
        rw [e2, Nat.pow_succ] at hval
        exact kn_inv hvz.symm hval

end Go.Proofs.YtdehklhdjbkneaaDoor

/- slices.Backward over words: its contract as an iterator. -/
namespace Go.Proofs.YtdehklhdjbkneaaDoor
open Go Go.RowKit Go.Shelf
set_option linter.unusedSimpArgs false
set_option linter.unusedVariables false
set_option linter.unusedSectionVars false

attribute [local go_sem] Oper.semAt_some

/-- The blocks of S lie as they lay. -/
def KB (S : List Nat) (W W' : World) : Prop := ∀ k ∈ S, W'.heap[k]? = W.heap[k]?
theorem KB.refl (S : List Nat) (W : World) : KB S W W := fun _ _ => rfl
theorem KB.trans {S : List Nat} {A B C : World} (h : KB S A B) (k : KB S B C) : KB S A C := fun i hi => (k i hi).trans (h i hi)
theorem KB.cell {S : List Nat} {W W' : World} (h : KB S W W') {p : Addr} (hp : p.block ∈ S) : W'.cell? p = W.cell? p := World.cell?_of_block (h _ hp)

/-- What has come when k rounds are over, from the end of xs on. -/
def bk (xs : List Nat) (k : Nat) : List (Nat × Nat) := (List.range k).map fun j => (xs.length - 1 - j, xs[xs.length - 1 - j]?.getD 0)
theorem bk_succ (xs : List Nat) (k : Nat) : bk xs (k + 1) = bk xs k ++ [(xs.length - 1 - k, xs[xs.length - 1 - k]?.getD 0)] := by simp [bk, List.range_succ]
theorem bk_len (xs : List Nat) (k : Nat) : (bk xs k).length = k := by simp [bk]

set_option maxRecDepth 100000 in
set_option maxHeartbeats 4000000 in
theorem back1_in (F : Fence) (n : Nat) (hF : F.fn 70) (hro : F.round = none) (hn : 1 ≤ n) (l Bs b off cap : Nat) (S : List Nat) (xs : List Nat) (hl : xs.length ≤ 1000000) (hb : b ∈ S) (J Jx : List (Nat × Nat) → World → Prop)
    (hY : ∀ pre x W, J pre W → pre.length < xs.length → YieldAt F (n - 1) Tryd.prog l #[.int .i64 (x.1 : Int), .int .u64 (x.2 : Int)] W fun e W' =>
      (e = .returned (.bool true) ∧ J (pre ++ [x]) W' ∧ KB S W W') ∨ (e = .returned (.bool false) ∧ Jx (pre ++ [x]) W'))
    (W : World) (hBs : W.cell? ⟨Bs, 0, none⟩ = some (.slice (some ⟨b, off, none⟩) xs.length cap)) (hBl : Bs ∈ S) (hc : ∀ j, j < xs.length → W.cell? ⟨b, off + j, none⟩ = some (.int .u64 (xs[j]?.getD 0 : Nat))) (h0 : J [] W) :
    CallsIn F n Tryd.prog 70 #[.func (.yield l) #[] #[], .pointer (some ⟨Bs, 0, none⟩)] W fun e W' => (∃ v, e = .returned v) ∧
      ((∃ ys, ys = bk xs xs.length ∧ J ys W') ∨ (∃ pre, (∃ k, k ≤ xs.length ∧ pre = bk xs k) ∧ Jx pre W')) := by
  refine callsIn_of_wp Tryd.func70 rfl hF ?_ hro
  simp only [Tryd.ntmps70, List.size_toArray, List.length_cons, List.length_nil, Nat.reduceAdd, Nat.reduceSub, Array.replicate_succ, Array.replicate_zero, List.push_toArray, List.append_toArray, List.nil_append, List.cons_append]
  gi_wp2
  gi_loopw [3] (fun i wr => ∃ k : Nat, k ≤ xs.length ∧ i = .int .i64 ((xs.length : Int) - 1 - k) ∧ J (bk xs k) wr ∧ KB S W wr)
    (fun i _ => (intOf i + 1).toNat)
  case atStart => exact ⟨0, Nat.zero_le _, by simp, h0, KB.refl _ _⟩
  case round =>
    obtain ⟨k, hk, rfl, hJs, hnx⟩ := hrel
    have hcx : k < xs.length → wr.cell? ⟨b, off + (xs.length - 1 - k), none⟩ = some (.int .u64 (xs[xs.length - 1 - k]?.getD 0 : Nat)) := fun h => (hnx.cell (p := ⟨b, off + (xs.length - 1 - k), none⟩) hb).trans (hc _ (by omega))
    have hbx : wr.cell? ⟨Bs, 0, none⟩ = some (.slice (some ⟨b, off, none⟩) xs.length cap) := (hnx.cell (p := ⟨Bs, 0, none⟩) hBl).trans hBs
    by_cases hlt : k < xs.length
    · obtain ⟨fn, tmps, assign, body, hy, hR⟩ := hY _ (xs.length - 1 - k, xs[xs.length - 1 - k]?.getD 0) wr hJs (by rw [bk_len]; exact hlt)
      dsimp only at hy
      have hcx' := hcx hlt
      have he : ((xs.length : Int) - 1 - k) = ((xs.length - 1 - k : Nat) : Int) := by omega
      rw [he]
      gi_wp2
      refine hR.mono ?_
      rintro e W3 (⟨rfl, hJ3, hk3⟩ | ⟨rfl, hJx3⟩)
      · gi_wp2
        go_roundw
        case rel => exact ⟨k + 1, by omega, by first | (congr 1; done) | (congr 1; omega), by rw [bk_succ]; exact hJ3, hnx.trans hk3⟩
        case measure => first | (simp [intOf]; done) | (simp [intOf]; omega)
      · gi_wp2
        refine bodyPost_ret (results_none rfl _ _ _) rfl ?_
        exact ⟨⟨_, rfl⟩, .inr ⟨_, ⟨k + 1, by omega, (bk_succ _ _).symm⟩, hJx3⟩⟩
    · obtain rfl : k = xs.length := by omega
      gi_wp2
      go_end0
      exact ⟨⟨_, rfl⟩, .inl ⟨_, rfl, hJs⟩⟩

set_option maxRecDepth 100000 in
set_option maxHeartbeats 4000000 in
theorem back1_nil_in (F : Fence) (n : Nat) (hF : F.fn 70) (hro : F.round = none) (l Bs : Nat) (A : Option Addr) (cap : Nat) (J : List (Nat × Nat) → World → Prop) (W : World) (hBs : W.cell? ⟨Bs, 0, none⟩ = some (.slice A 0 cap)) (h0 : J [] W) :
    CallsIn F n Tryd.prog 70 #[.func (.yield l) #[] #[], .pointer (some ⟨Bs, 0, none⟩)] W fun e W' => (∃ v, e = .returned v) ∧ J [] W' := by
  refine callsIn_of_wp Tryd.func70 rfl hF ?_ hro
  simp only [Tryd.ntmps70, List.size_toArray, List.length_cons, List.length_nil, Nat.reduceAdd, Nat.reduceSub, Array.replicate_succ, Array.replicate_zero, List.push_toArray, List.append_toArray, List.nil_append, List.cons_append]
  gi_wp2
  gi_loopw [3] (fun i wr => i = .int .i64 (-1) ∧ J [] wr) (fun _ _ => 0)
  case atStart => exact ⟨by simp, h0⟩
  case round =>
    obtain ⟨rfl, hJs⟩ := hrel
    gi_wp2
    go_end0
    exact ⟨⟨_, rfl⟩, hJs⟩

/-- The slice value sv holds the words xs, in a block of S; or there are none. -/
def Wds (S : List Nat) (W : World) (sv : Value) (xs : List Nat) : Prop :=
  (xs = [] ∧ ∃ A cap, sv = .slice A 0 cap) ∨ ∃ b off cap, sv = .slice (some ⟨b, off, none⟩) xs.length cap ∧ b ∈ S ∧ b < W.heap.size ∧ ∀ j, j < xs.length → W.cell? ⟨b, off + j, none⟩ = some (.int .u64 (xs[j]?.getD 0 : Nat))

theorem back_stops (F : Fence) (n : Nat) (hF : F.fn 70) (hro : F.round = none) (hn : 1 ≤ n) (Bs : Nat) (S : List Nat) (sv : Value) (xs : List Nat) (hl : xs.length ≤ 1000000) (w : World) (hBs : Bs < w.heap.size) (hBn : Bs ∈ S)
    (hc : w.cell? ⟨Bs, 0, none⟩ = some sv) (hI : Wds S w sv xs) :
    SeqStopsK F n Tryd.prog 70 #[.pointer (some ⟨Bs, 0, none⟩)] (fun x : Nat × Nat => #[Value.int .i64 (x.1 : Int), Value.int .u64 (x.2 : Int)]) (KB S) (fun ys => ys = bk xs xs.length) (fun pre => ∃ k, k ≤ xs.length ∧ pre = bk xs k) xs.length w := fun l J Jx W hW _ _ hY h0 => by
  have hc' := (hW.cell (p := ⟨Bs, 0, none⟩) hBs).trans hc
  rcases hI with ⟨rfl, A, cap, rfl⟩ | ⟨b, off, cap, rfl, hb, hbl, hcs⟩
  · exact (back1_nil_in F n hF hro l Bs A cap J W hc' h0).mono fun e W' ⟨he, hj⟩ => ⟨he, .inl ⟨_, rfl, hj⟩⟩
  · exact back1_in F n hF hro hn l Bs b off cap S xs hl hb J Jx hY W hc' hBn (fun j hj => (hW.cell (p := ⟨b, off + j, none⟩) hbl).trans (hcs j hj)) h0

end Go.Proofs.YtdehklhdjbkneaaDoor

/- A range over a function: its body and what follows it, by the judgement. -/
namespace Go.Proofs.YtdehklhdjbkneaaDoor
open Go Go.RowKit
set_option linter.unusedSimpArgs false
set_option linter.unusedVariables false
set_option linter.unusedSectionVars false

/-! ## Code behind which deferred calls lie -/

/-- The same activation, with more deferred calls behind. -/
def ad (D : List Deferred) (a : Act) : Act := { a with defers := a.defers ++ D }
theorem ad_put (D : List Deferred) (a : Act) (d : Option Tmp) (v : Value) : (ad D a).put d v = ad D (a.put d v) := by cases d <;> rfl
theorem ad_eval (D : List Deferred) (a : Act) : (ad D a).eval = a.eval := rfl

theorem upon_ad {P : Program} {o : Oper} {D : List Deferred} {a : Act} {next next' : Act → World → Prop} {Q Q' : Exit → Act → World → Prop} (hn : ∀ a w, next a w → next' (ad D a) w) (hQ : ∀ e a w, Q e a w → Q' e (ad D a) w) :
    ∀ {r : Result Next}, o.upon P a next Q r → o.upon P (ad D a) next' Q' r := by
  intro r h
  cases r with
  | ok n w' =>
    cases n <;> simp only [Oper.upon] at h ⊢ <;>
      first
        | exact h.elim
        | (rw [ad_put]; exact hn _ _ h)
        | (have h2 := hn _ _ h
           rename_i d
           have e : ∀ (b : Act) (x : Option Tmp), ad D ({ b with defers := d :: b.defers }.put x undef) = ({ ad D b with defers := d :: (ad D b).defers } : Act).put x undef := fun b x => by cases x <;> rfl
           rw [e] at h2; exact h2)
        | (refine Calls.mono h (fun e w'' he => ?_); cases e <;> first | (have h3 := hn _ _ he; rw [← ad_put] at h3; exact h3) | exact hQ _ _ _ he | (obtain ⟨a', w', h'⟩ := he; exact ⟨_, _, hQ _ _ _ h'⟩))
        | exact Rows.mono h (fun v w' h' => by rw [ad_put]; exact hn _ _ h')
  | halt x w' => cases x <;> simp only [Oper.upon] at h ⊢ <;> first | exact hQ _ _ _ h | exact h.elim

theorem wpList_ad {P : Program} {ops : Array Oper} {D : List Deferred} {Q Q' : Exit → Act → World → Prop} (hQ : ∀ e a w, Q e a w → Q' e (ad D a) w) : ∀ {l : List Oper} {a : Act} {w : World}, wpList P ops Q l a w → wpList P ops Q' l (ad D a) w
  | [], a, w, h => hQ _ _ _ h
  | o :: l, a, w, h => by
    unfold wpList at h ⊢
    have e : (ad D a).tmps = a.tmps := rfl
    rw [e]
    split at h
    · rename_i hw
      rw [if_pos hw]
      rcases h with h | ⟨h, a', w', h'⟩
      · refine .inl ?_
        unfold Oper.wp at h ⊢
        rw [ad_eval]
        exact upon_ad (fun a w h => wpList_ad hQ h) hQ h
      · exact .inr ⟨h, _, _, hQ _ _ _ h'⟩
    · rename_i hw
      rw [if_neg hw, ad_put]
      exact wpList_ad hQ h

def tailOK : Code → Bool
  | .region _ _ d => !d
  | .seq a b => tailOK a && tailOK b
  | .ret => true
  | _ => false

theorem wp_of_toS_ad {c : Cx} (od : List Od) (D : List Deferred) : ∀ (s : Code) (Q Q' : Exit → Act → World → Prop), tailOK s = true → (∀ e a w, Q e a w → Q' e (ad D a) w) → ∀ a w, (toS od s).wp c Q a w → s.wp c.P Q' (ad D a) w
  | .region id ops false, Q, Q', _, hQ, a, w, h => by
    obtain ⟨F, H, st, h⟩ := h
    obtain ⟨kd, hl, he⟩ := textOps_eq (odAt od id).ov ops ops.toList 0
    rw [he] at h
    have := wpList_of_JL (P := c.P) (ops := ops) (Q := Q) rfl _ F H h a w st
    rw [List.map_fst_zip (by omega)] at this
    exact wp_region_list (wpList_ad hQ this)
  | .region id ops true, Q, Q', hk, hQ, a, w, h => by cases hk
  | .seq x y, Q, Q', hk, hQ, a, w, h => by
    simp only [tailOK, Bool.and_eq_true] at hk
    refine wp_seq (wp_of_toS_ad od D x _ _ hk.1 (fun e a w hq => ?_) a w h)
    cases e <;> first | exact hQ _ _ _ hq | exact wp_of_toS_ad od D y _ _ hk.2 hQ _ _ hq
  | .ret, Q, Q', _, hQ, a, w, h => wp_ret (hQ _ _ _ h)

/-! ## A round's body -/

def noDefer : List Oper → Bool
  | [] => true
  | o :: l => (match o.op with | .defer _ => false | _ => true) && noDefer l

theorem uponIn_of {P : Program} {o : Oper} {l m : Nat} {a : Act} {next : Act → World → Prop} {Q : Exit → Act → World → Prop} : ∀ {r : Result Next}, o.upon P a next Q r → o.uponIn (Fence.wide.inRound l) m P a next Q r := by
  intro r h
  cases r with
  | ok n w' =>
    cases n <;> simp only [Oper.upon, Oper.uponIn] at h ⊢ <;>
      first
        | exact h
        | exact h.elim
        | exact ⟨fun h0 => (by cases h0), CallsIn.inRound l (callsIn_wide.2 h)⟩
        | exact ⟨fun h0 => (by cases h0), fun c cs _ => let ⟨v, w', r, s⟩ := h c cs; ⟨v, w', r, stepsIn_wide.2 s⟩⟩
  | halt x w' => cases x <;> simp only [Oper.upon, Oper.uponIn] at h ⊢ <;> first | exact h | exact h.elim

theorem wpListIn_of {P : Program} {ops : Array Oper} {l m : Nat} {Q : Exit → Act → World → Prop} (hQ : ¬ LetsOut Q) : ∀ {os : List Oper} {a : Act} {w : World}, noDefer os = true → wpList P ops Q os a w → wpListIn (Fence.wide.inRound l) m P ops Q os a w
  | [], a, w, _, h => h
  | o :: os, a, w, hd, h => by
    simp only [noDefer, Bool.and_eq_true] at hd
    unfold wpList at h
    unfold wpListIn
    split at h
    · rename_i hw
      rw [if_pos hw]
      rcases h with h | ⟨_, h⟩
      · refine ⟨fun f _ => trivial, ?_⟩
        rw [Oper.semAt_eq _ _ _ (fun c hc => by rw [hc] at hd; exact absurd hd.1 (by simp))]
        unfold Oper.wp at h
        have h2 := uponIn_of (l := l) (m := m) h
        revert h2
        generalize (execOp a.eval o).run P w = r
        intro h2
        exact uponIn_mono' (fun a w h => wpListIn_of hQ hd.2 h) h2
      · exact absurd h hQ
    · rename_i hw
      rw [if_neg hw]
      exact ⟨fun f _ => trivial, wpListIn_of hQ hd.2 h⟩
where
  uponIn_mono' {P : Program} {o : Oper} {l m : Nat} {a : Act} {next next' : Act → World → Prop} {Q : Exit → Act → World → Prop} (hn : ∀ a w, next a w → next' a w) : ∀ {r : Result Next}, o.uponIn (Fence.wide.inRound l) m P a next Q r → o.uponIn (Fence.wide.inRound l) m P a next' Q r := by
    intro r h
    cases r with
    | ok n w' =>
      cases n <;> simp only [Oper.uponIn] at h ⊢ <;>
        first
          | exact h.elim
          | exact hn _ _ h
          | exact ⟨h.1, h.2.mono (fun e w'' he => by cases e <;> first | exact hn _ _ he | exact he)⟩
          | exact ⟨h.1, h.2.mono (fun v w'' he => hn _ _ he)⟩
    | halt x w' => cases x <;> simp only [Oper.uponIn] at h ⊢ <;> first | exact h | exact h.elim

/-- A region of a round. -/
theorem wpIn_region_JO {c : Cx} {id l m : Nat} {ops : Array Oper} {ov : List (Nat × Kind)} {K : Act → World → Prop} {F : SFrame} {H : SHeap} (hd : noDefer ops.toList = true) (h : JO c (Only K) .text (textOps ov ops 0 ops.toList) F H) :
    ∀ a w, St c F H a w → (Code.region id ops false).wpIn (Fence.wide.inRound l) m c.P (Only K) a w := fun a w st => by
  obtain ⟨kd, hl, he⟩ := textOps_eq ov ops ops.toList 0
  have h := h.h
  rw [he] at h
  have := wpList_of_JL (P := c.P) (ops := ops) (Q := Only K) rfl _ F H h a w st
  rw [List.map_fst_zip (by omega)] at this
  exact wpIn_region_list (wpListIn_of (fun ⟨_, _, h⟩ => h) hd this)

/-! ## The function as a whole -/

def hasRF : Code → Bool
  | .seq a b => hasRF a || hasRF b
  | .block _ c => hasRF c
  | .rangeFunc .. => true
  | _ => false
/-- What follows a range over a function stays as it is. -/
def toZ (od : List Od) : Code → SCode
  | .seq a b => bif hasRF a then .seq (toZ od a) (.raw b) else .seq (toS od a) (toZ od b)
  | .block id c => .block id (toZ od c)
  | c => toS od c
def okZ (P : Program) (od : List Od) : Code → Bool
  | .seq a b => bif hasRF a then okZ P od a else okS P od a && okZ P od b
  | .block _ c => okZ P od c
  | c => okS P od c
theorem wp_of_toZ {c : Cx} (od : List Od) (hm : c.P.follows .mixedOrders = true) : ∀ (s : Code) (Q : Exit → Act → World → Prop) (a : Act) (w : World), okZ c.P od s = true → (toZ od s).wp c Q a w → s.wp c.P Q a w
  | .seq x y, Q, a, w, hk, h => by
    unfold toZ at h
    unfold okZ at hk
    cases hr : hasRF x with
    | true =>
      rw [hr] at h hk
      exact wp_seq (wp_of_toZ od hm x _ a w hk h)
    | false =>
      rw [hr] at h hk
      simp only [cond_false, Bool.and_eq_true] at h hk
      refine wp_seq (wp_of_toS od hm x _ a w hk.1 ?_)
      refine wp_of_toS.wp_mono' (fun e a w hq => ?_) h
      cases e <;> first | exact hq | exact wp_of_toZ od hm y _ _ _ hk.2 hq
  | .block id s, Q, a, w, hk, h => wp_block (wp_of_toZ od hm s _ _ _ hk h)
  | .skip, Q, a, w, hk, h => wp_of_toS od hm _ _ _ _ hk h
  | .region _ _ _, Q, a, w, hk, h => wp_of_toS od hm _ _ _ _ hk h
  | .cond _ _ _, Q, a, w, hk, h => wp_of_toS od hm _ _ _ _ hk h
  | .loop _, Q, a, w, hk, h => wp_of_toS od hm _ _ _ _ hk h
  | .exit _, Q, a, w, hk, h => wp_of_toS od hm _ _ _ _ hk h
  | .scope _, Q, a, w, hk, h => wp_of_toS od hm _ _ _ _ hk h
  | .ret, Q, a, w, hk, h => wp_of_toS od hm _ _ _ _ hk h
  | .label _, Q, a, w, hk, h => wp_of_toS od hm _ _ _ _ hk h
  | .goto _, Q, a, w, hk, h => wp_of_toS od hm _ _ _ _ hk h
  | .refuse _, Q, a, w, hk, h => wp_of_toS od hm _ _ _ _ hk h
  | .rangeFunc .., Q, a, w, hk, h => wp_of_toS od hm _ _ _ _ hk h

theorem calls_of_Z {P : Program} {f : FuncId} {fn : Func} {s : Code} {args : Array Value} {w : World} {R : Ending → World → Prop} {n : Nat} (m : Nat) (od : List Od)
    (hf : P.funcs[f]? = some fn) (hb : fn.body = some s) (hm : P.follows .mixedOrders = true) (hk : okZ P od s = true)
    (hn : fn.ntmps = n) (hF : Nat.ble args.size n = true)
    (h : JC ⟨P, n, w, [], by simp⟩ (bodyPostM Fence.wide m P fn R) (toZ od s) (zipF 0 args.toList) []) : Calls P f args w R := by
  subst hn
  have hF := Nat.le_of_ble_eq_true hF
  refine callsIn_wide.1 (callsIn_of_wp_marks (n := m) hf hb trivial (wpIn_wide.2 ?_) rfl)
  refine wp_of_toZ (c := ⟨P, fn.ntmps, w, [], by simp⟩) od hm s _ _ _ hk (h.h _ _ ⟨⟨rfl, ?_, fun i v hl => ?_⟩, Kp.refl _ _, ⟨by simp, by simp⟩, fun p hp => by cases hp⟩)
  · simp; omega
  · obtain ⟨_, h1⟩ := zipF_look _ _ _ _ hl
    have h1 : args[i]? = some v := by simpa using h1
    have h2 : i < args.size := by
      rcases Nat.lt_or_ge i args.size with h | h
      · exact h
      · rw [Array.getElem?_eq_none h] at h1; cases h1
    rw [Array.getElem?_append_left h2]; exact h1

section
variable {c : Cx} {Q : Exit → Act → World → Prop} {F : SFrame} {H : SHeap}
theorem JC.raw {s : Code} (h : ∀ a w, St c F H a w → s.wp c.P Q a w) : JC c Q (.raw s) F H := ⟨h⟩
theorem JX.thenRaw {s : Code} (h : ∀ a w, St c F H a w → s.wp c.P Q a w) : JX c (Exit.then ((SCode.raw s).wp c Q) Q) .normal F H := ⟨h⟩
end

end Go.Proofs.YtdehklhdjbkneaaDoor

/- strings.TrimLeft, of zero bytes. -/
namespace Go.Proofs.YtdehklhdjbkneaaDoor
open Go Go.RowKit
set_option linter.unusedSimpArgs false
set_option linter.unusedVariables false
set_option linter.unusedSectionVars false

instance : TStr Tryd.prog 9 := ⟨Tryd.underlying9⟩

section
variable {c : Cx} {Q : Exit → Act → World → Prop} {m : Mode} {F : SFrame} {H : SHeap} {r : List SOp} {g : Option (Option Tmp × Bool)} {ns : Bool} {d : Tmp} {ty t t' : TypeId} {x y : Operand} {l : List UInt8}
theorem r_idxS0 {k : IntKind} {b : UInt8} [TStr c.P t] (hd : dstOk c.n (some d) = true) (hg : guardF F g = some true) (hx : ev F x = some (sv (b :: l))) (hy : ev F y = some (.int k 0))
    (h : JO c Q m r ((d, yv b.toNat) :: F) H) : JO c Q m (⟨some d, .index t x y, ty, g, .mov, ns⟩ :: r) F H := r_idxS (j := 0) hd hg hx hy (by simp) h
theorem r_fromS1 {k : IntKind} {b : UInt8} {lo : Operand} [TStr c.P t] (hd : dstOk c.n (some d) = true) (hg : guardF F g = some true) (hx : ev F x = some (sv (b :: l))) (hy : ev F lo = some (.int k 1))
    (h : JO c Q m r ((d, sv l) :: F) H) : JO c Q m (⟨some d, .slice t x (some lo) none none, ty, g, .mov, ns⟩ :: r) F H := r_fromS (i := 1) hd hg hx hy (by simp) h
theorem r_eqSn {b : UInt8} [TStr c.P t] (hd : dstOk c.n (some d) = true) (hg : guardF F g = some true) (hx : ev F x = some (sv (b :: l))) (hy : ev F y = some (.string ⟨#[]⟩))
    (h : JO c Q m r ((d, .bool false) :: F) H) : JO c Q m (⟨some d, .binOp .eql t x y t', ty, g, .mov, ns⟩ :: r) F H := r_eqS (l := b :: l) (l' := []) hd hg hx hy (by rw [decide_eq_false (by simp)]; exact h)
theorem r_eqSz [TStr c.P t] (hd : dstOk c.n (some d) = true) (hg : guardF F g = some true) (hx : ev F x = some (sv [])) (hy : ev F y = some (.string ⟨#[]⟩))
    (h : JO c Q m r ((d, .bool true) :: F) H) : JO c Q m (⟨some d, .binOp .eql t x y t', ty, g, .mov, ns⟩ :: r) F H := r_eqS (l := []) (l' := []) hd hg hx hy (by rw [decide_eq_true rfl]; exact h)
theorem r_neSn {b : UInt8} [TStr c.P t] (hd : dstOk c.n (some d) = true) (hg : guardF F g = some true) (hx : ev F x = some (sv (b :: l))) (hy : ev F y = some (.string ⟨#[]⟩))
    (h : JO c Q m r ((d, .bool true) :: F) H) : JO c Q m (⟨some d, .binOp .neq t x y t', ty, g, .mov, ns⟩ :: r) F H := r_neS (l := b :: l) (l' := []) hd hg hx hy (by rw [decide_eq_true (by simp)]; exact h)
theorem r_neSz [TStr c.P t] (hd : dstOk c.n (some d) = true) (hg : guardF F g = some true) (hx : ev F x = some (sv [])) (hy : ev F y = some (.string ⟨#[]⟩))
    (h : JO c Q m r ((d, .bool false) :: F) H) : JO c Q m (⟨some d, .binOp .neq t x y t', ty, g, .mov, ns⟩ :: r) F H := r_neS (l := []) (l' := []) hd hg hx hy (by rw [decide_eq_false (by simp)]; exact h)
end

set_option maxHeartbeats 2000000 in
theorem c_trimB (w : World) (l : List UInt8) (b : UInt8) (hl : l.length ≤ 1000000) :
    Calls Tryd.prog 71 #[sv l, yv b.toNat] w (Ret fun v w' => Kp [] w w' ∧ v = sv (l.dropWhile (· == b))) := by
  refine calls_of_S [] [] (by simp) [] Tryd.func71 rfl mixed (by kernel_rfl) Tryd.ntmps71 Tryd.results71 rfl ⟨by simp, by simp⟩ (by simp) ?_
  simp only [toS, textOps, toSOp, kindAt, kindOf, odAt, sopsAt, ordOf, zipF]
  (repeat' (first | refine JC.seq ?_ | refine JC.ops ?_ | refine JO.nil ?_ | refine JX.thenN ?_ | (apply r_assign; exact rfl; exact rfl; exact rfl) | refine JC.block ?_))
  refine JC.loopH (ι := List UInt8) ⟨fun z => [(0, sv z), (1, yv b.toNat)], fun _ => [], fun z => z.length ≤ 1000000 ∧ z.dropWhile (· == b) = l.dropWhile (· == b), fun z => z.length⟩ l ⟨hl, rfl⟩ (by repeat first | exact trivial | refine ⟨rfl, ?_⟩) (by (first | exact HSub.refl _ | (repeat' first | exact HSub.nil _ | exact HSub.refl _ | refine HSub.at 0 rfl ?_ | refine HSub.at 1 rfl ?_ | refine HSub.at 2 rfl ?_ | refine HSub.at 3 rfl ?_ | refine HSub.at 4 rfl ?_ | refine HSub.at 5 rfl ?_ | refine HSub.at 6 rfl ?_ | refine HSub.at 7 rfl ?_))) (fun z hz => ?_)
  obtain ⟨hzl, hz⟩ := hz
  dsimp only at hzl hz ⊢
  rcases z with _ | ⟨x, z⟩
  · have h0 : ((([] : List UInt8).length : Nat) : Int) = 0 := rfl
    (repeat' (first | refine JC.seq ?_ | refine JC.ops ?_ | refine JO.nil ?_ | refine JX.thenN ?_ | (apply r_move; exact rfl; exact rfl; exact rfl) | (apply r_assign; exact rfl; exact rfl; exact rfl) | (apply r_pickF; exact rfl; exact rfl; exact rfl; exact rfl) | (apply r_lenS; exact rfl; exact rfl; exact rfl) | (apply r_gtr; exact rfl; exact rfl; exact rfl; exact rfl; all_goals intro hc; all_goals try (exfalso; omega)) | refine JX.thenE ?_ | refine JC.exit ?_ | refine JC.ret ?_ | refine JC.condF rfl ?_ | refine JX.blockE ?_ | (apply r_skip; exact rfl; exact rfl; (first | (intro h; cases h; done) | (intro _; rfl)))))
    exact JX.ret1 rfl (fun a w' st => ⟨st.kp, by rw [← hz]; rfl⟩)
  · have h0 : (0 : Int) < ((x :: z).length : Nat) := by rw [List.length_cons]; omega
    by_cases hxb : x = b
    · subst hxb
      (repeat' (first | refine JC.seq ?_ | refine JC.ops ?_ | refine JO.nil ?_ | refine JX.thenN ?_ | (apply r_move; exact rfl; exact rfl; exact rfl) | (apply r_assign; exact rfl; exact rfl; exact rfl) | (apply r_pickT; exact rfl; exact rfl; exact rfl; exact rfl) | (apply r_lenS; exact rfl; exact rfl; exact rfl) | (apply r_idxS0; exact rfl; exact rfl; exact rfl; exact rfl) | (apply r_fromS1; exact rfl; exact rfl; exact rfl; exact rfl) | (apply r_gtr; exact rfl; exact rfl; exact rfl; exact rfl; all_goals intro hc; all_goals try (exfalso; omega)) | (apply r_eql; exact rfl; exact rfl; exact rfl; exact rfl; all_goals intro hc; all_goals try (exfalso; omega)) | refine JC.skip ?_ | refine JC.condT rfl ?_ | refine JC.block ?_ | refine JX.blockN ?_))
      exact JX.roundH z ⟨by simp at hzl; omega, by rw [← hz]; simp [List.dropWhile]⟩ (by simp) (by repeat first | exact trivial | refine ⟨rfl, ?_⟩) (by (first | exact HSub.refl _ | (repeat' first | exact HSub.nil _ | exact HSub.refl _ | refine HSub.at 0 rfl ?_ | refine HSub.at 1 rfl ?_ | refine HSub.at 2 rfl ?_ | refine HSub.at 3 rfl ?_ | refine HSub.at 4 rfl ?_ | refine HSub.at 5 rfl ?_ | refine HSub.at 6 rfl ?_ | refine HSub.at 7 rfl ?_)))
    · have hne : ¬ ((x.toNat : Int) = (b.toNat : Int)) := fun e => hxb (UInt8.toNat.inj (by exact_mod_cast e))
      (repeat' (first | refine JC.seq ?_ | refine JC.ops ?_ | refine JO.nil ?_ | refine JX.thenN ?_ | (apply r_move; exact rfl; exact rfl; exact rfl) | (apply r_assign; exact rfl; exact rfl; exact rfl) | (apply r_pickT; exact rfl; exact rfl; exact rfl; exact rfl) | (apply r_lenS; exact rfl; exact rfl; exact rfl) | (apply r_idxS0; exact rfl; exact rfl; exact rfl; exact rfl) | (apply r_gtr; exact rfl; exact rfl; exact rfl; exact rfl; all_goals intro hc; all_goals try (exfalso; omega)) | (apply r_eql; exact rfl; exact rfl; exact rfl; exact rfl; all_goals intro hc; all_goals try (exfalso; omega)) | refine JX.thenE ?_ | refine JC.exit ?_ | refine JC.ret ?_ | refine JC.condF rfl ?_ | refine JX.blockE ?_))
      exact JX.ret1 rfl (fun a w' st => ⟨st.kp, by rw [← hz, List.dropWhile, show (x == b) = false by simpa using hxb]⟩)

set_option maxHeartbeats 2000000 in
theorem c_TrimLeft (w : World) (l : List UInt8) (hl : l.length ≤ 1000000) :
    Calls Tryd.prog 63 #[sv l, sv [0]] w (Ret fun v w' => Kp [] w w' ∧ v = sv (l.dropWhile (· == 0))) := by
  rcases l with _ | ⟨x, l⟩
  · refine calls_of_S [] [] (by simp) [] Tryd.func63 rfl mixed (by kernel_rfl) Tryd.ntmps63 Tryd.results63 rfl ⟨by simp, by simp⟩ (by simp) ?_
    simp only [toS, textOps, toSOp, kindAt, kindOf, odAt, sopsAt, ordOf, zipF]
    (repeat' (first | refine JC.seq ?_ | refine JC.ops ?_ | refine JO.nil ?_ | refine JX.thenN ?_ | (apply r_move; exact rfl; exact rfl; exact rfl) | (apply r_assign; exact rfl; exact rfl; exact rfl) | (apply r_pickT; exact rfl; exact rfl; exact rfl; exact rfl) | (apply r_eqSz; exact rfl; exact rfl; exact rfl; exact rfl) | refine JX.thenR ?_ | refine JC.ret ?_ | refine JC.condT rfl ?_ | (apply r_skip; exact rfl; exact rfl; (first | (intro h; cases h; done) | (intro _; rfl)))))
    exact JX.ret1 rfl (fun a w' st => ⟨st.kp, rfl⟩)
  · refine calls_of_S [] [] (by simp) [] Tryd.func63 rfl mixed (by kernel_rfl) Tryd.ntmps63 Tryd.results63 rfl ⟨by simp, by simp⟩ (by simp) ?_
    simp only [toS, textOps, toSOp, kindAt, kindOf, odAt, sopsAt, ordOf, zipF]
    have h1 : ((([0] : List UInt8).length : Nat) : Int) = 1 := rfl
    have h2 : ((UInt8.toNat 0 : Nat) : Int) = 0 := rfl
    (repeat' (first | refine JC.seq ?_ | refine JC.ops ?_ | refine JO.nil ?_ | refine JX.thenN ?_ | (apply r_move; exact rfl; exact rfl; exact rfl) | (apply r_assign; exact rfl; exact rfl; exact rfl) | (apply r_pickT; exact rfl; exact rfl; exact rfl; exact rfl) | (apply r_pickF; exact rfl; exact rfl; exact rfl; exact rfl) | (apply r_lenS; exact rfl; exact rfl; exact rfl) | (apply r_idxS0; exact rfl; exact rfl; exact rfl; exact rfl) | (apply r_eqSn; exact rfl; exact rfl; exact rfl; exact rfl) | (apply r_lss; exact rfl; exact rfl; exact rfl; exact rfl; all_goals intro hc; all_goals try (exfalso; omega)) | (apply r_eql; exact rfl; exact rfl; exact rfl; exact rfl; all_goals intro hc; all_goals try (exfalso; omega)) | refine JC.skip ?_ | refine JC.condT rfl ?_ | refine JC.condF rfl ?_))
    refine r_call0 trivial rfl rfl rfl (fun w hk hs => c_trimB w (x :: l) 0 hl) fun w v w' _ _ _ hR => ?_
    subst hR
    (repeat' (first | refine JO.nil ?_ | refine JX.thenN ?_ | (apply r_assign; exact rfl; exact rfl; exact rfl) | refine JX.thenR ?_ | refine JC.ret ?_))
    exact JX.ret1 rfl (fun a w' st => ⟨st.kp, rfl⟩)

end Go.Proofs.YtdehklhdjbkneaaDoor

/- The canonical number of words: (nat).wide, its parts. -/
namespace Go.Proofs.YtdehklhdjbkneaaDoor
open Go Go.RowKit
set_option linter.unusedSimpArgs false
set_option linter.unusedVariables false
set_option linter.unusedSectionVars false

/-- The canonical bytes of a number, as bytes. -/
def magU (n : Nat) : List UInt8 := (mag n).map UInt8.ofNat
theorem bts_magU (n : Nat) : bts (magU n) = mag n := bts_of mag_lt
theorem magU_of {l : List UInt8} : l.dropWhile (· == 0) = magU (bval (bts l)) := by
  apply bts_inj
  rw [bts_magU, ← mag_of (fun x hx => by
    obtain ⟨a, _, rfl⟩ := List.mem_map.1 hx
    exact UInt8.toNat_lt a)]
  unfold bts
  induction l with
  | nil => rfl
  | cons a l ih =>
    rw [List.map_cons, List.dropWhile, List.dropWhile]
    by_cases h : a = 0
    · subst h; exact ih
    · have h1 : (a == 0) = false := by simpa using h
      have h2 : (a.toNat == 0) = false := by
        simp only [beq_eq_false_iff_ne]
        exact fun e => h (UInt8.toNat.inj e)
      rw [h1, h2]; rfl
theorem magU_nil {n : Nat} : magU n = [] ↔ n = 0 := by
  rw [← mag_nil]
  exact ⟨fun h => by rw [← bts_magU, h]; rfl, fun h => by unfold magU; rw [h]; rfl⟩
theorem magU_len {n k : Nat} (h : n < 256 ^ k) : (magU n).length ≤ k := by unfold magU; rw [List.length_map]; exact mag_len h
theorem magU_inj {n m : Nat} (h : magU n = magU m) : n = m := mag_inj (by rw [← bts_magU, h, bts_magU])
theorem bval_magU (n : Nat) : bval (bts (magU n)) = n := by rw [bts_magU, bval_mag]

/-- A Wide value. -/
abbrev wv (p : Bool) (l : List UInt8) : Value := .agg #[.bool p, sv l]
/-- The canonical Wide value of a number. -/
def Wv (z : Int) : Value := wv (decide (z < 0)) (magU z.natAbs)
theorem Wv_sgn (p : Bool) (n : Nat) : Wv (sgn p n) = wv (p && decide (magU n ≠ [])) (magU n) := by
  unfold Wv
  have h : decide (n ≠ 0) = decide (magU n ≠ []) := by simp [magU_nil]
  rw [sgn_natAbs, sgn_neg, h]

section
variable {c : Cx} {Q : Exit → Act → World → Prop} {m : Mode} {F : SFrame} {H : SHeap} {r : List SOp} {g : Option (Option Tmp × Bool)} {ns : Bool} {d : Tmp} {ty t t' : TypeId} {x y : Operand} {i : Nat}
/-- 'make([]T, n, k)'. -/
theorem r_makeC {e : TypeId} {sz bytes n k : Nat} {zc : Array Value} [TSl c.P t e] [TE c.P e sz bytes zc] (hd : dstOk c.n (some d) = true) (hg : guardF F g = some true) (hl : m.live = true)
    (hx : ev F x = some (.int .i64 n)) (hy : ev F y = some (.int .i64 k)) (hnk : n ≤ k) (hn : k * bytes ≤ 140737488355328) (hn' : k < 9223372036854775808)
    (h : ∀ b, JO c Q m r ((d, (.slice (some ⟨b, 0, none⟩) n k)) :: F) ((b, .cells (zerosOf zc (k * sz)) e) :: H)) : JO c Q m (⟨some d, .makeSlice t x y, ty, g, .alloc, ns⟩ :: r) F H :=
  r_alloc (mk := fun b => .slice (some ⟨b, 0, none⟩) n k) hd hg hl (fun a fr => by
    obtain ⟨i, z, hi, rfl, rfl, hz, rfl⟩ := TE.info (P := c.P) (e := e) (sz := sz) (bytes := bytes) (zc := zc)
    have h1 : a.eval x = .int .i64 (Int.ofNat n) := fr.ev hx
    have h2 : a.eval y = .int .i64 (Int.ofNat k) := fr.ev hy
    simp only [allocOf, TSl.und (P := c.P) (t := t), h1, h2, hi, hz, Option.map_some]
    rw [if_pos ⟨hnk, hn, hn'⟩]
    by_cases h0 : k * i.size = 0
    · simp [h0, zerosOf]
    · simp [h0, zerosOf]) h
theorem r_shr24 {k : IntKind} (hd : dstOk c.n (some d) = true) (hg : guardF F g = some true) (hx : ev F x = some (uv i)) (hy : ev F y = some (.int k 24)) (h : JO c Q m r ((d, uv (i / 16777216)) :: F) H) : JO c Q m (⟨some d, .binOp .shr t x y t', ty, g, .mov, ns⟩ :: r) F H := r_shrU (j := 24) hd hg hx hy (by omega) h
theorem r_shr16 {k : IntKind} (hd : dstOk c.n (some d) = true) (hg : guardF F g = some true) (hx : ev F x = some (uv i)) (hy : ev F y = some (.int k 16)) (h : JO c Q m r ((d, uv (i / 65536)) :: F) H) : JO c Q m (⟨some d, .binOp .shr t x y t', ty, g, .mov, ns⟩ :: r) F H := r_shrU (j := 16) hd hg hx hy (by omega) h
theorem r_shr8 {k : IntKind} (hd : dstOk c.n (some d) = true) (hg : guardF F g = some true) (hx : ev F x = some (uv i)) (hy : ev F y = some (.int k 8)) (h : JO c Q m r ((d, uv (i / 256)) :: F) H) : JO c Q m (⟨some d, .binOp .shr t x y t', ty, g, .mov, ns⟩ :: r) F H := r_shrU (j := 8) hd hg hx hy (by omega) h
theorem r_toU8 {k : IntKind} [TI c.P t k] [TI c.P t' .u8] (hd : dstOk c.n (some d) = true) (hg : guardF F g = some true) (hx : ev F x = some (.int k i)) (h : JO c Q m r ((d, yv (i % 256)) :: F) H) : JO c Q m (⟨some d, .convert t t' x, ty, g, .mov, ns⟩ :: r) F H :=
  r_convK (k' := .u8) ((i % 256 : Nat) : Int) hd hg hx (by rw [IntKind.wrap_u8]; omega) h
end

/-- The bytes of words, as they come. -/
def wbs (l : List (Nat × Nat)) : List Nat := l.flatMap fun x => [x.2 / 16777216 % 256, x.2 / 65536 % 256, x.2 / 256 % 256, x.2 % 256]
theorem wbs_snoc (l : List (Nat × Nat)) (x : Nat × Nat) : wbs (l ++ [x]) = wbs l ++ [x.2 / 16777216 % 256, x.2 / 65536 % 256, x.2 / 256 % 256, x.2 % 256] := by simp [wbs]
theorem wbs_len (l : List (Nat × Nat)) : (wbs l).length = 4 * l.length := by
  induction l with
  | nil => rfl
  | cons x l ih => simp only [wbs, List.flatMap_cons, List.length_append, List.length_cons, List.length_nil] at ih ⊢; omega
theorem wbs_lt (l : List (Nat × Nat)) : ∀ u ∈ wbs l, u < 256 := by
  intro u hu
  obtain ⟨x, _, hx⟩ := List.mem_flatMap.1 hu
  simp only [List.mem_cons, List.mem_nil_iff, or_false] at hx
  omega
theorem bval_wbs {xs : List Nat} (hx : ∀ x ∈ xs, x < 4294967296) : ∀ k, k ≤ xs.length → bval (wbs (bk xs k)) = val 4294967296 (xs.drop (xs.length - k))
  | 0, _ => by rw [Nat.sub_zero, val_drop_nil (Nat.le_refl _)]; rfl
  | k + 1, h => by
    have ih := bval_wbs hx k (by omega)
    rw [bk_succ, wbs_snoc]
    dsimp only
    have e : wbs (bk xs k) ++ [xs[xs.length - 1 - k]?.getD 0 / 16777216 % 256, xs[xs.length - 1 - k]?.getD 0 / 65536 % 256, xs[xs.length - 1 - k]?.getD 0 / 256 % 256, xs[xs.length - 1 - k]?.getD 0 % 256] = (((wbs (bk xs k) ++ [xs[xs.length - 1 - k]?.getD 0 / 16777216 % 256]) ++ [xs[xs.length - 1 - k]?.getD 0 / 65536 % 256]) ++ [xs[xs.length - 1 - k]?.getD 0 / 256 % 256]) ++ [xs[xs.length - 1 - k]?.getD 0 % 256] := by simp
    rw [e, bval_snoc, bval_snoc, bval_snoc, bval_snoc, ih, show xs.length - (k + 1) = xs.length - 1 - k by omega, val_drop (k := xs.length - 1 - k) (by omega), show xs.length - 1 - k + 1 = xs.length - k by omega]
    have hlt : xs.getD (xs.length - 1 - k) 0 < 4294967296 := hx _ (mem_getD (by omega))
    have e2 : xs[xs.length - 1 - k]?.getD 0 = xs.getD (xs.length - 1 - k) 0 := rfl
    rw [e2]
    omega

set_option maxHeartbeats 2000000 in
theorem c_Back (w : World) (v : Value) (A : Option Addr) (n cap : Nat) (hv : v = .slice A n cap) :
    Calls Tryd.prog 62 #[v] w (Ret fun u w' => Kp [] w w' ∧ ∃ b, u = .func (.func 70) #[] #[.pointer (some ⟨b, 0, none⟩)] ∧ New [(b, .cells #[v] 57)] w w') := by
  subst hv
  refine calls_of_S [] [] (by simp) [] Tryd.func62 rfl mixed (by kernel_rfl) Tryd.ntmps62 Tryd.results62 rfl ⟨by simp, by simp⟩ (by simp) ?_
  simp only [toS, textOps, toSOp, kindAt, kindOf, odAt, sopsAt, ordOf, zipF]
  (repeat' (first | refine JC.seq ?_ | refine JC.ops ?_ | refine JO.nil ?_ | refine JX.thenN ?_ | (apply r_assign; exact rfl; exact rfl; exact rfl) | (apply r_box; exact rfl; exact rfl; exact rfl; exact rfl; exact rfl; intro _) | (apply r_makeFunc; exact rfl; exact rfl; exact rfl; exact rfl) | refine JC.ret ?_))
  rename_i b
  exact JX.ret1 rfl (fun a w' st => ⟨st.kp, b, rfl, st.newOf rfl (by (repeat' first | exact HSub.nil _ | exact HSub.hd | exact HSub.in0 | exact HSub.refl _ | refine HSub.skip ?_ | refine HSub.skipN ?_))⟩)

end Go.Proofs.YtdehklhdjbkneaaDoor

/- The canonical number of words: (nat).wide. -/
namespace Go.Proofs.YtdehklhdjbkneaaDoor
open Go Go.RowKit
set_option linter.unusedSimpArgs false
set_option linter.unusedVariables false
set_option linter.unusedSectionVars false

/-- Between two rounds: the box b5 holds a slice that owns the bytes of what has come. -/
structure WAt (w0 : World) (b4 b5 bx : Nat) (sx : Value) (pre : List (Nat × Nat)) (W : World) : Prop where
  ex : ∃ v N, OwnY N v (4 * pre.length) (wbs pre) ∧ Hsat ((b5, .cells #[v] 22 (0, 0)) :: (b4, .cells #[.bool false, .string ⟨#[]⟩] 27 (0, 0)) :: (bx, .cells #[sx] 57 (0, 0)) :: N) W ∧ ∀ p ∈ N, w0.heap.size ≤ p.1
  kp : Kp [] w0 W

theorem OwnY.cells {N : SHeap} {v : Value} {n : Nat} {xs : List Nat} (h : OwnY N v n xs) : ∀ p ∈ N, p.2.isCells = true := by
  obtain ⟨_, ⟨_, _, rfl⟩ | ⟨b, cap, cur, _, rfl, _⟩⟩ := h
  · intro p hp; cases hp
  · intro p hp; cases List.mem_singleton.1 hp; rfl

theorem WAt.own {w0 : World} {b4 b5 bx B : Nat} {sx : Value} (hB : w0.heap.size ≤ B) : OwnFrom B (WAt w0 b4 b5 bx sx) := by
  rintro pre W W' row ⟨⟨v, N, hO, hs, hN⟩, hk⟩ hg hr
  have key : ∀ (k : Nat) (o : Obj), W.heap[k]? = some o → o.isCells = true → W'.heap[k]? = some o := fun k o h hc => by
    refine (hg.block k (Array.getElem?_eq_some_iff.1 h).1 (fun e => ?_)).trans h
    obtain ⟨_, o', h1, h2⟩ := hr k e.symm
    rw [h] at h1
    cases h1
    rw [hc] at h2; cases h2
  refine ⟨⟨v, N, hO, ⟨hs.nd, fun p hp => key _ _ (hs.blk p hp) ?_⟩, hN⟩, ⟨hg.os.trans hk.os, hg.tape.trans hk.tape, hg.output.trans hk.output, Nat.le_trans hk.size hg.size, fun k hk' hm => (hg.block k (Nat.lt_of_lt_of_le hk' hk.size) (fun e => ?_)).trans (hk.block k hk' hm)⟩⟩
  · rcases List.mem_cons.1 hp with rfl | hp
    · rfl
    · rcases List.mem_cons.1 hp with rfl | hp
      · rfl
      · rcases List.mem_cons.1 hp with rfl | hp
        · rfl
        · exact hO.cells p hp
  · have := (hr k e.symm).1
    omega

/-- A step of a round that keeps all that lay. -/
theorem WAt.same {w0 W W' : World} {b4 b5 bx : Nat} {sx : Value} {pre : List (Nat × Nat)} (h : WAt w0 b4 b5 bx sx pre W) (hk : Kp [] W W') : WAt w0 b4 b5 bx sx pre W' := by
  obtain ⟨⟨v, N, hO, hs, hN⟩, hk0⟩ := h
  exact ⟨⟨v, N, hO, hs.kp hk (by simp), hN⟩, hk0.trans hk⟩
theorem Kp.keeps {W W' : World} (hk : Kp [] W W') (B : Nat) : KeepsFrom B W W' := ⟨hk.size, fun k o _ h _ => (hk.block k (Array.getElem?_eq_some_iff.1 h).1 (by simp)).trans h⟩

/-- The activation behind the assignment of a round. -/
def WAx (b5 : Nat) (x : Nat × Nat) (a : Act) (_ : World) : Prop := FrOK 43 [(7, uv x.2), (5, .pointer (some ⟨b5, 0, none⟩))] a

theorem FrOK.set {n : Nat} {F : SFrame} {a : Act} (h : FrOK n F a) {d : Nat} (v : Value) (hd : d < n) : FrOK n ((d, v) :: F) { a with tmps := a.tmps.setIfInBounds d v } := by
  have := h.put (d := some d) v (by simpa [dstOk] using hd)
  exact this

theorem FrOK.sub {n : Nat} {F F' : SFrame} {a : Act} (h : FrOK n F a) (hc : cov F F') : FrOK n F' a := ⟨h.defers, h.size, fun i v hl => h.fr i v (cov_look hc i v hl)⟩

theorem Hsat.find {H : SHeap} {w : World} (h : Hsat H w) {p : Nat × Obj} (hp : p ∈ H) : w.heap[p.1]? = some p.2 := h.blk p hp

theorem Hsat.ltp {H : SHeap} {w : World} (h : Hsat H w) {p : Nat × Obj} (hp : p ∈ H) : p.1 < w.heap.size := (Array.getElem?_eq_some_iff.1 (h.blk p hp)).1

theorem WAt.kb {w0 W W' : World} {b4 b5 bx : Nat} {sx : Value} {pre : List (Nat × Nat)} {S M : List Nat} (h : WAt w0 b4 b5 bx sx pre W) (hS : ∀ q ∈ S, q = bx ∨ q < w0.heap.size) (hM : ∀ q ∈ S, q ∉ M) (hk : Kp M W W') : KB S W W' := fun q hq => by
  refine hk.block q ?_ (hM q hq)
  rcases hS q hq with rfl | h1
  · obtain ⟨⟨v, N, hO, hs, hN⟩, _⟩ := h
    exact hs.ltp (p := (q, _)) (List.mem_cons_of_mem _ (List.mem_cons_of_mem _ (List.mem_cons_self ..)))
  · exact Nat.lt_of_lt_of_le h1 h.kp.size

/-- What a round's body leaves. -/
theorem WAt.turned {w0 W W' : World} {b4 b5 bx bl : Nat} {sx v v' : Value} {ol : Obj} {pre : List (Nat × Nat)} {x : Nat × Nat} {N N' : SHeap} {S : List Nat} (B : Nat) (hO : OwnY N v (4 * pre.length) (wbs pre)) (hs : Hsat ((b5, .cells #[v] 22 (0, 0)) :: (b4, .cells #[.bool false, .string ⟨#[]⟩] 27 (0, 0)) :: (bx, .cells #[sx] 57 (0, 0)) :: N) W) (hN : ∀ p ∈ N, w0.heap.size ≤ p.1) (hk0 : Kp [] w0 W)
    (h5 : w0.heap.size ≤ b5) (hS : ∀ q ∈ S, q = bx ∨ q < w0.heap.size) (hO' : OwnY N' v' (4 * pre.length + 4) (wbs (pre ++ [x]))) (hk : Kp (b5 :: N.map (·.1)) W W')
    (hs' : Hsat ((bl, ol) :: (b5, .cells #[v'] 22 (0, 0)) :: N') W') (hwr : ∀ p ∈ N', W.heap.size ≤ p.1 ∨ p.1 ∈ b5 :: N.map (·.1)) : KeepsFrom B W W' ∧ KB S W W' ∧ WAt w0 b4 b5 bx sx (pre ++ [x]) W' := by
  have hnd := hs.nd
  simp only [List.map_cons, List.nodup_cons, List.mem_cons, not_or] at hnd
  obtain ⟨⟨e54, e5x, e5N⟩, ⟨e4x, e4N⟩, exN, hNn⟩ := hnd
  have hnd' := hs'.nd
  simp only [List.map_cons, List.nodup_cons, List.mem_cons, not_or] at hnd'
  obtain ⟨_, e5N', hNn'⟩ := hnd'
  have hb5 := hs.blk (b5, _) (List.mem_cons_self ..)
  have hb4 := hs.blk (b4, _) (List.mem_cons_of_mem _ (List.mem_cons_self ..))
  have hbx := hs.blk (bx, _) (List.mem_cons_of_mem _ (List.mem_cons_of_mem _ (List.mem_cons_self ..)))
  have l4 := (Array.getElem?_eq_some_iff.1 hb4).1
  have lx := (Array.getElem?_eq_some_iff.1 hbx).1
  dsimp only at hb5 hb4 hbx l4 lx
  have n4 : b4 ∉ b5 :: N.map (·.1) := by simp only [List.mem_cons, not_or]; exact ⟨Ne.symm e54, e4N⟩
  have nx : bx ∉ b5 :: N.map (·.1) := by simp only [List.mem_cons, not_or]; exact ⟨Ne.symm e5x, exN⟩
  have hMge : ∀ q ∈ b5 :: N.map (·.1), w0.heap.size ≤ q := fun q hq => by
    rcases List.mem_cons.1 hq with rfl | hq
    · exact h5
    · obtain ⟨p, hp, rfl⟩ := List.mem_map.1 hq
      exact hN p hp
  have hfar : ∀ q, q < W.heap.size → q ∉ b5 :: N.map (·.1) → q ∉ N'.map (·.1) := fun q hq hn hm => by
    obtain ⟨p, hp, rfl⟩ := List.mem_map.1 hm
    rcases hwr p hp with h | h
    · omega
    · exact hn h
  have hSM : ∀ q ∈ S, q ∉ b5 :: N.map (·.1) := fun q hq hm => by
    rcases hS q hq with rfl | h1
    · exact nx hm
    · have := hMge q hm; omega
  refine ⟨⟨hk.size, fun q o _ h hc => (hk.block q (Array.getElem?_eq_some_iff.1 h).1 (fun hm => ?_)).trans h⟩, ?_, ⟨⟨v', N', ?_, ⟨?_, fun p hp => ?_⟩, fun p hp => ?_⟩, ⟨hk.os.trans hk0.os, hk.tape.trans hk0.tape, hk.output.trans hk0.output, Nat.le_trans hk0.size hk.size, fun q hq hm => (hk.block q (Nat.lt_of_lt_of_le hq hk0.size) (fun hm' => ?_)).trans (hk0.block q hq hm)⟩⟩⟩
  · rcases List.mem_cons.1 hm with rfl | hm
    · rw [hb5] at h; cases h; cases hc
    · obtain ⟨p, hp, rfl⟩ := List.mem_map.1 hm
      have h2 := hs.blk p (List.mem_cons_of_mem _ (List.mem_cons_of_mem _ (List.mem_cons_of_mem _ hp)))
      rw [h2] at h; cases h
      rw [hO.cells p hp] at hc; cases hc
  · exact WAt.kb ⟨⟨v, N, hO, hs, hN⟩, hk0⟩ hS hSM hk
  · rw [List.length_append, List.length_singleton, Nat.mul_add, Nat.mul_one]; exact hO'
  · simp only [List.map_cons, List.nodup_cons, List.mem_cons, not_or]
    exact ⟨⟨e54, e5x, e5N'⟩, ⟨e4x, hfar _ l4 n4⟩, hfar _ lx nx, hNn'⟩
  · rcases List.mem_cons.1 hp with rfl | hp
    · exact hs'.blk _ (List.mem_cons_of_mem _ (List.mem_cons_self ..))
    · rcases List.mem_cons.1 hp with rfl | hp
      · exact (hk.block _ l4 n4).trans hb4
      · rcases List.mem_cons.1 hp with rfl | hp
        · exact (hk.block _ lx nx).trans hbx
        · exact hs'.blk _ (List.mem_cons_of_mem _ (List.mem_cons_of_mem _ hp))
  · rcases hwr p hp with h | h
    · have := hk0.size; omega
    · exact hMge _ h
  · have := hMge q hm'; omega

set_option maxHeartbeats 16000000 in
theorem c_wide (w0 : World) (v : Value) (n : Nat) (xs : List Nat) (p : Bool) (hv : WU w0 v n xs) (hx : ∀ x ∈ xs, x < W32) (hn : n ≤ 100000) :
    Calls Tryd.prog 44 #[v, .bool p] w0 (Ret fun r w' => Kp [] w0 w' ∧ r = Wv (sgn p (val W32 xs))) := by
  obtain ⟨A, cap, rfl⟩ := hv.form
  refine calls_of_Z 3 [⟨6, 0, [], [(1, .seq)]⟩] Tryd.func44 rfl mixed (by kernel_rfl) Tryd.ntmps44 (by simp) ?_
  simp only [toZ, hasRF, Bool.or_false, Bool.false_or, Bool.or_self, Bool.true_or, cond_true, cond_false, toS, textOps, toSOp, kindAt, kindOf, odAt, sopsAt, ordOf, zipF]

  (repeat' (first | refine JC.seq ?_ | refine JC.ops ?_ | refine JO.nil ?_ | refine JX.thenN ?_ | (apply r_move; exact rfl; exact rfl; exact rfl) | (apply r_allocZ; exact rfl; exact rfl; exact rfl; intro _)))
  rename_i b4
  refine r_call0 trivial rfl rfl rfl (fun w hk hs => c_norm w _ _ _ _ (hv.mono hk) (by omega)) fun w v w' _ _ _ hR => ?_
  obtain ⟨k, hk, rfl, hnk⟩ := hR
  have hvk := hv.hd hk
  rw [← hnk] at hvk
  have hlk : (nrm xs).length = k := hvk.len
  (repeat' (first | refine JC.seq ?_ | refine JC.ops ?_ | refine JO.nil ?_ | refine JX.thenN ?_ | (apply r_move; exact rfl; exact rfl; exact rfl) | (apply r_assign; exact rfl; exact rfl; exact rfl) | (apply r_len; exact rfl; exact rfl; exact rfl) | (apply r_mulN (i := 4); exact rfl; exact rfl; exact rfl; exact rfl; (first | assumption | omega))))
  refine r_makeC (n := 0) (k := 4 * k) rfl rfl rfl rfl rfl (by omega) (by omega) (by omega) (fun bb => ?_)
  (repeat' (first | refine JC.seq ?_ | refine JC.ops ?_ | refine JO.nil ?_ | refine JX.thenN ?_ | (apply r_move; exact rfl; exact rfl; exact rfl) | (apply r_allocZ; exact rfl; exact rfl; exact rfl; intro _) | (apply r_store; exact rfl; (first | exact trivial | exact ⟨rfl, rfl⟩); exact rfl; exact rfl; (first | exact at0 | exact at1 | exact at2 | exact at3 | exact at4 | exact at5 | exact at6 | exact at7 | exact at8 | exact at9); exact rfl; exact rfl; (first | exact Nat.le_of_ble_eq_true rfl | (simp; done) | omega))))
  rename_i b5
  refine r_callA (A := []) rfl trivial rfl rfl rfl (fun w hk hs => c_Back w _ A k cap rfl) fun w v w' _ _ _ hR => ?_
  obtain ⟨bx, rfl, hNx⟩ := hR
  refine ⟨_, hNx, ?_⟩
  (repeat' (first | refine JO.nil ?_ | refine JX.thenN ?_ | refine JC.block ?_))
  refine JC.part (F' := [(16, .func (.func 70) #[] #[.pointer (some ⟨bx, 0, none⟩)]), (5, .pointer (some ⟨b5, 0, none⟩)), (4, .pointer (some ⟨b4, 0, none⟩)), (1, .bool p)]) (H' := [(b5, .cells #[.slice (some ⟨bb, 0, none⟩) 0 (4 * k)] 22 (0, 0)), (b4, .cells #[.bool false, .string ⟨#[]⟩] 27 (0, 0)), (bx, .cells #[.slice A k cap] 57 (0, 0)), (bb, .cells (zerosOf #[Value.int IntKind.u8 0] (4 * k * 1)) 5 (0, 0))]) (by repeat first | exact trivial | refine ⟨rfl, ?_⟩) (by exact HSub.at 1 rfl (HSub.at 2 rfl (HSub.at 0 rfl (HSub.at 0 rfl (HSub.nil _))))) ?_
  refine JC.raw (fun a W st => ?_)
  obtain ⟨tm, df⟩ := a
  obtain rfl : df = [] := st.fr.defers
  have hge : ∀ q ∈ [b5, b4, bx, bb], w0.heap.size ≤ q := fun q hq => by
    have : ∃ o, (q, o) ∈ [(b5, Obj.cells #[.slice (some ⟨bb, 0, none⟩) 0 (4 * k)] 22 (0, 0)), (b4, .cells #[.bool false, .string ⟨#[]⟩] 27 (0, 0)), (bx, .cells #[.slice A k cap] 57 (0, 0)), (bb, .cells (zerosOf #[Value.int IntKind.u8 0] (4 * k * 1)) 5 (0, 0))] := by
      simp only [List.mem_cons, List.mem_nil_iff, or_false] at hq
      rcases hq with rfl | rfl | rfl | rfl
      · exact ⟨_, List.mem_cons_self ..⟩
      · exact ⟨_, List.mem_cons_of_mem _ (List.mem_cons_self ..)⟩
      · exact ⟨_, List.mem_cons_of_mem _ (List.mem_cons_of_mem _ (List.mem_cons_self ..))⟩
      · exact ⟨_, List.mem_cons_of_mem _ (List.mem_cons_of_mem _ (List.mem_cons_of_mem _ (List.mem_cons_self ..)))⟩
    obtain ⟨o, ho⟩ := this
    rcases st.wr _ ho with h | h
    · exact h
    · cases h
  have h5 : w0.heap.size ≤ b5 := hge b5 (by simp)
  have hWs : w0.heap.size ≤ W.heap.size := st.kp.size
  have hI0 : WAt w0 b4 b5 bx (.slice A k cap) [] W := by
    refine ⟨⟨_, [(bb, .cells (zerosOf #[Value.int IntKind.u8 0] (4 * k * 1)) 5 (0, 0))], ⟨rfl, .inr ⟨bb, 4 * k, _, rfl, rfl, Nat.zero_le _, by simp only [maxLen]; omega, by rw [zeros1]; simp, rfl⟩⟩, st.hs, fun p hp => ?_⟩, st.kp⟩
    cases List.mem_singleton.1 hp
    exact hge bb (by simp)
  obtain ⟨S, hSx, hS, hWd⟩ : ∃ S : List Nat, bx ∈ S ∧ (∀ q ∈ S, q = bx ∨ q < w0.heap.size) ∧ Wds S W (.slice A k cap) (nrm xs) := by
    rcases Nat.eq_zero_or_pos k with h0 | h0
    · refine ⟨[bx], by simp, fun q hq => .inl (by simpa using hq), .inl ⟨List.eq_nil_of_length_eq_zero (by omega), A, cap, by rw [h0]⟩⟩
    · obtain ⟨_, A', cap', h1, _, h2⟩ := hvk
      simp only [Value.slice.injEq] at h1
      obtain ⟨rfl, _, rfl⟩ := h1
      obtain ⟨⟨ab, ao, rfl⟩, h3⟩ := h2 h0
      have hcell : ∀ j, j < k → w0.cell? ⟨ab, ao + j, none⟩ = some (uv ((nrm xs).getD j 0)) := fun j hj => h3 j _ (by rw [List.getElem?_map, gD_lt (d := 0) (by omega)]; rfl)
      have hab : ab < w0.heap.size := lt_of_cell (hcell 0 h0)
      refine ⟨[bx, ab], by simp, fun q hq => ?_, .inr ⟨ab, ao, cap, by rw [hlk], by simp, Nat.lt_of_lt_of_le hab st.kp.size, fun j hj => ?_⟩⟩
      · simp only [List.mem_cons, List.mem_nil_iff, or_false] at hq
        rcases hq with rfl | rfl
        · exact .inl rfl
        · exact .inr hab
      · have := hcell j (by omega)
        rw [World.cell?_of_block (w := w0) (st.kp.block ab hab (by simp))]
        exact this
  have hbxW : bx < W.heap.size := st.hs.ltp (p := (bx, _)) (List.mem_cons_of_mem _ (List.mem_cons_of_mem _ (List.mem_cons_self ..)))
  have hcx : W.cell? ⟨bx, 0, none⟩ = some (.slice A k cap) := cell_of_blk (st.hs.blk (bx, _) (List.mem_cons_of_mem _ (List.mem_cons_of_mem _ (List.mem_cons_self ..)))) rfl
  refine wpIn_wide.1 (wpIn_rangeFunc_ownH (F := Fence.wide) (n := 3) rfl (by omega) (gf := 70) (lb := #[.pointer (some ⟨bx, 0, none⟩)]) (st.fr.ev rfl) trivial (enters_of Tryd.func70 (by kernel_rfl) rfl)
    (back_stops Fence.wide 2 trivial rfl (by omega) bx S (.slice A k cap) (nrm xs) (by omega) W hbxW hSx hcx hWd) KB.trans (fun W' l o o' hl ho _ _ q hq => ?_) (Below.refl _ _) (fun _ => rfl)
    (WAt w0 b4 b5 bx (.slice A k cap)) (fun _ _ _ => False) (WAt.own st.kp.size) (fun _ _ _ _ _ hs _ _ => hs) hI0 (WAx b5) (fun _ _ _ _ _ _ hs _ _ => hs) ?assign ?body ?done ?stop)
  · refine World.putObj_heap_other (fun e => ?_)
    subst e
    rcases hS q hq with rfl | h
    · omega
    · omega
  case assign =>
    intro l pre x W1 K hI hK
    have stx : St ⟨Tryd.prog, 43, W1, [], by simp⟩ [(18, uv x.2), (5, .pointer (some ⟨b5, 0, none⟩))] [] { tmps := (tm.setIfInBounds 17 (Value.int .i64 (x.1 : Int))).setIfInBounds 18 (uv x.2), defers := [] } W1 :=
      ⟨((st.fr.set (d := 17) (Value.int .i64 (x.1 : Int)) (show 17 < 43 by decide)).set (d := 18) (uv x.2) (show 18 < 43 by decide)).sub (by repeat first | exact trivial | refine ⟨rfl, ?_⟩), Kp.refl _ _, ⟨by simp, by simp⟩, fun p hp => by cases hp⟩
    have e : (Array.zip (#[17, 18] : Array Tmp) #[Value.int .i64 (x.1 : Int), Value.int .u64 (x.2 : Int)]).foldl (fun t (p, v) => t.setIfInBounds p v) tm = (tm.setIfInBounds 17 (Value.int .i64 (x.1 : Int))).setIfInBounds 18 (uv x.2) := by simp
    rw [e]
    refine wpIn_mono (wpIn_region_JO (c := ⟨Tryd.prog, 43, W1, [], by simp⟩) (ov := []) (F := [(18, uv x.2), (5, .pointer (some ⟨b5, 0, none⟩))]) (H := []) (K := K) rfl ?_ _ _ stx) (fun e a w hq => by cases e <;> first | exact hq | exact hq.elim)
    simp only [textOps, toSOp, kindAt, kindOf]
    (repeat' (first | refine JO.nil ?_ | (apply r_assign; exact rfl; exact rfl; exact rfl)))
    exact ⟨fun a' W' st' => hK a' W' (st'.kp.keeps _) (hI.kb hS (by simp) st'.kp) (hI.same st'.kp) (st'.fr.sub (by repeat first | exact trivial | refine ⟨rfl, ?_⟩))⟩
  case body =>
    intro l pre x a' W1 hl hr hI hA hlen
    have hI' := hI
    obtain ⟨⟨v, N, hO, hs, hN⟩, hk0⟩ := hI
    have hMlt : ∀ q ∈ b5 :: N.map (·.1), q < W1.heap.size := fun q hq => by
      rcases List.mem_cons.1 hq with rfl | hq
      · exact hs.ltp (p := (q, _)) (List.mem_cons_self ..)
      · obtain ⟨p, hp, rfl⟩ := List.mem_map.1 hq
        exact hs.ltp (List.mem_cons_of_mem _ (List.mem_cons_of_mem _ (List.mem_cons_of_mem _ hp)))
    have hs1 : Hsat ((b5, .cells #[v] 22 (0, 0)) :: (N ++ [])) W1 := by
      rw [List.append_nil]
      exact hs.sub (fun q hq => by
        rcases List.mem_cons.1 hq with rfl | hq
        · exact List.mem_cons_self ..
        · exact List.mem_cons_of_mem _ (List.mem_cons_of_mem _ (List.mem_cons_of_mem _ hq))) (by
        have := hs.nd
        simp only [List.map_cons, List.nodup_cons, List.mem_cons, not_or] at this ⊢
        exact ⟨this.1.2.2, this.2.2.2⟩)
    have st1 : St ⟨Tryd.prog, 43, W1, b5 :: N.map (·.1), hMlt⟩ [(7, uv x.2), (5, .pointer (some ⟨b5, 0, none⟩))] ((b5, .cells #[v] 22 (0, 0)) :: (N ++ [])) a' W1 :=
      ⟨hA, Kp.refl _ _, hs1, fun q hq => .inr (by
        rw [List.append_nil] at hq
        rcases List.mem_cons.1 hq with rfl | hq
        · exact List.mem_cons_self ..
        · exact List.mem_cons_of_mem _ (List.mem_map.2 ⟨q, hq, rfl⟩))⟩
    refine wpIn_block (wpIn_mono (wpIn_region_JO (c := ⟨Tryd.prog, 43, W1, b5 :: N.map (·.1), hMlt⟩) (ov := []) (F := [(7, uv x.2), (5, .pointer (some ⟨b5, 0, none⟩))]) (H := (b5, .cells #[v] 22 (0, 0)) :: (N ++ [])) (K := fun _ W' => KeepsFrom W.heap.size W1 W' ∧ KB S W1 W' ∧ WAt w0 b4 b5 bx (.slice A k cap) (pre ++ [x]) W') rfl ?_ _ _ st1) (fun e a w hq => by cases e <;> first | exact hq | exact hq.elim))
    simp only [textOps, toSOp, kindAt, kindOf]
    (repeat' (first | (apply r_move; exact rfl; exact rfl; exact rfl) | (apply r_load; exact rfl; exact rfl; exact rfl; exact rfl; (first | exact at0 | exact at1 | exact at2 | exact at3 | exact at4 | exact at5 | exact at6 | exact at7 | exact at8 | exact at9); exact rfl) | (apply r_toU8; exact rfl; exact rfl; exact rfl) | (apply r_shr24; exact rfl; exact rfl; exact rfl; exact rfl) | (apply r_shr16; exact rfl; exact rfl; exact rfl; exact rfl) | (apply r_shr8; exact rfl; exact rfl; exact rfl; exact rfl) | (apply r_build1; exact rfl; exact rfl; exact rfl; exact rfl; exact rfl; (repeat first | exact trivial | refine ⟨rfl, ?_⟩); decide; decide; intro _)))
    rename_i bl
    have hOl : OwnY [(bl, .cells ⟨[yv (x.2 / 16777216 % 256), yv (x.2 / 65536 % 256), yv (x.2 / 256 % 256), yv (x.2 % 256)]⟩ 5)] (.slice (some ⟨bl, 0, none⟩) 4 4) 4 [x.2 / 16777216 % 256, x.2 / 65536 % 256, x.2 / 256 % 256, x.2 % 256] := own_litY bl 4 _ _ rfl rfl (by omega)
    refine r_appendY (A := [_, _]) hO hOl.rd (by (repeat' first | exact HSub.nil _ | exact HSub.hd | exact HSub.in0 | exact HSub.refl _ | refine HSub.skip ?_ | refine HSub.skipN ?_)) rfl trivial rfl rfl rfl rfl (by omega) (fun v' N' hO' => ?_)
    obtain ⟨A3, c3, rfl⟩ := hO'.form
    (repeat' (first | refine JO.nil ?_ | (apply r_store; exact rfl; (first | exact trivial | exact ⟨rfl, rfl⟩); exact rfl; exact rfl; (first | exact at0 | exact at1 | exact at2 | exact at3 | exact at4 | exact at5 | exact at6 | exact at7 | exact at8 | exact at9); exact rfl; exact rfl; (first | exact Nat.le_of_ble_eq_true rfl | (simp; done) | omega))))
    refine ⟨fun a2 W2 st2 => WAt.turned (bl := bl) (ol := .cells ⟨[yv (x.2 / 16777216 % 256), yv (x.2 / 65536 % 256), yv (x.2 / 256 % 256), yv (x.2 % 256)]⟩ 5) _ hO hs hN hk0 h5 hS (by rw [wbs_snoc]; exact hO') st2.kp ?_ (fun q hq => ?_)⟩
    · have h := st2.hs
      exact ⟨by have := h.nd; simpa using this, fun q hq => h.blk q (by simpa using hq)⟩
    · exact st2.wr q (by simp [hq])
  case done =>
    intro D ys W1 hD hys hI hDd
    obtain ⟨⟨v, N, hO, hs, hN⟩, hk0⟩ := hI
    subst hys
    rw [bk_len] at hO
    have hB := bval_wbs (xs := nrm xs) (fun x hx' => hx x (nrm_mem x hx')) (nrm xs).length (Nat.le_refl _)
    rw [Nat.sub_self, List.drop_zero, show val 4294967296 (nrm xs) = val W32 xs from val_nrm W32 xs] at hB
    have hDc : ∀ q ∈ (b5, Obj.cells #[v] 22 (0, 0)) :: (b4, .cells #[.bool false, .string ⟨#[]⟩] 27 (0, 0)) :: (bx, .cells #[.slice A k cap] 57 (0, 0)) :: N, D ≠ q.1 := fun q hq e => by
      have h1 := hs.blk q hq
      rw [← e, hDd] at h1
      have hc : q.2.isCells = true := by
        rcases List.mem_cons.1 hq with rfl | hq
        · rfl
        · rcases List.mem_cons.1 hq with rfl | hq
          · rfl
          · rcases List.mem_cons.1 hq with rfl | hq
            · rfl
            · exact hO.cells q hq
      rw [← Option.some.inj h1] at hc
      cases hc
    have hnd := hs.nd
    simp only [List.map_cons, List.nodup_cons, List.mem_cons, not_or] at hnd
    have st1 : St ⟨Tryd.prog, 43, w0, [], by simp⟩ [(5, .pointer (some ⟨b5, 0, none⟩)), (4, .pointer (some ⟨b4, 0, none⟩)), (1, .bool p)] ((b5, .cells #[v] 22 (0, 0)) :: (b4, .cells #[.bool false, .string ⟨#[]⟩] 27 (0, 0)) :: (D, .deferred (some [])) :: (N ++ [])) { tmps := tm, defers := [] } W1 := by
      refine ⟨st.fr.sub (by repeat first | exact trivial | refine ⟨rfl, ?_⟩), hk0, ⟨?_, fun q hq => ?_⟩, fun q hq => .inl ?_⟩
      · simp only [List.append_nil, List.map_cons, List.nodup_cons, List.mem_cons, not_or]
        exact ⟨⟨hnd.1.1, (hDc _ (List.mem_cons_self ..)).symm, hnd.1.2.2⟩, ⟨(hDc _ (List.mem_cons_of_mem _ (List.mem_cons_self ..))).symm, hnd.2.1.2⟩, fun hm => by
          obtain ⟨q, hq, e⟩ := List.mem_map.1 hm
          exact hDc q (List.mem_cons_of_mem _ (List.mem_cons_of_mem _ (List.mem_cons_of_mem _ hq))) e.symm, hnd.2.2.2⟩
      · rw [List.append_nil] at hq
        rcases List.mem_cons.1 hq with rfl | hq
        · exact hs.blk _ (List.mem_cons_self ..)
        · rcases List.mem_cons.1 hq with rfl | hq
          · exact hs.blk _ (List.mem_cons_of_mem _ (List.mem_cons_self ..))
          · rcases List.mem_cons.1 hq with rfl | hq
            · exact hDd
            · exact hs.blk _ (List.mem_cons_of_mem _ (List.mem_cons_of_mem _ (List.mem_cons_of_mem _ hq)))
      · rw [List.append_nil] at hq
        rcases List.mem_cons.1 hq with rfl | hq
        · exact h5
        · rcases List.mem_cons.1 hq with rfl | hq
          · exact hge b4 (by simp)
          · rcases List.mem_cons.1 hq with rfl | hq
            · exact Nat.le_trans hWs hD
            · exact hN q hq
    refine wp_of_toS_ad (c := ⟨Tryd.prog, 43, w0, [], by simp⟩) [⟨6, 0, [], [(1, .seq)]⟩] [{ target := .collected D, args := #[] }] _ (fun e a w => bodyPostM Fence.wide 3 Tryd.prog Tryd.f44 (Ret fun r w' => Kp [] w0 w' ∧ r = Wv (sgn p (val W32 xs))) e (ad [{ target := .collected D, args := #[] }] a) w) _ rfl (fun e a w h => h) { tmps := tm, defers := [] } W1 (JC.h ?_ _ _ st1)
    simp only [toS, textOps, toSOp, kindAt, kindOf, odAt, sopsAt, ordOf]
    (repeat' (first | refine JC.seq ?_ | refine JC.ops ?_ | (apply r_load; exact rfl; exact rfl; exact rfl; exact rfl; (first | exact at0 | exact at1 | exact at2 | exact at3 | exact at4 | exact at5 | exact at6 | exact at7 | exact at8 | exact at9); exact rfl)))
    refine r_toStr (wbs_lt _) hO.rd (by (repeat' first | exact HSub.nil _ | exact HSub.hd | exact HSub.in0 | exact HSub.refl _ | refine HSub.skip ?_ | refine HSub.skipN ?_)) trivial rfl rfl rfl (fun l hl => ?_)
    have hll : l.length ≤ 1000000 := by rw [← bts_len, hl, wbs_len, bk_len]; omega
    refine r_call0 trivial rfl rfl rfl (fun w hk hs => c_TrimLeft w l hll) fun w v w' _ _ _ hR => ?_
    rw [magU_of, hl, hB] at hR
    subst hR
    have hfin : ∀ (vs : Array Value) (a2 : Act) (W2 : World), St ⟨Tryd.prog, 43, w0, [], by simp⟩ [(4, .pointer (some ⟨b4, 0, none⟩))] [(b4, .cells vs 27 (0, 0)), (D, .deferred (some []))] a2 W2 → vs.size = 2 → .agg vs = Wv (sgn p (val W32 xs)) → bodyPostM Fence.wide 3 Tryd.prog Tryd.f44 (Ret fun r w' => Kp [] w0 w' ∧ r = Wv (sgn p (val W32 xs))) .ret (ad [{ target := .collected D, args := #[] }] a2) W2 := by
      intro vs a2 W2 st2 hvs he
      have hK : W2.heap[D]? = some (.deferred (some [])) := st2.hs.blk (D, _) (by simp)
      have hd2 : a2.defers = [] := st2.fr.defers
      have h4D : b4 ≠ D := by have := st2.hs.nd; simpa using this
      have hk2 : Kp [] w0 (W2.putObj D (.deferred none)) := ⟨st2.kp.os, st2.kp.tape, st2.kp.output, by simpa using st2.kp.size, fun q hq hm => (World.putObj_heap_other (fun e => by subst e; omega)).trans (st2.kp.block q hq hm)⟩
      have st3 : St ⟨Tryd.prog, 43, w0, [], by simp⟩ [(4, .pointer (some ⟨b4, 0, none⟩))] [(b4, .cells vs 27 (0, 0))] a2 (W2.putObj D (.deferred none)) :=
        ⟨st2.fr, hk2, ⟨by simp, fun q hq => by cases List.mem_singleton.1 hq; exact (World.putObj_heap_other h4D).trans (st2.hs.blk (b4, _) (by simp))⟩, fun q hq => st2.wr q (by simp at hq; simp [hq])⟩
      show LeavesInM Fence.wide 3 _ _ _ _ (a2.defers ++ _) _ _
      rw [hd2]
      refine ⟨by simp, .inl ⟨D, _, rfl, run_takeDeferred hK, ?_⟩⟩
      have hr := run_resultsA (fn := Tryd.f44) (vs := [.agg vs]) st3 (JR.cellN 0 rfl rfl hvs JR.nil)
      exact ⟨_, hr, hk2, he⟩
    cases p with
    | false =>
      (repeat' (first | refine JC.seq ?_ | refine JC.ops ?_ | refine JO.nil ?_ | refine JX.thenN ?_ | (apply r_move; exact rfl; exact rfl; exact rfl) | (apply r_assign; exact rfl; exact rfl; exact rfl) | (apply r_pickF; exact rfl; exact rfl; exact rfl; exact rfl) | (apply r_storeN; exact rfl; (first | exact trivial | exact ⟨rfl, rfl⟩); exact rfl; exact rfl; (first | exact at0 | exact at1 | exact at2 | exact at3 | exact at4 | exact at5 | exact at6 | exact at7 | exact at8 | exact at9); exact rfl; exact rfl; exact rfl) | (apply r_buildL; exact rfl; exact rfl; exact rfl; exact rfl; exact rfl) | (apply r_storeN; exact rfl; (first | exact trivial | exact ⟨rfl, rfl⟩); exact rfl; exact rfl; (first | exact at0 | exact at1 | exact at2 | exact at3 | exact at4 | exact at5 | exact at6 | exact at7 | exact at8 | exact at9); exact rfl; exact rfl; exact rfl) | refine JC.ret ?_ | (apply r_skip; exact rfl; exact rfl; (first | (intro h; cases h; done) | (intro _; rfl)))))
      exact ⟨fun a2 W2 st2 => hfin #[.bool false, sv (magU (val W32 xs))] a2 W2 (st2.part (by repeat first | exact trivial | refine ⟨rfl, ?_⟩) (HSub.at 1 rfl (HSub.at 1 rfl (HSub.nil _)))) rfl (by rw [Wv_sgn]; rfl)⟩
    | true =>
      (repeat' (first | refine JC.seq ?_ | refine JC.ops ?_ | refine JO.nil ?_ | refine JX.thenN ?_ | (apply r_move; exact rfl; exact rfl; exact rfl) | (apply r_assign; exact rfl; exact rfl; exact rfl) | (apply r_pickT; exact rfl; exact rfl; exact rfl; exact rfl) | (apply r_storeN; exact rfl; (first | exact trivial | exact ⟨rfl, rfl⟩); exact rfl; exact rfl; (first | exact at0 | exact at1 | exact at2 | exact at3 | exact at4 | exact at5 | exact at6 | exact at7 | exact at8 | exact at9); exact rfl; exact rfl; exact rfl) | (apply r_neS; exact rfl; exact rfl; exact rfl; exact rfl) | (apply r_buildL; exact rfl; exact rfl; exact rfl; exact rfl; exact rfl) | (apply r_storeN; exact rfl; (first | exact trivial | exact ⟨rfl, rfl⟩); exact rfl; exact rfl; (first | exact at0 | exact at1 | exact at2 | exact at3 | exact at4 | exact at5 | exact at6 | exact at7 | exact at8 | exact at9); exact rfl; exact rfl; exact rfl) | refine JC.ret ?_))
      exact ⟨fun a2 W2 st2 => hfin #[.bool (decide (magU (val W32 xs) ≠ [])), sv (magU (val W32 xs))] a2 W2 (st2.part (by repeat first | exact trivial | refine ⟨rfl, ?_⟩) (HSub.at 1 rfl (HSub.at 1 rfl (HSub.nil _)))) rfl (by rw [Wv_sgn]; rfl)⟩
  case stop =>
    intro D c pre W1 _ _ h _
    exact h.elim

end Go.Proofs.YtdehklhdjbkneaaDoor

/- The absolute value as words. -/
namespace Go.Proofs.YtdehklhdjbkneaaDoor
open Go Go.RowKit
set_option linter.unusedSimpArgs false
set_option linter.unusedVariables false
set_option linter.unusedSectionVars false

section
variable {c : Cx} {Q : Exit → Act → World → Prop} {m : Mode} {F : SFrame} {H : SHeap} {r : List SOp} {g : Option (Option Tmp × Bool)} {ns : Bool} {d : Tmp} {ty t t' : TypeId} {x y : Operand} {i : Nat}
theorem r_toU64 {k : IntKind} [TI c.P t k] [TI c.P t' .u64] (hd : dstOk c.n (some d) = true) (hg : guardF F g = some true) (hx : ev F x = some (.int k i)) (hi : i < 18446744073709551616) (h : JO c Q m r ((d, uv i) :: F) H) : JO c Q m (⟨some d, .convert t t' x, ty, g, .mov, ns⟩ :: r) F H :=
  r_convK (k' := .u64) (i : Int) hd hg hx (u64_in hi) h
end

theorem pow8 (r : Nat) : 2 ^ (8 * r) = 256 ^ r := by rw [Nat.pow_mul]
theorem pow32 (j : Nat) : W32 ^ j = 256 ^ (4 * j) := by rw [Nat.pow_mul]
theorem abs_or {z b r : Nat} (hz : 256 ^ (r + 1) ∣ z) (hb : b < 256) : z ||| b * 256 ^ r = z + b * 256 ^ r := by
  obtain ⟨a, rfl⟩ := hz
  have h1 : b * 256 ^ r < 2 ^ (8 * (r + 1)) := by
    rw [pow8, Nat.pow_succ, Nat.mul_comm]
    exact Nat.mul_lt_mul_of_pos_left hb (Nat.pow_pos (by decide))
  have := Nat.two_pow_add_eq_or_of_lt h1 a
  rw [pow8] at this
  exact this.symm
theorem pow3_le {r : Nat} (hr : r < 4) : 256 ^ r ≤ 16777216 := by
  have := Nat.pow_le_pow_right (n := 256) (by decide) (show r ≤ 3 by omega)
  simpa using this

set_option maxHeartbeats 8000000 in
theorem c_abs (w : World) (p : Bool) (l : List UInt8) (hl : l.length ≤ 300000) :
    Calls Tryd.prog 42 #[wv p l] w (Ret fun v w' => Kp [] w w' ∧ ∃ N zs, New N w w' ∧ OwnU N v zs.length zs ∧ Dig W32 zs ∧ val W32 zs = bval (bts l)) := by
  have hbl := bts_len l
  refine calls_of_S [⟨6, 2, [], []⟩] [] (by simp) [] Tryd.func42 rfl mixed (by kernel_rfl) Tryd.ntmps42 Tryd.results42 rfl ⟨by simp, by simp⟩ (by simp) ?_
  simp only [toS, textOps, toSOp, kindAt, kindOf, odAt, sopsAt, ordOf, zipF]
  (repeat' (first | refine JC.seq ?_ | refine JC.ops ?_ | refine JO.nil ?_ | refine JX.thenN ?_ | (apply r_fieldAddr; exact rfl; exact rfl; exact rfl) | (apply r_assign; exact rfl; exact rfl; exact rfl) | (apply r_load; exact rfl; exact rfl; exact rfl; exact rfl; (first | exact at0 | exact at1 | exact at2 | exact at3 | exact at4 | exact at5 | exact at6 | exact at7 | exact at8 | exact at9); exact rfl) | (apply r_addN (j := 4); exact rfl; exact rfl; exact rfl; exact rfl; omega) | (apply r_divN (j := 4); exact rfl; exact rfl; exact rfl; exact rfl; omega) | (apply r_sub1; exact rfl; exact rfl; exact rfl; exact rfl; omega) | (apply r_lenS; exact rfl; exact rfl; exact rfl) | (apply r_boxA; exact rfl; exact rfl; exact rfl; exact rfl; intro _)))
  rename_i b1
  refine r_make (n := (l.length + 4 - 1) / 4) rfl rfl rfl rfl rfl (by omega) (by omega) (fun b5 => ?_)
  have hO := own_zerosU b5 ((l.length + 4 - 1) / 4) (by simp only [maxLen]; omega)
  generalize hnw : (l.length + 4 - 1) / 4 = nw at hO ⊢
  (repeat' (first | refine JC.seq ?_ | refine JC.ops ?_ | refine JO.nil ?_ | refine JX.thenN ?_ | (apply r_move; exact rfl; exact rfl; exact rfl) | (apply r_fieldAddr; exact rfl; exact rfl; exact rfl) | (apply r_assign; exact rfl; exact rfl; exact rfl) | (apply r_load; exact rfl; exact rfl; exact rfl; exact rfl; (first | exact at0 | exact at1 | exact at2 | exact at3 | exact at4 | exact at5 | exact at6 | exact at7 | exact at8 | exact at9); exact rfl) | (apply r_lenS; exact rfl; exact rfl; exact rfl) | refine JC.block ?_))
  refine JC.loopH (ι := Nat × SHeap × List Nat) ⟨fun z => [(16, nv z.1), (15, nv l.length), (3, .slice (some ⟨b5, 0, none⟩) nw nw), (1, .pointer (some ⟨b1, 0, none⟩))], fun z => (b1, .cells #[.bool p, sv l] 27) :: (z.2.1 ++ []),
    fun z => z.1 ≤ l.length ∧ OwnU z.2.1 (.slice (some ⟨b5, 0, none⟩) nw nw) nw z.2.2 ∧ (∀ x ∈ z.2.2, x < W32) ∧ (∀ j, 256 ^ min 4 (l.length - z.1 - 4 * j) ∣ z.2.2.getD j 0) ∧ val W32 z.2.2 = 256 ^ (l.length - z.1) * bval ((bts l).take z.1), fun z => l.length - z.1⟩
    (0, _, _) ⟨Nat.zero_le _, hO, fun x hx => by obtain ⟨a, _, rfl⟩ := List.mem_map.1 hx; decide, fun j => by
      show _ ∣ (tab nw fun _ => 0).getD j 0
      rw [tab_zero]; exact Nat.dvd_zero _, by
      show val W32 (tab nw fun _ => 0) = _
      rw [val_zeros, List.take_zero, bval_nil, Nat.mul_zero]⟩ (by repeat first | exact trivial | refine ⟨rfl, ?_⟩) (by exact HSub.at 1 rfl (HSub.at 0 rfl (HSub.nil _))) (fun z hz => ?_)
  clear hO
  obtain ⟨i, N, zs⟩ := z
  obtain ⟨hi, hO, hz, hdv, hval⟩ := hz
  dsimp only at hi hO hz hdv hval ⊢
  have hlz := hO.len
  by_cases hin : i < l.length
  · have hb256 : (bts l).getD i 0 < 256 := bts_lt
    have hbb : (bts l).getD i 0 < 18446744073709551616 := by omega
    obtain ⟨k, hk⟩ : ∃ k, k = l.length - 1 - i := ⟨_, rfl⟩
    have hki : l.length - i = k + 1 := by omega
    have hzk : zs.getD (k / 4) 0 < 4294967296 := mem_getD_lt (b := W32) (by decide) hz _
    have hr4 : k % 4 < 4 := Nat.mod_lt _ (by decide)
    have hp3 := pow3_le hr4
    have hsh : (bts l).getD i 0 * 256 ^ (k % 4) < 4294967296 := by
      have := Nat.mul_le_mul (show (bts l).getD i 0 ≤ 255 by omega) hp3
      omega
    have hdk : 256 ^ (k % 4 + 1) ∣ zs.getD (k / 4) 0 := by
      have := hdv (k / 4)
      rwa [hki, show min 4 (k + 1 - 4 * (k / 4)) = k % 4 + 1 by omega] at this
    have hor := abs_or hdk hb256
    have horlt : zs.getD (k / 4) 0 + (bts l).getD i 0 * 256 ^ (k % 4) < 4294967296 := by rw [← hor]; exact or32_lt hzk hsh
    have hkn : k / 4 < nw := by omega
    (repeat' (first | refine JC.seq ?_ | refine JC.ops ?_ | refine JC.opsD ?_ | refine JO.nil ?_ | refine JX.thenN ?_ | (apply r_move; exact rfl; exact rfl; exact rfl) | (apply r_fieldAddr; exact rfl; exact rfl; exact rfl) | (apply r_assign; exact rfl; exact rfl; exact rfl) | (apply r_load; exact rfl; exact rfl; exact rfl; exact rfl; (first | exact at0 | exact at1 | exact at2 | exact at3 | exact at4 | exact at5 | exact at6 | exact at7 | exact at8 | exact at9); exact rfl) | (apply r_divN (j := 4); exact rfl; exact rfl; exact rfl; exact rfl; omega) | (apply r_modN (j := 4); exact rfl; exact rfl; exact rfl; exact rfl; omega) | (apply r_mulN (i := 8); exact rfl; exact rfl; exact rfl; exact rfl; (first | assumption | omega)) | (apply r_sub1; exact rfl; exact rfl; exact rfl; exact rfl; omega) | (apply r_subN; exact rfl; exact rfl; exact rfl; exact rfl; omega) | (apply r_toU64; exact rfl; exact rfl; exact rfl; (first | assumption | omega)) | (apply r_idxU; exact rfl; exact rfl; exact rfl; exact rfl; (first | assumption | exact WU.rd (by assumption) rfl [] | exact OwnU.rd (by assumption)); (first | assumption | omega)) | (apply r_ldU; exact rfl; exact rfl; exact rfl; exact rfl; (first | assumption | exact WU.rd (by assumption) rfl [] | exact OwnU.rd (by assumption)); (repeat' first | exact HSub.nil _ | exact HSub.hd | exact HSub.in0 | exact HSub.refl _ | refine HSub.skip ?_ | refine HSub.skipN ?_); (first | assumption | omega)) | (apply r_lenS; exact rfl; exact rfl; exact rfl) | (apply r_idxS; exact rfl; exact rfl; exact rfl; exact rfl; (first | assumption | omega)) | (apply r_shlU; exact rfl; exact rfl; exact rfl; exact rfl; (first | assumption | omega)) | (apply r_lss; exact rfl; exact rfl; exact rfl; exact rfl; all_goals intro hc; all_goals try (exfalso; omega)) | refine JC.skip ?_ | refine JC.condT rfl ?_ | refine JC.block ?_))
    rw [← hk, pow8, Nat.mod_eq_of_lt (show (bts l).getD i 0 * 256 ^ (k % 4) < 18446744073709551616 by omega)]
    refine r_orV (zs.getD (k / 4) 0 + (bts l).getD i 0 * 256 ^ (k % 4)) rfl rfl rfl rfl (by omega) hor ?_
    (repeat' (first | (apply r_idxU; exact rfl; exact rfl; exact rfl; exact rfl; (first | assumption | exact WU.rd (by assumption) rfl [] | exact OwnU.rd (by assumption)); (first | assumption | omega))))
    refine r_stU (A := [_]) hO rfl rfl (by first | trivial | exact ⟨rfl, rfl⟩) rfl rfl (by omega) (fun N1 hO1 => ?_)
    (repeat' (first | refine JC.ops ?_ | refine JO.nil ?_ | refine JX.thenN ?_ | (apply r_move; exact rfl; exact rfl; exact rfl) | (apply r_add1; exact rfl; exact rfl; exact rfl; exact rfl; omega) | refine JX.blockN ?_))
    refine JX.roundH (i + 1, N1, _) ⟨by dsimp only; omega, hO1, set_lt hz horlt, fun j => ?_, ?_⟩ (by dsimp only; omega) (by repeat first | exact trivial | refine ⟨rfl, ?_⟩) (by (first | exact HSub.refl _ | (repeat' first | exact HSub.nil _ | exact HSub.refl _ | refine HSub.at 0 rfl ?_ | refine HSub.at 1 rfl ?_ | refine HSub.at 2 rfl ?_ | refine HSub.at 3 rfl ?_ | refine HSub.at 4 rfl ?_ | refine HSub.at 5 rfl ?_ | refine HSub.at 6 rfl ?_ | refine HSub.at 7 rfl ?_)))
    · dsimp only
      by_cases hj : k / 4 = j
      · subst hj
        rw [getD_set_self (by omega), show min 4 (l.length - (i + 1) - 4 * (k / 4)) = k % 4 by omega]
        exact Nat.dvd_add (Nat.dvd_trans (Nat.pow_dvd_pow 256 (Nat.le_succ _)) hdk) (Nat.dvd_mul_left _ _)
      · rw [getD_set_ne hj]
        exact Nat.dvd_trans (Nat.pow_dvd_pow 256 (by omega)) (hdv j)
    · dsimp only
      have e := val_set (b := W32) (l := zs) (j := k / 4) (u := zs.getD (k / 4) 0 + (bts l).getD i 0 * 256 ^ (k % 4)) (by omega)
      rw [Nat.mul_add] at e
      have e2 : W32 ^ (k / 4) * ((bts l).getD i 0 * 256 ^ (k % 4)) = 256 ^ k * (bts l).getD i 0 := by
        rw [pow32, Nat.mul_left_comm, ← Nat.pow_add, show 4 * (k / 4) + k % 4 = k by omega, Nat.mul_comm]
      rw [bval_take _ _ (by omega), show l.length - (i + 1) = k by omega, Nat.mul_add, ← Nat.mul_assoc]
      rw [hki, Nat.pow_succ] at hval
      omega
  · (repeat' (first | refine JC.seq ?_ | refine JC.ops ?_ | refine JO.nil ?_ | refine JX.thenN ?_ | (apply r_move; exact rfl; exact rfl; exact rfl) | (apply r_lss; exact rfl; exact rfl; exact rfl; exact rfl; all_goals intro hc; all_goals try (exfalso; omega)) | refine JX.thenE ?_ | refine JC.exit ?_ | refine JC.condF rfl ?_ | refine JX.blockE ?_))
    refine r_call0 trivial rfl rfl rfl (fun w hk hs => c_norm w _ _ _ _ (hO.rd.at hk hs (by (repeat' first | exact HSub.nil _ | exact HSub.hd | exact HSub.in0 | exact HSub.refl _ | refine HSub.skip ?_ | refine HSub.skipN ?_))) (by omega)) fun w v w' _ _ _ hR => ?_
    obtain ⟨q, hq, rfl, hnq⟩ := hR
    (repeat' (first | refine JO.nil ?_ | refine JX.thenN ?_ | (apply r_assign; exact rfl; exact rfl; exact rfl) | refine JC.ret ?_))
    have hown := hO.hd hq
    rw [← hnq] at hown
    have hql : (nrm zs).length = q := hown.len
    refine JX.ret1 rfl (fun a w' st => ⟨st.kp, N, nrm zs, st.newOf rfl (by (repeat' first | exact HSub.nil _ | exact HSub.hd | exact HSub.in0 | exact HSub.refl _ | refine HSub.skip ?_ | refine HSub.skipN ?_)), by rw [hql]; exact hown, Dig.of hz, ?_⟩)
    obtain rfl : i = l.length := by omega
    rw [val_nrm, hval, Nat.sub_self, Nat.pow_zero, Nat.one_mul, List.take_of_length_le (by omega)]

end Go.Proofs.YtdehklhdjbkneaaDoor

/- Numbers with a sign: Neg, Add, Sub, Mul, Sign, Cmp, From. -/
namespace Go.Proofs.YtdehklhdjbkneaaDoor
open Go Go.RowKit
set_option linter.unusedSimpArgs false
set_option linter.unusedVariables false
set_option linter.unusedSectionVars false

/-- A Wide value of at most k bytes, and its number. -/
def IsZ (v : Value) (a : Int) (k : Nat) : Prop := ∃ p l, v = wv p l ∧ l.length ≤ k ∧ a = sgn p (bval (bts l))
theorem bts_mem {l : List UInt8} : ∀ x ∈ bts l, x < 256 := fun x hx => by
  obtain ⟨a, _, rfl⟩ := List.mem_map.1 hx
  exact UInt8.toNat_lt a
theorem bval_bts_lt {l : List UInt8} {k : Nat} (h : l.length ≤ k) : bval (bts l) < 256 ^ k := by
  have h1 := bval_lt (bts_mem (l := l))
  rw [bts_len] at h1
  exact Nat.lt_of_lt_of_le h1 (Nat.pow_le_pow_right (by decide) h)
theorem IsZ.lt {v : Value} {a : Int} {k : Nat} (h : IsZ v a k) : a.natAbs < 256 ^ k := by
  obtain ⟨p, l, rfl, hl, rfl⟩ := h
  rw [sgn_natAbs]
  exact bval_bts_lt hl
theorem IsZ.mono {v : Value} {a : Int} {k k' : Nat} (h : IsZ v a k) (hk : k ≤ k') : IsZ v a k' := by
  obtain ⟨p, l, rfl, hl, rfl⟩ := h
  exact ⟨p, l, rfl, by omega, rfl⟩
theorem IsZ.can {a : Int} {k : Nat} (h : a.natAbs < 256 ^ k) : IsZ (Wv a) a k :=
  ⟨_, _, rfl, magU_len h, by rw [bval_magU, sgn_self]⟩
theorem words_le {zs : List Nat} {l : List UInt8} {k : Nat} (hz : Dig W32 zs) (hv : val W32 zs = bval (bts l)) (hl : l.length ≤ k) : zs.length ≤ k := by
  refine hz.len_le (by decide) ?_
  rw [hv]
  exact Nat.lt_of_lt_of_le (bval_bts_lt hl) (Nat.pow_le_pow_left (by decide) k)

set_option maxHeartbeats 2000000 in
theorem c_Neg (w : World) (v : Value) (a : Int) (k : Nat) (hv : IsZ v a k) (hk : k ≤ 10000) :
    Calls Tryd.prog 25 #[v] w (Ret fun r w' => Kp [] w w' ∧ r = Wv (-a)) := by
  obtain ⟨p, l, rfl, hl1, rfl⟩ := hv
  refine calls_of_S [⟨1, 1, [0, 2, 3, 4, 1, 5, 6], []⟩] [] (by simp) [] Tryd.func25 rfl mixed (by kernel_rfl) Tryd.ntmps25 Tryd.results25 rfl ⟨by simp, by simp⟩ (by simp) ?_
  simp only [toS, textOps, toSOp, kindAt, kindOf, odAt, sopsAt, ordOf, zipF]
  (repeat' (first | refine JC.seq ?_ | refine JC.ops ?_ | refine JC.opsD ?_ | refine JO.nil ?_ | refine JX.thenN ?_ | (apply r_fieldAddr; exact rfl; exact rfl; exact rfl) | (apply r_load; exact rfl; exact rfl; exact rfl; exact rfl; (first | exact at0 | exact at1 | exact at2 | exact at3 | exact at4 | exact at5 | exact at6 | exact at7 | exact at8 | exact at9); exact rfl) | (apply r_loadN; exact rfl; exact rfl; exact rfl; exact rfl; (first | exact at0 | exact at1 | exact at2 | exact at3 | exact at4 | exact at5 | exact at6 | exact at7 | exact at8 | exact at9); exact rfl) | (apply r_not; exact rfl; exact rfl; exact rfl) | (apply r_allocZ; exact rfl; exact rfl; exact rfl; intro _) | (apply r_boxA; exact rfl; exact rfl; exact rfl; exact rfl; intro _)))
  refine r_callA (A := [_, _]) rfl trivial rfl rfl rfl (fun w hk hs => c_abs w p l (by omega)) fun w v w' _ _ _ hR => ?_
  obtain ⟨N1, zs1, hN1, hO1, hz1, hval1⟩ := hR
  refine ⟨N1, hN1, ?_⟩
  have hzl1 := words_le hz1 hval1 hl1
  skip
  refine r_call0 trivial rfl rfl rfl (fun w hk hs => c_wide w _ _ zs1 (!p) (hO1.rd.at hk hs (by (repeat' first | exact HSub.nil _ | exact HSub.hd | exact HSub.in0 | exact HSub.refl _ | refine HSub.skip ?_ | refine HSub.skipN ?_))) hz1.lt (by omega)) fun w v w' _ _ _ hR => ?_
  subst hR
  (repeat' (first | refine JO.nil ?_ | refine JX.thenN ?_ | (apply r_storeN; exact rfl; (first | exact trivial | exact ⟨rfl, rfl⟩); exact rfl; exact rfl; (first | exact at0 | exact at1 | exact at2 | exact at3 | exact at4 | exact at5 | exact at6 | exact at7 | exact at8 | exact at9); exact rfl; exact rfl; exact rfl) | (apply r_storeN; exact rfl; (first | exact trivial | exact ⟨rfl, rfl⟩); exact rfl; exact rfl; (first | exact at0 | exact at1 | exact at2 | exact at3 | exact at4 | exact at5 | exact at6 | exact at7 | exact at8 | exact at9); exact rfl; exact rfl; exact rfl) | refine JC.ret ?_))
  exact JX.retC 0 rfl rfl rfl (fun a w' st => ⟨st.kp, by show Wv (sgn (!p) (val W32 zs1)) = _; rw [hval1, sgn_not]⟩)

set_option maxHeartbeats 2000000 in
theorem c_Sign (w : World) (v : Value) (a : Int) (k : Nat) (hv : IsZ v a k) (hk : k ≤ 10000) :
    Calls Tryd.prog 21 #[v] w (Ret fun r w' => Kp [] w w' ∧ r = iv a.sign) := by
  obtain ⟨p, l, rfl, hl1, rfl⟩ := hv
  refine calls_of_S [] [] (by simp) [] Tryd.func21 rfl mixed (by kernel_rfl) Tryd.ntmps21 Tryd.results21 rfl ⟨by simp, by simp⟩ (by simp) ?_
  simp only [toS, textOps, toSOp, kindAt, kindOf, odAt, sopsAt, ordOf, zipF]
  (repeat' (first | refine JC.seq ?_ | refine JC.ops ?_ | refine JO.nil ?_ | refine JX.thenN ?_ | (apply r_assign; exact rfl; exact rfl; exact rfl) | (apply r_loadN; exact rfl; exact rfl; exact rfl; exact rfl; (first | exact at0 | exact at1 | exact at2 | exact at3 | exact at4 | exact at5 | exact at6 | exact at7 | exact at8 | exact at9); exact rfl) | (apply r_boxA; exact rfl; exact rfl; exact rfl; exact rfl; intro _) | refine JC.block ?_))
  refine r_callA (A := [_]) rfl trivial rfl rfl rfl (fun w hk hs => c_abs w p l (by omega)) fun w v w' _ _ _ hR => ?_
  obtain ⟨N1, zs1, hN1, hO1, hz1, hval1⟩ := hR
  refine ⟨N1, hN1, ?_⟩
  have hzl1 := words_le hz1 hval1 hl1
  have he := hz1.eq_nil (by decide)
  rw [hval1] at he
  by_cases h0 : zs1.length = 0
  · have h1 := he.1 (List.eq_nil_of_length_eq_zero h0)
    rw [h1, sgn_zero]
    (repeat' (first | refine JC.seq ?_ | refine JC.ops ?_ | refine JO.nil ?_ | refine JX.thenN ?_ | (apply r_assign; exact rfl; exact rfl; exact rfl) | (apply r_lenU; exact rfl; exact rfl; exact rfl; (first | assumption | exact WU.rd (by assumption) rfl [] | exact OwnU.rd (by assumption))) | (apply r_eql; exact rfl; exact rfl; exact rfl; exact rfl; all_goals intro hc; all_goals try (exfalso; omega)) | refine JX.thenR ?_ | refine JC.ret ?_ | refine JC.condT rfl ?_ | refine JX.blockR ?_))
    exact JX.ret1 rfl (fun a w' st => ⟨st.kp, rfl⟩)
  · have h1 : bval (bts l) ≠ 0 := fun h => h0 (by rw [he.2 h]; rfl)
    cases p with
    | false =>
      have h2 : (sgn false (bval (bts l))).sign = 1 := Int.sign_eq_one_of_pos (by simp [sgn]; omega)
      rw [h2]
      (repeat' (first | refine JC.seq ?_ | refine JC.ops ?_ | refine JO.nil ?_ | refine JX.thenN ?_ | (apply r_fieldAddr; exact rfl; exact rfl; exact rfl) | (apply r_assign; exact rfl; exact rfl; exact rfl) | (apply r_load; exact rfl; exact rfl; exact rfl; exact rfl; (first | exact at0 | exact at1 | exact at2 | exact at3 | exact at4 | exact at5 | exact at6 | exact at7 | exact at8 | exact at9); exact rfl) | (apply r_lenU; exact rfl; exact rfl; exact rfl; (first | assumption | exact WU.rd (by assumption) rfl [] | exact OwnU.rd (by assumption))) | (apply r_eql; exact rfl; exact rfl; exact rfl; exact rfl; all_goals intro hc; all_goals try (exfalso; omega)) | refine JC.skip ?_ | refine JC.ret ?_ | refine JC.condF rfl ?_ | refine JX.blockN ?_))
      exact JX.ret1 rfl (fun a w' st => ⟨st.kp, rfl⟩)
    | true =>
      have h2 : (sgn true (bval (bts l))).sign = -1 := Int.sign_eq_neg_one_of_neg (by simp [sgn]; omega)
      rw [h2]
      (repeat' (first | refine JC.seq ?_ | refine JC.ops ?_ | refine JO.nil ?_ | refine JX.thenN ?_ | (apply r_fieldAddr; exact rfl; exact rfl; exact rfl) | (apply r_assign; exact rfl; exact rfl; exact rfl) | (apply r_load; exact rfl; exact rfl; exact rfl; exact rfl; (first | exact at0 | exact at1 | exact at2 | exact at3 | exact at4 | exact at5 | exact at6 | exact at7 | exact at8 | exact at9); exact rfl) | (apply r_lenU; exact rfl; exact rfl; exact rfl; (first | assumption | exact WU.rd (by assumption) rfl [] | exact OwnU.rd (by assumption))) | (apply r_eql; exact rfl; exact rfl; exact rfl; exact rfl; all_goals intro hc; all_goals try (exfalso; omega)) | refine JX.thenR ?_ | refine JC.ret ?_ | refine JC.condT rfl ?_ | refine JC.condF rfl ?_ | refine JX.blockR ?_))
      exact JX.ret1 rfl (fun a w' st => ⟨st.kp, rfl⟩)

set_option maxHeartbeats 4000000 in
theorem c_Add (w : World) (v u : Value) (a b : Int) (k : Nat) (hv : IsZ v a k) (hu : IsZ u b k) (hk : k ≤ 10000) :
    Calls Tryd.prog 22 #[v, u] w (Ret fun r w' => Kp [] w w' ∧ r = Wv (a + b)) := by
  obtain ⟨p, l, rfl, hl1, rfl⟩ := hv
  obtain ⟨q, l', rfl, hl2, rfl⟩ := hu
  refine calls_of_S [⟨1, 1, [0, 2, 1, 3, 4, 5], []⟩, ⟨3, 2, [0, 1, 3, 4, 2, 5, 6], []⟩, ⟨5, 2, [0, 1, 3, 4, 2, 5, 6], []⟩, ⟨6, 2, [0, 1, 3, 4, 2, 5, 6], []⟩] [] (by simp) [] Tryd.func22 rfl mixed (by kernel_rfl) Tryd.ntmps22 Tryd.results22 rfl ⟨by simp, by simp⟩ (by simp) ?_
  simp only [toS, textOps, toSOp, kindAt, kindOf, odAt, sopsAt, ordOf, zipF]
  (repeat' (first | refine JC.seq ?_ | refine JC.ops ?_ | refine JC.opsD ?_ | refine JO.nil ?_ | refine JX.thenN ?_ | (apply r_loadN; exact rfl; exact rfl; exact rfl; exact rfl; (first | exact at0 | exact at1 | exact at2 | exact at3 | exact at4 | exact at5 | exact at6 | exact at7 | exact at8 | exact at9); exact rfl) | (apply r_allocZ; exact rfl; exact rfl; exact rfl; intro _) | (apply r_boxA; exact rfl; exact rfl; exact rfl; exact rfl; intro _)))
  refine r_callA (A := [_, _, _]) rfl trivial rfl rfl rfl (fun w hk hs => c_abs w p l (by omega)) fun w v w' _ _ _ hR => ?_
  obtain ⟨N1, zs1, hN1, hO1, hz1, hval1⟩ := hR
  refine ⟨N1, hN1, ?_⟩
  have hzl1 := words_le hz1 hval1 hl1
  skip
  refine r_callA (A := [_, _, _]) rfl trivial rfl rfl rfl (fun w hk hs => c_abs w q l' (by omega)) fun w v w' _ _ _ hR => ?_
  obtain ⟨N2, zs2, hN2, hO2, hz2, hval2⟩ := hR
  refine ⟨N2, hN2, ?_⟩
  have hzl2 := words_le hz2 hval2 hl2
  by_cases hpq : p = q
  · subst hpq
    (repeat' (first | refine JC.seq ?_ | refine JC.ops ?_ | refine JC.opsD ?_ | refine JO.nil ?_ | refine JX.thenN ?_ | (apply r_move; exact rfl; exact rfl; exact rfl) | (apply r_fieldAddr; exact rfl; exact rfl; exact rfl) | (apply r_assign; exact rfl; exact rfl; exact rfl) | (apply r_load; exact rfl; exact rfl; exact rfl; exact rfl; (first | exact at0 | exact at1 | exact at2 | exact at3 | exact at4 | exact at5 | exact at6 | exact at7 | exact at8 | exact at9); exact rfl) | (apply r_eqBS; exact rfl; exact rfl; exact rfl; exact rfl) | refine JC.condT rfl ?_ | refine JC.block ?_))
    refine r_callA (A := [_, _, _]) rfl trivial rfl rfl rfl (fun w hk hs => c_add w _ _ _ _ _ _ (hO1.rd.at hk hs (by (repeat' first | exact HSub.nil _ | exact HSub.hd | exact HSub.in0 | exact HSub.refl _ | refine HSub.skip ?_ | refine HSub.skipN ?_))) (hO2.rd.at hk hs (by (repeat' first | exact HSub.nil _ | exact HSub.hd | exact HSub.in0 | exact HSub.refl _ | refine HSub.skip ?_ | refine HSub.skipN ?_))) hz1.lt hz2.lt (by omega) (by omega)) fun w v w' _ _ _ hR => ?_
    obtain ⟨N3, zs3, hN3, hO3, hz3, hval3⟩ := hR
    refine ⟨N3, hN3, ?_⟩
    rw [hval1, hval2] at hval3
    have hzl3 : zs3.length ≤ k + 1 := by
      refine hz3.len_le (by decide) ?_
      rw [hval3, Nat.pow_succ]
      have h1 := Nat.lt_of_lt_of_le (bval_bts_lt hl1) (Nat.pow_le_pow_left (show 256 ≤ W32 by decide) k)
      have h2 := Nat.lt_of_lt_of_le (bval_bts_lt hl2) (Nat.pow_le_pow_left (show 256 ≤ W32 by decide) k)
      show _ < W32 ^ k * 4294967296
      omega
    skip
    refine r_call0 trivial rfl rfl rfl (fun w hk hs => c_wide w _ _ zs3 p (hO3.rd.at hk hs (by (repeat' first | exact HSub.nil _ | exact HSub.hd | exact HSub.in0 | exact HSub.refl _ | refine HSub.skip ?_ | refine HSub.skipN ?_))) hz3.lt (by omega)) fun w v w' _ _ _ hR => ?_
    subst hR
    (repeat' (first | refine JO.nil ?_ | refine JX.thenN ?_ | (apply r_storeN; exact rfl; (first | exact trivial | exact ⟨rfl, rfl⟩); exact rfl; exact rfl; (first | exact at0 | exact at1 | exact at2 | exact at3 | exact at4 | exact at5 | exact at6 | exact at7 | exact at8 | exact at9); exact rfl; exact rfl; exact rfl) | (apply r_storeN; exact rfl; (first | exact trivial | exact ⟨rfl, rfl⟩); exact rfl; exact rfl; (first | exact at0 | exact at1 | exact at2 | exact at3 | exact at4 | exact at5 | exact at6 | exact at7 | exact at8 | exact at9); exact rfl; exact rfl; exact rfl) | refine JX.thenR ?_ | refine JC.ret ?_ | refine JX.blockR ?_))
    exact JX.retC 0 rfl rfl rfl (fun a w' st => ⟨st.kp, by show Wv (sgn p (val W32 zs3)) = _; rw [hval3, sgn_add]⟩)
  have hpq' : (p == q) = false := by simpa using hpq
  (repeat' (first | refine JC.seq ?_ | refine JC.ops ?_ | refine JO.nil ?_ | refine JX.thenN ?_ | (apply r_fieldAddr; exact rfl; exact rfl; exact rfl) | (apply r_assign; exact rfl; exact rfl; exact rfl) | (apply r_load; exact rfl; exact rfl; exact rfl; exact rfl; (first | exact at0 | exact at1 | exact at2 | exact at3 | exact at4 | exact at5 | exact at6 | exact at7 | exact at8 | exact at9); exact rfl) | (apply r_eqB; exact rfl; exact rfl; exact rfl; exact rfl) | refine JC.block ?_))
  rw [hpq']
  (repeat' (first | refine JC.seq ?_ | refine JC.ops ?_ | (apply r_move; exact rfl; exact rfl; exact rfl) | refine JC.condF rfl ?_))
  refine r_call0 trivial rfl rfl rfl (fun w hk hs => c_cmp w _ _ _ _ _ _ (hO1.rd.at hk hs (by (repeat' first | exact HSub.nil _ | exact HSub.hd | exact HSub.in0 | exact HSub.refl _ | refine HSub.skip ?_ | refine HSub.skipN ?_))) (hO2.rd.at hk hs (by (repeat' first | exact HSub.nil _ | exact HSub.hd | exact HSub.in0 | exact HSub.refl _ | refine HSub.skip ?_ | refine HSub.skipN ?_))) hz1 hz2 (by omega) (by omega)) fun w v w' _ _ _ hR => ?_
  subst hR
  by_cases hlt : val W32 zs1 < val W32 zs2
  · have hneg := cmpV_neg.2 hlt
    have hlen : zs1.length ≤ zs2.length := by
      refine Decidable.byContradiction fun h => ?_
      have := len_cmp (b := W32) (by decide) hz2 hz1 (by omega)
      omega
    (repeat' (first | refine JC.seq ?_ | refine JC.opsD ?_ | refine JO.nil ?_ | refine JX.thenN ?_ | (apply r_move; exact rfl; exact rfl; exact rfl) | (apply r_fieldAddr; exact rfl; exact rfl; exact rfl) | (apply r_assign; exact rfl; exact rfl; exact rfl) | (apply r_load; exact rfl; exact rfl; exact rfl; exact rfl; (first | exact at0 | exact at1 | exact at2 | exact at3 | exact at4 | exact at5 | exact at6 | exact at7 | exact at8 | exact at9); exact rfl) | (apply r_lss; exact rfl; exact rfl; exact rfl; exact rfl; all_goals intro hc; all_goals try (exfalso; omega)) | refine JC.condT rfl ?_))
    refine r_callA (A := [_, _, _]) rfl trivial rfl rfl rfl (fun w hk hs => c_sub w _ _ _ _ _ _ (hO2.rd.at hk hs (by (repeat' first | exact HSub.nil _ | exact HSub.hd | exact HSub.in0 | exact HSub.refl _ | refine HSub.skip ?_ | refine HSub.skipN ?_))) (hO1.rd.at hk hs (by (repeat' first | exact HSub.nil _ | exact HSub.hd | exact HSub.in0 | exact HSub.refl _ | refine HSub.skip ?_ | refine HSub.skipN ?_))) hz2.lt hz1.lt (by omega) hlen (Nat.le_of_lt hlt)) fun w v w' _ _ _ hR => ?_
    obtain ⟨N3, zs3, hN3, hO3, hz3, hval3⟩ := hR
    refine ⟨N3, hN3, ?_⟩
    have hzl3 : zs3.length ≤ k := hz3.len_le (by decide) (Nat.lt_of_le_of_lt (show val W32 zs3 ≤ val W32 zs2 by omega) (by rw [hval2]; exact Nat.lt_of_lt_of_le (bval_bts_lt hl2) (Nat.pow_le_pow_left (by decide) k)))
    rw [hval1, hval2] at hval3
    rw [hval1, hval2] at hlt
    skip
    refine r_call0 trivial rfl rfl rfl (fun w hk hs => c_wide w _ _ zs3 q (hO3.rd.at hk hs (by (repeat' first | exact HSub.nil _ | exact HSub.hd | exact HSub.in0 | exact HSub.refl _ | refine HSub.skip ?_ | refine HSub.skipN ?_))) hz3.lt (by omega)) fun w v w' _ _ _ hR => ?_
    subst hR
    (repeat' (first | refine JO.nil ?_ | refine JX.thenN ?_ | (apply r_storeN; exact rfl; (first | exact trivial | exact ⟨rfl, rfl⟩); exact rfl; exact rfl; (first | exact at0 | exact at1 | exact at2 | exact at3 | exact at4 | exact at5 | exact at6 | exact at7 | exact at8 | exact at9); exact rfl; exact rfl; exact rfl) | (apply r_storeN; exact rfl; (first | exact trivial | exact ⟨rfl, rfl⟩); exact rfl; exact rfl; (first | exact at0 | exact at1 | exact at2 | exact at3 | exact at4 | exact at5 | exact at6 | exact at7 | exact at8 | exact at9); exact rfl; exact rfl; exact rfl) | refine JX.thenR ?_ | refine JC.ret ?_ | refine JX.blockR ?_))
    exact JX.retC 0 rfl rfl rfl (fun a w' st => ⟨st.kp, by show Wv (sgn q (val W32 zs3)) = _; rw [← sgn_sub1 hpq hlt, ← hval3, Nat.add_sub_cancel]⟩)
  · have hneg : ¬ cmpV (val W32 zs1) (val W32 zs2) < 0 := fun h => hlt (cmpV_neg.1 h)
    have hlen : zs2.length ≤ zs1.length := by
      refine Decidable.byContradiction fun h => hlt ?_
      exact len_cmp (b := W32) (by decide) hz1 hz2 (by omega)
    (repeat' (first | refine JC.seq ?_ | refine JC.opsD ?_ | refine JO.nil ?_ | refine JX.thenN ?_ | (apply r_move; exact rfl; exact rfl; exact rfl) | (apply r_fieldAddr; exact rfl; exact rfl; exact rfl) | (apply r_assign; exact rfl; exact rfl; exact rfl) | (apply r_load; exact rfl; exact rfl; exact rfl; exact rfl; (first | exact at0 | exact at1 | exact at2 | exact at3 | exact at4 | exact at5 | exact at6 | exact at7 | exact at8 | exact at9); exact rfl) | (apply r_lss; exact rfl; exact rfl; exact rfl; exact rfl; all_goals intro hc; all_goals try (exfalso; omega)) | refine JC.skip ?_ | refine JC.condF rfl ?_ | refine JX.blockN ?_))
    refine r_callA (A := [_, _, _]) rfl trivial rfl rfl rfl (fun w hk hs => c_sub w _ _ _ _ _ _ (hO1.rd.at hk hs (by (repeat' first | exact HSub.nil _ | exact HSub.hd | exact HSub.in0 | exact HSub.refl _ | refine HSub.skip ?_ | refine HSub.skipN ?_))) (hO2.rd.at hk hs (by (repeat' first | exact HSub.nil _ | exact HSub.hd | exact HSub.in0 | exact HSub.refl _ | refine HSub.skip ?_ | refine HSub.skipN ?_))) hz1.lt hz2.lt (by omega) hlen (by omega)) fun w v w' _ _ _ hR => ?_
    obtain ⟨N3, zs3, hN3, hO3, hz3, hval3⟩ := hR
    refine ⟨N3, hN3, ?_⟩
    have hzl3 : zs3.length ≤ k := hz3.len_le (by decide) (Nat.lt_of_le_of_lt (show val W32 zs3 ≤ val W32 zs1 by omega) (by rw [hval1]; exact Nat.lt_of_lt_of_le (bval_bts_lt hl1) (Nat.pow_le_pow_left (by decide) k)))
    rw [hval1, hval2] at hval3
    rw [hval1, hval2] at hlt
    skip
    refine r_call0 trivial rfl rfl rfl (fun w hk hs => c_wide w _ _ zs3 p (hO3.rd.at hk hs (by (repeat' first | exact HSub.nil _ | exact HSub.hd | exact HSub.in0 | exact HSub.refl _ | refine HSub.skip ?_ | refine HSub.skipN ?_))) hz3.lt (by omega)) fun w v w' _ _ _ hR => ?_
    subst hR
    (repeat' (first | refine JO.nil ?_ | refine JX.thenN ?_ | (apply r_storeN; exact rfl; (first | exact trivial | exact ⟨rfl, rfl⟩); exact rfl; exact rfl; (first | exact at0 | exact at1 | exact at2 | exact at3 | exact at4 | exact at5 | exact at6 | exact at7 | exact at8 | exact at9); exact rfl; exact rfl; exact rfl) | (apply r_storeN; exact rfl; (first | exact trivial | exact ⟨rfl, rfl⟩); exact rfl; exact rfl; (first | exact at0 | exact at1 | exact at2 | exact at3 | exact at4 | exact at5 | exact at6 | exact at7 | exact at8 | exact at9); exact rfl; exact rfl; exact rfl) | refine JC.ret ?_))
    exact JX.retC 0 rfl rfl rfl (fun a w' st => ⟨st.kp, by show Wv (sgn p (val W32 zs3)) = _; rw [← sgn_sub2 hpq hlt, ← hval3, Nat.add_sub_cancel]⟩)

theorem two_pow_lt {n k : Nat} (h : n < 256 ^ k) {m : Nat} (hm : m < 256 ^ k) : n + m < 256 ^ (k + 1) := by
  rw [Nat.pow_succ]
  omega
theorem IsZ.add {a b : Int} {k : Nat} (h : a.natAbs < 256 ^ k) (h' : b.natAbs < 256 ^ k) : IsZ (Wv (a + b)) (a + b) (k + 1) := IsZ.can (Nat.lt_of_le_of_lt (Int.natAbs_add_le a b) (two_pow_lt h h'))
theorem mul_lt {a b : Int} {k k' : Nat} (h : a.natAbs < 256 ^ k) (h' : b.natAbs < 256 ^ k') : (a * b).natAbs < 256 ^ (k + k') := by
  rw [Int.natAbs_mul, Nat.pow_add]
  exact Nat.mul_lt_mul_of_lt_of_le h (Nat.le_of_lt h') (Nat.pow_pos (by decide))

set_option maxHeartbeats 2000000 in
theorem c_Sub (w : World) (v u : Value) (a b : Int) (k : Nat) (hv : IsZ v a k) (hu : IsZ u b k) (hk : k ≤ 10000) :
    Calls Tryd.prog 26 #[v, u] w (Ret fun r w' => Kp [] w w' ∧ r = Wv (a - b)) := by
  have hZ : IsZ (Wv (-b)) (-b) k := IsZ.can (by rw [Int.natAbs_neg]; exact hu.lt)
  obtain ⟨p, l, rfl, hl1, rfl⟩ := hv
  obtain ⟨q, l', rfl, hl2, rfl⟩ := hu
  refine calls_of_S [⟨1, 1, [], []⟩] [] (by simp) [] Tryd.func26 rfl mixed (by kernel_rfl) Tryd.ntmps26 Tryd.results26 rfl ⟨by simp, by simp⟩ (by simp) ?_
  simp only [toS, textOps, toSOp, kindAt, kindOf, odAt, sopsAt, ordOf, zipF]
  (repeat' (first | refine JC.seq ?_ | refine JC.ops ?_ | refine JC.opsD ?_ | refine JO.nil ?_ | refine JX.thenN ?_ | (apply r_loadN; exact rfl; exact rfl; exact rfl; exact rfl; (first | exact at0 | exact at1 | exact at2 | exact at3 | exact at4 | exact at5 | exact at6 | exact at7 | exact at8 | exact at9); exact rfl) | (apply r_allocZ; exact rfl; exact rfl; exact rfl; intro _) | (apply r_boxA; exact rfl; exact rfl; exact rfl; exact rfl; intro _)))
  refine r_call0 trivial rfl rfl rfl (fun w hk' hs => c_Neg w _ _ k ⟨q, l', rfl, hl2, rfl⟩ hk) fun w v w' _ _ _ hR => ?_
  subst hR
  skip
  refine r_call0 trivial rfl rfl rfl (fun w hk' hs => c_Add w _ _ _ _ k ⟨p, l, rfl, hl1, rfl⟩ hZ hk) fun w v w' _ _ _ hR => ?_
  subst hR
  (repeat' (first | refine JO.nil ?_ | refine JX.thenN ?_ | (apply r_storeN; exact rfl; (first | exact trivial | exact ⟨rfl, rfl⟩); exact rfl; exact rfl; (first | exact at0 | exact at1 | exact at2 | exact at3 | exact at4 | exact at5 | exact at6 | exact at7 | exact at8 | exact at9); exact rfl; exact rfl; exact rfl) | (apply r_storeN; exact rfl; (first | exact trivial | exact ⟨rfl, rfl⟩); exact rfl; exact rfl; (first | exact at0 | exact at1 | exact at2 | exact at3 | exact at4 | exact at5 | exact at6 | exact at7 | exact at8 | exact at9); exact rfl; exact rfl; exact rfl) | refine JC.ret ?_))
  exact JX.retC 0 rfl rfl rfl (fun a w' st => ⟨st.kp, by rw [Int.sub_eq_add_neg]; rfl⟩)

set_option maxHeartbeats 2000000 in
theorem c_Cmp (w : World) (v u : Value) (a b : Int) (k : Nat) (hv : IsZ v a k) (hu : IsZ u b k) (hk : k ≤ 9999) :
    Calls Tryd.prog 31 #[v, u] w (Ret fun r w' => Kp [] w w' ∧ r = iv (a - b).sign) := by
  have hZ : IsZ (Wv (a - b)) (a - b) (k + 1) := by
    rw [Int.sub_eq_add_neg]
    exact IsZ.add hv.lt (by rw [Int.natAbs_neg]; exact hu.lt)
  obtain ⟨p, l, rfl, hl1, rfl⟩ := hv
  obtain ⟨q, l', rfl, hl2, rfl⟩ := hu
  refine calls_of_S [] [] (by simp) [] Tryd.func31 rfl mixed (by kernel_rfl) Tryd.ntmps31 Tryd.results31 rfl ⟨by simp, by simp⟩ (by simp) ?_
  simp only [toS, textOps, toSOp, kindAt, kindOf, odAt, sopsAt, ordOf, zipF]
  (repeat' (first | refine JC.seq ?_ | refine JC.ops ?_ | refine JO.nil ?_ | refine JX.thenN ?_ | (apply r_assign; exact rfl; exact rfl; exact rfl) | (apply r_loadN; exact rfl; exact rfl; exact rfl; exact rfl; (first | exact at0 | exact at1 | exact at2 | exact at3 | exact at4 | exact at5 | exact at6 | exact at7 | exact at8 | exact at9); exact rfl) | (apply r_boxA; exact rfl; exact rfl; exact rfl; exact rfl; intro _)))
  refine r_call0 trivial rfl rfl rfl (fun w hk' hs => c_Sub w _ _ _ _ k ⟨p, l, rfl, hl1, rfl⟩ ⟨q, l', rfl, hl2, rfl⟩ (by omega)) fun w v w' _ _ _ hR => ?_
  subst hR
  skip
  refine r_call0 trivial rfl rfl rfl (fun w hk' hs => c_Sign w _ _ (k + 1) hZ (by omega)) fun w v w' _ _ _ hR => ?_
  subst hR
  (repeat' (first | refine JO.nil ?_ | refine JX.thenN ?_ | (apply r_assign; exact rfl; exact rfl; exact rfl) | refine JC.ret ?_))
  exact JX.ret1 rfl (fun a w' st => ⟨st.kp, rfl⟩)

set_option maxHeartbeats 2000000 in
theorem c_Mul (w : World) (v u : Value) (a b : Int) (k : Nat) (hv : IsZ v a k) (hu : IsZ u b k) (hk : k ≤ 10000) :
    Calls Tryd.prog 14 #[v, u] w (Ret fun r w' => Kp [] w w' ∧ r = Wv (a * b)) := by
  obtain ⟨p, l, rfl, hl1, rfl⟩ := hv
  obtain ⟨q, l', rfl, hl2, rfl⟩ := hu
  refine calls_of_S [⟨1, 1, [0, 2, 5, 6, 7, 8, 9, 1, 3, 4, 10, 11], []⟩] [] (by simp) [] Tryd.func14 rfl mixed (by kernel_rfl) Tryd.ntmps14 Tryd.results14 rfl ⟨by simp, by simp⟩ (by simp) ?_
  simp only [toS, textOps, toSOp, kindAt, kindOf, odAt, sopsAt, ordOf, zipF]
  (repeat' (first | refine JC.seq ?_ | refine JC.ops ?_ | refine JC.opsD ?_ | refine JO.nil ?_ | refine JX.thenN ?_ | (apply r_fieldAddr; exact rfl; exact rfl; exact rfl) | (apply r_load; exact rfl; exact rfl; exact rfl; exact rfl; (first | exact at0 | exact at1 | exact at2 | exact at3 | exact at4 | exact at5 | exact at6 | exact at7 | exact at8 | exact at9); exact rfl) | (apply r_loadN; exact rfl; exact rfl; exact rfl; exact rfl; (first | exact at0 | exact at1 | exact at2 | exact at3 | exact at4 | exact at5 | exact at6 | exact at7 | exact at8 | exact at9); exact rfl) | (apply r_neB; exact rfl; exact rfl; exact rfl; exact rfl) | (apply r_allocZ; exact rfl; exact rfl; exact rfl; intro _) | (apply r_boxA; exact rfl; exact rfl; exact rfl; exact rfl; intro _)))
  refine r_callA (A := [_, _, _]) rfl trivial rfl rfl rfl (fun w hk hs => c_abs w p l (by omega)) fun w v w' _ _ _ hR => ?_
  obtain ⟨N1, zs1, hN1, hO1, hz1, hval1⟩ := hR
  refine ⟨N1, hN1, ?_⟩
  have hzl1 := words_le hz1 hval1 hl1
  skip
  refine r_callA (A := [_, _, _]) rfl trivial rfl rfl rfl (fun w hk hs => c_abs w q l' (by omega)) fun w v w' _ _ _ hR => ?_
  obtain ⟨N2, zs2, hN2, hO2, hz2, hval2⟩ := hR
  refine ⟨N2, hN2, ?_⟩
  have hzl2 := words_le hz2 hval2 hl2
  skip
  refine r_callA (A := [_, _, _]) rfl trivial rfl rfl rfl (fun w hk hs => c_mulW w _ _ _ _ _ _ (hO1.rd.at hk hs (by (repeat' first | exact HSub.nil _ | exact HSub.hd | exact HSub.in0 | exact HSub.refl _ | refine HSub.skip ?_ | refine HSub.skipN ?_))) (hO2.rd.at hk hs (by (repeat' first | exact HSub.nil _ | exact HSub.hd | exact HSub.in0 | exact HSub.refl _ | refine HSub.skip ?_ | refine HSub.skipN ?_))) hz1.lt hz2.lt (by omega) (by omega)) fun w v w' _ _ _ hR => ?_
  obtain ⟨N3, zs3, hN3, hO3, hz3, hval3⟩ := hR
  refine ⟨N3, hN3, ?_⟩
  rw [hval1, hval2] at hval3
  have hzl3 : zs3.length ≤ k + k := by
    refine hz3.len_le (by decide) ?_
    rw [hval3, Nat.pow_add]
    have h1 := Nat.lt_of_lt_of_le (bval_bts_lt hl1) (Nat.pow_le_pow_left (show 256 ≤ W32 by decide) k)
    have h2 := Nat.lt_of_lt_of_le (bval_bts_lt hl2) (Nat.pow_le_pow_left (show 256 ≤ W32 by decide) k)
    exact Nat.mul_lt_mul_of_lt_of_le h1 (Nat.le_of_lt h2) (Nat.pow_pos (by decide))
  skip
  refine r_call0 trivial rfl rfl rfl (fun w hk hs => c_wide w _ _ zs3 (p != q) (hO3.rd.at hk hs (by (repeat' first | exact HSub.nil _ | exact HSub.hd | exact HSub.in0 | exact HSub.refl _ | refine HSub.skip ?_ | refine HSub.skipN ?_))) hz3.lt (by omega)) fun w v w' _ _ _ hR => ?_
  subst hR
  (repeat' (first | refine JO.nil ?_ | refine JX.thenN ?_ | (apply r_storeN; exact rfl; (first | exact trivial | exact ⟨rfl, rfl⟩); exact rfl; exact rfl; (first | exact at0 | exact at1 | exact at2 | exact at3 | exact at4 | exact at5 | exact at6 | exact at7 | exact at8 | exact at9); exact rfl; exact rfl; exact rfl) | (apply r_storeN; exact rfl; (first | exact trivial | exact ⟨rfl, rfl⟩); exact rfl; exact rfl; (first | exact at0 | exact at1 | exact at2 | exact at3 | exact at4 | exact at5 | exact at6 | exact at7 | exact at8 | exact at9); exact rfl; exact rfl; exact rfl) | refine JC.ret ?_))
  exact JX.retC 0 rfl rfl rfl (fun a w' st => ⟨st.kp, by show Wv (sgn (p != q) (val W32 zs3)) = _; rw [hval3, sgn_mul]⟩)

end Go.Proofs.YtdehklhdjbkneaaDoor

