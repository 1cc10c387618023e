import Derived.Test.YtemdknkghacheaaDoorMd
namespace Go.Proofs.YtemdknkghacheaaDoor
open Go Go.RowKit
set_option linter.unusedSimpArgs false
set_option linter.unusedVariables false
set_option linter.unusedSectionVars false

theorem low_shift (a n : Nat) (hn : n ≤ 32) : a * 2 ^ n % 4294967296 = 2 ^ n * (a % 2 ^ (32 - n)) := by
  have e : (4294967296 : Nat) = 2 ^ (32 - n) * 2 ^ n := by rw [← Nat.pow_add, show 32 - n + n = 32 by omega]
  rw [e, Nat.mul_mod_mul_right, Nat.mul_comm]
theorem or_low {c n a : Nat} (hn : n ≤ 32) (hc : c < 2 ^ n) : c ||| a * 2 ^ n % 4294967296 = c + a * 2 ^ n % 4294967296 := by
  rw [low_shift a n hn, Nat.or_comm, ← Nat.two_pow_add_eq_or_of_lt hc, Nat.add_comm]
theorem or32_lt {a b : Nat} (ha : a < 4294967296) (hb : b < 4294967296) : a ||| b < 4294967296 := Nat.or_lt_two_pow (n := 32) (by simpa using ha) (by simpa using hb)
theorem pow31 {n : Nat} (hn : n ≤ 31) : 2 ^ n ≤ 2147483648 := by
  have := Nat.pow_le_pow_right (n := 2) (by decide) hn
  simpa using this

set_option maxHeartbeats 8000000 in
theorem c_shift (w : World) (v : Value) (n s : Nat) (xs : List Nat) (hv : WU w v n xs) (hx : ∀ x ∈ xs, x < W32) (hs31 : s ≤ 31) (hn : n ≤ 10000000000) :
    Calls Tryd.prog 57 #[v, nv s] w (Ret fun v w' => Kp [] w w' ∧ ∃ N zs, New N w w' ∧ OwnU N v (n + 1) zs ∧ (∀ x ∈ zs, x < W32) ∧ zs.getD n 0 < 2 ^ s ∧ val W32 zs = 2 ^ s * val W32 xs) := by
  have hlx := hv.len
  have hp := pow31 hs31
  have hp0 : 0 < 2 ^ s := Nat.pow_pos (by decide)
  refine calls_of_S [] [] (by simp) [] Tryd.func57 rfl mixed (by kernel_rfl) Tryd.ntmps57 Tryd.results57 rfl ⟨by simp, by simp⟩ (by simp) ?_
  simp only [toS, textOps, toSOp, kindAt, kindOf, odAt, sopsAt, ordOf, zipF]
  (repeat' (first | refine JC.seq ?_ | refine JC.ops ?_ | refine JO.nil ?_ | refine JX.thenN ?_ | (apply r_move; (iterate 3 exact rfl)) | (apply r_assign; (iterate 3 exact rfl)) | (apply r_add1; (iterate 4 exact rfl); omega) | (apply r_lenU; (iterate 3 exact rfl); (first | assumption | exact WU.rd (by assumption) rfl [] | exact OwnU.rd (by assumption)))))
  refine r_make (n := n + 1) rfl rfl rfl rfl rfl (by omega) (by omega) (fun b5 => ?_)
  have hO := own_zerosU b5 (n + 1) (by simp only [maxLen]; omega)
  (repeat' (first | refine JC.seq ?_ | refine JC.ops ?_ | refine JO.nil ?_ | refine JX.thenN ?_ | (apply r_move; (iterate 3 exact rfl)) | (apply r_assign; (iterate 3 exact rfl)) | (apply r_lenU; (iterate 3 exact rfl); (first | assumption | exact WU.rd (by assumption) rfl [] | exact OwnU.rd (by assumption))) | refine JC.block ?_))
  refine JC.loopH (ι := Nat × SHeap × List Nat) ⟨fun z => [(14, nv z.1), (13, nv n), (12, v), (5, .slice (some ⟨b5, 0, none⟩) (n + 1) (n + 1)), (0, v), (1, nv s)], fun z => z.2.1 ++ [],
    fun z => z.1 ≤ n ∧ OwnU z.2.1 (.slice (some ⟨b5, 0, none⟩) (n + 1) (n + 1)) (n + 1) z.2.2 ∧ (∀ x ∈ z.2.2, x < W32) ∧ z.2.2.getD z.1 0 < 2 ^ s ∧ val W32 z.2.2 = 2 ^ s * val W32 (xs.take z.1) ∧ ∀ j, z.1 < j → z.2.2.getD j 0 = 0, fun z => n - z.1⟩
    (0, _, _) ⟨Nat.zero_le _, hO, fun x hx => by obtain ⟨a, _, rfl⟩ := List.mem_map.1 hx; decide, by
      show (tab (n + 1) fun _ => 0).getD 0 0 < 2 ^ s
      rw [tab_zero]; exact hp0, by
      show val W32 (tab (n + 1) fun _ => 0) = _
      rw [val_zeros]; simp [val], fun j _ => tab_zero _ j⟩ (by repeat first | exact trivial | refine ⟨rfl, ?_⟩) (by (first | exact HSub.refl _ | (repeat' first | exact HSub.nil _ | exact HSub.refl _ | refine HSub.at 0 rfl ?_ | refine HSub.at 1 rfl ?_ | refine HSub.at 2 rfl ?_ | refine HSub.at 3 rfl ?_ | refine HSub.at 4 rfl ?_ | refine HSub.at 5 rfl ?_ | refine HSub.at 6 rfl ?_ | refine HSub.at 7 rfl ?_))) (fun z hz => ?_)
  clear hO
  obtain ⟨i, N, zs⟩ := z
  obtain ⟨hi, hO, hz, hci, hval, hzero⟩ := hz
  dsimp only at hi hO hz hci hval hzero ⊢
  have hlz := hO.len
  by_cases hin : i < n
  · have hxi : xs.getD i 0 < 4294967296 := mem_getD_lt (b := W32) (by decide) hx i
    have hzi : zs.getD i 0 < 4294967296 := mem_getD_lt (b := W32) (by decide) hz i
    have hwb : xs.getD i 0 * 2 ^ s < 9223372036854775808 := by
      have := Nat.mul_le_mul (show xs.getD i 0 ≤ 4294967295 by omega) hp
      omega
    have hlow : xs.getD i 0 * 2 ^ s % 4294967296 < 4294967296 := Nat.mod_lt _ (by decide)
    have hor := or_low (c := zs.getD i 0) (n := s) (a := xs.getD i 0) (by omega) hci
    have horlt : zs.getD i 0 + xs.getD i 0 * 2 ^ s % 4294967296 < 4294967296 := by rw [← hor]; exact or32_lt hzi hlow
    (repeat' (first | refine JC.seq ?_ | refine JC.ops ?_ | refine JO.nil ?_ | refine JX.thenN ?_ | (apply r_move; (iterate 3 exact rfl)) | (apply r_assign; (iterate 3 exact rfl)) | (apply r_idxU; (iterate 4 exact rfl); (first | assumption | exact WU.rd (by assumption) rfl [] | exact OwnU.rd (by assumption)); (first | assumption | omega)) | (apply r_ldU; (iterate 4 exact rfl); (first | assumption | exact WU.rd (by assumption) rfl [] | exact OwnU.rd (by assumption)); (repeat' first | exact HSub.nil _ | exact HSub.hd | exact HSub.in0 | exact HSub.refl _ | refine HSub.skip ?_ | refine HSub.skipN ?_); (first | assumption | omega)) | (apply r_maskU; (iterate 4 exact rfl); (first | assumption | omega)) | (apply r_shlU; (iterate 4 exact rfl); (first | assumption | omega)) | (apply r_lss; (iterate 4 exact rfl); all_goals intro hc; all_goals try (exfalso; omega)) | refine JC.skip ?_ | refine JC.condT rfl ?_ | refine JC.block ?_))
    rw [Nat.mod_eq_of_lt (show xs.getD i 0 * 2 ^ s < 18446744073709551616 by omega)]
    refine r_orV (zs.getD i 0 + xs.getD i 0 * 2 ^ s % 4294967296) rfl rfl rfl rfl (by omega) hor ?_
    (repeat' (first | (apply r_idxU; (iterate 4 exact rfl); (first | assumption | exact WU.rd (by assumption) rfl [] | exact OwnU.rd (by assumption)); (first | assumption | omega))))
    refine r_stU (A := []) hO rfl rfl trivial rfl rfl (by omega) (fun N1 hO1 => ?_)
    (repeat' (first | refine JC.ops ?_ | refine JO.nil ?_ | refine JX.thenN ?_ | (apply r_move; (iterate 3 exact rfl)) | (apply r_add1; (iterate 4 exact rfl); omega) | (apply r_shr32; (iterate 4 exact rfl)) | (apply r_idxU; (iterate 4 exact rfl); (first | assumption | exact WU.rd (by assumption) rfl [] | exact OwnU.rd (by assumption)); (first | assumption | omega))))
    refine r_stU (A := []) hO1 rfl rfl trivial rfl rfl (by omega) (fun N2 hO2 => ?_)
    (repeat' (first | refine JC.ops ?_ | refine JO.nil ?_ | refine JX.thenN ?_ | (apply r_move; (iterate 3 exact rfl)) | (apply r_add1; (iterate 4 exact rfl); omega) | refine JX.blockN ?_))
    refine JX.roundH (i + 1, N2, _) ⟨by dsimp only; omega, hO2, set_lt (set_lt hz horlt) (by show _ < 4294967296; omega), ?_, ?_, fun j hj => ?_⟩ (by dsimp only; omega) (by repeat first | exact trivial | refine ⟨rfl, ?_⟩) (by (first | exact HSub.refl _ | (repeat' first | exact HSub.nil _ | exact HSub.refl _ | refine HSub.at 0 rfl ?_ | refine HSub.at 1 rfl ?_ | refine HSub.at 2 rfl ?_ | refine HSub.at 3 rfl ?_ | refine HSub.at 4 rfl ?_ | refine HSub.at 5 rfl ?_ | refine HSub.at 6 rfl ?_ | refine HSub.at 7 rfl ?_)))
    · dsimp only
      rw [getD_set_self (by simp; omega)]
      refine (Nat.div_lt_iff_lt_mul (by decide)).2 ?_
      rw [Nat.mul_comm]
      exact Nat.mul_lt_mul_of_pos_left hxi hp0
    · dsimp only
      have e1 := val_set (b := W32) (l := zs) (j := i) (u := zs.getD i 0 + xs.getD i 0 * 2 ^ s % 4294967296) (by omega)
      have e2 := val_set (b := W32) (l := zs.set i (zs.getD i 0 + xs.getD i 0 * 2 ^ s % 4294967296)) (j := i + 1) (u := xs.getD i 0 * 2 ^ s / 4294967296) (by simp; omega)
      rw [getD_set_ne (by omega), hzero (i + 1) (by omega), Nat.mul_zero, Nat.add_zero] at e2
      rw [e2, val_take, Nat.mul_add, ← hval]
      have e3 : W32 ^ i * (xs.getD i 0 * 2 ^ s % 4294967296) + W32 ^ (i + 1) * (xs.getD i 0 * 2 ^ s / 4294967296) = W32 ^ i * (xs.getD i 0 * 2 ^ s) := by
        rw [Nat.pow_succ, Nat.mul_assoc, ← Nat.mul_add, Nat.mod_add_div]
      have e4 : 2 ^ s * (W32 ^ i * xs.getD i 0) = W32 ^ i * (xs.getD i 0 * 2 ^ s) := by
        rw [Nat.mul_left_comm, Nat.mul_comm (2 ^ s)]
      rw [e4, ← e3]
      rw [Nat.mul_add] at e1
      omega
    · dsimp only at hj ⊢
      rw [getD_set_ne (by omega), getD_set_ne (by omega)]
      exact hzero j (by omega)
  · (repeat' (first | refine JC.seq ?_ | refine JC.ops ?_ | refine JO.nil ?_ | refine JX.thenN ?_ | (apply r_move; (iterate 3 exact rfl)) | (apply r_assign; (iterate 3 exact rfl)) | (apply r_lss; (iterate 4 exact rfl); all_goals intro hc; all_goals try (exfalso; omega)) | refine JX.thenE ?_ | refine JC.exit ?_ | refine JC.ret ?_ | refine JC.condF rfl ?_ | refine JX.blockE ?_))
    obtain rfl : i = n := by omega
    exact JX.ret1 rfl (fun a w' st => ⟨st.kp, N, zs, st.newOf rfl (by (repeat' first | exact HSub.nil _ | exact HSub.hd | exact HSub.in0 | exact HSub.refl _ | refine HSub.skip ?_ | refine HSub.skipN ?_)), hO, hz, hci, by rw [hval, List.take_of_length_le (by omega)]⟩)


section
variable {c : Cx} {Q : Exit → Act → World → Prop} {m : Mode} {F : SFrame} {H : SHeap} {r : List SOp} {g : Option (Option Tmp × Bool)} {ns : Bool} {d : Tmp} {ty t t' : TypeId} {x y : Operand} {i : Nat}
theorem r_toU64 {k : IntKind} [TI c.P t k] [TI c.P t' .u64] (hd : dstOk c.n (some d) = true) (hg : guardF F g = some true) (hx : ev F x = some (.int k i)) (hi : i < 18446744073709551616) (h : JO c Q m r ((d, uv i) :: F) H) : JO c Q m (⟨some d, .convert t t' x, ty, g, .mov, ns⟩ :: r) F H :=
  r_convK (k' := .u64) (i : Int) hd hg hx (u64_in hi) h
end

theorem pow8 (r : Nat) : 2 ^ (8 * r) = 256 ^ r := by rw [Nat.pow_mul]
theorem pow32 (j : Nat) : W32 ^ j = 256 ^ (4 * j) := by rw [Nat.pow_mul]
theorem abs_or {z b r : Nat} (hz : 256 ^ (r + 1) ∣ z) (hb : b < 256) : z ||| b * 256 ^ r = z + b * 256 ^ r := by
  obtain ⟨a, rfl⟩ := hz
  have h1 : b * 256 ^ r < 2 ^ (8 * (r + 1)) := by
    rw [pow8, Nat.pow_succ, Nat.mul_comm]
    exact Nat.mul_lt_mul_of_pos_left hb (Nat.pow_pos (by decide))
  have := Nat.two_pow_add_eq_or_of_lt h1 a
  rw [pow8] at this
  exact this.symm
theorem pow3_le {r : Nat} (hr : r < 4) : 256 ^ r ≤ 16777216 := by
  have := Nat.pow_le_pow_right (n := 256) (by decide) (show r ≤ 3 by omega)
  simpa using this

set_option maxHeartbeats 8000000 in
theorem c_abs (w : World) (p : Bool) (l : List UInt8) (hl : l.length ≤ 3000000000) :
    Calls Tryd.prog 26 #[wv p l] w (Ret fun v w' => Kp [] w w' ∧ ∃ N zs, New N w w' ∧ OwnU N v zs.length zs ∧ Dig W32 zs ∧ val W32 zs = bval (bts l)) := by
  have hbl := bts_len l
  refine calls_of_S [⟨6, 2, [], []⟩] [] (by simp) [] Tryd.func26 rfl mixed (by kernel_rfl) Tryd.ntmps26 Tryd.results26 rfl ⟨by simp, by simp⟩ (by simp) ?_
  simp only [toS, textOps, toSOp, kindAt, kindOf, odAt, sopsAt, ordOf, zipF]
  (repeat' (first | refine JC.seq ?_ | refine JC.ops ?_ | refine JO.nil ?_ | refine JX.thenN ?_ | (apply r_fieldAddr; (iterate 3 exact rfl)) | (apply r_assign; (iterate 3 exact rfl)) | (apply r_load; (iterate 4 exact rfl); exact at0; exact rfl) | (apply r_addN (j := 4); (iterate 4 exact rfl); omega) | (apply r_divN (j := 4); (iterate 4 exact rfl); omega) | (apply r_sub1; (iterate 4 exact rfl); omega) | (apply r_lenS; (iterate 3 exact rfl)) | (apply r_boxA; (iterate 4 exact rfl); intro _)))
  rename_i b1
  refine r_make (n := (l.length + 4 - 1) / 4) rfl rfl rfl rfl rfl (by omega) (by omega) (fun b5 => ?_)
  have hO := own_zerosU b5 ((l.length + 4 - 1) / 4) (by simp only [maxLen]; omega)
  generalize hnw : (l.length + 4 - 1) / 4 = nw at hO ⊢
  (repeat' (first | refine JC.seq ?_ | refine JC.ops ?_ | refine JO.nil ?_ | refine JX.thenN ?_ | (apply r_move; (iterate 3 exact rfl)) | (apply r_fieldAddr; (iterate 3 exact rfl)) | (apply r_assign; (iterate 3 exact rfl)) | (apply r_load; (iterate 4 exact rfl); exact at1; exact rfl) | (apply r_lenS; (iterate 3 exact rfl)) | refine JC.block ?_))
  refine JC.loopH (ι := Nat × SHeap × List Nat) ⟨fun z => [(16, nv z.1), (15, nv l.length), (3, .slice (some ⟨b5, 0, none⟩) nw nw), (1, .pointer (some ⟨b1, 0, none⟩))], fun z => (b1, .cells #[.bool p, sv l] 32) :: (z.2.1 ++ []),
    fun z => z.1 ≤ l.length ∧ OwnU z.2.1 (.slice (some ⟨b5, 0, none⟩) nw nw) nw z.2.2 ∧ (∀ x ∈ z.2.2, x < W32) ∧ (∀ j, 256 ^ min 4 (l.length - z.1 - 4 * j) ∣ z.2.2.getD j 0) ∧ val W32 z.2.2 = 256 ^ (l.length - z.1) * bval ((bts l).take z.1), fun z => l.length - z.1⟩
    (0, _, _) ⟨Nat.zero_le _, hO, fun x hx => by obtain ⟨a, _, rfl⟩ := List.mem_map.1 hx; decide, fun j => by
      show _ ∣ (tab nw fun _ => 0).getD j 0
      rw [tab_zero]; exact Nat.dvd_zero _, by
      show val W32 (tab nw fun _ => 0) = _
      rw [val_zeros, List.take_zero, bval_nil, Nat.mul_zero]⟩ (by repeat first | exact trivial | refine ⟨rfl, ?_⟩) (by exact HSub.at 1 rfl (HSub.at 0 rfl (HSub.nil _))) (fun z hz => ?_)
  clear hO
  obtain ⟨i, N, zs⟩ := z
  obtain ⟨hi, hO, hz, hdv, hval⟩ := hz
  dsimp only at hi hO hz hdv hval ⊢
  have hlz := hO.len
  by_cases hin : i < l.length
  · have hb256 : (bts l).getD i 0 < 256 := bts_lt
    have hbb : (bts l).getD i 0 < 18446744073709551616 := by omega
    obtain ⟨k, hk⟩ : ∃ k, k = l.length - 1 - i := ⟨_, rfl⟩
    have hki : l.length - i = k + 1 := by omega
    have hzk : zs.getD (k / 4) 0 < 4294967296 := mem_getD_lt (b := W32) (by decide) hz _
    have hr4 : k % 4 < 4 := Nat.mod_lt _ (by decide)
    have hp3 := pow3_le hr4
    have hsh : (bts l).getD i 0 * 256 ^ (k % 4) < 4294967296 := by
      have := Nat.mul_le_mul (show (bts l).getD i 0 ≤ 255 by omega) hp3
      omega
    have hdk : 256 ^ (k % 4 + 1) ∣ zs.getD (k / 4) 0 := by
      have := hdv (k / 4)
      rwa [hki, show min 4 (k + 1 - 4 * (k / 4)) = k % 4 + 1 by omega] at this
    have hor := abs_or hdk hb256
    have horlt : zs.getD (k / 4) 0 + (bts l).getD i 0 * 256 ^ (k % 4) < 4294967296 := by rw [← hor]; exact or32_lt hzk hsh
    have hkn : k / 4 < nw := by omega
    (repeat' (first | refine JC.seq ?_ | refine JC.ops ?_ | refine JC.opsD ?_ | refine JO.nil ?_ | refine JX.thenN ?_ | (apply r_move; (iterate 3 exact rfl)) | (apply r_fieldAddr; (iterate 3 exact rfl)) | (apply r_assign; (iterate 3 exact rfl)) | (apply r_load; (iterate 4 exact rfl); exact at0; exact rfl) | (apply r_divN (j := 4); (iterate 4 exact rfl); omega) | (apply r_modN (j := 4); (iterate 4 exact rfl); omega) | (apply r_mulN (i := 8); (iterate 4 exact rfl); (first | assumption | omega)) | (apply r_sub1; (iterate 4 exact rfl); omega) | (apply r_subN; (iterate 4 exact rfl); omega) | (apply r_toU64; (iterate 3 exact rfl); (first | assumption | omega)) | (apply r_idxU; (iterate 4 exact rfl); (first | assumption | exact WU.rd (by assumption) rfl [] | exact OwnU.rd (by assumption)); (first | assumption | omega)) | (apply r_ldU; (iterate 4 exact rfl); (first | assumption | exact WU.rd (by assumption) rfl [] | exact OwnU.rd (by assumption)); (repeat' first | exact HSub.nil _ | exact HSub.hd | exact HSub.in0 | exact HSub.refl _ | refine HSub.skip ?_ | refine HSub.skipN ?_); (first | assumption | omega)) | (apply r_lenS; (iterate 3 exact rfl)) | (apply r_idxS; (iterate 4 exact rfl); (first | assumption | omega)) | (apply r_shlU; (iterate 4 exact rfl); (first | assumption | omega)) | (apply r_lss; (iterate 4 exact rfl); all_goals intro hc; all_goals try (exfalso; omega)) | refine JC.skip ?_ | refine JC.condT rfl ?_ | refine JC.block ?_))
    rw [← hk, pow8, Nat.mod_eq_of_lt (show (bts l).getD i 0 * 256 ^ (k % 4) < 18446744073709551616 by omega)]
    refine r_orV (zs.getD (k / 4) 0 + (bts l).getD i 0 * 256 ^ (k % 4)) rfl rfl rfl rfl (by omega) hor ?_
    (repeat' (first | (apply r_idxU; (iterate 4 exact rfl); (first | assumption | exact WU.rd (by assumption) rfl [] | exact OwnU.rd (by assumption)); (first | assumption | omega))))
    refine r_stU (A := [_]) hO rfl rfl (by first | trivial | exact ⟨rfl, rfl⟩) rfl rfl (by omega) (fun N1 hO1 => ?_)
    (repeat' (first | refine JC.ops ?_ | refine JO.nil ?_ | refine JX.thenN ?_ | (apply r_move; (iterate 3 exact rfl)) | (apply r_add1; (iterate 4 exact rfl); omega) | refine JX.blockN ?_))
    refine JX.roundH (i + 1, N1, _) ⟨by dsimp only; omega, hO1, set_lt hz horlt, fun j => ?_, ?_⟩ (by dsimp only; omega) (by repeat first | exact trivial | refine ⟨rfl, ?_⟩) (by (first | exact HSub.refl _ | (repeat' first | exact HSub.nil _ | exact HSub.refl _ | refine HSub.at 0 rfl ?_ | refine HSub.at 1 rfl ?_ | refine HSub.at 2 rfl ?_ | refine HSub.at 3 rfl ?_ | refine HSub.at 4 rfl ?_ | refine HSub.at 5 rfl ?_ | refine HSub.at 6 rfl ?_ | refine HSub.at 7 rfl ?_)))
    · dsimp only
      by_cases hj : k / 4 = j
      · subst hj
        rw [getD_set_self (by omega), show min 4 (l.length - (i + 1) - 4 * (k / 4)) = k % 4 by omega]
        exact Nat.dvd_add (Nat.dvd_trans (Nat.pow_dvd_pow 256 (Nat.le_succ _)) hdk) (Nat.dvd_mul_left _ _)
      · rw [getD_set_ne hj]
        exact Nat.dvd_trans (Nat.pow_dvd_pow 256 (by omega)) (hdv j)
    · dsimp only
      have e := val_set (b := W32) (l := zs) (j := k / 4) (u := zs.getD (k / 4) 0 + (bts l).getD i 0 * 256 ^ (k % 4)) (by omega)
      rw [Nat.mul_add] at e
      have e2 : W32 ^ (k / 4) * ((bts l).getD i 0 * 256 ^ (k % 4)) = 256 ^ k * (bts l).getD i 0 := by
        rw [pow32, Nat.mul_left_comm, ← Nat.pow_add, show 4 * (k / 4) + k % 4 = k by omega, Nat.mul_comm]
      rw [bval_take _ _ (by omega), show l.length - (i + 1) = k by omega, Nat.mul_add, ← Nat.mul_assoc]
      rw [hki, Nat.pow_succ] at hval
      omega
  · (repeat' (first | refine JC.seq ?_ | refine JC.ops ?_ | refine JO.nil ?_ | refine JX.thenN ?_ | (apply r_move; (iterate 3 exact rfl)) | (apply r_lss; (iterate 4 exact rfl); all_goals intro hc; all_goals try (exfalso; omega)) | refine JX.thenE ?_ | refine JC.exit ?_ | refine JC.condF rfl ?_ | refine JX.blockE ?_))
    refine r_call0 trivial rfl rfl rfl (fun w hk hs => c_norm w _ _ _ _ (hO.rd.at hk hs (by (repeat' first | exact HSub.nil _ | exact HSub.hd | exact HSub.in0 | exact HSub.refl _ | refine HSub.skip ?_ | refine HSub.skipN ?_))) (by omega)) fun w v w' _ _ _ hR => ?_
    obtain ⟨q, hq, rfl, hnq⟩ := hR
    (repeat' (first | refine JO.nil ?_ | refine JX.thenN ?_ | (apply r_assign; (iterate 3 exact rfl)) | refine JC.ret ?_))
    have hown := hO.hd hq
    rw [← hnq] at hown
    have hql : (nrm zs).length = q := hown.len
    refine JX.ret1 rfl (fun a w' st => ⟨st.kp, N, nrm zs, st.newOf rfl (by (repeat' first | exact HSub.nil _ | exact HSub.hd | exact HSub.in0 | exact HSub.refl _ | refine HSub.skip ?_ | refine HSub.skipN ?_)), by rw [hql]; exact hown, Dig.of hz, ?_⟩)
    obtain rfl : i = l.length := by omega
    rw [val_nrm, hval, Nat.sub_self, Nat.pow_zero, Nat.one_mul, List.take_of_length_le (by omega)]


theorem small_round {d W r x Z cur : Nat} (hc : cur = r * W + x) : x + W * (d * Z + r) = d * (cur / d + W * Z) + cur % d := by
  have h1 := Nat.div_add_mod cur d
  rw [Nat.mul_add, Nat.mul_add, Nat.mul_left_comm W d Z, Nat.mul_comm W r]
  omega
theorem drop_set {l : List Nat} {i u : Nat} : (l.set i u).drop (i + 1) = l.drop (i + 1) := by
  apply List.ext_getElem?
  intro j
  rw [List.getElem?_drop, List.getElem?_drop, List.getElem?_set_ne (by omega)]

set_option maxHeartbeats 8000000 in
theorem c_small (w : World) (v : Value) (n d : Nat) (xs : List Nat) (hv : WU w v n xs) (hx : ∀ x ∈ xs, x < W32) (hd0 : 0 < d) (hd1 : d < 4294967296) (hn : n ≤ 10000000000) :
    Calls Tryd.prog 56 #[v, uv d] w (Ret fun v w' => Kp [] w w' ∧ ∃ v1 N zs, v = .tuple #[v1, uv (val W32 xs % d)] ∧ New N w w' ∧ OwnU N v1 zs.length zs ∧ Dig W32 zs ∧ val W32 zs = val W32 xs / d) := by
  have hlx := hv.len
  refine calls_of_S [⟨7, 11, [], []⟩] [] (by simp) [] Tryd.func56 rfl mixed (by kernel_rfl) Tryd.ntmps56 Tryd.results56 rfl ⟨by simp, by simp⟩ (by simp) ?_
  simp only [toS, textOps, toSOp, kindAt, kindOf, odAt, sopsAt, ordOf, zipF]
  (repeat' (first | refine JC.seq ?_ | refine JC.ops ?_ | refine JO.nil ?_ | refine JX.thenN ?_ | (apply r_move; (iterate 3 exact rfl)) | (apply r_assign; (iterate 3 exact rfl)) | (apply r_lenU; (iterate 3 exact rfl); (first | assumption | exact WU.rd (by assumption) rfl [] | exact OwnU.rd (by assumption)))))
  refine r_make (n := n) rfl rfl rfl rfl rfl (by omega) (by omega) (fun b5 => ?_)
  have hO := own_zerosU b5 n (by simp only [maxLen]; omega)
  (repeat' (first | refine JC.seq ?_ | refine JC.ops ?_ | refine JO.nil ?_ | refine JX.thenN ?_ | (apply r_move; (iterate 3 exact rfl)) | (apply r_assign; (iterate 3 exact rfl)) | (apply r_sub; (iterate 4 exact rfl); omega) | (apply r_lenU; (iterate 3 exact rfl); (first | assumption | exact WU.rd (by assumption) rfl [] | exact OwnU.rd (by assumption))) | refine JC.block ?_))
  refine JC.loopH (ι := Nat × Nat × SHeap × List Nat) ⟨fun z => [(8, iv ((z.1 : Int) - 1)), (7, uv z.2.1), (6, .slice (some ⟨b5, 0, none⟩) n n), (0, v), (1, uv d)], fun z => z.2.2.1 ++ [],
    fun z => z.1 ≤ n ∧ OwnU z.2.2.1 (.slice (some ⟨b5, 0, none⟩) n n) n z.2.2.2 ∧ (∀ x ∈ z.2.2.2, x < W32) ∧ z.2.1 < d ∧ val W32 (xs.drop z.1) = d * val W32 (z.2.2.2.drop z.1) + z.2.1, fun z => z.1⟩
    (n, 0, _, _) ⟨Nat.le_refl _, hO, fun x hx => by obtain ⟨a, _, rfl⟩ := List.mem_map.1 hx; decide, hd0, by
      show val W32 (xs.drop n) = d * val W32 ((tab n fun _ => 0).drop n) + 0
      rw [val_drop_nil (by omega), val_drop_nil (by simp [tab])]; rfl⟩ (by repeat first | exact trivial | refine ⟨rfl, ?_⟩) (by (first | exact HSub.refl _ | (repeat' first | exact HSub.nil _ | exact HSub.refl _ | refine HSub.at 0 rfl ?_ | refine HSub.at 1 rfl ?_ | refine HSub.at 2 rfl ?_ | refine HSub.at 3 rfl ?_ | refine HSub.at 4 rfl ?_ | refine HSub.at 5 rfl ?_ | refine HSub.at 6 rfl ?_ | refine HSub.at 7 rfl ?_))) (fun z hz => ?_)
  clear hO
  obtain ⟨j, r, N, zs⟩ := z
  obtain ⟨hj, hO, hz, hr, hval⟩ := hz
  dsimp only at hj hO hz hr hval ⊢
  have hlz := hO.len
  rcases j with _ | q
  · (repeat' (first | refine JC.seq ?_ | refine JC.ops ?_ | refine JO.nil ?_ | refine JX.thenN ?_ | (apply r_move; (iterate 3 exact rfl)) | (apply r_geq; (iterate 4 exact rfl); all_goals intro hc; all_goals try (exfalso; omega)) | refine JX.thenE ?_ | refine JC.exit ?_ | refine JC.condF rfl ?_ | refine JX.blockE ?_))
    refine r_call0 trivial rfl rfl rfl (fun w hk hs => c_norm w _ _ _ _ (hO.rd.at hk hs (by (repeat' first | exact HSub.nil _ | exact HSub.hd | exact HSub.in0 | exact HSub.refl _ | refine HSub.skip ?_ | refine HSub.skipN ?_))) (by omega)) fun w v w' _ _ _ hR => ?_
    obtain ⟨q, hq, rfl, hnq⟩ := hR
    (repeat' (first | refine JO.nil ?_ | refine JX.thenN ?_ | (apply r_move; (iterate 3 exact rfl)) | (apply r_assign; (iterate 3 exact rfl)) | refine JC.ret ?_))
    have hown := hO.hd hq
    rw [← hnq] at hown
    have hql : (nrm zs).length = q := hown.len
    rw [List.drop_zero, List.drop_zero] at hval
    have hmod : val W32 xs % d = r := by rw [hval, Nat.mul_add_mod, Nat.mod_eq_of_lt hr]
    have hdiv : val W32 xs / d = val W32 zs := by rw [hval, Nat.mul_add_div hd0, Nat.div_eq_of_lt hr, Nat.add_zero]
    refine JX.ret2 rfl rfl (fun a w' st => ⟨st.kp, _, N, nrm zs, by rw [hmod], st.newOf rfl (by (repeat' first | exact HSub.nil _ | exact HSub.hd | exact HSub.in0 | exact HSub.refl _ | refine HSub.skip ?_ | refine HSub.skipN ?_)), by rw [hql]; exact hown, Dig.of hz, by rw [val_nrm, hdiv]⟩)
  · have hiv : iv (((q + 1 : Nat) : Int) - 1) = nv q := by
      show iv _ = iv _
      congr 1
      omega
    rw [hiv]
    have hxq : xs.getD q 0 < 4294967296 := mem_getD_lt (b := W32) (by decide) hx q
    (repeat' (first | refine JC.seq ?_ | refine JC.ops ?_ | refine JC.opsD ?_ | refine JO.nil ?_ | refine JX.thenN ?_ | (apply r_move; (iterate 3 exact rfl)) | (apply r_assign; (iterate 3 exact rfl)) | (apply r_shl32; (iterate 4 exact rfl); (first | assumption | omega)) | (apply r_or32; (iterate 4 exact rfl); (first | assumption | omega | exact ⟨by assumption, by assumption⟩)) | (apply r_idxU; (iterate 4 exact rfl); (first | assumption | exact WU.rd (by assumption) rfl [] | exact OwnU.rd (by assumption)); (first | assumption | omega)) | (apply r_ldU; (iterate 4 exact rfl); (first | assumption | exact WU.rd (by assumption) rfl [] | exact OwnU.rd (by assumption)); (repeat' first | exact HSub.nil _ | exact HSub.hd | exact HSub.in0 | exact HSub.refl _ | refine HSub.skip ?_ | refine HSub.skipN ?_); (first | assumption | omega)) | (apply r_quoU; (iterate 4 exact rfl); (first | assumption | omega)) | (apply r_remU; (iterate 4 exact rfl); (first | assumption | omega)) | (apply r_geq; (iterate 4 exact rfl); all_goals intro hc; all_goals try (exfalso; omega)) | refine JC.skip ?_ | refine JC.condT rfl ?_ | refine JC.block ?_))
    refine r_stU (A := []) hO rfl rfl (by first | trivial | exact ⟨rfl, rfl⟩) rfl rfl (by omega) (fun N' hO' => ?_)
    (repeat' (first | refine JC.ops ?_ | refine JO.nil ?_ | refine JX.thenN ?_ | (apply r_move; (iterate 3 exact rfl)) | (apply r_assign; (iterate 3 exact rfl)) | (apply r_sub; (iterate 4 exact rfl); omega) | refine JX.blockN ?_))
    refine JX.roundH (q, _, N', _) ⟨by dsimp only; omega, hO', set_lt hz ?_, Nat.mod_lt _ hd0, ?_⟩ (by dsimp only; omega) (by repeat first | exact trivial | refine ⟨rfl, ?_⟩) (by (first | exact HSub.refl _ | (repeat' first | exact HSub.nil _ | exact HSub.refl _ | refine HSub.at 0 rfl ?_ | refine HSub.at 1 rfl ?_ | refine HSub.at 2 rfl ?_ | refine HSub.at 3 rfl ?_ | refine HSub.at 4 rfl ?_ | refine HSub.at 5 rfl ?_ | refine HSub.at 6 rfl ?_ | refine HSub.at 7 rfl ?_)))
    · refine (Nat.div_lt_iff_lt_mul hd0).2 ?_
      show _ < 4294967296 * d
      omega
    · dsimp only
      rw [val_drop (by omega), val_drop (l := zs.set q _) (by simp; omega), drop_set, getD_set_self (by omega), hval]
      exact small_round rfl


theorem un_low {s : Nat} (hs : s ≤ 31) (x : Nat) (hx : x < 4294967296) : x * 2 ^ (32 - s) % 18446744073709551616 % 4294967296 = 2 ^ (32 - s) * (x % 2 ^ s) := by
  have h1 : x * 2 ^ (32 - s) < 18446744073709551616 := by
    have h2 : 2 ^ (32 - s) ≤ 4294967296 := by
      have := Nat.pow_le_pow_right (n := 2) (by decide) (show 32 - s ≤ 32 by omega)
      simpa using this
    have := Nat.mul_le_mul (show x ≤ 4294967295 by omega) h2
    omega
  rw [Nat.mod_eq_of_lt h1, low_shift x (32 - s) (by omega), show 32 - (32 - s) = s by omega]
theorem un_round {s P A x : Nat} (hs : s ≤ 31) : (A + P * 4294967296 * x) / 2 ^ s = A / 2 ^ s + P * (2 ^ (32 - s) * (x % 2 ^ s)) + P * 4294967296 * (x / 2 ^ s) := by
  have hp : 0 < 2 ^ s := Nat.pow_pos (by decide)
  have e : (4294967296 : Nat) = 2 ^ (32 - s) * 2 ^ s := by rw [← Nat.pow_add, show 32 - s + s = 32 by omega]
  have e2 : A + P * 4294967296 * x = A + 2 ^ s * (P * (2 ^ (32 - s) * (x % 2 ^ s)) + P * 4294967296 * (x / 2 ^ s)) := by
    have h1 : x = x % 2 ^ s + 2 ^ s * (x / 2 ^ s) := (Nat.mod_add_div x (2 ^ s)).symm
    have h2 : P * 4294967296 * x = P * 4294967296 * (x % 2 ^ s) + 2 ^ s * (P * 4294967296 * (x / 2 ^ s)) := by
      conv => lhs; rw [h1]
      rw [Nat.mul_add, Nat.mul_left_comm]
    have h3 : P * 4294967296 * (x % 2 ^ s) = 2 ^ s * (P * (2 ^ (32 - s) * (x % 2 ^ s))) := by
      conv => lhs; rw [e]
      simp only [Nat.mul_left_comm, Nat.mul_comm, Nat.mul_assoc]
    rw [h2, h3, Nat.mul_add]
  rw [e2, Nat.add_mul_div_left _ _ hp, Nat.add_assoc]
set_option maxHeartbeats 8000000 in
theorem c_unshift (w : World) (v : Value) (n s : Nat) (xs : List Nat) (hv : WU w v n xs) (hx : ∀ x ∈ xs, x < W32) (hs31 : s ≤ 31) (hn : n ≤ 10000000000) :
    Calls Tryd.prog 60 #[v, nv s] w (Ret fun v w' => Kp [] w w' ∧ ∃ N zs, New N w w' ∧ OwnU N v zs.length zs ∧ Dig W32 zs ∧ val W32 zs = val W32 xs / 2 ^ s) := by
  have hlx := hv.len
  have hp0 : 0 < 2 ^ s := Nat.pow_pos (by decide)
  refine calls_of_S [⟨5, 3, [], []⟩, ⟨7, 3, [], []⟩] [] (by simp) [] Tryd.func60 rfl mixed (by kernel_rfl) Tryd.ntmps60 Tryd.results60 rfl ⟨by simp, by simp⟩ (by simp) ?_
  simp only [toS, textOps, toSOp, kindAt, kindOf, odAt, sopsAt, ordOf, zipF]
  (repeat' (first | refine JC.seq ?_ | refine JC.ops ?_ | refine JO.nil ?_ | refine JX.thenN ?_ | (apply r_move; (iterate 3 exact rfl)) | (apply r_assign; (iterate 3 exact rfl)) | (apply r_lenU; (iterate 3 exact rfl); (first | assumption | exact WU.rd (by assumption) rfl [] | exact OwnU.rd (by assumption)))))
  refine r_make (n := n) rfl rfl rfl rfl rfl (by omega) (by omega) (fun b5 => ?_)
  have hO := own_zerosU b5 n (by simp only [maxLen]; omega)
  (repeat' (first | refine JC.seq ?_ | refine JC.ops ?_ | refine JO.nil ?_ | refine JX.thenN ?_ | (apply r_move; (iterate 3 exact rfl)) | (apply r_assign; (iterate 3 exact rfl)) | (apply r_lenU; (iterate 3 exact rfl); (first | assumption | exact WU.rd (by assumption) rfl [] | exact OwnU.rd (by assumption))) | refine JC.block ?_))
  refine JC.loopH (ι := Nat × SHeap × List Nat) ⟨fun z => [(13, nv z.1), (12, nv n), (11, v), (5, .slice (some ⟨b5, 0, none⟩) n n), (0, v), (1, nv s)], fun z => z.2.1 ++ [],
    fun z => z.1 ≤ n ∧ OwnU z.2.1 (.slice (some ⟨b5, 0, none⟩) n n) n z.2.2 ∧ (∀ x ∈ z.2.2, x < W32) ∧ (0 < z.1 → z.2.2.getD (z.1 - 1) 0 < 2 ^ (32 - s)) ∧ val W32 z.2.2 = val W32 (xs.take z.1) / 2 ^ s ∧ ∀ j, z.1 ≤ j → z.2.2.getD j 0 = 0, fun z => n - z.1⟩
    (0, _, _) ⟨Nat.zero_le _, hO, fun x hx => by obtain ⟨a, _, rfl⟩ := List.mem_map.1 hx; decide, fun h => absurd h (Nat.lt_irrefl 0), by
      show val W32 (tab n fun _ => 0) = _
      rw [val_zeros]; simp [val], fun j _ => tab_zero _ j⟩ (by repeat first | exact trivial | refine ⟨rfl, ?_⟩) (by (first | exact HSub.refl _ | (repeat' first | exact HSub.nil _ | exact HSub.refl _ | refine HSub.at 0 rfl ?_ | refine HSub.at 1 rfl ?_ | refine HSub.at 2 rfl ?_ | refine HSub.at 3 rfl ?_ | refine HSub.at 4 rfl ?_ | refine HSub.at 5 rfl ?_ | refine HSub.at 6 rfl ?_ | refine HSub.at 7 rfl ?_))) (fun z hz => ?_)
  clear hO
  obtain ⟨i, N, zs⟩ := z
  obtain ⟨hi, hO, hz, hci, hval, hzero⟩ := hz
  dsimp only at hi hO hz hci hval hzero ⊢
  have hlz := hO.len
  by_cases hin : i < n
  · have hxi : xs.getD i 0 < 4294967296 := mem_getD_lt (b := W32) (by decide) hx i
    have hsh : xs.getD i 0 / 2 ^ s < 4294967296 := Nat.lt_of_le_of_lt (Nat.div_le_self _ _) hxi
    have hlt32 : xs.getD i 0 / 2 ^ s < 2 ^ (32 - s) := by
      refine (Nat.div_lt_iff_lt_mul hp0).2 ?_
      rw [← Nat.pow_add, show 32 - s + s = 32 by omega]
      exact hxi
    have hor1 : zs.getD i 0 ||| xs.getD i 0 / 2 ^ s = xs.getD i 0 / 2 ^ s := by rw [hzero i (Nat.le_refl _), Nat.zero_or]
    have hzi : zs.getD i 0 < 4294967296 := mem_getD_lt (b := W32) (by decide) hz i
    (repeat' (first | refine JC.seq ?_ | refine JC.ops ?_ | refine JC.opsD ?_ | refine JO.nil ?_ | refine JX.thenN ?_ | (apply r_move; (iterate 3 exact rfl)) | (apply r_assign; (iterate 3 exact rfl)) | (apply r_idxU; (iterate 4 exact rfl); (first | assumption | exact WU.rd (by assumption) rfl [] | exact OwnU.rd (by assumption)); (first | assumption | omega)) | (apply r_ldU; (iterate 4 exact rfl); (first | assumption | exact WU.rd (by assumption) rfl [] | exact OwnU.rd (by assumption)); (repeat' first | exact HSub.nil _ | exact HSub.hd | exact HSub.in0 | exact HSub.refl _ | refine HSub.skip ?_ | refine HSub.skipN ?_); (first | assumption | omega)) | (apply r_shrU; (iterate 4 exact rfl); (first | assumption | omega)) | (apply r_lss; (iterate 4 exact rfl); all_goals intro hc; all_goals try (exfalso; omega)) | refine JC.skip ?_ | refine JC.condT rfl ?_ | refine JC.block ?_))
    refine r_orV (xs.getD i 0 / 2 ^ s) rfl rfl rfl rfl (by omega) hor1 ?_
    (repeat' (first | (apply r_idxU; (iterate 4 exact rfl); (first | assumption | exact WU.rd (by assumption) rfl [] | exact OwnU.rd (by assumption)); (first | assumption | omega))))
    refine r_stU (A := []) hO rfl rfl (by first | trivial | exact ⟨rfl, rfl⟩) rfl rfl (by omega) (fun N1 hO1 => ?_)
    have e1 := val_set (b := W32) (l := zs) (j := i) (u := xs.getD i 0 / 2 ^ s) (by omega)
    rw [hzero i (Nat.le_refl _), Nat.mul_zero, Nat.add_zero] at e1
    by_cases hi0 : 0 < i
    · have hzp : zs.getD (i - 1) 0 < 4294967296 := mem_getD_lt (b := W32) (by decide) hz (i - 1)
      have hul := un_low hs31 _ hxi
      have hul2 : 2 ^ (32 - s) * (xs.getD i 0 % 2 ^ s) < 4294967296 := by rw [← hul]; exact Nat.mod_lt _ (by decide)
      have hor2 : zs.getD (i - 1) 0 ||| 2 ^ (32 - s) * (xs.getD i 0 % 2 ^ s) = zs.getD (i - 1) 0 + 2 ^ (32 - s) * (xs.getD i 0 % 2 ^ s) := by
        rw [Nat.or_comm, ← Nat.two_pow_add_eq_or_of_lt (hci hi0), Nat.add_comm]
      have hor3 : zs.getD (i - 1) 0 + 2 ^ (32 - s) * (xs.getD i 0 % 2 ^ s) < 4294967296 := by rw [← hor2]; exact or32_lt hzp hul2
      have hget : (zs.set i (xs.getD i 0 / 2 ^ s)).getD (i - 1) 0 = zs.getD (i - 1) 0 := getD_set_ne (by omega)
      have hsub : ((32 : Int) - (s : Int)) = ((32 - s : Nat) : Int) := by omega
      (repeat' (first | refine JC.seq ?_ | refine JC.ops ?_ | refine JC.opsD ?_ | refine JO.nil ?_ | refine JX.thenN ?_ | (apply r_move; (iterate 3 exact rfl)) | (apply r_sub1; (iterate 4 exact rfl); omega) | (apply r_sub; (iterate 4 exact rfl); omega) | (apply r_idxU; (iterate 4 exact rfl); (first | assumption | exact WU.rd (by assumption) rfl [] | exact OwnU.rd (by assumption)); (first | assumption | omega)) | (apply r_ldU; (iterate 4 exact rfl); (first | assumption | exact WU.rd (by assumption) rfl [] | exact OwnU.rd (by assumption)); (repeat' first | exact HSub.nil _ | exact HSub.hd | exact HSub.in0 | exact HSub.refl _ | refine HSub.skip ?_ | refine HSub.skipN ?_); (first | assumption | omega)) | (apply r_gtr; (iterate 4 exact rfl); all_goals intro hc; all_goals try (exfalso; omega)) | refine JC.condT rfl ?_))
      refine r_shlU (j := 32 - s) rfl rfl rfl (by first | rfl | exact congrArg (fun z => some (Value.int .i64 z)) hsub) (by omega) ?_
      (repeat' (first | (apply r_maskU; (iterate 4 exact rfl); (first | assumption | omega))))
      refine r_orV (zs.getD (i - 1) 0 + 2 ^ (32 - s) * (xs.getD i 0 % 2 ^ s)) rfl rfl rfl rfl (by rw [hget, hul]; omega) (by rw [hget, hul]; exact hor2) ?_
      (repeat' (first | (apply r_idxU; (iterate 4 exact rfl); (first | assumption | exact WU.rd (by assumption) rfl [] | exact OwnU.rd (by assumption)); (first | assumption | omega))))
      refine r_stU (A := []) hO1 rfl rfl (by first | trivial | exact ⟨rfl, rfl⟩) rfl rfl (by omega) (fun N2 hO2 => ?_)
      (repeat' (first | refine JC.ops ?_ | refine JO.nil ?_ | refine JX.thenN ?_ | (apply r_move; (iterate 3 exact rfl)) | (apply r_add1; (iterate 4 exact rfl); omega) | refine JX.blockN ?_))
      refine JX.roundH (i + 1, N2, _) ⟨by dsimp only; omega, hO2, set_lt (set_lt hz hsh) hor3, fun _ => ?_, ?_, fun j hj => ?_⟩ (by dsimp only; omega) (by repeat first | exact trivial | refine ⟨rfl, ?_⟩) (by (first | exact HSub.refl _ | (repeat' first | exact HSub.nil _ | exact HSub.refl _ | refine HSub.at 0 rfl ?_ | refine HSub.at 1 rfl ?_ | refine HSub.at 2 rfl ?_ | refine HSub.at 3 rfl ?_ | refine HSub.at 4 rfl ?_ | refine HSub.at 5 rfl ?_ | refine HSub.at 6 rfl ?_ | refine HSub.at 7 rfl ?_)))
      · dsimp only
        rw [Nat.add_sub_cancel, getD_set_ne (by omega), getD_set_self (by omega)]
        exact hlt32
      · dsimp only
        have e2 := val_set (b := W32) (l := zs.set i (xs.getD i 0 / 2 ^ s)) (j := i - 1) (u := zs.getD (i - 1) 0 + 2 ^ (32 - s) * (xs.getD i 0 % 2 ^ s)) (by simp; omega)
        rw [hget] at e2
        have e3 := un_round (s := s) (P := W32 ^ (i - 1)) (A := val W32 (xs.take i)) (x := xs.getD i 0) hs31
        have e4 : W32 ^ (i - 1) * 4294967296 = W32 ^ i := by
          conv => rhs; rw [show i = i - 1 + 1 by omega, Nat.pow_succ]
        rw [e4] at e3
        rw [val_take, e3, ← hval]
        rw [Nat.mul_add] at e2
        omega
      · dsimp only at hj ⊢
        rw [getD_set_ne (by omega), getD_set_ne (by omega)]
        exact hzero j (by omega)
    · obtain rfl : i = 0 := by omega
      (repeat' (first | refine JC.seq ?_ | refine JC.ops ?_ | refine JO.nil ?_ | refine JX.thenN ?_ | (apply r_move; (iterate 3 exact rfl)) | (apply r_add1; (iterate 4 exact rfl); omega) | (apply r_gtr; (iterate 4 exact rfl); all_goals intro hc; all_goals try (exfalso; omega)) | refine JC.skip ?_ | refine JC.condF rfl ?_ | refine JX.blockN ?_))
      refine JX.roundH (0 + 1, N1, _) ⟨by dsimp only; omega, hO1, set_lt hz hsh, fun _ => ?_, ?_, fun j hj => ?_⟩ (by dsimp only; omega) (by repeat first | exact trivial | refine ⟨rfl, ?_⟩) (by (first | exact HSub.refl _ | (repeat' first | exact HSub.nil _ | exact HSub.refl _ | refine HSub.at 0 rfl ?_ | refine HSub.at 1 rfl ?_ | refine HSub.at 2 rfl ?_ | refine HSub.at 3 rfl ?_ | refine HSub.at 4 rfl ?_ | refine HSub.at 5 rfl ?_ | refine HSub.at 6 rfl ?_ | refine HSub.at 7 rfl ?_)))
      · dsimp only
        rw [getD_set_self (by omega)]
        exact hlt32
      · dsimp only
        rw [e1, hval, val_take]
        simp [val]
      · dsimp only at hj ⊢
        rw [getD_set_ne (by omega)]
        exact hzero j (by omega)
  · (repeat' (first | refine JC.seq ?_ | refine JC.ops ?_ | refine JO.nil ?_ | refine JX.thenN ?_ | (apply r_move; (iterate 3 exact rfl)) | (apply r_lss; (iterate 4 exact rfl); all_goals intro hc; all_goals try (exfalso; omega)) | refine JX.thenE ?_ | refine JC.exit ?_ | refine JC.condF rfl ?_ | refine JX.blockE ?_))
    refine r_call0 trivial rfl rfl rfl (fun w hk hs => c_norm w _ _ _ _ (hO.rd.at hk hs (by (repeat' first | exact HSub.nil _ | exact HSub.hd | exact HSub.in0 | exact HSub.refl _ | refine HSub.skip ?_ | refine HSub.skipN ?_))) (by omega)) fun w v w' _ _ _ hR => ?_
    obtain ⟨q, hq, rfl, hnq⟩ := hR
    (repeat' (first | refine JO.nil ?_ | refine JX.thenN ?_ | (apply r_assign; (iterate 3 exact rfl)) | refine JC.ret ?_))
    have hown := hO.hd hq
    rw [← hnq] at hown
    have hql : (nrm zs).length = q := hown.len
    refine JX.ret1 rfl (fun a w' st => ⟨st.kp, N, nrm zs, st.newOf rfl (by (repeat' first | exact HSub.nil _ | exact HSub.hd | exact HSub.in0 | exact HSub.refl _ | refine HSub.skip ?_ | refine HSub.skipN ?_)), by rw [hql]; exact hown, Dig.of hz, ?_⟩)
    rw [val_nrm, hval, List.take_of_length_le (by omega)]


structure GivesD (v : Value) (xs ys : List Nat) (w : World) (r : Value) (w' : World) : Prop where
  ex : ∃ N1 N2 v1 v2 zs rs, r = .tuple #[v1, v2] ∧ New (N1 ++ N2) w w' ∧ OwnU N1 v1 zs.length zs ∧ (OwnU N2 v2 rs.length rs ∨ (N2 = [] ∧ v2 = v ∧ rs = xs)) ∧ Dig W32 zs ∧ Dig W32 rs ∧ val W32 xs = val W32 zs * val W32 ys + val W32 rs ∧ val W32 rs < val W32 ys

theorem val_len1 {b : Nat} {ys : List Nat} (h : ys.length = 1) : val b ys = ys.getD 0 0 := by
  match ys, h with
  | [y], _ => simp [val]

theorem kn_inv {A P z V D W Z T U : Nat} (hU : U = z + V * D) (h : A + P * U + V * (P * W * Z) = T) : A + P * z + V * (P * (D + W * Z)) = T := by
  subst hU
  rw [← h]
  simp only [Nat.mul_add, Nat.mul_assoc, Nat.mul_left_comm P V D]
  omega

set_option maxHeartbeats 16000000 in
theorem c_div (w : World) (v u : Value) (n k : Nat) (xs ys : List Nat) (hv : WU w v n xs) (hu : WU w u k ys) (hx : Dig W32 xs) (hy : Dig W32 ys) (h0 : 0 < val W32 ys) (hn : n ≤ 1000000000) (hk : k ≤ 1000000000) :
    Calls Tryd.prog 27 #[v, u] w (Ret fun r w' => Kp [] w w' ∧ GivesD v xs ys w r w') := by
  have hlx := hv.len
  have hly := hu.len
  have hk0 : 0 < k := by
    rcases Nat.eq_zero_or_pos k with h | h
    · subst h
      rw [List.eq_nil_of_length_eq_zero hly] at h0
      exact absurd h0 (Nat.lt_irrefl 0)
    · exact h
  refine calls_of_S [⟨11, 1, [], []⟩, ⟨16, 1, [], []⟩, ⟨17, 8, [], []⟩] [] (by simp) [] Tryd.func27 rfl mixed (by kernel_rfl) Tryd.ntmps27 Tryd.results27 rfl ⟨by simp, by simp⟩ (by simp) ?_
  simp only [toS, textOps, toSOp, kindAt, kindOf, odAt, sopsAt, ordOf, zipF]
  (repeat' (first | refine JC.seq ?_ | refine JC.ops ?_ | refine JO.nil ?_ | refine JX.thenN ?_ | (apply r_move; (iterate 3 exact rfl)) | (apply r_assign; (iterate 3 exact rfl))))
  refine r_call0 trivial rfl rfl rfl (fun w hk' hs => c_cmp w _ _ _ _ _ _ (hv.mono hk') (hu.mono hk') hx hy (by omega) (by omega)) fun w v w' _ _ _ hR => ?_
  subst hR
  by_cases hlt : val W32 xs < val W32 ys
  · have hneg := cmpV_neg.2 hlt
    (repeat' (first | refine JC.seq ?_ | refine JC.ops ?_ | refine JO.nil ?_ | refine JX.thenN ?_ | (apply r_move; (iterate 3 exact rfl)) | (apply r_assign; (iterate 3 exact rfl)) | (apply r_lss; (iterate 4 exact rfl); all_goals intro hc; all_goals try (exfalso; omega)) | refine JX.thenR ?_ | refine JC.ret ?_ | refine JC.condT rfl ?_))
    exact JX.ret2 rfl rfl (fun a w' st => ⟨st.kp, ⟨[], [], _, _, [], xs, rfl, New.nil _ _, OwnU.nil, .inr ⟨rfl, rfl, rfl⟩, Dig.nil _, hx, by simp [val], hlt⟩⟩)
  have hneg : ¬ cmpV (val W32 xs) (val W32 ys) < 0 := fun h => hlt (cmpV_neg.1 h)
  have hkn : k ≤ n := by
    refine Decidable.byContradiction fun h => hlt ?_
    exact len_cmp (by decide) hx hy (by omega)
  by_cases hk1 : k = 1
  · subst hk1
    have hd1 : ys.getD 0 0 < 4294967296 := mem_getD_lt (b := W32) (by decide) hy.lt 0
    have hvy := val_len1 (b := W32) hly
    rw [hvy] at h0
    (repeat' (first | refine JC.seq ?_ | refine JC.ops ?_ | refine JO.nil ?_ | refine JX.thenN ?_ | (apply r_move; (iterate 3 exact rfl)) | (apply r_idxU; (iterate 4 exact rfl); (first | assumption | exact WU.rd (by assumption) rfl [] | exact OwnU.rd (by assumption)); (first | assumption | omega)) | (apply r_ldU; (iterate 4 exact rfl); (first | assumption | exact WU.rd (by assumption) rfl [] | exact OwnU.rd (by assumption)); (repeat' first | exact HSub.nil _ | exact HSub.hd | exact HSub.in0 | exact HSub.refl _ | refine HSub.skip ?_ | refine HSub.skipN ?_); (first | assumption | omega)) | (apply r_lenU; (iterate 3 exact rfl); (first | assumption | exact WU.rd (by assumption) rfl [] | exact OwnU.rd (by assumption))) | (apply r_lss; (iterate 4 exact rfl); all_goals intro hc; all_goals try (exfalso; omega)) | (apply r_eql; (iterate 4 exact rfl); all_goals intro hc; all_goals try (exfalso; omega)) | refine JC.skip ?_ | refine JC.condT rfl ?_ | refine JC.condF rfl ?_))
    refine r_callA (A := []) rfl trivial rfl rfl rfl (fun w hk hs => c_small w _ _ _ _ (hv.mono hk) hx.lt h0 hd1 (by omega)) fun w v w' _ _ _ hR => ?_
    obtain ⟨v1, N1, zs, rfl, hN1, hO1, hz1, hval1⟩ := hR
    refine ⟨N1, hN1, ?_⟩
    (repeat' (first | refine JC.seq ?_ | refine JC.ops ?_ | refine JO.nil ?_ | refine JX.thenN ?_ | (apply r_move; (iterate 3 exact rfl)) | (apply r_assign; (iterate 3 exact rfl)) | (apply r_extract; (iterate 4 exact rfl)) | (apply r_build1; (iterate 5 exact rfl); (repeat first | exact trivial | refine ⟨rfl, ?_⟩); decide; decide; intro _)))
    rename_i b3
    have hO3 : OwnU [(b3, .cells ⟨[uv (val W32 xs % ys.getD 0 0)]⟩ 59)] (.slice (some ⟨b3, 0, none⟩) 1 1) 1 [val W32 xs % ys.getD 0 0] := own_litU b3 1 [val W32 xs % ys.getD 0 0] _ rfl rfl (by omega)
    refine r_call0 trivial rfl rfl rfl (fun w hk hs => c_norm w _ _ _ _ (hO3.rd.at hk hs (by (repeat' first | exact HSub.nil _ | exact HSub.hd | exact HSub.in0 | exact HSub.refl _ | refine HSub.skip ?_ | refine HSub.skipN ?_))) (by omega)) fun w v w' _ _ _ hR => ?_
    obtain ⟨k3, hk3, rfl, hn3⟩ := hR
    have hO3' := hO3.hd hk3
    rw [← hn3] at hO3'
    have hl3 : (nrm [val W32 xs % ys.getD 0 0]).length = k3 := hO3'.len
    have hmod := Nat.mod_lt (val W32 xs) h0
    (repeat' (first | refine JO.nil ?_ | refine JX.thenN ?_ | (apply r_assign; (iterate 3 exact rfl)) | refine JX.thenR ?_ | refine JC.ret ?_))
    refine JX.ret2 rfl rfl (fun a w' st => ⟨st.kp, ⟨N1, _, _, _, zs, nrm [val W32 xs % ys.getD 0 0], rfl, st.newOf (N := N1 ++ [(b3, .cells ⟨[uv (val W32 xs % ys.getD 0 0)]⟩ 59)]) rfl ?_, hO1, .inl (by rw [hl3]; exact hO3'), hz1, Dig.of fun x hx' => ?_, ?_, ?_⟩⟩)
    · refine ⟨[], ?_⟩
      simp only [List.append_nil, List.nil_append]
      exact List.perm_append_comm (l₁ := [_])
    · rw [List.mem_singleton] at hx'
      rw [hx']
      show _ < 4294967296
      omega
    · rw [hvy, val_nrm_one, hval1, Nat.mul_comm]
      exact (Nat.div_add_mod _ _).symm
    · rw [hvy, val_nrm_one]; exact hmod
  have hne : ys ≠ [] := fun e => by subst e; simp at hly; omega
  have htlt : ys.getD (k - 1) 0 < 4294967296 := mem_getD_lt (b := W32) (by decide) hy.lt (k - 1)
  have ht0 : 0 < ys.getD (k - 1) 0 := by
    refine Nat.pos_of_ne_zero fun e => ?_
    have h1 := val_ge (b := W32) (by decide) hy.nrm hne
    rw [hly] at h1
    have h2 := val_cut W32 ys (k - 1) (by omega)
    rw [val_drop (by omega), e, val_drop_nil (by omega)] at h2
    have h3 := val_take_lt hy.lt (k := k - 1) (by omega)
    simp only [Nat.mul_zero, Nat.add_zero] at h2
    omega
  (repeat' (first | refine JC.seq ?_ | refine JC.ops ?_ | refine JO.nil ?_ | refine JX.thenN ?_ | (apply r_move; (iterate 3 exact rfl)) | (apply r_assign; (iterate 3 exact rfl)) | (apply r_lenU; (iterate 3 exact rfl); (first | assumption | exact WU.rd (by assumption) rfl [] | exact OwnU.rd (by assumption))) | (apply r_lss; (iterate 4 exact rfl); all_goals intro hc; all_goals try (exfalso; omega)) | (apply r_eql; (iterate 4 exact rfl); all_goals intro hc; all_goals try (exfalso; omega)) | refine JC.skip ?_ | refine JC.condF rfl ?_ | refine JC.block ?_))
  refine JC.loopH (ι := Nat) ⟨fun s => [(8, nv s), (0, v), (1, u)], fun _ => [], fun s => s ≤ 31 ∧ ys.getD (k - 1) 0 * 2 ^ s < 4294967296, fun s => 32 - s⟩ 0 ⟨by omega, by simpa using htlt⟩ (by repeat first | exact trivial | refine ⟨rfl, ?_⟩) (by (first | exact HSub.refl _ | (repeat' first | exact HSub.nil _ | exact HSub.refl _ | refine HSub.at 0 rfl ?_ | refine HSub.at 1 rfl ?_ | refine HSub.at 2 rfl ?_ | refine HSub.at 3 rfl ?_ | refine HSub.at 4 rfl ?_ | refine HSub.at 5 rfl ?_ | refine HSub.at 6 rfl ?_ | refine HSub.at 7 rfl ?_))) (fun s hs => ?_)
  obtain ⟨hs31, hts⟩ := hs
  dsimp only at hs31 hts ⊢
  by_cases htop : ys.getD (k - 1) 0 * 2 ^ s / 2 ^ 31 = 0
  · have hsm : ys.getD (k - 1) 0 * 2 ^ s < 2147483648 := by
      have := (Nat.div_eq_zero_iff).1 htop
      omega
    have hs30 : s + 1 ≤ 31 := by
      refine Decidable.byContradiction fun h => ?_
      obtain rfl : s = 31 := by omega
      have := Nat.mul_le_mul_right (2 ^ 31) ht0
      omega
    (repeat' (first | refine JC.seq ?_ | refine JC.ops ?_ | (apply r_move; (iterate 3 exact rfl)) | (apply r_sub1; (iterate 4 exact rfl); omega) | (apply r_idxU; (iterate 4 exact rfl); (first | assumption | exact WU.rd (by assumption) rfl [] | exact OwnU.rd (by assumption)); (first | assumption | omega)) | (apply r_ldU; (iterate 4 exact rfl); (first | assumption | exact WU.rd (by assumption) rfl [] | exact OwnU.rd (by assumption)); (repeat' first | exact HSub.nil _ | exact HSub.hd | exact HSub.in0 | exact HSub.refl _ | refine HSub.skip ?_ | refine HSub.skipN ?_); (first | assumption | omega)) | (apply r_lenU; (iterate 3 exact rfl); (first | assumption | exact WU.rd (by assumption) rfl [] | exact OwnU.rd (by assumption))) | (apply r_shlU; (iterate 4 exact rfl); (first | assumption | omega))))
    rw [Nat.mod_eq_of_lt (show ys.getD (k - 1) 0 * 2 ^ s < 18446744073709551616 by omega)]
    refine r_shrU (j := 31) rfl rfl rfl rfl (by omega) ?_
    rw [htop]
    (repeat' (first | refine JC.ops ?_ | refine JO.nil ?_ | refine JX.thenN ?_ | (apply r_move; (iterate 3 exact rfl)) | (apply r_assign; (iterate 3 exact rfl)) | (apply r_add1; (iterate 4 exact rfl); omega) | (apply r_eql; (iterate 4 exact rfl); all_goals intro hc; all_goals try (exfalso; omega)) | refine JC.skip ?_ | refine JC.condT rfl ?_ | refine JC.block ?_ | refine JX.blockN ?_))
    exact JX.roundH (s + 1) ⟨hs30, by rw [Nat.pow_succ, ← Nat.mul_assoc]; omega⟩ (by dsimp only; omega) (by repeat first | exact trivial | refine ⟨rfl, ?_⟩) (by (first | exact HSub.refl _ | (repeat' first | exact HSub.nil _ | exact HSub.refl _ | refine HSub.at 0 rfl ?_ | refine HSub.at 1 rfl ?_ | refine HSub.at 2 rfl ?_ | refine HSub.at 3 rfl ?_ | refine HSub.at 4 rfl ?_ | refine HSub.at 5 rfl ?_ | refine HSub.at 6 rfl ?_ | refine HSub.at 7 rfl ?_)))
  (repeat' (first | refine JC.seq ?_ | refine JC.ops ?_ | (apply r_move; (iterate 3 exact rfl)) | (apply r_sub1; (iterate 4 exact rfl); omega) | (apply r_idxU; (iterate 4 exact rfl); (first | assumption | exact WU.rd (by assumption) rfl [] | exact OwnU.rd (by assumption)); (first | assumption | omega)) | (apply r_ldU; (iterate 4 exact rfl); (first | assumption | exact WU.rd (by assumption) rfl [] | exact OwnU.rd (by assumption)); (repeat' first | exact HSub.nil _ | exact HSub.hd | exact HSub.in0 | exact HSub.refl _ | refine HSub.skip ?_ | refine HSub.skipN ?_); (first | assumption | omega)) | (apply r_lenU; (iterate 3 exact rfl); (first | assumption | exact WU.rd (by assumption) rfl [] | exact OwnU.rd (by assumption))) | (apply r_shlU; (iterate 4 exact rfl); (first | assumption | omega))))
  rw [Nat.mod_eq_of_lt (show ys.getD (k - 1) 0 * 2 ^ s < 18446744073709551616 by omega)]
  refine r_shrU (j := 31) rfl rfl rfl rfl (by omega) ?_
  (repeat' (first | refine JC.seq ?_ | refine JC.ops ?_ | refine JO.nil ?_ | refine JX.thenN ?_ | (apply r_move; (iterate 3 exact rfl)) | (apply r_eql; (iterate 4 exact rfl); all_goals intro hc; all_goals try (exfalso; omega)) | refine JX.thenE ?_ | refine JC.exit ?_ | refine JC.condF rfl ?_ | refine JX.blockE ?_))
  refine r_callA (A := []) rfl trivial rfl rfl rfl (fun w hk hs => c_shift w _ _ _ _ (hv.mono hk) hx.lt hs31 (by omega)) fun w v w' _ _ _ hR => ?_
  obtain ⟨Nu, us0, hNu, hOu, hu0, hutop, hval0⟩ := hR
  obtain ⟨bu, capu, restu, rfl, rfl, hcu, hru, hmu⟩ := hOu.blk (by omega)
  refine ⟨_, hNu, ?_⟩
  (repeat' (first | (apply r_move; (iterate 3 exact rfl))))
  refine r_callA (A := [_]) rfl trivial rfl rfl rfl (fun w hk' hs => c_shift w _ _ _ _ (hu.mono hk') hy.lt hs31 (by omega)) fun w v w' _ _ _ hR => ?_
  obtain ⟨Nv, vs0, hNv, hOv, hv0, _, hvalv⟩ := hR
  obtain ⟨bv, capv, restv, rfl, rfl, hcv, hrv, hmv⟩ := hOv.blk (by omega)
  refine ⟨_, hNv, ?_⟩
  skip
  refine r_call0 trivial rfl rfl rfl (fun w hk hs => c_norm w _ _ _ _ (hOv.rd.at hk hs (by (repeat' first | exact HSub.nil _ | exact HSub.hd | exact HSub.in0 | exact HSub.refl _ | refine HSub.skip ?_ | refine HSub.skipN ?_))) (by omega)) fun w v w' _ _ _ hR => ?_
  obtain ⟨kv, hkv, rfl, hnv⟩ := hR
  have hOv1 := hOv.hd hkv
  rw [← hnv] at hOv1
  have hDv : Dig W32 (nrm vs0) := Dig.of hv0
  have hVv : val W32 (nrm vs0) = 2 ^ s * val W32 ys := by rw [val_nrm, hvalv]
  obtain ⟨hlv, hVge⟩ := shift_len hs31 hly hk0 hy hts hDv hVv
  obtain rfl : kv = k := by rw [← hlv]; exact hOv1.len.symm
  have hlu0 := hOu.len
  have hV0 : 0 < val W32 (nrm vs0) := by rw [hVv]; exact Nat.mul_pos (Nat.pow_pos (by decide)) h0
  have hbig := shift_top hu0 hlu0 (by omega) hkn hutop hVge
  generalize nrm vs0 = vs at hnv hOv1 hDv hVv hlv hVge hV0 hbig
  clear hvalv hnv
  (repeat' (first | refine JC.seq ?_ | refine JC.ops ?_ | refine JO.nil ?_ | refine JX.thenN ?_ | (apply r_move; (iterate 3 exact rfl)) | (apply r_assign; (iterate 3 exact rfl)) | (apply r_len; (iterate 3 exact rfl)) | (apply r_subN; (iterate 4 exact rfl); omega)))
  refine r_make (n := n + 1 - kv) rfl rfl rfl rfl rfl (by omega) (by omega) (fun bq => ?_)
  have hOq := own_zerosU bq (n + 1 - kv) (by simp only [maxLen]; omega)
  have htv : vs.getD (kv - 1) 0 < 4294967296 := mem_getD_lt (b := W32) (by decide) hDv.lt (kv - 1)
  have hsv : vs.getD (kv - 2) 0 < 4294967296 := mem_getD_lt (b := W32) (by decide) hDv.lt (kv - 2)
  have htv0 : 0 < vs.getD (kv - 1) 0 := by
    refine Nat.pos_of_ne_zero fun e => ?_
    have h2 := val_cut W32 vs (kv - 1) (by omega)
    rw [val_drop (by omega), e, val_drop_nil (by omega)] at h2
    have h3 := val_take_lt hDv.lt (k := kv - 1) (by omega)
    simp only [Nat.mul_zero, Nat.add_zero] at h2
    have := Nat.le_mul_of_pos_left (W32 ^ (kv - 1)) (Nat.pow_pos (n := s) (show 0 < 2 by decide))
    have hVge' : 2 ^ s * W32 ^ (kv - 1) ≤ val W32 vs := hVge
    omega
  (repeat' (first | refine JC.seq ?_ | refine JC.ops ?_ | refine JC.opsD ?_ | refine JO.nil ?_ | refine JX.thenN ?_ | (apply r_move; (iterate 3 exact rfl)) | (apply r_assign; (iterate 3 exact rfl)) | (apply r_len; (iterate 3 exact rfl)) | (apply r_sub1; (iterate 4 exact rfl); omega) | (apply r_sub2; (iterate 4 exact rfl); omega) | (apply r_idxU; (iterate 4 exact rfl); (first | assumption | exact WU.rd (by assumption) rfl [] | exact OwnU.rd (by assumption)); (first | assumption | omega)) | (apply r_ldU; (iterate 4 exact rfl); (first | assumption | exact WU.rd (by assumption) rfl [] | exact OwnU.rd (by assumption)); (repeat' first | exact HSub.nil _ | exact HSub.hd | exact HSub.in0 | exact HSub.refl _ | refine HSub.skip ?_ | refine HSub.skipN ?_); (first | assumption | omega)) | refine JC.block ?_))
  rw [show (Value.int IntKind.i64 ((n + 1 - kv - 1 : Nat) : Int)) = iv (((n + 1 - kv : Nat) : Int) - 1) from by congr 1; omega]
  have hvs : vs.length = kv := hlv
  refine JC.loopH (ι := Nat × List Nat × SHeap × List Nat) ⟨fun z => [(14, iv ((z.1 : Int) - 1)), (13, uv (vs.getD (kv - 2) 0)), (12, uv (vs.getD (kv - 1) 0)), (11, .slice (some ⟨bq, 0, none⟩) (n + 1 - kv) (n + 1 - kv)), (10, .slice (some ⟨bv, 0, none⟩) kv capv), (9, .slice (some ⟨bu, 0, none⟩) (n + 1) capu), (8, nv s)],
    fun z => (bu, .cells (rowCU z.2.1 restu) 59 (0, 0)) :: (bv, .cells (rowCU vs0 restv) 59 (0, 0)) :: (z.2.2.1 ++ []),
    fun z => z.1 ≤ n + 1 - kv ∧ z.2.1.length = n + 1 ∧ (∀ x ∈ z.2.1, x < W32) ∧ OwnU z.2.2.1 (.slice (some ⟨bq, 0, none⟩) (n + 1 - kv) (n + 1 - kv)) (n + 1 - kv) z.2.2.2 ∧ (∀ x ∈ z.2.2.2, x < W32) ∧ val W32 (z.2.1.drop z.1) < val W32 vs ∧ val W32 z.2.1 + val W32 vs * (W32 ^ z.1 * val W32 (z.2.2.2.drop z.1)) = 2 ^ s * val W32 xs, fun z => z.1⟩
    (n + 1 - kv, us0, _, _) ⟨Nat.le_refl _, hlu0, hu0, hOq, fun x hx => by obtain ⟨a, _, rfl⟩ := List.mem_map.1 hx; decide, hbig, by
      show val W32 us0 + val W32 vs * (W32 ^ (n + 1 - kv) * val W32 ((tab (n + 1 - kv) fun _ => 0).drop (n + 1 - kv))) = _
      rw [val_drop_nil (by simp [tab]), Nat.mul_zero, Nat.mul_zero, Nat.add_zero, hval0]⟩ (by repeat first | exact trivial | refine ⟨rfl, ?_⟩) (by exact HSub.at 1 rfl (HSub.at 1 rfl (HSub.at 0 rfl (HSub.nil _)))) (fun z hz => ?_)
  clear hOu hOq hlu0 hu0 hutop hval0 hbig hNu
  obtain ⟨j, us, Nq, qs⟩ := z
  obtain ⟨hj, hlu, hu0, hOq, hqs, hdr, hval⟩ := hz
  dsimp only at hj hlu hu0 hOq hqs hdr hval ⊢
  have hOu : OwnU [(bu, .cells (rowCU us restu) 59 (0, 0))] (.slice (some ⟨bu, 0, none⟩) (n + 1) capu) (n + 1) us := OwnU.ofNamed hlu hcu hru hmu
  have hlq := hOq.len
  rcases j with _ | i
  · (repeat' (first | refine JC.seq ?_ | refine JC.ops ?_ | refine JO.nil ?_ | refine JX.thenN ?_ | (apply r_move; (iterate 3 exact rfl)) | (apply r_geq; (iterate 4 exact rfl); all_goals intro hc; all_goals try (exfalso; omega)) | refine JX.thenE ?_ | refine JC.exit ?_ | refine JC.condF rfl ?_ | refine JX.blockE ?_))
    refine r_call0 trivial rfl rfl rfl (fun w hk hs => c_norm w _ _ _ _ (hOq.rd.at hk hs (by (repeat' first | exact HSub.nil _ | exact HSub.hd | exact HSub.in0 | exact HSub.refl _ | refine HSub.skip ?_ | refine HSub.skipN ?_))) (by omega)) fun w v w' _ _ _ hR => ?_
    obtain ⟨kq, hkq, rfl, hnq⟩ := hR
    have hOq' := hOq.hd hkq
    rw [← hnq] at hOq'
    have hql : (nrm qs).length = kq := hOq'.len
    (repeat' (first | (apply r_move; (iterate 3 exact rfl))))
    refine r_call0 trivial rfl rfl rfl (fun w hk hs => c_norm w _ _ _ _ (hOu.rd.at hk hs (by (repeat' first | exact HSub.nil _ | exact HSub.hd | exact HSub.in0 | exact HSub.refl _ | refine HSub.skip ?_ | refine HSub.skipN ?_))) (by omega)) fun w v w' _ _ _ hR => ?_
    obtain ⟨ku, hku, rfl, hnu⟩ := hR
    have hOu' := hOu.hd hku
    rw [← hnu] at hOu'
    have hDu : Dig W32 (nrm us) := Dig.of hu0
    (repeat' (first | (apply r_move; (iterate 3 exact rfl))))
    refine r_callA (A := [_, _]) rfl trivial rfl rfl rfl (fun w hk hs => c_unshift w _ _ _ _ (hOu'.rd.at hk hs (by (repeat' first | exact HSub.nil _ | exact HSub.hd | exact HSub.in0 | exact HSub.refl _ | refine HSub.skip ?_ | refine HSub.skipN ?_))) hDu.lt hs31 (by omega)) fun w v w' _ _ _ hR => ?_
    obtain ⟨Nr, rs, hNr, hOr, hr, hvr⟩ := hR
    refine ⟨Nr, hNr, ?_⟩
    rw [val_nrm] at hvr
    simp only [List.drop_zero, Nat.pow_zero, Nat.one_mul] at hdr hval
    rw [hVv] at hval hdr
    have hfin := div_final (Nat.pow_pos (by decide)) hval hdr
    (repeat' (first | refine JO.nil ?_ | refine JX.thenN ?_ | (apply r_assign; (iterate 3 exact rfl)) | refine JC.ret ?_))
    exact JX.ret2 rfl rfl (fun a w' st => ⟨st.kp, ⟨Nq, Nr, _, _, nrm qs, rs, rfl, st.newOf rfl (by
      refine HSub.trans ?_ (HSub.skip (HSub.skip (HSub.refl _)))
      exact ⟨[], by simpa using List.perm_append_comm⟩), by rw [hql]; exact hOq', .inl hOr, Dig.of hqs, hr, by rw [val_nrm, hvr]; exact hfin.1, by rw [hvr]; exact hfin.2⟩⟩)
  have hiv : iv (((i + 1 : Nat) : Int) - 1) = nv i := by
    show iv _ = iv _
    congr 1
    omega
  rw [hiv]
  have hst := kn_step (W := W32) hu0 hDv.lt hlv (by omega) (show i + kv < us.length by omega) hdr
  have ha : us.getD (i + kv) 0 < 4294967296 := mem_getD_lt (b := W32) (by decide) hu0 _
  have hb : us.getD (i + kv - 1) 0 < 4294967296 := mem_getD_lt (b := W32) (by decide) hu0 _
  have hcc : us.getD (i + kv - 2) 0 < 4294967296 := mem_getD_lt (b := W32) (by decide) hu0 _
  (repeat' (first | refine JC.seq ?_ | refine JC.ops ?_ | refine JC.opsD ?_ | refine JO.nil ?_ | refine JX.thenN ?_ | (apply r_move; (iterate 3 exact rfl)) | (apply r_assign; (iterate 3 exact rfl)) | (apply r_len; (iterate 3 exact rfl)) | (apply r_addN; (iterate 4 exact rfl); omega) | (apply r_sub1; (iterate 4 exact rfl); omega) | (apply r_shl32; (iterate 4 exact rfl); (first | assumption | omega)) | (apply r_or32; (iterate 4 exact rfl); (first | assumption | omega | exact ⟨by assumption, by assumption⟩)) | (apply r_idxU; (iterate 4 exact rfl); (first | assumption | exact WU.rd (by assumption) rfl [] | exact OwnU.rd (by assumption)); (first | assumption | omega)) | (apply r_ldU; (iterate 4 exact rfl); (first | assumption | exact WU.rd (by assumption) rfl [] | exact OwnU.rd (by assumption)); (repeat' first | exact HSub.nil _ | exact HSub.hd | exact HSub.in0 | exact HSub.refl _ | refine HSub.skip ?_ | refine HSub.skipN ?_); (first | assumption | omega)) | (apply r_quoU; (iterate 4 exact rfl); (first | assumption | omega)) | (apply r_remU; (iterate 4 exact rfl); (first | assumption | omega)) | (apply r_geq; (iterate 4 exact rfl); all_goals intro hc; all_goals try (exfalso; omega)) | refine JC.skip ?_ | refine JC.condT rfl ?_ | refine JC.block ?_))
  obtain ⟨hUlt, ⟨lv, hlv1, hVeq⟩, ⟨lu, hlu1, hUeq⟩, hhead, htail⟩ := hst
  have hq0 := kn_start htv0 hVeq hUeq hcc hlu1
  refine JC.loopH (ι := Nat × Nat) ⟨fun y => [(17, uv y.1), (18, uv y.2), (15, nv (i + kv)), (14, nv i), (13, uv (vs.getD (kv - 2) 0)), (12, uv (vs.getD (kv - 1) 0)), (11, .slice (some ⟨bq, 0, none⟩) (n + 1 - kv) (n + 1 - kv)), (10, .slice (some ⟨bv, 0, none⟩) kv capv), (9, .slice (some ⟨bu, 0, none⟩) (n + 1) capu), (8, nv s)],
    fun _ => (bu, .cells (rowCU us restu) 59 (0, 0)) :: (bv, .cells (rowCU vs0 restv) 59 (0, 0)) :: (Nq ++ []),
    fun y => us.getD (i + kv) 0 * 4294967296 + us.getD (i + kv - 1) 0 = y.1 * vs.getD (kv - 1) 0 + y.2 ∧ val W32 (us.drop i) / val W32 vs ≤ y.1, fun y => y.1⟩
    ((us.getD (i + kv) 0 * 4294967296 + us.getD (i + kv - 1) 0) / vs.getD (kv - 1) 0, (us.getD (i + kv) 0 * 4294967296 + us.getD (i + kv - 1) 0) % vs.getD (kv - 1) 0) ⟨by dsimp only; rw [Nat.mul_comm _ (vs.getD (kv - 1) 0)]; exact (Nat.div_add_mod _ _).symm, hq0⟩ (by repeat first | exact trivial | refine ⟨rfl, ?_⟩) (by (first | exact HSub.refl _ | (repeat' first | exact HSub.nil _ | exact HSub.refl _ | refine HSub.at 0 rfl ?_ | refine HSub.at 1 rfl ?_ | refine HSub.at 2 rfl ?_ | refine HSub.at 3 rfl ?_ | refine HSub.at 4 rfl ?_ | refine HSub.at 5 rfl ?_ | refine HSub.at 6 rfl ?_ | refine HSub.at 7 rfl ?_))) (fun y hyy => ?_)
  obtain ⟨G, R⟩ := y
  obtain ⟨hGR, hqG⟩ := hyy
  dsimp only at hGR hqG ⊢
  have hGle : G ≤ G * vs.getD (kv - 1) 0 := Nat.le_mul_of_pos_right _ htv0
  have hqW : val W32 (us.drop i) / val W32 vs < 4294967296 := Nat.div_lt_of_lt_mul hUlt
  have hdecr : ∀ g r, g * vs.getD (kv - 1) 0 + r = G * vs.getD (kv - 1) 0 + R → g + 1 = G → r = R + vs.getD (kv - 1) 0 := by
    intro g r h1 h2
    rw [← h2, Nat.add_mul, Nat.one_mul] at h1
    omega
  have hround : 1 ≤ G → us.getD (i + kv) 0 * 4294967296 + us.getD (i + kv - 1) 0 = (G - 1) * vs.getD (kv - 1) 0 + (R + vs.getD (kv - 1) 0) := by
    intro h1
    have : G * vs.getD (kv - 1) 0 = (G - 1) * vs.getD (kv - 1) 0 + vs.getD (kv - 1) 0 := by
      conv => lhs; rw [show G = G - 1 + 1 by omega, Nat.add_mul, Nat.one_mul]
    omega
  by_cases hg : 4294967295 < G
  · (repeat' (first | refine JC.seq ?_ | refine JC.ops ?_ | refine JO.nil ?_ | refine JX.thenN ?_ | (apply r_move; (iterate 3 exact rfl)) | (apply r_assign; (iterate 3 exact rfl)) | (apply r_pickT; (iterate 4 exact rfl)) | (apply r_addU; (iterate 4 exact rfl); (first | assumption | omega)) | (apply r_decU; (iterate 4 exact rfl); (first | assumption | omega)) | (apply r_gtr; (iterate 4 exact rfl); all_goals intro hc; all_goals try (exfalso; omega)) | refine JC.skip ?_ | refine JC.condT rfl ?_ | refine JC.block ?_ | refine JX.blockN ?_ | (apply r_skip; exact rfl; exact rfl; (first | (intro h; cases h; done) | (intro _; rfl)))))
    exact JX.roundH (G - 1, R + vs.getD (kv - 1) 0) ⟨hround (by omega), by dsimp only; omega⟩ (by dsimp only; omega) (by repeat first | exact trivial | refine ⟨rfl, ?_⟩) (by (first | exact HSub.refl _ | (repeat' first | exact HSub.nil _ | exact HSub.refl _ | refine HSub.at 0 rfl ?_ | refine HSub.at 1 rfl ?_ | refine HSub.at 2 rfl ?_ | refine HSub.at 3 rfl ?_ | refine HSub.at 4 rfl ?_ | refine HSub.at 5 rfl ?_ | refine HSub.at 6 rfl ?_ | refine HSub.at 7 rfl ?_)))
  have hgs := mul_bound (show G < 4294967296 by omega) hsv
  have hout : G * (vs.getD (kv - 1) 0 * W32 + vs.getD (kv - 2) 0) ≤ (us.getD (i + kv) 0 * W32 + us.getD (i + kv - 1) 0) * W32 + us.getD (i + kv - 2) 0 ∨ (R ≤ 4294967295 ∧ R * 4294967296 + us.getD (i + kv - 2) 0 < G * vs.getD (kv - 2) 0) := by
    by_cases h : R ≤ 4294967295 ∧ R * 4294967296 + us.getD (i + kv - 2) 0 < G * vs.getD (kv - 2) 0
    · exact .inr h
    · refine .inl (kn_out hGR (by show G < 4294967296; omega) hsv ?_)
      show 4294967296 ≤ R ∨ G * vs.getD (kv - 2) 0 ≤ R * 4294967296 + us.getD (i + kv - 2) 0
      omega
  by_cases hdec : R ≤ 4294967295 ∧ R * 4294967296 + us.getD (i + kv - 2) 0 < G * vs.getD (kv - 2) 0
  · obtain ⟨hR1, hR2⟩ := hdec
    have hG1 : 1 ≤ G := by
      rcases Nat.eq_zero_or_pos G with h | h
      · subst h; rw [Nat.zero_mul] at hR2; omega
      · exact h
    have hqlt : val W32 (us.drop i) / val W32 vs < G := by
      refine kn_dec (V2 := vs.getD (kv - 1) 0 * 4294967296 + vs.getD (kv - 2) 0) (U3 := (us.getD (i + kv) 0 * 4294967296 + us.getD (i + kv - 1) 0) * 4294967296 + us.getD (i + kv - 2) 0) hVeq hUeq hlu1 ?_
      rw [hGR, Nat.mul_add, Nat.add_mul, Nat.mul_assoc G]
      omega
    (repeat' (first | refine JC.seq ?_ | refine JC.ops ?_ | refine JO.nil ?_ | refine JX.thenN ?_ | (apply r_move; (iterate 3 exact rfl)) | (apply r_assign; (iterate 3 exact rfl)) | (apply r_sub2; (iterate 4 exact rfl); omega) | (apply r_pickT; (iterate 4 exact rfl)) | (apply r_pickF; (iterate 4 exact rfl)) | (apply r_shl32; (iterate 4 exact rfl); (first | assumption | omega)) | (apply r_or32; (iterate 4 exact rfl); (first | assumption | omega | exact ⟨by assumption, by assumption⟩)) | (apply r_idxU; (iterate 4 exact rfl); (first | assumption | exact WU.rd (by assumption) rfl [] | exact OwnU.rd (by assumption)); (first | assumption | omega)) | (apply r_ldU; (iterate 4 exact rfl); (first | assumption | exact WU.rd (by assumption) rfl [] | exact OwnU.rd (by assumption)); (repeat' first | exact HSub.nil _ | exact HSub.hd | exact HSub.in0 | exact HSub.refl _ | refine HSub.skip ?_ | refine HSub.skipN ?_); (first | assumption | omega)) | (apply r_addU; (iterate 4 exact rfl); (first | assumption | omega)) | (apply r_mulU; (iterate 4 exact rfl); (first | assumption | omega)) | (apply r_decU; (iterate 4 exact rfl); (first | assumption | omega)) | (apply r_leq; (iterate 4 exact rfl); all_goals intro hc; all_goals try (exfalso; omega)) | (apply r_gtr; (iterate 4 exact rfl); all_goals intro hc; all_goals try (exfalso; omega)) | refine JC.skip ?_ | refine JC.condT rfl ?_ | refine JC.block ?_ | refine JX.blockN ?_))
    exact JX.roundH (G - 1, R + vs.getD (kv - 1) 0) ⟨hround hG1, by dsimp only; omega⟩ (by dsimp only; omega) (by repeat first | exact trivial | refine ⟨rfl, ?_⟩) (by (first | exact HSub.refl _ | (repeat' first | exact HSub.nil _ | exact HSub.refl _ | refine HSub.at 0 rfl ?_ | refine HSub.at 1 rfl ?_ | refine HSub.at 2 rfl ?_ | refine HSub.at 3 rfl ?_ | refine HSub.at 4 rfl ?_ | refine HSub.at 5 rfl ?_ | refine HSub.at 6 rfl ?_ | refine HSub.at 7 rfl ?_)))
  have hout1 := hout.resolve_right hdec
  have hV2 : 4294967296 ≤ vs.getD (kv - 1) 0 * W32 + vs.getD (kv - 2) 0 := by
    have h1 : 1 * 4294967296 ≤ vs.getD (kv - 1) 0 * 4294967296 := Nat.mul_le_mul_right _ htv0
    exact Nat.le_trans (by omega) (Nat.le_add_right _ _)
  have hGq := kn_end (g := G) hVeq hlv1 (Nat.lt_of_lt_of_le (by decide) hV2) hUeq hout1 (Nat.le_trans (by omega) (Nat.le_succ_of_le hV2))
  by_cases hRm : R ≤ 4294967295
  · have hR2 : ¬ R * 4294967296 + us.getD (i + kv - 2) 0 < G * vs.getD (kv - 2) 0 := fun h => hdec ⟨hRm, h⟩
    (repeat' (first | refine JC.seq ?_ | refine JC.ops ?_ | refine JO.nil ?_ | refine JX.thenN ?_ | (apply r_move; (iterate 3 exact rfl)) | (apply r_sub2; (iterate 4 exact rfl); omega) | (apply r_pickT; (iterate 4 exact rfl)) | (apply r_pickF; (iterate 4 exact rfl)) | (apply r_shl32; (iterate 4 exact rfl); (first | assumption | omega)) | (apply r_or32; (iterate 4 exact rfl); (first | assumption | omega | exact ⟨by assumption, by assumption⟩)) | (apply r_idxU; (iterate 4 exact rfl); (first | assumption | exact WU.rd (by assumption) rfl [] | exact OwnU.rd (by assumption)); (first | assumption | omega)) | (apply r_ldU; (iterate 4 exact rfl); (first | assumption | exact WU.rd (by assumption) rfl [] | exact OwnU.rd (by assumption)); (repeat' first | exact HSub.nil _ | exact HSub.hd | exact HSub.in0 | exact HSub.refl _ | refine HSub.skip ?_ | refine HSub.skipN ?_); (first | assumption | omega)) | (apply r_mulU; (iterate 4 exact rfl); (first | assumption | omega)) | (apply r_leq; (iterate 4 exact rfl); all_goals intro hc; all_goals try (exfalso; omega)) | (apply r_gtr; (iterate 4 exact rfl); all_goals intro hc; all_goals try (exfalso; omega)) | refine JX.thenE ?_ | refine JC.exit ?_ | refine JC.condF rfl ?_ | refine JX.blockE ?_))
    refine r_tail (o' := i) rfl rfl rfl rfl (Nat.zero_add _) (by omega) (by omega) ?_
    (repeat' (first | (apply r_move; (iterate 3 exact rfl))))
    refine r_call0 trivial rfl rfl rfl (fun w hk hs => by
      have hw := WU.ofBlk (o := i) (k := n + 1 - i) (cc := capu - i) (hs_at hs 0 rfl) (by omega) (by omega)
      rw [List.take_of_length_le (by simp; omega)] at hw
      exact c_less w bu i (n + 1 - i) (capu - i) kv G (us.drop i) vs _ hw (hOv1.rd.at hk hs (by (repeat' first | exact HSub.nil _ | exact HSub.hd | exact HSub.in0 | exact HSub.refl _ | refine HSub.skip ?_ | refine HSub.skipN ?_))) (by omega) (fun x hx => hu0 x (List.mem_of_mem_drop hx)) hDv.lt (by omega) (by omega)) fun w v w' _ _ _ hR => ?_
    subst hR
    rw [hhead]
    by_cases hl : val W32 (us.drop i) < val W32 vs * G
    · rw [decide_eq_true hl]
      have hD : G - 1 = val W32 (us.drop i) / val W32 vs := by
        have h1 := Nat.div_lt_of_lt_mul hl
        generalize val W32 (us.drop i) / val W32 vs = q at *
        omega
      have hG1 : 1 ≤ G := by
        have h1 := Nat.div_lt_of_lt_mul hl
        generalize val W32 (us.drop i) / val W32 vs = q at *
        omega
      have hDlt : G - 1 < 4294967296 := by omega
      (repeat' (first | refine JC.seq ?_ | refine JC.ops ?_ | refine JO.nil ?_ | refine JX.thenN ?_ | (apply r_move; (iterate 3 exact rfl)) | (apply r_assign; (iterate 3 exact rfl)) | (apply r_decU; (iterate 4 exact rfl); (first | assumption | omega)) | refine JC.condT rfl ?_))
      refine r_tail (o' := i) rfl rfl rfl rfl (Nat.zero_add _) (by omega) (by omega) ?_
      (repeat' (first | (apply r_move; (iterate 3 exact rfl))))
      refine r_callO (A := []) (N := [_]) (B := (bv, .cells (rowCU vs0 restv) 59 (0, 0)) :: (Nq ++ [])) rfl trivial rfl rfl rfl (fun w hk hs => by
        have c := c_take w bu i capu kv (G - 1) capv us vs _ restu (hs_at hs 0 rfl) (by omega) (hOv1.rd.at hk hs (by (repeat' first | exact HSub.nil _ | exact HSub.hd | exact HSub.in0 | exact HSub.refl _ | refine HSub.skip ?_ | refine HSub.skipN ?_))) (fun _ => by simpa using (hs_ne hs 1 0 rfl rfl (by decide))) (by omega) hu0 hDv.lt hDlt (by omega) (by rw [hhead, hD]; exact Nat.mul_div_le _ _) (by omega)
        rw [hlu] at c
        exact c) fun w v w' _ _ _ hR => ?_
      obtain ⟨zs, hzl, hz, hvz, hbl⟩ := hR
      refine ⟨[(bu, .cells (rowCU (put i (kv + 1) zs us) restu) 59 (0, 0))], rfl, fun p hp => by cases List.mem_singleton.1 hp; exact hbl, ?_⟩
      (repeat' (first | refine JC.ops ?_ | refine JO.nil ?_ | refine JX.thenN ?_ | (apply r_move; (iterate 3 exact rfl)) | (apply r_idxU; (iterate 4 exact rfl); (first | assumption | exact WU.rd (by assumption) rfl [] | exact OwnU.rd (by assumption)); (first | assumption | omega))))
      refine r_stU (A := [_, _]) hOq rfl rfl trivial rfl rfl (by omega) (fun Nq' hOq' => ?_)
      (repeat' (first | refine JC.ops ?_ | refine JO.nil ?_ | refine JX.thenN ?_ | (apply r_move; (iterate 3 exact rfl)) | (apply r_assign; (iterate 3 exact rfl)) | (apply r_sub; (iterate 4 exact rfl); omega) | refine JX.blockN ?_))
      have hput := val_put (b := W32) (zs := zs) (show i + (kv + 1) ≤ us.length by omega) htail
      rw [hhead] at hvz
      refine JX.roundH (i, put i (kv + 1) zs us, Nq', _) ⟨by dsimp only; omega, by dsimp only; rw [put_len (by omega) hzl]; exact hlu, put_lt (by decide) hu0 hz.lt, hOq', set_lt hqs hDlt, ?_, ?_⟩ (by dsimp only; omega) (by repeat first | exact trivial | refine ⟨rfl, ?_⟩) (by (first | exact HSub.refl _ | (repeat' first | exact HSub.nil _ | exact HSub.refl _ | refine HSub.at 0 rfl ?_ | refine HSub.at 1 rfl ?_ | refine HSub.at 2 rfl ?_ | refine HSub.at 3 rfl ?_ | refine HSub.at 4 rfl ?_ | refine HSub.at 5 rfl ?_ | refine HSub.at 6 rfl ?_ | refine HSub.at 7 rfl ?_)))
      · dsimp only
        rw [hput]
        rw [hD] at hvz
        have hm := Nat.mod_lt (val W32 (us.drop i)) hV0
        have hdm := Nat.div_add_mod (val W32 (us.drop i)) (val W32 vs)
        omega
      · dsimp only
        have e1 := val_cut W32 (put i (kv + 1) zs us) i (by rw [put_len (by omega) hzl]; omega)
        rw [put_take (by omega), hput] at e1
        rw [e1, val_drop (l := qs.set i _) (by simp; omega), getD_set_self (by omega), drop_set]
        have e2 := val_cut W32 us i (by omega)
        rw [e2, Nat.pow_succ] at hval
        exact kn_inv hvz.symm hval
    · rw [decide_eq_false hl]
      have hD : G = val W32 (us.drop i) / val W32 vs := by
        have h1 : G ≤ val W32 (us.drop i) / val W32 vs := (Nat.le_div_iff_mul_le hV0).2 (by rw [Nat.mul_comm]; omega)
        exact Nat.le_antisymm h1 hqG
      have hDlt : G < 4294967296 := by omega
      (repeat' (first | refine JC.seq ?_ | refine JC.ops ?_ | refine JO.nil ?_ | refine JX.thenN ?_ | (apply r_move; (iterate 3 exact rfl)) | refine JC.skip ?_ | refine JC.condF rfl ?_))
      refine r_tail (o' := i) rfl rfl rfl rfl (Nat.zero_add _) (by omega) (by omega) ?_
      (repeat' (first | (apply r_move; (iterate 3 exact rfl))))
      refine r_callO (A := []) (N := [_]) (B := (bv, .cells (rowCU vs0 restv) 59 (0, 0)) :: (Nq ++ [])) rfl trivial rfl rfl rfl (fun w hk hs => by
        have c := c_take w bu i capu kv (G) capv us vs _ restu (hs_at hs 0 rfl) (by omega) (hOv1.rd.at hk hs (by (repeat' first | exact HSub.nil _ | exact HSub.hd | exact HSub.in0 | exact HSub.refl _ | refine HSub.skip ?_ | refine HSub.skipN ?_))) (fun _ => by simpa using (hs_ne hs 1 0 rfl rfl (by decide))) (by omega) hu0 hDv.lt hDlt (by omega) (by rw [hhead, hD]; exact Nat.mul_div_le _ _) (by omega)
        rw [hlu] at c
        exact c) fun w v w' _ _ _ hR => ?_
      obtain ⟨zs, hzl, hz, hvz, hbl⟩ := hR
      refine ⟨[(bu, .cells (rowCU (put i (kv + 1) zs us) restu) 59 (0, 0))], rfl, fun p hp => by cases List.mem_singleton.1 hp; exact hbl, ?_⟩
      (repeat' (first | refine JC.ops ?_ | refine JO.nil ?_ | refine JX.thenN ?_ | (apply r_move; (iterate 3 exact rfl)) | (apply r_idxU; (iterate 4 exact rfl); (first | assumption | exact WU.rd (by assumption) rfl [] | exact OwnU.rd (by assumption)); (first | assumption | omega))))
      refine r_stU (A := [_, _]) hOq rfl rfl trivial rfl rfl (by omega) (fun Nq' hOq' => ?_)
      (repeat' (first | refine JC.ops ?_ | refine JO.nil ?_ | refine JX.thenN ?_ | (apply r_move; (iterate 3 exact rfl)) | (apply r_assign; (iterate 3 exact rfl)) | (apply r_sub; (iterate 4 exact rfl); omega) | refine JX.blockN ?_))
      have hput := val_put (b := W32) (zs := zs) (show i + (kv + 1) ≤ us.length by omega) htail
      rw [hhead] at hvz
      refine JX.roundH (i, put i (kv + 1) zs us, Nq', _) ⟨by dsimp only; omega, by dsimp only; rw [put_len (by omega) hzl]; exact hlu, put_lt (by decide) hu0 hz.lt, hOq', set_lt hqs hDlt, ?_, ?_⟩ (by dsimp only; omega) (by repeat first | exact trivial | refine ⟨rfl, ?_⟩) (by (first | exact HSub.refl _ | (repeat' first | exact HSub.nil _ | exact HSub.refl _ | refine HSub.at 0 rfl ?_ | refine HSub.at 1 rfl ?_ | refine HSub.at 2 rfl ?_ | refine HSub.at 3 rfl ?_ | refine HSub.at 4 rfl ?_ | refine HSub.at 5 rfl ?_ | refine HSub.at 6 rfl ?_ | refine HSub.at 7 rfl ?_)))
      · dsimp only
        rw [hput]
        rw [hD] at hvz
        have hm := Nat.mod_lt (val W32 (us.drop i)) hV0
        have hdm := Nat.div_add_mod (val W32 (us.drop i)) (val W32 vs)
        omega
      · dsimp only
        have e1 := val_cut W32 (put i (kv + 1) zs us) i (by rw [put_len (by omega) hzl]; omega)
        rw [put_take (by omega), hput] at e1
        rw [e1, val_drop (l := qs.set i _) (by simp; omega), getD_set_self (by omega), drop_set]
        have e2 := val_cut W32 us i (by omega)
        rw [e2, Nat.pow_succ] at hval
        exact kn_inv hvz.symm hval
  · (repeat' (first | refine JC.seq ?_ | refine JC.ops ?_ | refine JO.nil ?_ | refine JX.thenN ?_ | (apply r_move; (iterate 3 exact rfl)) | (apply r_pickF; (iterate 4 exact rfl)) | (apply r_leq; (iterate 4 exact rfl); all_goals intro hc; all_goals try (exfalso; omega)) | (apply r_gtr; (iterate 4 exact rfl); all_goals intro hc; all_goals try (exfalso; omega)) | refine JX.thenE ?_ | refine JC.exit ?_ | refine JC.condF rfl ?_ | refine JX.blockE ?_ | (apply r_skip; exact rfl; exact rfl; (first | (intro h; cases h; done) | (intro _; rfl)))))
    refine r_tail (o' := i) rfl rfl rfl rfl (Nat.zero_add _) (by omega) (by omega) ?_
    (repeat' (first | (apply r_move; (iterate 3 exact rfl))))
    refine r_call0 trivial rfl rfl rfl (fun w hk hs => by
      have hw := WU.ofBlk (o := i) (k := n + 1 - i) (cc := capu - i) (hs_at hs 0 rfl) (by omega) (by omega)
      rw [List.take_of_length_le (by simp; omega)] at hw
      exact c_less w bu i (n + 1 - i) (capu - i) kv G (us.drop i) vs _ hw (hOv1.rd.at hk hs (by (repeat' first | exact HSub.nil _ | exact HSub.hd | exact HSub.in0 | exact HSub.refl _ | refine HSub.skip ?_ | refine HSub.skipN ?_))) (by omega) (fun x hx => hu0 x (List.mem_of_mem_drop hx)) hDv.lt (by omega) (by omega)) fun w v w' _ _ _ hR => ?_
    subst hR
    rw [hhead]
    by_cases hl : val W32 (us.drop i) < val W32 vs * G
    · rw [decide_eq_true hl]
      have hD : G - 1 = val W32 (us.drop i) / val W32 vs := by
        have h1 := Nat.div_lt_of_lt_mul hl
        generalize val W32 (us.drop i) / val W32 vs = q at *
        omega
      have hG1 : 1 ≤ G := by
        have h1 := Nat.div_lt_of_lt_mul hl
        generalize val W32 (us.drop i) / val W32 vs = q at *
        omega
      have hDlt : G - 1 < 4294967296 := by omega
      (repeat' (first | refine JC.seq ?_ | refine JC.ops ?_ | refine JO.nil ?_ | refine JX.thenN ?_ | (apply r_move; (iterate 3 exact rfl)) | (apply r_assign; (iterate 3 exact rfl)) | (apply r_decU; (iterate 4 exact rfl); (first | assumption | omega)) | refine JC.condT rfl ?_))
      refine r_tail (o' := i) rfl rfl rfl rfl (Nat.zero_add _) (by omega) (by omega) ?_
      (repeat' (first | (apply r_move; (iterate 3 exact rfl))))
      refine r_callO (A := []) (N := [_]) (B := (bv, .cells (rowCU vs0 restv) 59 (0, 0)) :: (Nq ++ [])) rfl trivial rfl rfl rfl (fun w hk hs => by
        have c := c_take w bu i capu kv (G - 1) capv us vs _ restu (hs_at hs 0 rfl) (by omega) (hOv1.rd.at hk hs (by (repeat' first | exact HSub.nil _ | exact HSub.hd | exact HSub.in0 | exact HSub.refl _ | refine HSub.skip ?_ | refine HSub.skipN ?_))) (fun _ => by simpa using (hs_ne hs 1 0 rfl rfl (by decide))) (by omega) hu0 hDv.lt hDlt (by omega) (by rw [hhead, hD]; exact Nat.mul_div_le _ _) (by omega)
        rw [hlu] at c
        exact c) fun w v w' _ _ _ hR => ?_
      obtain ⟨zs, hzl, hz, hvz, hbl⟩ := hR
      refine ⟨[(bu, .cells (rowCU (put i (kv + 1) zs us) restu) 59 (0, 0))], rfl, fun p hp => by cases List.mem_singleton.1 hp; exact hbl, ?_⟩
      (repeat' (first | refine JC.ops ?_ | refine JO.nil ?_ | refine JX.thenN ?_ | (apply r_move; (iterate 3 exact rfl)) | (apply r_idxU; (iterate 4 exact rfl); (first | assumption | exact WU.rd (by assumption) rfl [] | exact OwnU.rd (by assumption)); (first | assumption | omega))))
      refine r_stU (A := [_, _]) hOq rfl rfl trivial rfl rfl (by omega) (fun Nq' hOq' => ?_)
      (repeat' (first | refine JC.ops ?_ | refine JO.nil ?_ | refine JX.thenN ?_ | (apply r_move; (iterate 3 exact rfl)) | (apply r_assign; (iterate 3 exact rfl)) | (apply r_sub; (iterate 4 exact rfl); omega) | refine JX.blockN ?_))
      have hput := val_put (b := W32) (zs := zs) (show i + (kv + 1) ≤ us.length by omega) htail
      rw [hhead] at hvz
      refine JX.roundH (i, put i (kv + 1) zs us, Nq', _) ⟨by dsimp only; omega, by dsimp only; rw [put_len (by omega) hzl]; exact hlu, put_lt (by decide) hu0 hz.lt, hOq', set_lt hqs hDlt, ?_, ?_⟩ (by dsimp only; omega) (by repeat first | exact trivial | refine ⟨rfl, ?_⟩) (by (first | exact HSub.refl _ | (repeat' first | exact HSub.nil _ | exact HSub.refl _ | refine HSub.at 0 rfl ?_ | refine HSub.at 1 rfl ?_ | refine HSub.at 2 rfl ?_ | refine HSub.at 3 rfl ?_ | refine HSub.at 4 rfl ?_ | refine HSub.at 5 rfl ?_ | refine HSub.at 6 rfl ?_ | refine HSub.at 7 rfl ?_)))
      · dsimp only
        rw [hput]
        rw [hD] at hvz
        have hm := Nat.mod_lt (val W32 (us.drop i)) hV0
        have hdm := Nat.div_add_mod (val W32 (us.drop i)) (val W32 vs)
        omega
      · dsimp only
        have e1 := val_cut W32 (put i (kv + 1) zs us) i (by rw [put_len (by omega) hzl]; omega)
        rw [put_take (by omega), hput] at e1
        rw [e1, val_drop (l := qs.set i _) (by simp; omega), getD_set_self (by omega), drop_set]
        have e2 := val_cut W32 us i (by omega)
        rw [e2, Nat.pow_succ] at hval
        exact kn_inv hvz.symm hval
    · rw [decide_eq_false hl]
      have hD : G = val W32 (us.drop i) / val W32 vs := by
        have h1 : G ≤ val W32 (us.drop i) / val W32 vs := (Nat.le_div_iff_mul_le hV0).2 (by rw [Nat.mul_comm]; omega)
        exact Nat.le_antisymm h1 hqG
      have hDlt : G < 4294967296 := by omega
      (repeat' (first | refine JC.seq ?_ | refine JC.ops ?_ | refine JO.nil ?_ | refine JX.thenN ?_ | (apply r_move; (iterate 3 exact rfl)) | refine JC.skip ?_ | refine JC.condF rfl ?_))
      refine r_tail (o' := i) rfl rfl rfl rfl (Nat.zero_add _) (by omega) (by omega) ?_
      (repeat' (first | (apply r_move; (iterate 3 exact rfl))))
      refine r_callO (A := []) (N := [_]) (B := (bv, .cells (rowCU vs0 restv) 59 (0, 0)) :: (Nq ++ [])) rfl trivial rfl rfl rfl (fun w hk hs => by
        have c := c_take w bu i capu kv (G) capv us vs _ restu (hs_at hs 0 rfl) (by omega) (hOv1.rd.at hk hs (by (repeat' first | exact HSub.nil _ | exact HSub.hd | exact HSub.in0 | exact HSub.refl _ | refine HSub.skip ?_ | refine HSub.skipN ?_))) (fun _ => by simpa using (hs_ne hs 1 0 rfl rfl (by decide))) (by omega) hu0 hDv.lt hDlt (by omega) (by rw [hhead, hD]; exact Nat.mul_div_le _ _) (by omega)
        rw [hlu] at c
        exact c) fun w v w' _ _ _ hR => ?_
      obtain ⟨zs, hzl, hz, hvz, hbl⟩ := hR
      refine ⟨[(bu, .cells (rowCU (put i (kv + 1) zs us) restu) 59 (0, 0))], rfl, fun p hp => by cases List.mem_singleton.1 hp; exact hbl, ?_⟩
      (repeat' (first | refine JC.ops ?_ | refine JO.nil ?_ | refine JX.thenN ?_ | (apply r_move; (iterate 3 exact rfl)) | (apply r_idxU; (iterate 4 exact rfl); (first | assumption | exact WU.rd (by assumption) rfl [] | exact OwnU.rd (by assumption)); (first | assumption | omega))))
      refine r_stU (A := [_, _]) hOq rfl rfl trivial rfl rfl (by omega) (fun Nq' hOq' => ?_)
      (repeat' (first | refine JC.ops ?_ | refine JO.nil ?_ | refine JX.thenN ?_ | (apply r_move; (iterate 3 exact rfl)) | (apply r_assign; (iterate 3 exact rfl)) | (apply r_sub; (iterate 4 exact rfl); omega) | refine JX.blockN ?_))
      have hput := val_put (b := W32) (zs := zs) (show i + (kv + 1) ≤ us.length by omega) htail
      rw [hhead] at hvz
      refine JX.roundH (i, put i (kv + 1) zs us, Nq', _) ⟨by dsimp only; omega, by dsimp only; rw [put_len (by omega) hzl]; exact hlu, put_lt (by decide) hu0 hz.lt, hOq', set_lt hqs hDlt, ?_, ?_⟩ (by dsimp only; omega) (by repeat first | exact trivial | refine ⟨rfl, ?_⟩) (by (first | exact HSub.refl _ | (repeat' first | exact HSub.nil _ | exact HSub.refl _ | refine HSub.at 0 rfl ?_ | refine HSub.at 1 rfl ?_ | refine HSub.at 2 rfl ?_ | refine HSub.at 3 rfl ?_ | refine HSub.at 4 rfl ?_ | refine HSub.at 5 rfl ?_ | refine HSub.at 6 rfl ?_ | refine HSub.at 7 rfl ?_)))
      · dsimp only
        rw [hput]
        rw [hD] at hvz
        have hm := Nat.mod_lt (val W32 (us.drop i)) hV0
        have hdm := Nat.div_add_mod (val W32 (us.drop i)) (val W32 vs)
        omega
      · dsimp only
        have e1 := val_cut W32 (put i (kv + 1) zs us) i (by rw [put_len (by omega) hzl]; omega)
        rw [put_take (by omega), hput] at e1
        rw [e1, val_drop (l := qs.set i _) (by simp; omega), getD_set_self (by omega), drop_set]
        have e2 := val_cut W32 us i (by omega)
        rw [e2, Nat.pow_succ] at hval
        exact kn_inv hvz.symm hval


section
variable {c : Cx} {Q : Exit → Act → World → Prop} {m : Mode} {F : SFrame} {H Hs : SHeap} {r : List SOp} {g : Option (Option Tmp × Bool)} {ns : Bool} {d : Tmp} {ty t t' : TypeId} {x y : Operand}

theorem storeL_full {vs cs : Array Value} (h : vs.size = cs.size) : storeL cs 0 vs.toList = vs := by
  have key : ∀ (l : List Value) (cs : Array Value) (o : Nat), o + l.length = cs.size → (storeL cs o l).toList = cs.toList.take o ++ l := by
    intro l
    induction l with
    | nil =>
      intro cs o h
      simp only [List.length_nil, Nat.add_zero] at h
      rw [storeL, List.append_nil, List.take_of_length_le (by simp [h])]
    | cons v l ih =>
      intro cs o h
      simp only [List.length_cons] at h
      rw [storeL, ih _ _ (by rw [Array.size_setIfInBounds]; omega), Array.toList_setIfInBounds]
      have hlt : o < (cs.toList.set o v).length := by simp; omega
      rw [List.take_succ_eq_append_getElem hlt, List.take_set_of_le (Nat.le_refl _)]
      simp
  have := key vs.toList cs 0 (by simp; omega)
  apply Array.ext'
  simpa using this

theorem r_storeKN {b n : Nat} (k : Nat) {cs vs : Array Value} {T : TypeId} [TN c.P t n] (hg : guardF F g = some true) (hx : ev F x = some (.pointer (some ⟨b, 0, none⟩))) (hy : ev F y = some (.agg vs))
    (hb : H[k]? = some (b, .cells cs T (0, 0))) (hn : vs.size = n) (hn' : cs.size = n) (hv : (vs.toList.all (·.oneCell')) = true) (hHs : HSub Hs (H.set k (b, .cells vs T (0, 0)))) (h : JO c Q (.draw Hs true) r F (H.set k (b, .cells vs T (0, 0)))) :
    JO c Q (.draw Hs true) (⟨none, .store t x y, ty, g, .seq, ns⟩ :: r) F H := by
  refine ⟨⟨rfl, .inr ⟨hg, fun a w st _ => ?_⟩⟩⟩
  have hm' : (b, Obj.cells cs T (0, 0)) ∈ H := List.mem_of_getElem? hb
  obtain ⟨w', h1, h2, h3, h4, h5, h6, h7⟩ := run_storeAt (P := c.P) (t := t) (n := n) TN.size (o := 0) (v := .agg vs) (w := w) (by show vs.size = n; exact hn) (by show ∀ u ∈ vs.toList, _; exact List.all_eq_true.1 hv) (st.hs.blk _ hm') (by omega)
  have h2 : w'.heap[b]? = some (.cells (storeL cs 0 vs.toList) T (0, 0)) := h2
  rw [storeL_full (by omega)] at h2
  obtain ⟨st', hstep⟩ := setBlk st hb h2 h3 h4 h5 h6 h7
  unfold Oper.wp SOp.oper
  simp only [execOp, st.fr.ev hx, st.fr.ev hy, Sem.run_bind, h1, Result.andThen_ok, Sem.run_pure]
  exact ⟨hstep, F, _, .draw Hs true, st', fun j hj => .inl (keys_set hb j hj), ⟨rfl, fun _ => ⟨rfl, hHs.hsat st'.hs⟩, fun _ => rfl, .inl rfl⟩, h.h⟩

theorem r_ldNS {b n : Nat} (k : Nat) {cs : Array Value} {T : TypeId} {fz : Nat × Nat} [TN c.P t n] (hm : m.mayCall ns r) (hd : dstOk c.n (some d) = true) (hg : guardF F g = some true) (hx : ev F x = some (.pointer (some ⟨b, 0, none⟩)))
    (hb : H[k]? = some (b, .cells cs T fz)) (hn : cs.size = n) (h : JO c Q m r ((d, (.agg cs)) :: F) H) : JO c Q m (⟨some d, .load t x, ty, g, .seq, ns⟩ :: r) F H :=
  r_seqR (v := .agg cs) hm hd hg (fun a w fr hs => by
    have := run_loadN (P := c.P) (t := t) (n := n) (w := w) (b := b) (o := 0) (vs := cs) hn (fun j hj => by
      have hj' : j < cs.size := by omega
      rw [Nat.zero_add, Array.getElem?_eq_getElem hj']
      exact src_cell hs hb (Array.getElem?_eq_getElem hj'))
    simp only [execOp, fr.ev hx, Sem.run_bind, this, Result.andThen_ok, Sem.run_pure]) h
end

theorem JC.forkS {c : Cx} {Q : Exit → Act → World → Prop} {F : SFrame} {H : SHeap} {id : Nat} {ops : Array Oper} (Hs : SHeap) (hHs : HSub Hs H) (i j : Nat) (kd : Nat → Op → Kind) (t1 t2 : Nat) (o1 o2 : List Nat) (hij : i ≠ j) (hm : c.P.follows .mixedOrders = true)
    (hB1 : canonB c.P kd (edge ops i j) o1 t1 = true) (hB2 : canonB c.P kd (edge ops j i) o2 t2 = true)
    (h1 : JO c Q (.draw Hs true) (sopsAt kd ops t1 o1) F H) (h2 : JO c Q (.draw Hs true) (sopsAt kd ops t2 o2) F H) : JC c Q (.raw (.region id ops true)) F H := ⟨fun a w st => by
  show (Code.region id ops true).wp c.P Q a w
  refine wp_mono ?_ (fun e a w h => Only.up e a w h)
  have a1 := any_of_canon (Q := Q) hB1 st (hHs.hsat st.hs) (by rw [sopsAt_edge]; exact h1.h)
  have a2 := any_of_canon (Q := Q) hB2 st (hHs.hsat st.hs) (by rw [sopsAt_edge]; exact h2.h)
  rw [edge_size] at a1 a2
  refine wp_region_draw fun t => ?_
  simp only [Region.schedule, hm, Bool.true_or, if_true]
  rcases ordr_fork hij _ _ _ (ordr_go (ops := ops) ops.size t (Array.replicate ops.size false)) with h | h
  · obtain ⟨t', ht⟩ := go_ordr _ _ _ h
    have := wpAny_sound ops.size t' _ a _ a1
    rw [ht] at this
    exact wpOps_edge _ _ _ this
  · obtain ⟨t', ht⟩ := go_ordr _ _ _ h
    have := wpAny_sound ops.size t' _ a _ a2
    rw [ht] at this
    exact wpOps_edge _ _ _ this⟩


def IsZ (v : Value) (a : Int) (k : Nat) : Prop := ∃ p l, v = wv p l ∧ l.length ≤ k ∧ a = sgn p (bval (bts l))
theorem bts_mem {l : List UInt8} : ∀ x ∈ bts l, x < 256 := fun x hx => by
  obtain ⟨a, _, rfl⟩ := List.mem_map.1 hx
  exact UInt8.toNat_lt a
theorem bval_bts_lt {l : List UInt8} {k : Nat} (h : l.length ≤ k) : bval (bts l) < 256 ^ k := by
  have h1 := bval_lt (bts_mem (l := l))
  rw [bts_len] at h1
  exact Nat.lt_of_lt_of_le h1 (Nat.pow_le_pow_right (by decide) h)
theorem IsZ.lt {v : Value} {a : Int} {k : Nat} (h : IsZ v a k) : a.natAbs < 256 ^ k := by
  obtain ⟨p, l, rfl, hl, rfl⟩ := h
  rw [sgn_natAbs]
  exact bval_bts_lt hl
theorem IsZ.mono {v : Value} {a : Int} {k k' : Nat} (h : IsZ v a k) (hk : k ≤ k') : IsZ v a k' := by
  obtain ⟨p, l, rfl, hl, rfl⟩ := h
  exact ⟨p, l, rfl, by omega, rfl⟩
theorem IsZ.can {a : Int} {k : Nat} (h : a.natAbs < 256 ^ k) : IsZ (Wv a) a k :=
  ⟨_, _, rfl, magU_len h, by rw [bval_magU, sgn_self]⟩
theorem words_le {zs : List Nat} {l : List UInt8} {k : Nat} (hz : Dig W32 zs) (hv : val W32 zs = bval (bts l)) (hl : l.length ≤ k) : zs.length ≤ k := by
  refine hz.len_le (by decide) ?_
  rw [hv]
  exact Nat.lt_of_lt_of_le (bval_bts_lt hl) (Nat.pow_le_pow_left (by decide) k)

set_option maxHeartbeats 2000000 in
theorem c_Neg (w : World) (v : Value) (a : Int) (k : Nat) (hv : IsZ v a k) (hk : k ≤ 100000000) :
    Calls Tryd.prog 50 #[v] w (Ret fun r w' => Kp [] w w' ∧ r = Wv (-a)) := by
  obtain ⟨p, l, rfl, hl1, rfl⟩ := hv
  refine calls_of_S [⟨1, 1, [0, 2, 3, 4, 1, 5, 6], []⟩] [] (by simp) [] Tryd.func50 rfl mixed (by kernel_rfl) Tryd.ntmps50 Tryd.results50 rfl ⟨by simp, by simp⟩ (by simp) ?_
  simp only [toS, textOps, toSOp, kindAt, kindOf, odAt, sopsAt, ordOf, zipF]
  (repeat' (first | refine JC.seq ?_ | refine JC.ops ?_ | refine JC.opsD ?_ | refine JO.nil ?_ | refine JX.thenN ?_ | (apply r_fieldAddr; (iterate 3 exact rfl)) | (apply r_load; (iterate 4 exact rfl); exact at1; exact rfl) | (apply r_loadN; (iterate 4 exact rfl); exact at1; exact rfl) | (apply r_not; (iterate 3 exact rfl)) | (apply r_allocZ; (iterate 3 exact rfl); intro _) | (apply r_boxA; (iterate 4 exact rfl); intro _)))
  refine r_callA (A := [_, _]) rfl trivial rfl rfl rfl (fun w hk hs => c_abs w p l (by omega)) fun w v w' _ _ _ hR => ?_
  obtain ⟨N1, zs1, hN1, hO1, hz1, hval1⟩ := hR
  refine ⟨N1, hN1, ?_⟩
  have hzl1 := words_le hz1 hval1 hl1
  skip
  refine r_call0 trivial rfl rfl rfl (fun w hk hs => c_wide w _ _ zs1 (!p) (hO1.rd.at hk hs (by (repeat' first | exact HSub.nil _ | exact HSub.hd | exact HSub.in0 | exact HSub.refl _ | refine HSub.skip ?_ | refine HSub.skipN ?_))) hz1.lt (by omega)) fun w v w' _ _ _ hR => ?_
  subst hR
  (repeat' (first | refine JO.nil ?_ | refine JX.thenN ?_ | (apply r_storeN; exact rfl; (first | exact trivial | exact ⟨rfl, rfl⟩); exact rfl; exact rfl; exact at0; (iterate 3 exact rfl)) | (apply r_storeN; exact rfl; (first | exact trivial | exact ⟨rfl, rfl⟩); exact rfl; exact rfl; exact at0; (iterate 3 exact rfl)) | refine JC.ret ?_))
  exact JX.retC 0 rfl rfl rfl (fun a w' st => ⟨st.kp, by show Wv (sgn (!p) (val W32 zs1)) = _; rw [hval1, sgn_not]⟩)

set_option maxHeartbeats 2000000 in
theorem c_Sign (w : World) (v : Value) (a : Int) (k : Nat) (hv : IsZ v a k) (hk : k ≤ 100000000) :
    Calls Tryd.prog 12 #[v] w (Ret fun r w' => Kp [] w w' ∧ r = iv a.sign) := by
  obtain ⟨p, l, rfl, hl1, rfl⟩ := hv
  refine calls_of_S [] [] (by simp) [] Tryd.func12 rfl mixed (by kernel_rfl) Tryd.ntmps12 Tryd.results12 rfl ⟨by simp, by simp⟩ (by simp) ?_
  simp only [toS, textOps, toSOp, kindAt, kindOf, odAt, sopsAt, ordOf, zipF]
  (repeat' (first | refine JC.seq ?_ | refine JC.ops ?_ | refine JO.nil ?_ | refine JX.thenN ?_ | (apply r_assign; (iterate 3 exact rfl)) | (apply r_loadN; (iterate 4 exact rfl); exact at0; exact rfl) | (apply r_boxA; (iterate 4 exact rfl); intro _) | refine JC.block ?_))
  refine r_callA (A := [_]) rfl trivial rfl rfl rfl (fun w hk hs => c_abs w p l (by omega)) fun w v w' _ _ _ hR => ?_
  obtain ⟨N1, zs1, hN1, hO1, hz1, hval1⟩ := hR
  refine ⟨N1, hN1, ?_⟩
  have hzl1 := words_le hz1 hval1 hl1
  have he := hz1.eq_nil (by decide)
  rw [hval1] at he
  by_cases h0 : zs1.length = 0
  · have h1 := he.1 (List.eq_nil_of_length_eq_zero h0)
    rw [h1, sgn_zero]
    (repeat' (first | refine JC.seq ?_ | refine JC.ops ?_ | refine JO.nil ?_ | refine JX.thenN ?_ | (apply r_assign; (iterate 3 exact rfl)) | (apply r_lenU; (iterate 3 exact rfl); (first | assumption | exact WU.rd (by assumption) rfl [] | exact OwnU.rd (by assumption))) | (apply r_eql; (iterate 4 exact rfl); all_goals intro hc; all_goals try (exfalso; omega)) | refine JX.thenR ?_ | refine JC.ret ?_ | refine JC.condT rfl ?_ | refine JX.blockR ?_))
    exact JX.ret1 rfl (fun a w' st => ⟨st.kp, rfl⟩)
  · have h1 : bval (bts l) ≠ 0 := fun h => h0 (by rw [he.2 h]; rfl)
    cases p with
    | false =>
      have h2 : (sgn false (bval (bts l))).sign = 1 := Int.sign_eq_one_of_pos (by simp [sgn]; omega)
      rw [h2]
      (repeat' (first | refine JC.seq ?_ | refine JC.ops ?_ | refine JO.nil ?_ | refine JX.thenN ?_ | (apply r_fieldAddr; (iterate 3 exact rfl)) | (apply r_assign; (iterate 3 exact rfl)) | (apply r_load; (iterate 4 exact rfl); exact at0; exact rfl) | (apply r_lenU; (iterate 3 exact rfl); (first | assumption | exact WU.rd (by assumption) rfl [] | exact OwnU.rd (by assumption))) | (apply r_eql; (iterate 4 exact rfl); all_goals intro hc; all_goals try (exfalso; omega)) | refine JC.skip ?_ | refine JC.ret ?_ | refine JC.condF rfl ?_ | refine JX.blockN ?_))
      exact JX.ret1 rfl (fun a w' st => ⟨st.kp, rfl⟩)
    | true =>
      have h2 : (sgn true (bval (bts l))).sign = -1 := Int.sign_eq_neg_one_of_neg (by simp [sgn]; omega)
      rw [h2]
      (repeat' (first | refine JC.seq ?_ | refine JC.ops ?_ | refine JO.nil ?_ | refine JX.thenN ?_ | (apply r_fieldAddr; (iterate 3 exact rfl)) | (apply r_assign; (iterate 3 exact rfl)) | (apply r_load; (iterate 4 exact rfl); exact at0; exact rfl) | (apply r_lenU; (iterate 3 exact rfl); (first | assumption | exact WU.rd (by assumption) rfl [] | exact OwnU.rd (by assumption))) | (apply r_eql; (iterate 4 exact rfl); all_goals intro hc; all_goals try (exfalso; omega)) | refine JX.thenR ?_ | refine JC.ret ?_ | refine JC.condT rfl ?_ | refine JC.condF rfl ?_ | refine JX.blockR ?_))
      exact JX.ret1 rfl (fun a w' st => ⟨st.kp, rfl⟩)

set_option maxHeartbeats 4000000 in
theorem c_Add (w : World) (v u : Value) (a b : Int) (k : Nat) (hv : IsZ v a k) (hu : IsZ u b k) (hk : k ≤ 100000000) :
    Calls Tryd.prog 61 #[v, u] w (Ret fun r w' => Kp [] w w' ∧ r = Wv (a + b)) := by
  obtain ⟨p, l, rfl, hl1, rfl⟩ := hv
  obtain ⟨q, l', rfl, hl2, rfl⟩ := hu
  refine calls_of_S [⟨1, 1, [0, 2, 1, 3, 4, 5], []⟩, ⟨3, 2, [0, 1, 3, 4, 2, 5, 6], []⟩, ⟨5, 2, [0, 1, 3, 4, 2, 5, 6], []⟩, ⟨6, 2, [0, 1, 3, 4, 2, 5, 6], []⟩] [] (by simp) [] Tryd.func61 rfl mixed (by kernel_rfl) Tryd.ntmps61 Tryd.results61 rfl ⟨by simp, by simp⟩ (by simp) ?_
  simp only [toS, textOps, toSOp, kindAt, kindOf, odAt, sopsAt, ordOf, zipF]
  (repeat' (first | refine JC.seq ?_ | refine JC.ops ?_ | refine JC.opsD ?_ | refine JO.nil ?_ | refine JX.thenN ?_ | (apply r_loadN; (iterate 4 exact rfl); (first | exact at1 | exact at2); exact rfl) | (apply r_allocZ; (iterate 3 exact rfl); intro _) | (apply r_boxA; (iterate 4 exact rfl); intro _)))
  refine r_callA (A := [_, _, _]) rfl trivial rfl rfl rfl (fun w hk hs => c_abs w p l (by omega)) fun w v w' _ _ _ hR => ?_
  obtain ⟨N1, zs1, hN1, hO1, hz1, hval1⟩ := hR
  refine ⟨N1, hN1, ?_⟩
  have hzl1 := words_le hz1 hval1 hl1
  skip
  refine r_callA (A := [_, _, _]) rfl trivial rfl rfl rfl (fun w hk hs => c_abs w q l' (by omega)) fun w v w' _ _ _ hR => ?_
  obtain ⟨N2, zs2, hN2, hO2, hz2, hval2⟩ := hR
  refine ⟨N2, hN2, ?_⟩
  have hzl2 := words_le hz2 hval2 hl2
  by_cases hpq : p = q
  · subst hpq
    (repeat' (first | refine JC.seq ?_ | refine JC.ops ?_ | refine JC.opsD ?_ | refine JO.nil ?_ | refine JX.thenN ?_ | (apply r_move; (iterate 3 exact rfl)) | (apply r_fieldAddr; (iterate 3 exact rfl)) | (apply r_assign; (iterate 3 exact rfl)) | (apply r_load; (iterate 4 exact rfl); (first | exact at1 | exact at2); exact rfl) | (apply r_eqBS; (iterate 4 exact rfl)) | refine JC.condT rfl ?_ | refine JC.block ?_))
    refine r_callA (A := [_, _, _]) rfl trivial rfl rfl rfl (fun w hk hs => c_add w _ _ _ _ _ _ (hO1.rd.at hk hs (by (repeat' first | exact HSub.nil _ | exact HSub.hd | exact HSub.in0 | exact HSub.refl _ | refine HSub.skip ?_ | refine HSub.skipN ?_))) (hO2.rd.at hk hs (by (repeat' first | exact HSub.nil _ | exact HSub.hd | exact HSub.in0 | exact HSub.refl _ | refine HSub.skip ?_ | refine HSub.skipN ?_))) hz1.lt hz2.lt (by omega) (by omega)) fun w v w' _ _ _ hR => ?_
    obtain ⟨N3, zs3, hN3, hO3, hz3, hval3⟩ := hR
    refine ⟨N3, hN3, ?_⟩
    rw [hval1, hval2] at hval3
    have hzl3 : zs3.length ≤ k + 1 := by
      refine hz3.len_le (by decide) ?_
      rw [hval3, Nat.pow_succ]
      have h1 := Nat.lt_of_lt_of_le (bval_bts_lt hl1) (Nat.pow_le_pow_left (show 256 ≤ W32 by decide) k)
      have h2 := Nat.lt_of_lt_of_le (bval_bts_lt hl2) (Nat.pow_le_pow_left (show 256 ≤ W32 by decide) k)
      show _ < W32 ^ k * 4294967296
      omega
    skip
    refine r_call0 trivial rfl rfl rfl (fun w hk hs => c_wide w _ _ zs3 p (hO3.rd.at hk hs (by (repeat' first | exact HSub.nil _ | exact HSub.hd | exact HSub.in0 | exact HSub.refl _ | refine HSub.skip ?_ | refine HSub.skipN ?_))) hz3.lt (by omega)) fun w v w' _ _ _ hR => ?_
    subst hR
    (repeat' (first | refine JO.nil ?_ | refine JX.thenN ?_ | (apply r_storeN; exact rfl; (first | exact trivial | exact ⟨rfl, rfl⟩); exact rfl; exact rfl; exact at0; (iterate 3 exact rfl)) | (apply r_storeN; exact rfl; (first | exact trivial | exact ⟨rfl, rfl⟩); exact rfl; exact rfl; exact at0; (iterate 3 exact rfl)) | refine JX.thenR ?_ | refine JC.ret ?_ | refine JX.blockR ?_))
    exact JX.retC 0 rfl rfl rfl (fun a w' st => ⟨st.kp, by show Wv (sgn p (val W32 zs3)) = _; rw [hval3, sgn_add]⟩)
  have hpq' : (p == q) = false := by simpa using hpq
  (repeat' (first | refine JC.seq ?_ | refine JC.ops ?_ | refine JO.nil ?_ | refine JX.thenN ?_ | (apply r_fieldAddr; (iterate 3 exact rfl)) | (apply r_assign; (iterate 3 exact rfl)) | (apply r_load; (iterate 4 exact rfl); (first | exact at1 | exact at2); exact rfl) | (apply r_eqB; (iterate 4 exact rfl)) | refine JC.block ?_))
  rw [hpq']
  (repeat' (first | refine JC.seq ?_ | refine JC.ops ?_ | (apply r_move; (iterate 3 exact rfl)) | refine JC.condF rfl ?_))
  refine r_call0 trivial rfl rfl rfl (fun w hk hs => c_cmp w _ _ _ _ _ _ (hO1.rd.at hk hs (by (repeat' first | exact HSub.nil _ | exact HSub.hd | exact HSub.in0 | exact HSub.refl _ | refine HSub.skip ?_ | refine HSub.skipN ?_))) (hO2.rd.at hk hs (by (repeat' first | exact HSub.nil _ | exact HSub.hd | exact HSub.in0 | exact HSub.refl _ | refine HSub.skip ?_ | refine HSub.skipN ?_))) hz1 hz2 (by omega) (by omega)) fun w v w' _ _ _ hR => ?_
  subst hR
  by_cases hlt : val W32 zs1 < val W32 zs2
  · have hneg := cmpV_neg.2 hlt
    have hlen : zs1.length ≤ zs2.length := by
      refine Decidable.byContradiction fun h => ?_
      have := len_cmp (b := W32) (by decide) hz2 hz1 (by omega)
      omega
    (repeat' (first | refine JC.seq ?_ | refine JC.opsD ?_ | refine JO.nil ?_ | refine JX.thenN ?_ | (apply r_move; (iterate 3 exact rfl)) | (apply r_fieldAddr; (iterate 3 exact rfl)) | (apply r_assign; (iterate 3 exact rfl)) | (apply r_load; (iterate 4 exact rfl); exact at1; exact rfl) | (apply r_lss; (iterate 4 exact rfl); all_goals intro hc; all_goals try (exfalso; omega)) | refine JC.condT rfl ?_))
    refine r_callA (A := [_, _, _]) rfl trivial rfl rfl rfl (fun w hk hs => c_sub w _ _ _ _ _ _ (hO2.rd.at hk hs (by (repeat' first | exact HSub.nil _ | exact HSub.hd | exact HSub.in0 | exact HSub.refl _ | refine HSub.skip ?_ | refine HSub.skipN ?_))) (hO1.rd.at hk hs (by (repeat' first | exact HSub.nil _ | exact HSub.hd | exact HSub.in0 | exact HSub.refl _ | refine HSub.skip ?_ | refine HSub.skipN ?_))) hz2.lt hz1.lt (by omega) hlen (Nat.le_of_lt hlt)) fun w v w' _ _ _ hR => ?_
    obtain ⟨N3, zs3, hN3, hO3, hz3, hval3⟩ := hR
    refine ⟨N3, hN3, ?_⟩
    have hzl3 : zs3.length ≤ k := hz3.len_le (by decide) (Nat.lt_of_le_of_lt (show val W32 zs3 ≤ val W32 zs2 by omega) (by rw [hval2]; exact Nat.lt_of_lt_of_le (bval_bts_lt hl2) (Nat.pow_le_pow_left (by decide) k)))
    rw [hval1, hval2] at hval3
    rw [hval1, hval2] at hlt
    skip
    refine r_call0 trivial rfl rfl rfl (fun w hk hs => c_wide w _ _ zs3 q (hO3.rd.at hk hs (by (repeat' first | exact HSub.nil _ | exact HSub.hd | exact HSub.in0 | exact HSub.refl _ | refine HSub.skip ?_ | refine HSub.skipN ?_))) hz3.lt (by omega)) fun w v w' _ _ _ hR => ?_
    subst hR
    (repeat' (first | refine JO.nil ?_ | refine JX.thenN ?_ | (apply r_storeN; exact rfl; (first | exact trivial | exact ⟨rfl, rfl⟩); exact rfl; exact rfl; exact at0; (iterate 3 exact rfl)) | (apply r_storeN; exact rfl; (first | exact trivial | exact ⟨rfl, rfl⟩); exact rfl; exact rfl; exact at0; (iterate 3 exact rfl)) | refine JX.thenR ?_ | refine JC.ret ?_ | refine JX.blockR ?_))
    exact JX.retC 0 rfl rfl rfl (fun a w' st => ⟨st.kp, by show Wv (sgn q (val W32 zs3)) = _; rw [← sgn_sub1 hpq hlt, ← hval3, Nat.add_sub_cancel]⟩)
  · have hneg : ¬ cmpV (val W32 zs1) (val W32 zs2) < 0 := fun h => hlt (cmpV_neg.1 h)
    have hlen : zs2.length ≤ zs1.length := by
      refine Decidable.byContradiction fun h => hlt ?_
      exact len_cmp (b := W32) (by decide) hz1 hz2 (by omega)
    (repeat' (first | refine JC.seq ?_ | refine JC.opsD ?_ | refine JO.nil ?_ | refine JX.thenN ?_ | (apply r_move; (iterate 3 exact rfl)) | (apply r_fieldAddr; (iterate 3 exact rfl)) | (apply r_assign; (iterate 3 exact rfl)) | (apply r_load; (iterate 4 exact rfl); exact at2; exact rfl) | (apply r_lss; (iterate 4 exact rfl); all_goals intro hc; all_goals try (exfalso; omega)) | refine JC.skip ?_ | refine JC.condF rfl ?_ | refine JX.blockN ?_))
    refine r_callA (A := [_, _, _]) rfl trivial rfl rfl rfl (fun w hk hs => c_sub w _ _ _ _ _ _ (hO1.rd.at hk hs (by (repeat' first | exact HSub.nil _ | exact HSub.hd | exact HSub.in0 | exact HSub.refl _ | refine HSub.skip ?_ | refine HSub.skipN ?_))) (hO2.rd.at hk hs (by (repeat' first | exact HSub.nil _ | exact HSub.hd | exact HSub.in0 | exact HSub.refl _ | refine HSub.skip ?_ | refine HSub.skipN ?_))) hz1.lt hz2.lt (by omega) hlen (by omega)) fun w v w' _ _ _ hR => ?_
    obtain ⟨N3, zs3, hN3, hO3, hz3, hval3⟩ := hR
    refine ⟨N3, hN3, ?_⟩
    have hzl3 : zs3.length ≤ k := hz3.len_le (by decide) (Nat.lt_of_le_of_lt (show val W32 zs3 ≤ val W32 zs1 by omega) (by rw [hval1]; exact Nat.lt_of_lt_of_le (bval_bts_lt hl1) (Nat.pow_le_pow_left (by decide) k)))
    rw [hval1, hval2] at hval3
    rw [hval1, hval2] at hlt
    skip
    refine r_call0 trivial rfl rfl rfl (fun w hk hs => c_wide w _ _ zs3 p (hO3.rd.at hk hs (by (repeat' first | exact HSub.nil _ | exact HSub.hd | exact HSub.in0 | exact HSub.refl _ | refine HSub.skip ?_ | refine HSub.skipN ?_))) hz3.lt (by omega)) fun w v w' _ _ _ hR => ?_
    subst hR
    (repeat' (first | refine JO.nil ?_ | refine JX.thenN ?_ | (apply r_storeN; exact rfl; (first | exact trivial | exact ⟨rfl, rfl⟩); exact rfl; exact rfl; exact at0; (iterate 3 exact rfl)) | (apply r_storeN; exact rfl; (first | exact trivial | exact ⟨rfl, rfl⟩); exact rfl; exact rfl; exact at0; (iterate 3 exact rfl)) | refine JC.ret ?_))
    exact JX.retC 0 rfl rfl rfl (fun a w' st => ⟨st.kp, by show Wv (sgn p (val W32 zs3)) = _; rw [← sgn_sub2 hpq hlt, ← hval3, Nat.add_sub_cancel]⟩)

theorem two_pow_lt {n k : Nat} (h : n < 256 ^ k) {m : Nat} (hm : m < 256 ^ k) : n + m < 256 ^ (k + 1) := by
  rw [Nat.pow_succ]
  omega
theorem IsZ.add {a b : Int} {k : Nat} (h : a.natAbs < 256 ^ k) (h' : b.natAbs < 256 ^ k) : IsZ (Wv (a + b)) (a + b) (k + 1) := IsZ.can (Nat.lt_of_le_of_lt (Int.natAbs_add_le a b) (two_pow_lt h h'))
theorem mul_lt {a b : Int} {k k' : Nat} (h : a.natAbs < 256 ^ k) (h' : b.natAbs < 256 ^ k') : (a * b).natAbs < 256 ^ (k + k') := by
  rw [Int.natAbs_mul, Nat.pow_add]
  exact Nat.mul_lt_mul_of_lt_of_le h (Nat.le_of_lt h') (Nat.pow_pos (by decide))

set_option maxHeartbeats 2000000 in
theorem c_Sub (w : World) (v u : Value) (a b : Int) (k : Nat) (hv : IsZ v a k) (hu : IsZ u b k) (hk : k ≤ 100000000) :
    Calls Tryd.prog 30 #[v, u] w (Ret fun r w' => Kp [] w w' ∧ r = Wv (a - b)) := by
  have hZ : IsZ (Wv (-b)) (-b) k := IsZ.can (by rw [Int.natAbs_neg]; exact hu.lt)
  obtain ⟨p, l, rfl, hl1, rfl⟩ := hv
  obtain ⟨q, l', rfl, hl2, rfl⟩ := hu
  refine calls_of_S [⟨1, 1, [], []⟩] [] (by simp) [] Tryd.func30 rfl mixed (by kernel_rfl) Tryd.ntmps30 Tryd.results30 rfl ⟨by simp, by simp⟩ (by simp) ?_
  simp only [toS, textOps, toSOp, kindAt, kindOf, odAt, sopsAt, ordOf, zipF]
  (repeat' (first | refine JC.seq ?_ | refine JC.ops ?_ | refine JC.opsD ?_ | refine JO.nil ?_ | refine JX.thenN ?_ | (apply r_loadN; (iterate 4 exact rfl); (first | exact at1 | exact at2); exact rfl) | (apply r_allocZ; (iterate 3 exact rfl); intro _) | (apply r_boxA; (iterate 4 exact rfl); intro _)))
  refine r_call0 trivial rfl rfl rfl (fun w hk' hs => c_Neg w _ _ k ⟨q, l', rfl, hl2, rfl⟩ hk) fun w v w' _ _ _ hR => ?_
  subst hR
  skip
  refine r_call0 trivial rfl rfl rfl (fun w hk' hs => c_Add w _ _ _ _ k ⟨p, l, rfl, hl1, rfl⟩ hZ hk) fun w v w' _ _ _ hR => ?_
  subst hR
  (repeat' (first | refine JO.nil ?_ | refine JX.thenN ?_ | (apply r_storeN; exact rfl; (first | exact trivial | exact ⟨rfl, rfl⟩); exact rfl; exact rfl; exact at0; (iterate 3 exact rfl)) | (apply r_storeN; exact rfl; (first | exact trivial | exact ⟨rfl, rfl⟩); exact rfl; exact rfl; exact at0; (iterate 3 exact rfl)) | refine JC.ret ?_))
  exact JX.retC 0 rfl rfl rfl (fun a w' st => ⟨st.kp, by rw [Int.sub_eq_add_neg]; rfl⟩)

set_option maxHeartbeats 2000000 in
theorem c_Mul (w : World) (v u : Value) (a b : Int) (k : Nat) (hv : IsZ v a k) (hu : IsZ u b k) (hk : k ≤ 100000000) :
    Calls Tryd.prog 14 #[v, u] w (Ret fun r w' => Kp [] w w' ∧ r = Wv (a * b)) := by
  obtain ⟨p, l, rfl, hl1, rfl⟩ := hv
  obtain ⟨q, l', rfl, hl2, rfl⟩ := hu
  refine calls_of_S [⟨1, 1, [0, 2, 5, 6, 7, 8, 9, 1, 3, 4, 10, 11], []⟩] [] (by simp) [] Tryd.func14 rfl mixed (by kernel_rfl) Tryd.ntmps14 Tryd.results14 rfl ⟨by simp, by simp⟩ (by simp) ?_
  simp only [toS, textOps, toSOp, kindAt, kindOf, odAt, sopsAt, ordOf, zipF]
  (repeat' (first | refine JC.seq ?_ | refine JC.ops ?_ | refine JC.opsD ?_ | refine JO.nil ?_ | refine JX.thenN ?_ | (apply r_fieldAddr; (iterate 3 exact rfl)) | (apply r_load; (iterate 4 exact rfl); (first | exact at1 | exact at2); exact rfl) | (apply r_loadN; (iterate 4 exact rfl); (first | exact at1 | exact at2); exact rfl) | (apply r_neB; (iterate 4 exact rfl)) | (apply r_allocZ; (iterate 3 exact rfl); intro _) | (apply r_boxA; (iterate 4 exact rfl); intro _)))
  refine r_callA (A := [_, _, _]) rfl trivial rfl rfl rfl (fun w hk hs => c_abs w p l (by omega)) fun w v w' _ _ _ hR => ?_
  obtain ⟨N1, zs1, hN1, hO1, hz1, hval1⟩ := hR
  refine ⟨N1, hN1, ?_⟩
  have hzl1 := words_le hz1 hval1 hl1
  skip
  refine r_callA (A := [_, _, _]) rfl trivial rfl rfl rfl (fun w hk hs => c_abs w q l' (by omega)) fun w v w' _ _ _ hR => ?_
  obtain ⟨N2, zs2, hN2, hO2, hz2, hval2⟩ := hR
  refine ⟨N2, hN2, ?_⟩
  have hzl2 := words_le hz2 hval2 hl2
  skip
  refine r_callA (A := [_, _, _]) rfl trivial rfl rfl rfl (fun w hk hs => c_mulW w _ _ _ _ _ _ (hO1.rd.at hk hs (by (repeat' first | exact HSub.nil _ | exact HSub.hd | exact HSub.in0 | exact HSub.refl _ | refine HSub.skip ?_ | refine HSub.skipN ?_))) (hO2.rd.at hk hs (by (repeat' first | exact HSub.nil _ | exact HSub.hd | exact HSub.in0 | exact HSub.refl _ | refine HSub.skip ?_ | refine HSub.skipN ?_))) hz1.lt hz2.lt (by omega) (by omega)) fun w v w' _ _ _ hR => ?_
  obtain ⟨N3, zs3, hN3, hO3, hz3, hval3⟩ := hR
  refine ⟨N3, hN3, ?_⟩
  rw [hval1, hval2] at hval3
  have hzl3 : zs3.length ≤ k + k := by
    refine hz3.len_le (by decide) ?_
    rw [hval3, Nat.pow_add]
    have h1 := Nat.lt_of_lt_of_le (bval_bts_lt hl1) (Nat.pow_le_pow_left (show 256 ≤ W32 by decide) k)
    have h2 := Nat.lt_of_lt_of_le (bval_bts_lt hl2) (Nat.pow_le_pow_left (show 256 ≤ W32 by decide) k)
    exact Nat.mul_lt_mul_of_lt_of_le h1 (Nat.le_of_lt h2) (Nat.pow_pos (by decide))
  skip
  refine r_call0 trivial rfl rfl rfl (fun w hk hs => c_wide w _ _ zs3 (p != q) (hO3.rd.at hk hs (by (repeat' first | exact HSub.nil _ | exact HSub.hd | exact HSub.in0 | exact HSub.refl _ | refine HSub.skip ?_ | refine HSub.skipN ?_))) hz3.lt (by omega)) fun w v w' _ _ _ hR => ?_
  subst hR
  (repeat' (first | refine JO.nil ?_ | refine JX.thenN ?_ | (apply r_storeN; exact rfl; (first | exact trivial | exact ⟨rfl, rfl⟩); exact rfl; exact rfl; exact at0; (iterate 3 exact rfl)) | (apply r_storeN; exact rfl; (first | exact trivial | exact ⟨rfl, rfl⟩); exact rfl; exact rfl; exact at0; (iterate 3 exact rfl)) | refine JC.ret ?_))
  exact JX.retC 0 rfl rfl rfl (fun a w' st => ⟨st.kp, by show Wv (sgn (p != q) (val W32 zs3)) = _; rw [hval3, sgn_mul]⟩)


section
variable {c : Cx} {Q : Exit → Act → World → Prop} {m : Mode} {F : SFrame} {H : SHeap} {r : List SOp} {g : Option (Option Tmp × Bool)} {ns : Bool} {d : Tmp} {ty t t' : TypeId} {x y : Operand} {i : Nat}
theorem r_negU (hd : dstOk c.n (some d) = true) (hg : guardF F g = some true) (hx : ev F x = some (uv i)) (hb : i ≤ 18446744073709551616)
    (h : JO c Q m r ((d, uv ((18446744073709551616 - i) % 18446744073709551616)) :: F) H) : JO c Q m (⟨some d, .unOp .neg t x, ty, g, .mov, ns⟩ :: r) F H :=
  r_mov hd hg (fun a w fr => by
    have h1 : IntKind.u64.wrap (-(i : Int)) = (((18446744073709551616 - i) % 18446744073709551616 : Nat) : Int) := by rw [IntKind.wrap_u64]; omega
    simp only [execOp, fr.ev hx]
    simp [Op.unary, Op.intArith, h1, uv]) h
theorem r_i64U {n : Int} (j : Nat) [TI c.P t .i64] [TI c.P t' .u64] (hd : dstOk c.n (some d) = true) (hg : guardF F g = some true) (hx : ev F x = some (.int .i64 n)) (hj : IntKind.u64.wrap n = (j : Int))
    (h : JO c Q m r ((d, uv j) :: F) H) : JO c Q m (⟨some d, .convert t t' x, ty, g, .mov, ns⟩ :: r) F H := r_convK (k' := .u64) (j : Int) hd hg hx hj h
end

theorem val_two (m : Nat) : val W32 [m % 4294967296, m / 4294967296] = m := by
  show m % 4294967296 + 4294967296 * (m / 4294967296 + 4294967296 * 0) = m
  omega

set_option maxHeartbeats 2000000 in
theorem c_From (w : World) (n : Int) (h1 : -9223372036854775808 ≤ n) (h2 : n < 9223372036854775808) :
    Calls Tryd.prog 10 #[iv n] w (Ret fun r w' => Kp [] w w' ∧ r = Wv n) := by
  have hm : n.natAbs ≤ 9223372036854775808 := by omega
  have hm2 : n.natAbs < 18446744073709551616 := by omega
  have hlt : ∀ x ∈ [n.natAbs % 4294967296, n.natAbs / 4294967296], x < W32 := fun x hx => by
    simp only [List.mem_cons, List.mem_nil_iff, or_false] at hx
    show x < 4294967296
    omega
  by_cases hn : n < 0
  · refine calls_of_S [] [] (by simp) [] Tryd.func10 rfl mixed (by kernel_rfl) Tryd.ntmps10 Tryd.results10 rfl ⟨by simp, by simp⟩ (by simp) ?_
    simp only [toS, textOps, toSOp, kindAt, kindOf, odAt, sopsAt, ordOf, zipF]
    (repeat' (first | refine JC.seq ?_ | refine JC.ops ?_ | refine JO.nil ?_ | refine JX.thenN ?_ | (apply r_move; (iterate 3 exact rfl)) | (apply r_allocZ; (iterate 3 exact rfl); intro _)))
    refine r_i64U (18446744073709551616 - n.natAbs) rfl rfl rfl (by rw [IntKind.wrap_u64]; omega) ?_
    (repeat' (first | refine JC.seq ?_ | refine JC.ops ?_ | refine JO.nil ?_ | refine JX.thenN ?_ | (apply r_move; (iterate 3 exact rfl)) | (apply r_assign; (iterate 3 exact rfl)) | (apply r_lss; (iterate 4 exact rfl); all_goals intro hc; all_goals try (exfalso; omega)) | refine JC.condT rfl ?_))
    refine r_negU rfl rfl rfl (by omega) ?_
    rw [show (18446744073709551616 - (18446744073709551616 - n.natAbs)) % 18446744073709551616 = n.natAbs by omega]
    (repeat' (first | refine JC.seq ?_ | refine JC.ops ?_ | refine JO.nil ?_ | refine JX.thenN ?_ | (apply r_move; (iterate 3 exact rfl)) | (apply r_assign; (iterate 3 exact rfl)) | (apply r_shr32; (iterate 4 exact rfl)) | (apply r_maskU; (iterate 4 exact rfl); (first | assumption | omega)) | (apply r_lss; (iterate 4 exact rfl); all_goals intro hc; all_goals try (exfalso; omega)) | (apply r_build1; (iterate 5 exact rfl); (repeat first | exact trivial | refine ⟨rfl, ?_⟩); decide; decide; intro _)))
    rename_i b3
    have hO : OwnU [(b3, .cells ⟨[uv (n.natAbs % 4294967296), uv (n.natAbs / 4294967296)]⟩ 59)] (.slice (some ⟨b3, 0, none⟩) 2 2) 2 [n.natAbs % 4294967296, n.natAbs / 4294967296] := own_litU b3 2 _ _ rfl rfl (by omega)
    refine r_call0 trivial rfl rfl rfl (fun w hk hs => c_wide w _ _ _ true (hO.rd.at hk hs (by (repeat' first | exact HSub.nil _ | exact HSub.hd | exact HSub.in0 | exact HSub.refl _ | refine HSub.skip ?_ | refine HSub.skipN ?_))) hlt (by omega)) fun w v w' _ _ _ hR => ?_
    subst hR
    (repeat' (first | refine JO.nil ?_ | refine JX.thenN ?_ | (apply r_storeN; exact rfl; (first | exact trivial | exact ⟨rfl, rfl⟩); exact rfl; exact rfl; exact at1; (iterate 3 exact rfl)) | (apply r_storeN; exact rfl; (first | exact trivial | exact ⟨rfl, rfl⟩); exact rfl; exact rfl; exact at1; (iterate 3 exact rfl)) | refine JC.ret ?_))
    exact JX.retC 1 rfl rfl rfl (fun a w' st => ⟨st.kp, by show Wv (sgn true (val W32 _)) = _; rw [val_two]; congr 1; simp only [sgn, if_true, Bool.false_eq_true, if_false]; omega⟩)
  · refine calls_of_S [] [] (by simp) [] Tryd.func10 rfl mixed (by kernel_rfl) Tryd.ntmps10 Tryd.results10 rfl ⟨by simp, by simp⟩ (by simp) ?_
    simp only [toS, textOps, toSOp, kindAt, kindOf, odAt, sopsAt, ordOf, zipF]
    (repeat' (first | refine JC.seq ?_ | refine JC.ops ?_ | refine JO.nil ?_ | refine JX.thenN ?_ | (apply r_move; (iterate 3 exact rfl)) | (apply r_allocZ; (iterate 3 exact rfl); intro _)))
    refine r_i64U n.natAbs rfl rfl rfl (by rw [IntKind.wrap_u64]; omega) ?_
    (repeat' (first | refine JC.seq ?_ | refine JC.ops ?_ | refine JO.nil ?_ | refine JX.thenN ?_ | (apply r_move; (iterate 3 exact rfl)) | (apply r_assign; (iterate 3 exact rfl)) | (apply r_shr32; (iterate 4 exact rfl)) | (apply r_maskU; (iterate 4 exact rfl); (first | assumption | omega)) | (apply r_lss; (iterate 4 exact rfl); all_goals intro hc; all_goals try (exfalso; omega)) | (apply r_build1; (iterate 5 exact rfl); (repeat first | exact trivial | refine ⟨rfl, ?_⟩); decide; decide; intro _) | refine JC.skip ?_ | refine JC.condF rfl ?_))
    rename_i b3
    have hO : OwnU [(b3, .cells ⟨[uv (n.natAbs % 4294967296), uv (n.natAbs / 4294967296)]⟩ 59)] (.slice (some ⟨b3, 0, none⟩) 2 2) 2 [n.natAbs % 4294967296, n.natAbs / 4294967296] := own_litU b3 2 _ _ rfl rfl (by omega)
    refine r_call0 trivial rfl rfl rfl (fun w hk hs => c_wide w _ _ _ false (hO.rd.at hk hs (by (repeat' first | exact HSub.nil _ | exact HSub.hd | exact HSub.in0 | exact HSub.refl _ | refine HSub.skip ?_ | refine HSub.skipN ?_))) hlt (by omega)) fun w v w' _ _ _ hR => ?_
    subst hR
    (repeat' (first | refine JO.nil ?_ | refine JX.thenN ?_ | (apply r_storeN; exact rfl; (first | exact trivial | exact ⟨rfl, rfl⟩); exact rfl; exact rfl; exact at1; (iterate 3 exact rfl)) | (apply r_storeN; exact rfl; (first | exact trivial | exact ⟨rfl, rfl⟩); exact rfl; exact rfl; exact at1; (iterate 3 exact rfl)) | refine JC.ret ?_))
    exact JX.retC 1 rfl rfl rfl (fun a w' st => ⟨st.kp, by show Wv (sgn false (val W32 _)) = _; rw [val_two]; congr 1; simp only [sgn, if_true, Bool.false_eq_true, if_false]; omega⟩)

theorem JX.retCCT {c : Cx} {t t' t'' : Tmp} {v' : Value} {ty ty' n n' b b' : Nat} {cs cs' : Array Value} {T T' : TypeId} {fz fz' : Nat × Nat} {R : Value → World → Prop} {F : SFrame} {H : SHeap} [TN c.P ty n] [TN c.P ty' n'] (k k' : Nat) (h1 : look F t = some (.pointer (some ⟨b, 0, none⟩)))
    (h2 : H[k]? = some (b, Obj.cells cs T fz)) (hn : cs.size = n) (h1' : look F t' = some (.pointer (some ⟨b', 0, none⟩))) (h2' : H[k']? = some (b', Obj.cells cs' T' fz')) (hn' : cs'.size = n') (h' : look F t'' = some v') (hR : ∀ a w, St c F H a w → R (.tuple #[.agg cs, .agg cs', v']) w) : JX c (endPost c.P #[.cell t ty, .cell t' ty', .tmp t''] (Ret R)) .ret F H :=
  JX.ret' [.agg cs, .agg cs', v'] (JR.cellN k h1 h2 hn (JR.cellN k' h1' h2' hn' ⟨h', trivial⟩)) hR

set_option maxHeartbeats 8000000 in
theorem c_Quo (w : World) (v u : Value) (a b : Int) (k : Nat) (hv : IsZ v a k) (hu : IsZ u b k) (hk : k ≤ 100000000) :
    Calls Tryd.prog 11 #[v, u] w (Ret fun r w' => Kp [] w w' ∧ r = if b = 0 then .tuple #[Wv 0, Wv 0, .bool false] else .tuple #[Wv (a / b), Wv (a % b), .bool true]) := by
  obtain ⟨p, l, rfl, hl1, rfl⟩ := hv
  obtain ⟨q, l', rfl, hl2, rfl⟩ := hu
  refine calls_of_S [⟨1, 1, [0, 2, 1, 3, 4, 5], []⟩, ⟨3, 2, [], []⟩] [] (by simp) [] Tryd.func11 rfl mixed (by kernel_rfl) Tryd.ntmps11 Tryd.results11 rfl ⟨by simp, by simp⟩ (by simp) ?_
  simp only [toS, textOps, toSOp, kindAt, kindOf, odAt, sopsAt, ordOf, zipF]
  (repeat' (first | refine JC.seq ?_ | refine JC.ops ?_ | refine JC.opsD ?_ | refine JO.nil ?_ | refine JX.thenN ?_ | (apply r_assign; (iterate 3 exact rfl)) | (apply r_loadN; (iterate 4 exact rfl); (first | exact at2 | exact at3); exact rfl) | (apply r_allocZ; (iterate 3 exact rfl); intro _) | (apply r_boxA; (iterate 4 exact rfl); intro _)))
  refine r_callA (A := [_, _, _, _]) rfl (by first | trivial | exact ⟨rfl, rfl⟩) rfl rfl rfl (fun w hk hs => c_abs w p l (by omega)) fun w v w' _ _ _ hR => ?_
  obtain ⟨N1, zs1, hN1, hO1, hz1, hval1⟩ := hR
  refine ⟨N1, hN1, ?_⟩
  have hzl1 := words_le hz1 hval1 hl1
  skip
  refine r_callA (A := [_, _, _, _]) rfl (by first | trivial | exact ⟨rfl, rfl⟩) rfl rfl rfl (fun w hk hs => c_abs w q l' (by omega)) fun w v w' _ _ _ hR => ?_
  obtain ⟨N2, zs2, hN2, hO2, hz2, hval2⟩ := hR
  refine ⟨N2, hN2, ?_⟩
  have hzl2 := words_le hz2 hval2 hl2
  have he := hz2.eq_nil (by decide)
  rw [hval2] at he
  by_cases h0 : zs2.length = 0
  · have h1 := he.1 (List.eq_nil_of_length_eq_zero h0)
    rw [h1, if_pos (sgn_zero q)]
    (repeat' (first | refine JC.seq ?_ | refine JC.ops ?_ | refine JC.opsD ?_ | refine JO.nil ?_ | refine JX.thenN ?_ | (apply r_move; (iterate 3 exact rfl)) | (apply r_assign; (iterate 3 exact rfl)) | (apply r_loadN; (iterate 4 exact rfl); (first | exact at0 | exact at1); exact rfl) | (apply r_storeN; exact rfl; (first | exact trivial | exact ⟨rfl, rfl⟩); exact rfl; exact rfl; (first | exact at0 | exact at1); (iterate 3 exact rfl)) | (apply r_storeKN; (iterate 3 exact rfl); (first | exact at0 | exact at1); (iterate 3 exact rfl); (repeat' first | exact HSub.refl _ | exact HSub.nil _ | refine HSub.at 0 rfl ?_ | refine HSub.at 1 rfl ?_ | refine HSub.at 2 rfl ?_ | refine HSub.at 3 rfl ?_ | refine HSub.at 4 rfl ?_ | refine HSub.at 5 rfl ?_ | refine HSub.at 6 rfl ?_ | refine HSub.at 7 rfl ?_ | refine HSub.at 8 rfl ?_ | refine HSub.at 9 rfl ?_ | refine HSub.at 10 rfl ?_ | refine HSub.at 11 rfl ?_ | refine HSub.at 12 rfl ?_ | refine HSub.at 13 rfl ?_ | refine HSub.at 14 rfl ?_ | refine HSub.at 15 rfl ?_ | refine HSub.at 16 rfl ?_ | refine HSub.at 17 rfl ?_ | refine HSub.at 18 rfl ?_ | refine HSub.at 19 rfl ?_ | refine HSub.segH ?_ | refine HSub.skip ?_ | refine HSub.skipN ?_)) | (apply r_lenU; (iterate 3 exact rfl); (first | assumption | exact WU.rd (by assumption) rfl [] | exact OwnU.rd (by assumption))) | (apply r_eql; (iterate 4 exact rfl); all_goals intro hc; all_goals try (exfalso; omega)) | (apply r_storeN; exact rfl; (first | exact trivial | exact ⟨rfl, rfl⟩); exact rfl; exact rfl; (first | exact at0 | exact at1); (iterate 3 exact rfl)) | refine JX.thenR ?_ | refine JC.ret ?_ | refine JC.condT rfl ?_))
    exact JX.retCCT 1 0 rfl rfl rfl rfl rfl rfl rfl (fun a w' st => ⟨st.kp, rfl⟩)
  have hy0 : bval (bts l') ≠ 0 := fun h => h0 (by rw [he.2 h]; rfl)
  rw [if_neg (fun h => hy0 ((sgn_eq_zero _ _).1 h))]
  have hv1 : val W32 zs1 < 256 ^ k := by rw [hval1]; exact bval_bts_lt hl1
  have hv2 : val W32 zs2 < 256 ^ k := by rw [hval2]; exact bval_bts_lt hl2
  have hpw : 256 ^ k ≤ W32 ^ k := Nat.pow_le_pow_left (by decide) k
  have hpk : 0 < 256 ^ k := Nat.pow_pos (by decide)
  (repeat' (first | refine JC.seq ?_ | refine JC.ops ?_ | refine JO.nil ?_ | refine JX.thenN ?_ | (apply r_move; (iterate 3 exact rfl)) | (apply r_assign; (iterate 3 exact rfl)) | (apply r_lenU; (iterate 3 exact rfl); (first | assumption | exact WU.rd (by assumption) rfl [] | exact OwnU.rd (by assumption))) | (apply r_eql; (iterate 4 exact rfl); all_goals intro hc; all_goals try (exfalso; omega)) | refine JC.skip ?_ | refine JC.condF rfl ?_))
  refine r_callA (A := [_, _, _, _]) rfl trivial rfl rfl rfl (fun w hk hs => c_div w _ _ _ _ _ _ (hO1.rd.at hk hs (by (repeat' first | exact HSub.nil _ | exact HSub.hd | exact HSub.in0 | exact HSub.refl _ | refine HSub.skip ?_ | refine HSub.skipN ?_))) (hO2.rd.at hk hs (by (repeat' first | exact HSub.nil _ | exact HSub.hd | exact HSub.in0 | exact HSub.refl _ | refine HSub.skip ?_ | refine HSub.skipN ?_))) hz1 hz2 (by omega) (by omega) (by omega)) fun w v w' _ _ _ hR => ?_
  obtain ⟨N3, N4, v3, v4, zs3, zs4, rfl, hN34, hO3, hO4, hz3, hz4, hval3, hlt4⟩ := hR.ex
  refine ⟨_, hN34, ?_⟩
  rw [List.append_assoc N3 N4]
  have hzl4 : zs4.length ≤ k := hz4.len_le (by decide) (by omega)
  have hzl3 : zs3.length ≤ k := hz3.len_le (by decide) (by
    have h1 : val W32 zs3 ≤ val W32 zs3 * val W32 zs2 := Nat.le_mul_of_pos_right _ (by omega)
    omega)
  have hlaw := quo_law p q (val W32 zs1) (val W32 zs2) (val W32 zs3) (val W32 zs4) (by omega) hval3 hlt4
  rw [hval1, hval2] at hlaw
  have he4 := hz4.eq_nil (by decide)
  have hlaw1 := hlaw.1
  have hlaw2 := hlaw.2
  clear hlaw
  rcases hO4 with hO4 | ⟨rfl, rfl, rfl⟩
  · by_cases hp : p = true ∧ 0 < zs4.length
    · obtain ⟨rfl, hp4⟩ := hp
      have hr0 : 0 < val W32 zs4 := Nat.pos_of_ne_zero fun h => by rw [he4.2 h] at hp4; exact absurd hp4 (by simp)
      obtain ⟨hq1, hq2⟩ := hlaw1 ⟨rfl, hr0⟩
      have hlen : zs4.length ≤ zs2.length := by
        refine Decidable.byContradiction fun h => ?_
        have := len_cmp (b := W32) (by decide) hz2 hz4 (by omega)
        omega
      (repeat' (first | refine JC.seq ?_ | refine JC.ops ?_ | refine JO.nil ?_ | refine JX.thenN ?_ | (apply r_move; (iterate 3 exact rfl)) | (apply r_fieldAddr; (iterate 3 exact rfl)) | (apply r_assign; (iterate 3 exact rfl)) | (apply r_load; (iterate 4 exact rfl); exact at3; exact rfl) | (apply r_pickT; (iterate 4 exact rfl)) | (apply r_extract; (iterate 4 exact rfl)) | (apply r_lenU; (iterate 3 exact rfl); (first | assumption | exact WU.rd (by assumption) rfl [] | exact OwnU.rd (by assumption))) | (apply r_gtr; (iterate 4 exact rfl); all_goals intro hc; all_goals try (exfalso; omega)) | (apply r_build1; (iterate 5 exact rfl); (repeat first | exact trivial | refine ⟨rfl, ?_⟩); decide; decide; intro _) | refine JC.condT rfl ?_))
      rename_i b9
      have hO9 : OwnU [(b9, .cells ⟨[.int .u64 1]⟩ 59)] (.slice (some ⟨b9, 0, none⟩) 1 1) 1 [1] := own_litU b9 1 [1] _ rfl rfl (by omega)
      refine r_callA (A := [_, _, _, _, _]) rfl trivial rfl rfl rfl (fun w hk hs => c_add w _ _ _ _ _ _ (hO3.rd.at hk hs (by (repeat' first | exact HSub.nil _ | exact HSub.hd | exact HSub.in0 | exact HSub.refl _ | refine HSub.skip ?_ | refine HSub.skipN ?_))) (hO9.rd.at hk hs (by (repeat' first | exact HSub.nil _ | exact HSub.hd | exact HSub.in0 | exact HSub.refl _ | refine HSub.skip ?_ | refine HSub.skipN ?_))) hz3.lt (fun x hx => by rw [List.mem_singleton] at hx; rw [hx]; decide) (by omega) (by omega)) fun w v w' _ _ _ hR => ?_
      obtain ⟨N5, zs5, hN5, hO5, hz5, hval5⟩ := hR
      refine ⟨N5, hN5, ?_⟩
      rw [val_one] at hval5
      have hzl5 : zs5.length ≤ k + 1 := hz5.len_le (by decide) (by
        rw [hval5, Nat.pow_succ]
        have h1 : val W32 zs3 ≤ val W32 zs3 * val W32 zs2 := Nat.le_mul_of_pos_right _ (by omega)
        show _ < W32 ^ k * 4294967296
        omega)
      (repeat' (first | (apply r_move; (iterate 3 exact rfl))))
      refine r_callA (A := [_, _, _, _, _]) rfl trivial rfl rfl rfl (fun w hk hs => c_sub w _ _ _ _ _ _ (hO2.rd.at hk hs (by (repeat' first | exact HSub.nil _ | exact HSub.hd | exact HSub.in0 | exact HSub.refl _ | refine HSub.skip ?_ | refine HSub.skipN ?_))) (hO4.rd.at hk hs (by (repeat' first | exact HSub.nil _ | exact HSub.hd | exact HSub.in0 | exact HSub.refl _ | refine HSub.skip ?_ | refine HSub.skipN ?_))) hz2.lt hz4.lt (by omega) hlen (by omega)) fun w v w' _ _ _ hR => ?_
      obtain ⟨N6, zs6, hN6, hO6, hz6, hval6⟩ := hR
      refine ⟨N6, hN6, ?_⟩
      have hzl6 : zs6.length ≤ k := hz6.len_le (by decide) (by omega)
      (repeat' (first | refine JC.seq ?_ | refine JC.ops ?_ | refine JO.nil ?_ | refine JX.thenN ?_ | (apply r_move; (iterate 3 exact rfl)) | (apply r_fieldAddr; (iterate 3 exact rfl)) | (apply r_assign; (iterate 3 exact rfl)) | (apply r_load; (iterate 4 exact rfl); (first | exact at3 | exact at4); exact rfl) | (apply r_neB; (iterate 4 exact rfl))))
      refine r_call0 trivial rfl rfl rfl (fun w hk hs => c_wide w _ _ zs5 (true != q) (hO5.rd.at hk hs (by (repeat' first | exact HSub.nil _ | exact HSub.hd | exact HSub.in0 | exact HSub.refl _ | refine HSub.skip ?_ | refine HSub.skipN ?_))) hz5.lt (by omega)) fun w v w' _ _ _ hR => ?_
      subst hR
      (repeat' (first | (apply r_move; (iterate 3 exact rfl))))
      refine r_call0 trivial rfl rfl rfl (fun w hk hs => c_wide w _ _ zs6 false (hO6.rd.at hk hs (by (repeat' first | exact HSub.nil _ | exact HSub.hd | exact HSub.in0 | exact HSub.refl _ | refine HSub.skip ?_ | refine HSub.skipN ?_))) hz6.lt (by omega)) fun w v w' _ _ _ hR => ?_
      subst hR
      (repeat' (first | refine JO.nil ?_ | refine JX.thenN ?_ | (apply r_assign; (iterate 3 exact rfl)) | (apply r_storeN; exact rfl; (first | exact trivial | exact ⟨rfl, rfl⟩); exact rfl; exact rfl; (first | exact at1 | exact at2); (iterate 3 exact rfl)) | (apply r_storeN; exact rfl; (first | exact trivial | exact ⟨rfl, rfl⟩); exact rfl; exact rfl; (first | exact at1 | exact at2); (iterate 3 exact rfl)) | refine JC.ret ?_))
      refine JX.retCCT 2 1 rfl rfl rfl rfl rfl rfl rfl (fun a w' st => ⟨st.kp, ?_⟩)
      show Value.tuple #[Wv (sgn (true != q) (val W32 zs5)), Wv (sgn false (val W32 zs6)), _] = _
      rw [hval5, hq1, ← hq2, ← hval2]
      have : val W32 zs6 = val W32 zs2 - val W32 zs4 := by omega
      rw [this]
      rfl
    have hq := hlaw2 (fun ⟨h1, h2⟩ => hp ⟨h1, by
      refine Nat.pos_of_ne_zero fun h => ?_
      have := List.eq_nil_of_length_eq_zero h
      rw [this] at h2
      exact absurd h2 (by simp [val])⟩)
    obtain ⟨hq1, hq2⟩ := hq
    have hnp : p = true → zs4.length = 0 := fun h => by
      refine Decidable.byContradiction fun h' => hp ⟨h, by omega⟩
    cases p with
    | false =>
      (repeat' (first | refine JC.seq ?_ | refine JC.ops ?_ | refine JO.nil ?_ | refine JX.thenN ?_ | (apply r_move; (iterate 3 exact rfl)) | (apply r_fieldAddr; (iterate 3 exact rfl)) | (apply r_assign; (iterate 3 exact rfl)) | (apply r_load; (iterate 4 exact rfl); (first | exact at2 | exact at3); exact rfl) | (apply r_pickF; (iterate 4 exact rfl)) | (apply r_extract; (iterate 4 exact rfl)) | (apply r_neB; (iterate 4 exact rfl)) | refine JC.skip ?_ | refine JC.condF rfl ?_ | (apply r_skip; exact rfl; exact rfl; (first | (intro h; cases h; done) | (intro _; rfl)))))
      refine r_call0 trivial rfl rfl rfl (fun w hk hs => c_wide w _ _ zs3 (false != q) (hO3.rd.at hk hs (by (repeat' first | exact HSub.nil _ | exact HSub.hd | exact HSub.in0 | exact HSub.refl _ | refine HSub.skip ?_ | refine HSub.skipN ?_))) hz3.lt (by omega)) fun w v w' _ _ _ hR => ?_
      subst hR
      (repeat' (first | (apply r_move; (iterate 3 exact rfl))))
      refine r_call0 trivial rfl rfl rfl (fun w hk hs => c_wide w _ _ zs4 false (hO4.rd.at hk hs (by (repeat' first | exact HSub.nil _ | exact HSub.hd | exact HSub.in0 | exact HSub.refl _ | refine HSub.skip ?_ | refine HSub.skipN ?_))) hz4.lt (by omega)) fun w v w' _ _ _ hR => ?_
      subst hR
      (repeat' (first | refine JO.nil ?_ | refine JX.thenN ?_ | (apply r_assign; (iterate 3 exact rfl)) | (apply r_storeN; exact rfl; (first | exact trivial | exact ⟨rfl, rfl⟩); exact rfl; exact rfl; (first | exact at0 | exact at1); (iterate 3 exact rfl)) | (apply r_storeN; exact rfl; (first | exact trivial | exact ⟨rfl, rfl⟩); exact rfl; exact rfl; (first | exact at0 | exact at1); (iterate 3 exact rfl)) | refine JC.ret ?_))
      refine JX.retCCT 1 0 rfl rfl rfl rfl rfl rfl rfl (fun a w' st => ⟨st.kp, ?_⟩)
      show Value.tuple #[Wv (sgn (false != q) (val W32 zs3)), Wv (sgn false (val W32 zs4)), _] = _
      rw [hq1, ← hq2]
      rfl
    | true =>
      have hz0 := hnp rfl
      (repeat' (first | refine JC.seq ?_ | refine JC.ops ?_ | refine JO.nil ?_ | refine JX.thenN ?_ | (apply r_move; (iterate 3 exact rfl)) | (apply r_fieldAddr; (iterate 3 exact rfl)) | (apply r_assign; (iterate 3 exact rfl)) | (apply r_load; (iterate 4 exact rfl); (first | exact at2 | exact at3); exact rfl) | (apply r_pickT; (iterate 4 exact rfl)) | (apply r_extract; (iterate 4 exact rfl)) | (apply r_lenU; (iterate 3 exact rfl); (first | assumption | exact WU.rd (by assumption) rfl [] | exact OwnU.rd (by assumption))) | (apply r_gtr; (iterate 4 exact rfl); all_goals intro hc; all_goals try (exfalso; omega)) | (apply r_neB; (iterate 4 exact rfl)) | refine JC.skip ?_ | refine JC.condF rfl ?_))
      refine r_call0 trivial rfl rfl rfl (fun w hk hs => c_wide w _ _ zs3 (true != q) (hO3.rd.at hk hs (by (repeat' first | exact HSub.nil _ | exact HSub.hd | exact HSub.in0 | exact HSub.refl _ | refine HSub.skip ?_ | refine HSub.skipN ?_))) hz3.lt (by omega)) fun w v w' _ _ _ hR => ?_
      subst hR
      (repeat' (first | (apply r_move; (iterate 3 exact rfl))))
      refine r_call0 trivial rfl rfl rfl (fun w hk hs => c_wide w _ _ zs4 false (hO4.rd.at hk hs (by (repeat' first | exact HSub.nil _ | exact HSub.hd | exact HSub.in0 | exact HSub.refl _ | refine HSub.skip ?_ | refine HSub.skipN ?_))) hz4.lt (by omega)) fun w v w' _ _ _ hR => ?_
      subst hR
      (repeat' (first | refine JO.nil ?_ | refine JX.thenN ?_ | (apply r_assign; (iterate 3 exact rfl)) | (apply r_storeN; exact rfl; (first | exact trivial | exact ⟨rfl, rfl⟩); exact rfl; exact rfl; (first | exact at0 | exact at1); (iterate 3 exact rfl)) | (apply r_storeN; exact rfl; (first | exact trivial | exact ⟨rfl, rfl⟩); exact rfl; exact rfl; (first | exact at0 | exact at1); (iterate 3 exact rfl)) | refine JC.ret ?_))
      refine JX.retCCT 1 0 rfl rfl rfl rfl rfl rfl rfl (fun a w' st => ⟨st.kp, ?_⟩)
      show Value.tuple #[Wv (sgn (true != q) (val W32 zs3)), Wv (sgn false (val W32 zs4)), _] = _
      rw [hq1, ← hq2]
      rfl
  · by_cases hp : p = true ∧ 0 < zs4.length
    · obtain ⟨rfl, hp4⟩ := hp
      have hr0 : 0 < val W32 zs4 := Nat.pos_of_ne_zero fun h => by rw [he4.2 h] at hp4; exact absurd hp4 (by simp)
      obtain ⟨hq1, hq2⟩ := hlaw1 ⟨rfl, hr0⟩
      have hlen : zs4.length ≤ zs2.length := by
        refine Decidable.byContradiction fun h => ?_
        have := len_cmp (b := W32) (by decide) hz2 hz4 (by omega)
        omega
      (repeat' (first | refine JC.seq ?_ | refine JC.ops ?_ | refine JO.nil ?_ | refine JX.thenN ?_ | (apply r_move; (iterate 3 exact rfl)) | (apply r_fieldAddr; (iterate 3 exact rfl)) | (apply r_assign; (iterate 3 exact rfl)) | (apply r_load; (iterate 4 exact rfl); exact at3; exact rfl) | (apply r_pickT; (iterate 4 exact rfl)) | (apply r_extract; (iterate 4 exact rfl)) | (apply r_lenU; (iterate 3 exact rfl); (first | assumption | exact WU.rd (by assumption) rfl [] | exact OwnU.rd (by assumption))) | (apply r_gtr; (iterate 4 exact rfl); all_goals intro hc; all_goals try (exfalso; omega)) | (apply r_build1; (iterate 5 exact rfl); (repeat first | exact trivial | refine ⟨rfl, ?_⟩); decide; decide; intro _) | refine JC.condT rfl ?_))
      rename_i b9
      have hO9 : OwnU [(b9, .cells ⟨[.int .u64 1]⟩ 59)] (.slice (some ⟨b9, 0, none⟩) 1 1) 1 [1] := own_litU b9 1 [1] _ rfl rfl (by omega)
      refine r_callA (A := [_, _, _, _, _]) rfl trivial rfl rfl rfl (fun w hk hs => c_add w _ _ _ _ _ _ (hO3.rd.at hk hs (by (repeat' first | exact HSub.nil _ | exact HSub.hd | exact HSub.in0 | exact HSub.refl _ | refine HSub.skip ?_ | refine HSub.skipN ?_))) (hO9.rd.at hk hs (by (repeat' first | exact HSub.nil _ | exact HSub.hd | exact HSub.in0 | exact HSub.refl _ | refine HSub.skip ?_ | refine HSub.skipN ?_))) hz3.lt (fun x hx => by rw [List.mem_singleton] at hx; rw [hx]; decide) (by omega) (by omega)) fun w v w' _ _ _ hR => ?_
      obtain ⟨N5, zs5, hN5, hO5, hz5, hval5⟩ := hR
      refine ⟨N5, hN5, ?_⟩
      rw [val_one] at hval5
      have hzl5 : zs5.length ≤ k + 1 := hz5.len_le (by decide) (by
        rw [hval5, Nat.pow_succ]
        have h1 : val W32 zs3 ≤ val W32 zs3 * val W32 zs2 := Nat.le_mul_of_pos_right _ (by omega)
        show _ < W32 ^ k * 4294967296
        omega)
      (repeat' (first | (apply r_move; (iterate 3 exact rfl))))
      refine r_callA (A := [_, _, _, _, _]) rfl trivial rfl rfl rfl (fun w hk hs => c_sub w _ _ _ _ _ _ (hO2.rd.at hk hs (by (repeat' first | exact HSub.nil _ | exact HSub.hd | exact HSub.in0 | exact HSub.refl _ | refine HSub.skip ?_ | refine HSub.skipN ?_))) (hO1.rd.at hk hs (by (repeat' first | exact HSub.nil _ | exact HSub.hd | exact HSub.in0 | exact HSub.refl _ | refine HSub.skip ?_ | refine HSub.skipN ?_))) hz2.lt hz4.lt (by omega) hlen (by omega)) fun w v w' _ _ _ hR => ?_
      obtain ⟨N6, zs6, hN6, hO6, hz6, hval6⟩ := hR
      refine ⟨N6, hN6, ?_⟩
      have hzl6 : zs6.length ≤ k := hz6.len_le (by decide) (by omega)
      (repeat' (first | refine JC.seq ?_ | refine JC.ops ?_ | refine JO.nil ?_ | refine JX.thenN ?_ | (apply r_move; (iterate 3 exact rfl)) | (apply r_fieldAddr; (iterate 3 exact rfl)) | (apply r_assign; (iterate 3 exact rfl)) | (apply r_load; (iterate 4 exact rfl); (first | exact at3 | exact at4); exact rfl) | (apply r_neB; (iterate 4 exact rfl))))
      refine r_call0 trivial rfl rfl rfl (fun w hk hs => c_wide w _ _ zs5 (true != q) (hO5.rd.at hk hs (by (repeat' first | exact HSub.nil _ | exact HSub.hd | exact HSub.in0 | exact HSub.refl _ | refine HSub.skip ?_ | refine HSub.skipN ?_))) hz5.lt (by omega)) fun w v w' _ _ _ hR => ?_
      subst hR
      (repeat' (first | (apply r_move; (iterate 3 exact rfl))))
      refine r_call0 trivial rfl rfl rfl (fun w hk hs => c_wide w _ _ zs6 false (hO6.rd.at hk hs (by (repeat' first | exact HSub.nil _ | exact HSub.hd | exact HSub.in0 | exact HSub.refl _ | refine HSub.skip ?_ | refine HSub.skipN ?_))) hz6.lt (by omega)) fun w v w' _ _ _ hR => ?_
      subst hR
      (repeat' (first | refine JO.nil ?_ | refine JX.thenN ?_ | (apply r_assign; (iterate 3 exact rfl)) | (apply r_storeN; exact rfl; (first | exact trivial | exact ⟨rfl, rfl⟩); exact rfl; exact rfl; (first | exact at1 | exact at2); (iterate 3 exact rfl)) | (apply r_storeN; exact rfl; (first | exact trivial | exact ⟨rfl, rfl⟩); exact rfl; exact rfl; (first | exact at1 | exact at2); (iterate 3 exact rfl)) | refine JC.ret ?_))
      refine JX.retCCT 2 1 rfl rfl rfl rfl rfl rfl rfl (fun a w' st => ⟨st.kp, ?_⟩)
      show Value.tuple #[Wv (sgn (true != q) (val W32 zs5)), Wv (sgn false (val W32 zs6)), _] = _
      rw [hval5, hq1, ← hq2, ← hval2]
      have : val W32 zs6 = val W32 zs2 - val W32 zs4 := by omega
      rw [this]
      rfl
    have hq := hlaw2 (fun ⟨h1, h2⟩ => hp ⟨h1, by
      refine Nat.pos_of_ne_zero fun h => ?_
      have := List.eq_nil_of_length_eq_zero h
      rw [this] at h2
      exact absurd h2 (by simp [val])⟩)
    obtain ⟨hq1, hq2⟩ := hq
    have hnp : p = true → zs4.length = 0 := fun h => by
      refine Decidable.byContradiction fun h' => hp ⟨h, by omega⟩
    cases p with
    | false =>
      (repeat' (first | refine JC.seq ?_ | refine JC.ops ?_ | refine JO.nil ?_ | refine JX.thenN ?_ | (apply r_move; (iterate 3 exact rfl)) | (apply r_fieldAddr; (iterate 3 exact rfl)) | (apply r_assign; (iterate 3 exact rfl)) | (apply r_load; (iterate 4 exact rfl); (first | exact at2 | exact at3); exact rfl) | (apply r_pickF; (iterate 4 exact rfl)) | (apply r_extract; (iterate 4 exact rfl)) | (apply r_neB; (iterate 4 exact rfl)) | refine JC.skip ?_ | refine JC.condF rfl ?_ | (apply r_skip; exact rfl; exact rfl; (first | (intro h; cases h; done) | (intro _; rfl)))))
      refine r_call0 trivial rfl rfl rfl (fun w hk hs => c_wide w _ _ zs3 (false != q) (hO3.rd.at hk hs (by (repeat' first | exact HSub.nil _ | exact HSub.hd | exact HSub.in0 | exact HSub.refl _ | refine HSub.skip ?_ | refine HSub.skipN ?_))) hz3.lt (by omega)) fun w v w' _ _ _ hR => ?_
      subst hR
      (repeat' (first | (apply r_move; (iterate 3 exact rfl))))
      refine r_call0 trivial rfl rfl rfl (fun w hk hs => c_wide w _ _ zs4 false (hO1.rd.at hk hs (by (repeat' first | exact HSub.nil _ | exact HSub.hd | exact HSub.in0 | exact HSub.refl _ | refine HSub.skip ?_ | refine HSub.skipN ?_))) hz4.lt (by omega)) fun w v w' _ _ _ hR => ?_
      subst hR
      (repeat' (first | refine JO.nil ?_ | refine JX.thenN ?_ | (apply r_assign; (iterate 3 exact rfl)) | (apply r_storeN; exact rfl; (first | exact trivial | exact ⟨rfl, rfl⟩); exact rfl; exact rfl; (first | exact at0 | exact at1); (iterate 3 exact rfl)) | (apply r_storeN; exact rfl; (first | exact trivial | exact ⟨rfl, rfl⟩); exact rfl; exact rfl; (first | exact at0 | exact at1); (iterate 3 exact rfl)) | refine JC.ret ?_))
      refine JX.retCCT 1 0 rfl rfl rfl rfl rfl rfl rfl (fun a w' st => ⟨st.kp, ?_⟩)
      show Value.tuple #[Wv (sgn (false != q) (val W32 zs3)), Wv (sgn false (val W32 zs4)), _] = _
      rw [hq1, ← hq2]
      rfl
    | true =>
      have hz0 := hnp rfl
      (repeat' (first | refine JC.seq ?_ | refine JC.ops ?_ | refine JO.nil ?_ | refine JX.thenN ?_ | (apply r_move; (iterate 3 exact rfl)) | (apply r_fieldAddr; (iterate 3 exact rfl)) | (apply r_assign; (iterate 3 exact rfl)) | (apply r_load; (iterate 4 exact rfl); (first | exact at2 | exact at3); exact rfl) | (apply r_pickT; (iterate 4 exact rfl)) | (apply r_extract; (iterate 4 exact rfl)) | (apply r_lenU; (iterate 3 exact rfl); (first | assumption | exact WU.rd (by assumption) rfl [] | exact OwnU.rd (by assumption))) | (apply r_gtr; (iterate 4 exact rfl); all_goals intro hc; all_goals try (exfalso; omega)) | (apply r_neB; (iterate 4 exact rfl)) | refine JC.skip ?_ | refine JC.condF rfl ?_))
      refine r_call0 trivial rfl rfl rfl (fun w hk hs => c_wide w _ _ zs3 (true != q) (hO3.rd.at hk hs (by (repeat' first | exact HSub.nil _ | exact HSub.hd | exact HSub.in0 | exact HSub.refl _ | refine HSub.skip ?_ | refine HSub.skipN ?_))) hz3.lt (by omega)) fun w v w' _ _ _ hR => ?_
      subst hR
      (repeat' (first | (apply r_move; (iterate 3 exact rfl))))
      refine r_call0 trivial rfl rfl rfl (fun w hk hs => c_wide w _ _ zs4 false (hO1.rd.at hk hs (by (repeat' first | exact HSub.nil _ | exact HSub.hd | exact HSub.in0 | exact HSub.refl _ | refine HSub.skip ?_ | refine HSub.skipN ?_))) hz4.lt (by omega)) fun w v w' _ _ _ hR => ?_
      subst hR
      (repeat' (first | refine JO.nil ?_ | refine JX.thenN ?_ | (apply r_assign; (iterate 3 exact rfl)) | (apply r_storeN; exact rfl; (first | exact trivial | exact ⟨rfl, rfl⟩); exact rfl; exact rfl; (first | exact at0 | exact at1); (iterate 3 exact rfl)) | (apply r_storeN; exact rfl; (first | exact trivial | exact ⟨rfl, rfl⟩); exact rfl; exact rfl; (first | exact at0 | exact at1); (iterate 3 exact rfl)) | refine JC.ret ?_))
      refine JX.retCCT 1 0 rfl rfl rfl rfl rfl rfl rfl (fun a w' st => ⟨st.kp, ?_⟩)
      show Value.tuple #[Wv (sgn (true != q) (val W32 zs3)), Wv (sgn false (val W32 zs4)), _] = _
      rw [hq1, ← hq2]
      rfl


abbrev wc (z : Int) : Array Value := #[.bool (decide (z < 0)), sv (magU z.natAbs)]
theorem JX.retCCC {c : Cx} {t t' t'' : Tmp} {ty ty' ty'' n n' n'' b b' b'' : Nat} {cs cs' cs'' : Array Value} {T T' T'' : TypeId} {fz fz' fz'' : Nat × Nat} {R : Value → World → Prop} {F : SFrame} {H : SHeap} [TN c.P ty n] [TN c.P ty' n'] [TN c.P ty'' n''] (k k' k'' : Nat) (h1 : look F t = some (.pointer (some ⟨b, 0, none⟩)))
    (h2 : H[k]? = some (b, Obj.cells cs T fz)) (hn : cs.size = n) (h1' : look F t' = some (.pointer (some ⟨b', 0, none⟩))) (h2' : H[k']? = some (b', Obj.cells cs' T' fz')) (hn' : cs'.size = n') (h1'' : look F t'' = some (.pointer (some ⟨b'', 0, none⟩))) (h2'' : H[k'']? = some (b'', Obj.cells cs'' T'' fz'')) (hn'' : cs''.size = n'')
    (hR : ∀ a w, St c F H a w → R (.tuple #[.agg cs, .agg cs', .agg cs'']) w) : JX c (endPost c.P #[.cell t ty, .cell t' ty', .cell t'' ty''] (Ret R)) .ret F H :=
  JX.ret' [.agg cs, .agg cs', .agg cs''] (JR.cellN k h1 h2 hn (JR.cellN k' h1' h2' hn' (JR.cellN k'' h1'' h2'' hn'' JR.nil))) hR

theorem natAbs_lt_of_le {a b : Int} {k : Nat} (h : a.natAbs < 256 ^ k) (hb : b.natAbs ≤ 3 * a.natAbs) : b.natAbs < 256 ^ (k + 1) := by
  rw [Nat.pow_succ]; omega
theorem sgn_false (n : Nat) : sgn false n = (n : Int) := rfl
theorem ediv_lt {g h : Int} {k : Nat} (hg : 0 ≤ g) (hh : 0 ≤ h) (hl : g.natAbs < 256 ^ k) : (g / h).natAbs < 256 ^ k := by
  obtain ⟨G, rfl⟩ := Int.eq_ofNat_of_zero_le hg
  obtain ⟨K, rfl⟩ := Int.eq_ofNat_of_zero_le hh
  have e : (G : Int) / K = ((G / K : Nat) : Int) := rfl
  rw [e, Int.natAbs_natCast] at *
  exact Nat.lt_of_le_of_lt (Nat.div_le_self _ _) hl
set_option maxHeartbeats 16000000 in
theorem c_Gcd (w : World) (v u : Value) (a b : Int) (k : Nat) (hv : IsZ v a k) (hu : IsZ u b k) (hk : k ≤ 10000000) :
    Calls Tryd.prog 13 #[v, u] w (Ret fun r w' => Kp [] w w' ∧ ∃ g x y, r = .tuple #[Wv g, Wv x, Wv y] ∧ GcdP a b g x y) := by
  have hZa := hv
  have hZb := hu
  obtain ⟨p, l, rfl, hl1, ha⟩ := hv
  obtain ⟨q, l', rfl, hl2, hb'⟩ := hu
  have haN : a.natAbs = bval (bts l) := by rw [ha, sgn_natAbs]
  have hbN : b.natAbs = bval (bts l') := by rw [hb', sgn_natAbs]
  have hsa : -9223372036854775808 ≤ a.sign ∧ a.sign < 9223372036854775808 := by
    rcases Int.lt_trichotomy a 0 with h | h | h
    · rw [Int.sign_eq_neg_one_of_neg h]; omega
    · subst h; decide
    · rw [Int.sign_eq_one_of_pos h]; omega
  have hZabs : ∀ {z : Int}, z.natAbs < 256 ^ k → IsZ (Wv z) z k := fun h => IsZ.can h
  refine calls_of_R [8] [⟨2, 1, [0, 3, 6, 1, 2, 4, 5, 7, 8, 9], []⟩, ⟨3, 1, [0, 3, 1, 2, 4, 5, 6, 7], []⟩, ⟨7, 1, [], []⟩, ⟨8, 1, [], []⟩, ⟨9, 3, [0, 3, 1, 2, 4, 5, 6, 7, 8, 9, 10, 11, 12, 13], []⟩, ⟨11, 1, [0, 1, 2, 5, 3, 4, 6, 7, 8, 9, 10, 11], []⟩, ⟨12, 1, [], []⟩] [] (by simp) [] Tryd.func13 rfl mixed (by kernel_rfl) Tryd.ntmps13 Tryd.results13 rfl ⟨by simp, by simp⟩ (by simp) ?_
  simp only [toR, inR, cond_true, cond_false, Nat.reduceBEq, toS, textOps, toSOp, kindAt, kindOf, odAt, sopsAt, ordOf, zipF]
  (repeat' (first | refine JC.seq ?_ | refine JC.ops ?_ | refine JO.nil ?_ | refine JX.thenN ?_ | (apply r_loadN; (iterate 4 exact rfl); (first | exact at0 | exact at1 | exact at2 | exact at3 | exact at4 | exact at5 | exact at6 | exact at7 | exact at8 | exact at9); exact rfl) | (apply r_allocZ; (iterate 3 exact rfl); intro _) | (apply r_boxA; (iterate 4 exact rfl); intro _)))
  rename_i b2 b3 b4 b5 b6
  refine r_call0 trivial rfl rfl rfl (fun w hk' hs => c_Sign w _ b k hZb (by omega)) fun w v w' _ _ _ hR => ?_
  subst hR
  by_cases hb : b = 0
  · have hbs : b.sign = 0 := by rw [hb]; rfl
    (repeat' (first | refine JC.seq ?_ | refine JO.nil ?_ | refine JX.thenN ?_ | (apply r_eql; (iterate 4 exact rfl); all_goals intro hc; all_goals try (exfalso; omega)) | refine JC.condT rfl ?_))
    refine JC.opsDs [(b6, .cells #[.bool false, .string ⟨#[]⟩] 32 (0, 0)), (b3, .cells #[.bool q, sv l'] 32 (0, 0)), (b2, .cells #[.bool p, sv l] 32 (0, 0))] (by (repeat' first | exact HSub.refl _ | exact HSub.nil _ | refine HSub.at 0 rfl ?_ | refine HSub.at 1 rfl ?_ | refine HSub.at 2 rfl ?_ | refine HSub.at 3 rfl ?_ | refine HSub.at 4 rfl ?_ | refine HSub.at 5 rfl ?_ | refine HSub.at 6 rfl ?_ | refine HSub.at 7 rfl ?_ | refine HSub.at 8 rfl ?_ | refine HSub.at 9 rfl ?_ | refine HSub.at 10 rfl ?_ | refine HSub.at 11 rfl ?_ | refine HSub.at 12 rfl ?_ | refine HSub.at 13 rfl ?_ | refine HSub.at 14 rfl ?_ | refine HSub.at 15 rfl ?_ | refine HSub.at 16 rfl ?_ | refine HSub.at 17 rfl ?_ | refine HSub.at 18 rfl ?_ | refine HSub.at 19 rfl ?_ | refine HSub.segH ?_ | refine HSub.skip ?_ | refine HSub.skipN ?_)) ?_
    (repeat' (first | (apply r_loadN; (iterate 4 exact rfl); (first | exact at0 | exact at1 | exact at2 | exact at3 | exact at4 | exact at5 | exact at6 | exact at7 | exact at8 | exact at9); exact rfl)))
    refine r_callA (A := [_, _, _, _, _]) rfl trivial rfl rfl rfl (fun w hk hs => c_abs w p l (by omega)) fun w v w' _ _ _ hR => ?_
    obtain ⟨N1, zs1, hN1, hO1, hz1, hval1⟩ := hR
    refine ⟨N1, hN1, ?_⟩
    have hzl1 := words_le hz1 hval1 hl1
    skip
    refine r_call0 trivial rfl rfl rfl (fun w hk hs => c_wide w _ _ zs1 false (hO1.rd.at hk hs (by (repeat' first | exact HSub.nil _ | exact HSub.hd | exact HSub.in0 | exact HSub.refl _ | refine HSub.skip ?_ | refine HSub.skipN ?_))) hz1.lt (by omega)) fun w v w' _ _ _ hR => ?_
    rw [hval1, sgn_false, ← haN] at hR
    subst hR
    skip
    refine r_call0 trivial rfl rfl rfl (fun w hk' hs => c_Sign w _ a k hZa (by omega)) fun w v w' _ _ _ hR => ?_
    subst hR
    skip
    refine r_call0 trivial rfl rfl rfl (fun w hk' hs => c_From w a.sign hsa.1 hsa.2) fun w v w' _ _ _ hR => ?_
    subst hR
    (repeat' (first | refine JO.nil ?_ | refine JX.thenN ?_ | (apply r_storeN; exact rfl; (first | exact trivial | exact ⟨rfl, rfl⟩); exact rfl; exact rfl; (first | exact at0 | exact at1 | exact at2 | exact at3 | exact at4 | exact at5 | exact at6 | exact at7 | exact at8 | exact at9); (iterate 3 exact rfl)) | (apply r_storeKN; (iterate 3 exact rfl); (first | exact at0 | exact at1 | exact at2 | exact at3 | exact at4 | exact at5 | exact at6 | exact at7 | exact at8 | exact at9); (iterate 3 exact rfl); (repeat' first | exact HSub.refl _ | exact HSub.nil _ | refine HSub.at 0 rfl ?_ | refine HSub.at 1 rfl ?_ | refine HSub.at 2 rfl ?_ | refine HSub.at 3 rfl ?_ | refine HSub.at 4 rfl ?_ | refine HSub.at 5 rfl ?_ | refine HSub.at 6 rfl ?_ | refine HSub.at 7 rfl ?_ | refine HSub.at 8 rfl ?_ | refine HSub.at 9 rfl ?_ | refine HSub.at 10 rfl ?_ | refine HSub.at 11 rfl ?_ | refine HSub.at 12 rfl ?_ | refine HSub.at 13 rfl ?_ | refine HSub.at 14 rfl ?_ | refine HSub.at 15 rfl ?_ | refine HSub.at 16 rfl ?_ | refine HSub.at 17 rfl ?_ | refine HSub.at 18 rfl ?_ | refine HSub.at 19 rfl ?_ | refine HSub.segH ?_ | refine HSub.skip ?_ | refine HSub.skipN ?_)) | (apply r_storeN; exact rfl; (first | exact trivial | exact ⟨rfl, rfl⟩); exact rfl; exact rfl; (first | exact at0 | exact at1 | exact at2 | exact at3 | exact at4 | exact at5 | exact at6 | exact at7 | exact at8 | exact at9); (iterate 3 exact rfl)) | refine JX.thenR ?_ | refine JC.ret ?_))
    exact JX.retCCC 2 1 0 rfl rfl rfl rfl rfl rfl rfl rfl rfl (fun a' w' st => ⟨st.kp, (a.natAbs : Int), a.sign, 0, rfl, by rw [hb]; exact gcd_zero_end a⟩)
  have hbs : b.sign ≠ 0 := fun h => hb (Int.sign_eq_zero_iff_zero.1 h)
  (repeat' (first | refine JC.seq ?_ | refine JO.nil ?_ | refine JX.thenN ?_ | (apply r_eql; (iterate 4 exact rfl); all_goals intro hc; all_goals try (exfalso; omega)) | refine JC.skip ?_ | refine JC.condF rfl ?_))
  refine JC.opsDs [(b6, .cells #[.bool false, .string ⟨#[]⟩] 32 (0, 0)), (b3, .cells #[.bool q, sv l'] 32 (0, 0)), (b2, .cells #[.bool p, sv l] 32 (0, 0))] (by (repeat' first | exact HSub.refl _ | exact HSub.nil _ | refine HSub.at 0 rfl ?_ | refine HSub.at 1 rfl ?_ | refine HSub.at 2 rfl ?_ | refine HSub.at 3 rfl ?_ | refine HSub.at 4 rfl ?_ | refine HSub.at 5 rfl ?_ | refine HSub.at 6 rfl ?_ | refine HSub.at 7 rfl ?_ | refine HSub.at 8 rfl ?_ | refine HSub.at 9 rfl ?_ | refine HSub.at 10 rfl ?_ | refine HSub.at 11 rfl ?_ | refine HSub.at 12 rfl ?_ | refine HSub.at 13 rfl ?_ | refine HSub.at 14 rfl ?_ | refine HSub.at 15 rfl ?_ | refine HSub.at 16 rfl ?_ | refine HSub.at 17 rfl ?_ | refine HSub.at 18 rfl ?_ | refine HSub.at 19 rfl ?_ | refine HSub.segH ?_ | refine HSub.skip ?_ | refine HSub.skipN ?_)) ?_
  (repeat' (first | (apply r_loadN; (iterate 4 exact rfl); (first | exact at0 | exact at1 | exact at2 | exact at3 | exact at4 | exact at5 | exact at6 | exact at7 | exact at8 | exact at9); exact rfl)))
  refine r_callA (A := [_, _, _, _, _]) rfl trivial rfl rfl rfl (fun w hk hs => c_abs w p l (by omega)) fun w v w' _ _ _ hR => ?_
  obtain ⟨N1, zs1, hN1, hO1, hz1, hval1⟩ := hR
  refine ⟨N1, hN1, ?_⟩
  have hzl1 := words_le hz1 hval1 hl1
  skip
  refine r_call0 trivial rfl rfl rfl (fun w hk hs => c_wide w _ _ zs1 false (hO1.rd.at hk hs (by (repeat' first | exact HSub.nil _ | exact HSub.hd | exact HSub.in0 | exact HSub.refl _ | refine HSub.skip ?_ | refine HSub.skipN ?_))) hz1.lt (by omega)) fun w v w' _ _ _ hR => ?_
  rw [hval1, sgn_false, ← haN] at hR
  subst hR
  skip
  refine r_call0 trivial rfl rfl rfl (fun w hk' hs => c_Sign w _ a k hZa (by omega)) fun w v w' _ _ _ hR => ?_
  subst hR
  skip
  refine r_call0 trivial rfl rfl rfl (fun w hk' hs => c_From w a.sign hsa.1 hsa.2) fun w v w' _ _ _ hR => ?_
  subst hR
  (repeat' (first | refine JC.seq ?_ | refine JC.ops ?_ | refine JO.nil ?_ | refine JX.thenN ?_ | (apply r_loadN; (iterate 4 exact rfl); (first | exact at0 | exact at1 | exact at2 | exact at3 | exact at4 | exact at5 | exact at6 | exact at7 | exact at8 | exact at9); exact rfl) | (apply r_storeN; exact rfl; (first | exact trivial | exact ⟨rfl, rfl⟩); exact rfl; exact rfl; (first | exact at0 | exact at1 | exact at2 | exact at3 | exact at4 | exact at5 | exact at6 | exact at7 | exact at8 | exact at9); (iterate 3 exact rfl)) | (apply r_storeKN; (iterate 3 exact rfl); (first | exact at0 | exact at1 | exact at2 | exact at3 | exact at4 | exact at5 | exact at6 | exact at7 | exact at8 | exact at9); (iterate 3 exact rfl); (repeat' first | exact HSub.refl _ | exact HSub.nil _ | refine HSub.at 0 rfl ?_ | refine HSub.at 1 rfl ?_ | refine HSub.at 2 rfl ?_ | refine HSub.at 3 rfl ?_ | refine HSub.at 4 rfl ?_ | refine HSub.at 5 rfl ?_ | refine HSub.at 6 rfl ?_ | refine HSub.at 7 rfl ?_ | refine HSub.at 8 rfl ?_ | refine HSub.at 9 rfl ?_ | refine HSub.at 10 rfl ?_ | refine HSub.at 11 rfl ?_ | refine HSub.at 12 rfl ?_ | refine HSub.at 13 rfl ?_ | refine HSub.at 14 rfl ?_ | refine HSub.at 15 rfl ?_ | refine HSub.at 16 rfl ?_ | refine HSub.at 17 rfl ?_ | refine HSub.at 18 rfl ?_ | refine HSub.at 19 rfl ?_ | refine HSub.segH ?_ | refine HSub.skip ?_ | refine HSub.skipN ?_)) | (apply r_storeN; exact rfl; (first | exact trivial | exact ⟨rfl, rfl⟩); exact rfl; exact rfl; (first | exact at0 | exact at1 | exact at2 | exact at3 | exact at4 | exact at5 | exact at6 | exact at7 | exact at8 | exact at9); (iterate 3 exact rfl))))
  refine r_callA (A := [_, _, _, _, _]) rfl trivial rfl rfl rfl (fun w hk hs => c_abs w q l' (by omega)) fun w v w' _ _ _ hR => ?_
  obtain ⟨N2, zs2, hN2, hO2, hz2, hval2⟩ := hR
  refine ⟨N2, hN2, ?_⟩
  have hzl2 := words_le hz2 hval2 hl2
  skip
  refine r_call0 trivial rfl rfl rfl (fun w hk hs => c_wide w _ _ zs2 false (hO2.rd.at hk hs (by (repeat' first | exact HSub.nil _ | exact HSub.hd | exact HSub.in0 | exact HSub.refl _ | refine HSub.skip ?_ | refine HSub.skipN ?_))) hz2.lt (by omega)) fun w v w' _ _ _ hR => ?_
  rw [hval2, sgn_false, ← hbN] at hR
  subst hR
  (repeat' (first | refine JC.seq ?_ | refine JO.nil ?_ | refine JX.thenN ?_ | (apply r_storeN; exact rfl; (first | exact trivial | exact ⟨rfl, rfl⟩); exact rfl; exact rfl; (first | exact at0 | exact at1 | exact at2 | exact at3 | exact at4 | exact at5 | exact at6 | exact at7 | exact at8 | exact at9); (iterate 3 exact rfl)) | (apply r_allocZ; (iterate 3 exact rfl); intro _) | (apply r_buildL; (iterate 5 exact rfl)) | (apply r_storeN; exact rfl; (first | exact trivial | exact ⟨rfl, rfl⟩); exact rfl; exact rfl; (first | exact at0 | exact at1 | exact at2 | exact at3 | exact at4 | exact at5 | exact at6 | exact at7 | exact at8 | exact at9); (iterate 3 exact rfl)) | refine JC.block ?_))
  rename_i b7 b8
  have hb1 : 1 ≤ b.natAbs := by omega
  refine JC.loopH (ι := Int × Int × Int × Int) ⟨fun z => [(8, .pointer (some ⟨b8, 0, none⟩)), (7, .pointer (some ⟨b7, 0, none⟩)), (6, .pointer (some ⟨b6, 0, none⟩)), (5, .pointer (some ⟨b5, 0, none⟩)), (4, .pointer (some ⟨b4, 0, none⟩)), (3, .pointer (some ⟨b3, 0, none⟩)), (2, .pointer (some ⟨b2, 0, none⟩))],
    fun z => [(b8, .cells (wc z.2.2.2) 32 (0, 0)), (b7, .cells (wc z.2.1) 32 (0, 0)), (b6, .cells #[.bool false, .string ⟨#[]⟩] 32 (0, 0)), (b5, .cells (wc z.2.2.1) 32 (0, 0)), (b4, .cells (wc z.1) 32 (0, 0)), (b3, .cells #[.bool q, sv l'] 32 (0, 0)), (b2, .cells #[.bool p, sv l] 32 (0, 0))],
    fun z => GI a b z.1 z.2.1 z.2.2.1 z.2.2.2 ∧ z.2.2.1.natAbs ≤ 3 * b.natAbs ∧ z.2.2.2.natAbs ≤ 3 * b.natAbs ∧ z.1.natAbs < 256 ^ k ∧ z.2.1.natAbs < 256 ^ k, fun z => z.2.1.natAbs⟩
    ((a.natAbs : Int), (b.natAbs : Int), a.sign, 0) ⟨GI.start a b, by
      show a.sign.natAbs ≤ _
      have : a.sign.natAbs ≤ 1 := by rcases Int.lt_trichotomy a 0 with h | h | h <;> simp [Int.sign_eq_neg_one_of_neg, Int.sign_eq_one_of_pos, h]
      omega, by simp, by simpa using hZa.lt, by simpa using hZb.lt⟩ (by repeat first | exact trivial | refine ⟨rfl, ?_⟩) (by (repeat' first | exact HSub.refl _ | exact HSub.nil _ | refine HSub.at 0 rfl ?_ | refine HSub.at 1 rfl ?_ | refine HSub.at 2 rfl ?_ | refine HSub.at 3 rfl ?_ | refine HSub.at 4 rfl ?_ | refine HSub.at 5 rfl ?_ | refine HSub.at 6 rfl ?_ | refine HSub.at 7 rfl ?_ | refine HSub.at 8 rfl ?_ | refine HSub.at 9 rfl ?_ | refine HSub.at 10 rfl ?_ | refine HSub.at 11 rfl ?_ | refine HSub.at 12 rfl ?_ | refine HSub.at 13 rfl ?_ | refine HSub.at 14 rfl ?_ | refine HSub.at 15 rfl ?_ | refine HSub.at 16 rfl ?_ | refine HSub.at 17 rfl ?_ | refine HSub.at 18 rfl ?_ | refine HSub.at 19 rfl ?_ | refine HSub.segH ?_ | refine HSub.skip ?_ | refine HSub.skipN ?_)) (fun z hz => ?_)
  obtain ⟨g, h, x, y⟩ := z
  obtain ⟨hGI, hx3, hy3, hgk, hhk⟩ := hz
  dsimp only at hGI hx3 hy3 hgk hhk ⊢
  have hZx : IsZ (Wv x) x (k + 1) := IsZ.can (natAbs_lt_of_le hZb.lt hx3)
  have hZy : IsZ (Wv y) y (k + 1) := IsZ.can (natAbs_lt_of_le hZb.lt hy3)
  have hZg : IsZ (Wv g) g k := IsZ.can hgk
  have hZh : IsZ (Wv h) h k := IsZ.can hhk
  by_cases hh : h = 0
  · subst hh
    have hs0 : Int.sign 0 = 0 := rfl
    have hgg : g = Int.gcd a b := by
      have h1 := hGI.gcd
      rw [Int.gcd_zero_right] at h1
      have := hGI.g0
      omega
    have hgp : 0 < g := by
      have h1 : 0 < Int.gcd a b := Int.gcd_pos_of_ne_zero_right _ hb
      omega
    have hdb : g ∣ b := by rw [hgg]; exact Int.gcd_dvd_right ..
    obtain ⟨y0, hex⟩ := hGI.ex
    have hmg : (b / g) * g = b := Int.ediv_mul_cancel hdb
    have hbg0 : b / g ≠ 0 := fun e => by rw [e, Int.zero_mul] at hmg; exact hb hmg.symm
    have hmm : (b.natAbs : Int) / g * g = b.natAbs := Int.ediv_mul_cancel (Int.dvd_natAbs.2 hdb)
    have hm0 : (b.natAbs : Int) / g ≠ 0 := fun e => by rw [e, Int.zero_mul] at hmm; omega
    have hm1 : ((b.natAbs : Int) / g).natAbs < 256 ^ k := ediv_lt (by omega) (by omega) (by simpa using hZb.lt)
    have hxm := abs_quo_emod (x := x) hdb
    have hx1 : (x % (b / g)).natAbs < 256 ^ k := by
      have h1 := Int.emod_nonneg x hm0
      have h2 := Int.emod_lt x hm0
      rw [hxm] at h1 h2
      omega
    have hZx' : IsZ (Wv (x % (b / g))) (x % (b / g)) k := IsZ.can hx1
    have hZxa : IsZ (Wv (x % (b / g) * a)) (x % (b / g) * a) (2 * k) := (IsZ.can (mul_lt hx1 hZa.lt)).mono (by omega)
    have hZgx : IsZ (Wv (g - x % (b / g) * a)) (g - x % (b / g) * a) (2 * k + 1) := by
      rw [Int.sub_eq_add_neg]
      exact IsZ.add (hZg.mono (show k ≤ 2 * k by omega)).lt (by rw [Int.natAbs_neg]; exact hZxa.lt)
    (repeat' (first | refine JC.seq ?_ | refine JC.ops ?_ | (apply r_loadN; (iterate 4 exact rfl); (first | exact at0 | exact at1 | exact at2 | exact at3 | exact at4 | exact at5 | exact at6 | exact at7 | exact at8 | exact at9); exact rfl)))
    refine r_call0 trivial rfl rfl rfl (fun w hk' hs => c_Sign w _ 0 k hZh (by omega)) fun w v w' _ _ _ hR => ?_
    subst hR
    (repeat' (first | refine JC.seq ?_ | refine JC.opsD ?_ | refine JO.nil ?_ | refine JX.thenN ?_ | (apply r_loadN; (iterate 4 exact rfl); (first | exact at0 | exact at1 | exact at2 | exact at3 | exact at4 | exact at5 | exact at6 | exact at7 | exact at8 | exact at9); exact rfl) | (apply r_neq; (iterate 4 exact rfl); all_goals intro hc; all_goals try (exfalso; omega)) | refine JX.thenE ?_ | refine JC.exit ?_ | refine JC.condF rfl ?_ | refine JX.blockE ?_))
    refine r_callA (A := [_, _, _, _, _, _, _]) rfl trivial rfl rfl rfl (fun w hk hs => c_abs w q l' (by omega)) fun w v w' _ _ _ hR => ?_
    obtain ⟨N3, zs3, hN3, hO3, hz3, hval3⟩ := hR
    refine ⟨N3, hN3, ?_⟩
    have hzl3 := words_le hz3 hval3 hl2
    skip
    refine r_call0 trivial rfl rfl rfl (fun w hk hs => c_wide w _ _ zs3 false (hO3.rd.at hk hs (by (repeat' first | exact HSub.nil _ | exact HSub.hd | exact HSub.in0 | exact HSub.refl _ | refine HSub.skip ?_ | refine HSub.skipN ?_))) hz3.lt (by omega)) fun w v w' _ _ _ hR => ?_
    rw [hval3, sgn_false, ← hbN] at hR
    subst hR
    skip
    refine r_call0 trivial rfl rfl rfl (fun w hk' hs => c_Quo w _ _ (b.natAbs : Int) g k (IsZ.can (by simpa using hZb.lt)) hZg (by omega)) fun w v w' _ _ _ hR => ?_
    rw [if_neg (by omega)] at hR
    subst hR
    (repeat' (first | refine JC.seq ?_ | refine JC.ops ?_ | refine JO.nil ?_ | refine JX.thenN ?_ | (apply r_move; (iterate 3 exact rfl)) | (apply r_assign; (iterate 3 exact rfl)) | (apply r_loadN; (iterate 4 exact rfl); (first | exact at0 | exact at1 | exact at2 | exact at3 | exact at4 | exact at5 | exact at6 | exact at7 | exact at8 | exact at9); exact rfl) | (apply r_extract; (iterate 4 exact rfl)) | (apply r_storeN; exact rfl; (first | exact trivial | exact ⟨rfl, rfl⟩); exact rfl; exact rfl; (first | exact at0 | exact at1 | exact at2 | exact at3 | exact at4 | exact at5 | exact at6 | exact at7 | exact at8 | exact at9); (iterate 3 exact rfl)) | (apply r_allocZ; (iterate 3 exact rfl); intro _) | (apply r_storeN; exact rfl; (first | exact trivial | exact ⟨rfl, rfl⟩); exact rfl; exact rfl; (first | exact at0 | exact at1 | exact at2 | exact at3 | exact at4 | exact at5 | exact at6 | exact at7 | exact at8 | exact at9); (iterate 3 exact rfl))))
    refine r_call0 trivial rfl rfl rfl (fun w hk' hs => c_Quo w _ _ x ((b.natAbs : Int) / g) (k + 1) hZx ((IsZ.can hm1).mono (by omega)) (by omega)) fun w v w' _ _ _ hR => ?_
    rw [if_neg hm0, hxm] at hR
    subst hR
    (repeat' (first | refine JC.seq ?_ | refine JC.opsD ?_ | refine JO.nil ?_ | refine JX.thenN ?_ | (apply r_move; (iterate 3 exact rfl)) | (apply r_loadN; (iterate 4 exact rfl); (first | exact at0 | exact at1 | exact at2 | exact at3 | exact at4 | exact at5 | exact at6 | exact at7 | exact at8 | exact at9); exact rfl) | (apply r_extract; (iterate 4 exact rfl)) | (apply r_storeN; exact rfl; (first | exact trivial | exact ⟨rfl, rfl⟩); exact rfl; exact rfl; (first | exact at0 | exact at1 | exact at2 | exact at3 | exact at4 | exact at5 | exact at6 | exact at7 | exact at8 | exact at9); (iterate 3 exact rfl)) | (apply r_storeN; exact rfl; (first | exact trivial | exact ⟨rfl, rfl⟩); exact rfl; exact rfl; (first | exact at0 | exact at1 | exact at2 | exact at3 | exact at4 | exact at5 | exact at6 | exact at7 | exact at8 | exact at9); (iterate 3 exact rfl))))
    refine r_call0 trivial rfl rfl rfl (fun w hk' hs => c_Mul w _ _ (x % (b / g)) a k hZx' hZa (by omega)) fun w v w' _ _ _ hR => ?_
    subst hR
    skip
    refine r_call0 trivial rfl rfl rfl (fun w hk' hs => c_Sub w _ _ g (x % (b / g) * a) (2 * k) (hZg.mono (by omega)) hZxa (by omega)) fun w v w' _ _ _ hR => ?_
    subst hR
    skip
    refine r_call0 trivial rfl rfl rfl (fun w hk' hs => c_Quo w _ _ (g - x % (b / g) * a) b (2 * k + 1) hZgx (hZb.mono (by omega)) (by omega)) fun w v w' _ _ _ hR => ?_
    rw [if_neg hb] at hR
    subst hR
    (repeat' (first | refine JC.seq ?_ | refine JC.opsD ?_ | refine JO.nil ?_ | refine JX.thenN ?_ | (apply r_move; (iterate 3 exact rfl)) | (apply r_loadN; (iterate 4 exact rfl); (first | exact at0 | exact at1 | exact at2 | exact at3 | exact at4 | exact at5 | exact at6 | exact at7 | exact at8 | exact at9); exact rfl) | (apply r_extract; (iterate 4 exact rfl)) | (apply r_storeN; exact rfl; (first | exact trivial | exact ⟨rfl, rfl⟩); exact rfl; exact rfl; (first | exact at0 | exact at1 | exact at2 | exact at3 | exact at4 | exact at5 | exact at6 | exact at7 | exact at8 | exact at9); (iterate 3 exact rfl)) | (apply r_storeKN; (iterate 3 exact rfl); (first | exact at0 | exact at1 | exact at2 | exact at3 | exact at4 | exact at5 | exact at6 | exact at7 | exact at8 | exact at9); (iterate 3 exact rfl); (repeat' first | exact HSub.refl _ | exact HSub.nil _ | refine HSub.at 0 rfl ?_ | refine HSub.at 1 rfl ?_ | refine HSub.at 2 rfl ?_ | refine HSub.at 3 rfl ?_ | refine HSub.at 4 rfl ?_ | refine HSub.at 5 rfl ?_ | refine HSub.at 6 rfl ?_ | refine HSub.at 7 rfl ?_ | refine HSub.at 8 rfl ?_ | refine HSub.at 9 rfl ?_ | refine HSub.at 10 rfl ?_ | refine HSub.at 11 rfl ?_ | refine HSub.at 12 rfl ?_ | refine HSub.at 13 rfl ?_ | refine HSub.at 14 rfl ?_ | refine HSub.at 15 rfl ?_ | refine HSub.at 16 rfl ?_ | refine HSub.at 17 rfl ?_ | refine HSub.at 18 rfl ?_ | refine HSub.at 19 rfl ?_ | refine HSub.segH ?_ | refine HSub.skip ?_ | refine HSub.skipN ?_)) | (apply r_storeN; exact rfl; (first | exact trivial | exact ⟨rfl, rfl⟩); exact rfl; exact rfl; (first | exact at0 | exact at1 | exact at2 | exact at3 | exact at4 | exact at5 | exact at6 | exact at7 | exact at8 | exact at9); (iterate 3 exact rfl)) | refine JC.ret ?_))
    exact JX.retCCC 6 5 4 rfl rfl rfl rfl rfl rfl rfl rfl rfl (fun a' w' st => ⟨st.kp, g, x % (b / g), (g - x % (b / g) * a) / b, rfl, gcd_end hgg hb hex⟩)
  · have hs0 : h.sign ≠ 0 := fun e => hh (Int.sign_eq_zero_iff_zero.1 e)
    have hq1 := ediv_lt hGI.g0 hGI.h0 hgk
    have hZq : IsZ (Wv (g / h)) (g / h) (k + 1) := (IsZ.can hq1).mono (by omega)
    have hstep := hGI.step hh
    have hZqy : IsZ (Wv (g / h * y)) (g / h * y) (2 * k + 2) := (IsZ.can (mul_lt hZq.lt hZy.lt)).mono (by omega)
    have hu3 : (x - g / h * y).natAbs ≤ 3 * b.natAbs := by
      have h1 := hstep.sz
      have h2 := Nat.le_mul_of_pos_right (x - g / h * y).natAbs (show 0 < h.natAbs by omega)
      omega
    have hr1 := Int.emod_nonneg g hh
    have hr2 := Int.emod_lt g hh
    (repeat' (first | refine JC.seq ?_ | refine JC.ops ?_ | (apply r_loadN; (iterate 4 exact rfl); (first | exact at0 | exact at1 | exact at2 | exact at3 | exact at4 | exact at5 | exact at6 | exact at7 | exact at8 | exact at9); exact rfl)))
    refine r_call0 trivial rfl rfl rfl (fun w hk' hs => c_Sign w _ h k hZh (by omega)) fun w v w' _ _ _ hR => ?_
    subst hR
    (repeat' (first | refine JC.seq ?_ | refine JC.ops ?_ | refine JO.nil ?_ | refine JX.thenN ?_ | (apply r_loadN; (iterate 4 exact rfl); (first | exact at0 | exact at1 | exact at2 | exact at3 | exact at4 | exact at5 | exact at6 | exact at7 | exact at8 | exact at9); exact rfl) | (apply r_neq; (iterate 4 exact rfl); all_goals intro hc; all_goals try (exfalso; omega)) | refine JC.skip ?_ | refine JC.condT rfl ?_ | refine JC.block ?_))
    refine r_call0 trivial rfl rfl rfl (fun w hk' hs => c_Quo w _ _ g h k hZg hZh (by omega)) fun w v w' _ _ _ hR => ?_
    rw [if_neg hh] at hR
    subst hR
    (repeat' (first | refine JC.seq ?_ | refine JO.nil ?_ | refine JX.thenN ?_ | (apply r_move; (iterate 3 exact rfl)) | (apply r_assign; (iterate 3 exact rfl)) | (apply r_extract; (iterate 4 exact rfl)) | (apply r_storeN; exact rfl; (first | exact trivial | exact ⟨rfl, rfl⟩); exact rfl; exact rfl; (first | exact at0 | exact at1 | exact at2 | exact at3 | exact at4 | exact at5 | exact at6 | exact at7 | exact at8 | exact at9); (iterate 3 exact rfl)) | (apply r_allocZ; (iterate 3 exact rfl); intro _) | (apply r_storeN; exact rfl; (first | exact trivial | exact ⟨rfl, rfl⟩); exact rfl; exact rfl; (first | exact at0 | exact at1 | exact at2 | exact at3 | exact at4 | exact at5 | exact at6 | exact at7 | exact at8 | exact at9); (iterate 3 exact rfl))))
    rename_i b9 b10
    refine JC.opsDs [(b10, .cells (wc (g % h)) 32 (0, 0)), (b9, .cells (wc (g / h)) 32 (0, 0)), (b8, .cells (wc y) 32 (0, 0)), (b7, .cells (wc h) 32 (0, 0))] (by (repeat' first | exact HSub.refl _ | exact HSub.nil _ | refine HSub.at 0 rfl ?_ | refine HSub.at 1 rfl ?_ | refine HSub.at 2 rfl ?_ | refine HSub.at 3 rfl ?_ | refine HSub.at 4 rfl ?_ | refine HSub.at 5 rfl ?_ | refine HSub.at 6 rfl ?_ | refine HSub.at 7 rfl ?_ | refine HSub.at 8 rfl ?_ | refine HSub.at 9 rfl ?_ | refine HSub.at 10 rfl ?_ | refine HSub.at 11 rfl ?_ | refine HSub.at 12 rfl ?_ | refine HSub.at 13 rfl ?_ | refine HSub.at 14 rfl ?_ | refine HSub.at 15 rfl ?_ | refine HSub.at 16 rfl ?_ | refine HSub.at 17 rfl ?_ | refine HSub.at 18 rfl ?_ | refine HSub.at 19 rfl ?_ | refine HSub.segH ?_ | refine HSub.skip ?_ | refine HSub.skipN ?_)) ?_
    (repeat' (first | refine JO.nil ?_ | refine JX.thenN ?_ | (apply r_loadN; (iterate 4 exact rfl); (first | exact at0 | exact at1 | exact at2 | exact at3 | exact at4 | exact at5 | exact at6 | exact at7 | exact at8 | exact at9); exact rfl) | (apply r_storeN; exact rfl; (first | exact trivial | exact ⟨rfl, rfl⟩); exact rfl; exact rfl; (first | exact at0 | exact at1 | exact at2 | exact at3 | exact at4 | exact at5 | exact at6 | exact at7 | exact at8 | exact at9); (iterate 3 exact rfl)) | (apply r_storeKN; (iterate 3 exact rfl); (first | exact at0 | exact at1 | exact at2 | exact at3 | exact at4 | exact at5 | exact at6 | exact at7 | exact at8 | exact at9); (iterate 3 exact rfl); (repeat' first | exact HSub.refl _ | exact HSub.nil _ | refine HSub.at 0 rfl ?_ | refine HSub.at 1 rfl ?_ | refine HSub.at 2 rfl ?_ | refine HSub.at 3 rfl ?_ | refine HSub.at 4 rfl ?_ | refine HSub.at 5 rfl ?_ | refine HSub.at 6 rfl ?_ | refine HSub.at 7 rfl ?_ | refine HSub.at 8 rfl ?_ | refine HSub.at 9 rfl ?_ | refine HSub.at 10 rfl ?_ | refine HSub.at 11 rfl ?_ | refine HSub.at 12 rfl ?_ | refine HSub.at 13 rfl ?_ | refine HSub.at 14 rfl ?_ | refine HSub.at 15 rfl ?_ | refine HSub.at 16 rfl ?_ | refine HSub.at 17 rfl ?_ | refine HSub.at 18 rfl ?_ | refine HSub.at 19 rfl ?_ | refine HSub.segH ?_ | refine HSub.skip ?_ | refine HSub.skipN ?_)) | (apply r_storeN; exact rfl; (first | exact trivial | exact ⟨rfl, rfl⟩); exact rfl; exact rfl; (first | exact at0 | exact at1 | exact at2 | exact at3 | exact at4 | exact at5 | exact at6 | exact at7 | exact at8 | exact at9); (iterate 3 exact rfl))))
    refine JC.forkS [(b9, .cells (wc (g / h)) 32 (0, 0)), (b8, .cells (wc y) 32 (0, 0))] (by (repeat' first | exact HSub.refl _ | exact HSub.nil _ | refine HSub.at 0 rfl ?_ | refine HSub.at 1 rfl ?_ | refine HSub.at 2 rfl ?_ | refine HSub.at 3 rfl ?_ | refine HSub.at 4 rfl ?_ | refine HSub.at 5 rfl ?_ | refine HSub.at 6 rfl ?_ | refine HSub.at 7 rfl ?_ | refine HSub.at 8 rfl ?_ | refine HSub.at 9 rfl ?_ | refine HSub.at 10 rfl ?_ | refine HSub.at 11 rfl ?_ | refine HSub.at 12 rfl ?_ | refine HSub.at 13 rfl ?_ | refine HSub.at 14 rfl ?_ | refine HSub.at 15 rfl ?_ | refine HSub.at 16 rfl ?_ | refine HSub.at 17 rfl ?_ | refine HSub.at 18 rfl ?_ | refine HSub.at 19 rfl ?_ | refine HSub.segH ?_ | refine HSub.skip ?_ | refine HSub.skipN ?_)) 1 4 (fun i op => kindAt [(1, .seq)] i op) 1 1 [0, 2, 3, 1, 4, 5, 6, 7] [0, 2, 3, 4, 1, 5, 6, 7] (by decide) mixed (by kernel_rfl) (by kernel_rfl) ?_ ?_
    · (repeat' (first | (apply r_loadN; (iterate 4 exact rfl); (first | exact at0 | exact at1 | exact at2 | exact at3 | exact at4 | exact at5 | exact at6 | exact at7 | exact at8 | exact at9); exact rfl) | (apply r_ldNS; (first | exact trivial | exact ⟨rfl, rfl⟩); (iterate 3 exact rfl); (first | exact at0 | exact at1 | exact at2 | exact at3 | exact at4 | exact at5 | exact at6 | exact at7 | exact at8 | exact at9); exact rfl)))
      refine r_call0 (by first | trivial | exact ⟨rfl, rfl⟩) rfl rfl rfl (fun w hk' hs => c_Mul w _ _ (g / h) y (k + 1) hZq hZy (by omega)) fun w v w' _ _ _ hR => ?_
      subst hR
      skip
      refine r_call0 (by first | trivial | exact ⟨rfl, rfl⟩) rfl rfl rfl (fun w hk' hs => c_Sub w _ _ x (g / h * y) (2 * k + 2) (hZx.mono (by omega)) hZqy (by omega)) fun w v w' _ _ _ hR => ?_
      subst hR
      (repeat' (first | refine JO.nil ?_ | (apply r_storeN; exact rfl; (first | exact trivial | exact ⟨rfl, rfl⟩); exact rfl; exact rfl; (first | exact at0 | exact at1 | exact at2 | exact at3 | exact at4 | exact at5 | exact at6 | exact at7 | exact at8 | exact at9); (iterate 3 exact rfl)) | (apply r_storeKN; (iterate 3 exact rfl); (first | exact at0 | exact at1 | exact at2 | exact at3 | exact at4 | exact at5 | exact at6 | exact at7 | exact at8 | exact at9); (iterate 3 exact rfl); (repeat' first | exact HSub.refl _ | exact HSub.nil _ | refine HSub.at 0 rfl ?_ | refine HSub.at 1 rfl ?_ | refine HSub.at 2 rfl ?_ | refine HSub.at 3 rfl ?_ | refine HSub.at 4 rfl ?_ | refine HSub.at 5 rfl ?_ | refine HSub.at 6 rfl ?_ | refine HSub.at 7 rfl ?_ | refine HSub.at 8 rfl ?_ | refine HSub.at 9 rfl ?_ | refine HSub.at 10 rfl ?_ | refine HSub.at 11 rfl ?_ | refine HSub.at 12 rfl ?_ | refine HSub.at 13 rfl ?_ | refine HSub.at 14 rfl ?_ | refine HSub.at 15 rfl ?_ | refine HSub.at 16 rfl ?_ | refine HSub.at 17 rfl ?_ | refine HSub.at 18 rfl ?_ | refine HSub.at 19 rfl ?_ | refine HSub.segH ?_ | refine HSub.skip ?_ | refine HSub.skipN ?_)) | (apply r_storeN; exact rfl; (first | exact trivial | exact ⟨rfl, rfl⟩); exact rfl; exact rfl; (first | exact at0 | exact at1 | exact at2 | exact at3 | exact at4 | exact at5 | exact at6 | exact at7 | exact at8 | exact at9); (iterate 3 exact rfl)) | refine JX.blockN ?_))
      exact JX.roundH (h, g % h, y, x - g / h * y) ⟨hstep, hy3, hu3, hhk, by dsimp only; omega⟩ (by dsimp only; omega) (by repeat first | exact trivial | refine ⟨rfl, ?_⟩) (by (repeat' first | exact HSub.refl _ | exact HSub.nil _ | refine HSub.at 0 rfl ?_ | refine HSub.at 1 rfl ?_ | refine HSub.at 2 rfl ?_ | refine HSub.at 3 rfl ?_ | refine HSub.at 4 rfl ?_ | refine HSub.at 5 rfl ?_ | refine HSub.at 6 rfl ?_ | refine HSub.at 7 rfl ?_ | refine HSub.at 8 rfl ?_ | refine HSub.at 9 rfl ?_ | refine HSub.at 10 rfl ?_ | refine HSub.at 11 rfl ?_ | refine HSub.at 12 rfl ?_ | refine HSub.at 13 rfl ?_ | refine HSub.at 14 rfl ?_ | refine HSub.at 15 rfl ?_ | refine HSub.at 16 rfl ?_ | refine HSub.at 17 rfl ?_ | refine HSub.at 18 rfl ?_ | refine HSub.at 19 rfl ?_ | refine HSub.segH ?_ | refine HSub.skip ?_ | refine HSub.skipN ?_))
    · (repeat' (first | (apply r_loadN; (iterate 4 exact rfl); (first | exact at0 | exact at1 | exact at2 | exact at3 | exact at4 | exact at5 | exact at6 | exact at7 | exact at8 | exact at9); exact rfl)))
      refine r_call0 (by first | trivial | exact ⟨rfl, rfl⟩) rfl rfl rfl (fun w hk' hs => c_Mul w _ _ (g / h) y (k + 1) hZq hZy (by omega)) fun w v w' _ _ _ hR => ?_
      subst hR
      (repeat' (first | (apply r_ldNS; (first | exact trivial | exact ⟨rfl, rfl⟩); (iterate 3 exact rfl); (first | exact at0 | exact at1 | exact at2 | exact at3 | exact at4 | exact at5 | exact at6 | exact at7 | exact at8 | exact at9); exact rfl)))
      refine r_call0 (by first | trivial | exact ⟨rfl, rfl⟩) rfl rfl rfl (fun w hk' hs => c_Sub w _ _ x (g / h * y) (2 * k + 2) (hZx.mono (by omega)) hZqy (by omega)) fun w v w' _ _ _ hR => ?_
      subst hR
      (repeat' (first | refine JO.nil ?_ | (apply r_storeN; exact rfl; (first | exact trivial | exact ⟨rfl, rfl⟩); exact rfl; exact rfl; (first | exact at0 | exact at1 | exact at2 | exact at3 | exact at4 | exact at5 | exact at6 | exact at7 | exact at8 | exact at9); (iterate 3 exact rfl)) | (apply r_storeKN; (iterate 3 exact rfl); (first | exact at0 | exact at1 | exact at2 | exact at3 | exact at4 | exact at5 | exact at6 | exact at7 | exact at8 | exact at9); (iterate 3 exact rfl); (repeat' first | exact HSub.refl _ | exact HSub.nil _ | refine HSub.at 0 rfl ?_ | refine HSub.at 1 rfl ?_ | refine HSub.at 2 rfl ?_ | refine HSub.at 3 rfl ?_ | refine HSub.at 4 rfl ?_ | refine HSub.at 5 rfl ?_ | refine HSub.at 6 rfl ?_ | refine HSub.at 7 rfl ?_ | refine HSub.at 8 rfl ?_ | refine HSub.at 9 rfl ?_ | refine HSub.at 10 rfl ?_ | refine HSub.at 11 rfl ?_ | refine HSub.at 12 rfl ?_ | refine HSub.at 13 rfl ?_ | refine HSub.at 14 rfl ?_ | refine HSub.at 15 rfl ?_ | refine HSub.at 16 rfl ?_ | refine HSub.at 17 rfl ?_ | refine HSub.at 18 rfl ?_ | refine HSub.at 19 rfl ?_ | refine HSub.segH ?_ | refine HSub.skip ?_ | refine HSub.skipN ?_)) | (apply r_storeN; exact rfl; (first | exact trivial | exact ⟨rfl, rfl⟩); exact rfl; exact rfl; (first | exact at0 | exact at1 | exact at2 | exact at3 | exact at4 | exact at5 | exact at6 | exact at7 | exact at8 | exact at9); (iterate 3 exact rfl)) | refine JX.blockN ?_))
      exact JX.roundH (h, g % h, y, x - g / h * y) ⟨hstep, hy3, hu3, hhk, by dsimp only; omega⟩ (by dsimp only; omega) (by repeat first | exact trivial | refine ⟨rfl, ?_⟩) (by (repeat' first | exact HSub.refl _ | exact HSub.nil _ | refine HSub.at 0 rfl ?_ | refine HSub.at 1 rfl ?_ | refine HSub.at 2 rfl ?_ | refine HSub.at 3 rfl ?_ | refine HSub.at 4 rfl ?_ | refine HSub.at 5 rfl ?_ | refine HSub.at 6 rfl ?_ | refine HSub.at 7 rfl ?_ | refine HSub.at 8 rfl ?_ | refine HSub.at 9 rfl ?_ | refine HSub.at 10 rfl ?_ | refine HSub.at 11 rfl ?_ | refine HSub.at 12 rfl ?_ | refine HSub.at 13 rfl ?_ | refine HSub.at 14 rfl ?_ | refine HSub.at 15 rfl ?_ | refine HSub.at 16 rfl ?_ | refine HSub.at 17 rfl ?_ | refine HSub.at 18 rfl ?_ | refine HSub.at 19 rfl ?_ | refine HSub.segH ?_ | refine HSub.skip ?_ | refine HSub.skipN ?_))

end Go.Proofs.YtemdknkghacheaaDoor

