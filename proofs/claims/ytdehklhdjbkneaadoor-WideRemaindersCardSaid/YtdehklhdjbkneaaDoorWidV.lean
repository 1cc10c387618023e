/- The absolute value as words. -/
import Derived.Test.YtdehklhdjbkneaaDoorWidT
import Derived.Test.YtdehklhdjbkneaaDoorWidL
namespace Go.Proofs.YtdehklhdjbkneaaDoor
open Go Go.RowKit
set_option linter.unusedSimpArgs false
set_option linter.unusedVariables false
set_option linter.unusedSectionVars false

section
variable {c : Cx} {Q : Exit → Act → World → Prop} {m : Mode} {F : SFrame} {H : SHeap} {r : List SOp} {g : Option (Option Tmp × Bool)} {ns : Bool} {d : Tmp} {ty t t' : TypeId} {x y : Operand} {i : Nat}
theorem r_toU64 {k : IntKind} [TI c.P t k] [TI c.P t' .u64] (hd : dstOk c.n (some d) = true) (hg : guardF F g = some true) (hx : ev F x = some (.int k i)) (hi : i < 18446744073709551616) (h : JO c Q m r ((d, uv i) :: F) H) : JO c Q m (⟨some d, .convert t t' x, ty, g, .mov, ns⟩ :: r) F H :=
  r_convK (k' := .u64) (i : Int) hd hg hx (u64_in hi) h
end

theorem pow8 (r : Nat) : 2 ^ (8 * r) = 256 ^ r := by rw [Nat.pow_mul]
theorem pow32 (j : Nat) : W32 ^ j = 256 ^ (4 * j) := by rw [Nat.pow_mul]
theorem abs_or {z b r : Nat} (hz : 256 ^ (r + 1) ∣ z) (hb : b < 256) : z ||| b * 256 ^ r = z + b * 256 ^ r := by
  obtain ⟨a, rfl⟩ := hz
  have h1 : b * 256 ^ r < 2 ^ (8 * (r + 1)) := by
    rw [pow8, Nat.pow_succ, Nat.mul_comm]
    exact Nat.mul_lt_mul_of_pos_left hb (Nat.pow_pos (by decide))
  have := Nat.two_pow_add_eq_or_of_lt h1 a
  rw [pow8] at this
  exact this.symm
theorem pow3_le {r : Nat} (hr : r < 4) : 256 ^ r ≤ 16777216 := by
  have := Nat.pow_le_pow_right (n := 256) (by decide) (show r ≤ 3 by omega)
  simpa using this

set_option maxHeartbeats 8000000 in
theorem c_abs (w : World) (p : Bool) (l : List UInt8) (hl : l.length ≤ 300000) :
    Calls Tryd.prog 42 #[wv p l] w (Ret fun v w' => Kp [] w w' ∧ ∃ N zs, New N w w' ∧ OwnU N v zs.length zs ∧ Dig W32 zs ∧ val W32 zs = bval (bts l)) := by
  have hbl := bts_len l
  refine calls_of_S [⟨6, 2, [], []⟩] [] (by simp) [] Tryd.func42 rfl mixed (by kernel_rfl) Tryd.ntmps42 Tryd.results42 rfl ⟨by simp, by simp⟩ (by simp) ?_
  simp only [toS, textOps, toSOp, kindAt, kindOf, odAt, sopsAt, ordOf, zipF]
  (repeat' (first | refine JC.seq ?_ | refine JC.ops ?_ | refine JO.nil ?_ | refine JX.thenN ?_ | (apply r_fieldAddr; exact rfl; exact rfl; exact rfl) | (apply r_assign; exact rfl; exact rfl; exact rfl) | (apply r_load; exact rfl; exact rfl; exact rfl; exact rfl; (first | exact at0 | exact at1 | exact at2 | exact at3 | exact at4 | exact at5 | exact at6 | exact at7 | exact at8 | exact at9); exact rfl) | (apply r_addN (j := 4); exact rfl; exact rfl; exact rfl; exact rfl; omega) | (apply r_divN (j := 4); exact rfl; exact rfl; exact rfl; exact rfl; omega) | (apply r_sub1; exact rfl; exact rfl; exact rfl; exact rfl; omega) | (apply r_lenS; exact rfl; exact rfl; exact rfl) | (apply r_boxA; exact rfl; exact rfl; exact rfl; exact rfl; intro _)))
  rename_i b1
  refine r_make (n := (l.length + 4 - 1) / 4) rfl rfl rfl rfl rfl (by omega) (by omega) (fun b5 => ?_)
  have hO := own_zerosU b5 ((l.length + 4 - 1) / 4) (by simp only [maxLen]; omega)
  generalize hnw : (l.length + 4 - 1) / 4 = nw at hO ⊢
  (repeat' (first | refine JC.seq ?_ | refine JC.ops ?_ | refine JO.nil ?_ | refine JX.thenN ?_ | (apply r_move; exact rfl; exact rfl; exact rfl) | (apply r_fieldAddr; exact rfl; exact rfl; exact rfl) | (apply r_assign; exact rfl; exact rfl; exact rfl) | (apply r_load; exact rfl; exact rfl; exact rfl; exact rfl; (first | exact at0 | exact at1 | exact at2 | exact at3 | exact at4 | exact at5 | exact at6 | exact at7 | exact at8 | exact at9); exact rfl) | (apply r_lenS; exact rfl; exact rfl; exact rfl) | refine JC.block ?_))
  refine JC.loopH (ι := Nat × SHeap × List Nat) ⟨fun z => [(16, nv z.1), (15, nv l.length), (3, .slice (some ⟨b5, 0, none⟩) nw nw), (1, .pointer (some ⟨b1, 0, none⟩))], fun z => (b1, .cells #[.bool p, sv l] 27) :: (z.2.1 ++ []),
    fun z => z.1 ≤ l.length ∧ OwnU z.2.1 (.slice (some ⟨b5, 0, none⟩) nw nw) nw z.2.2 ∧ (∀ x ∈ z.2.2, x < W32) ∧ (∀ j, 256 ^ min 4 (l.length - z.1 - 4 * j) ∣ z.2.2.getD j 0) ∧ val W32 z.2.2 = 256 ^ (l.length - z.1) * bval ((bts l).take z.1), fun z => l.length - z.1⟩
    (0, _, _) ⟨Nat.zero_le _, hO, fun x hx => by obtain ⟨a, _, rfl⟩ := List.mem_map.1 hx; decide, fun j => by
      show _ ∣ (tab nw fun _ => 0).getD j 0
      rw [tab_zero]; exact Nat.dvd_zero _, by
      show val W32 (tab nw fun _ => 0) = _
      rw [val_zeros, List.take_zero, bval_nil, Nat.mul_zero]⟩ (by repeat first | exact trivial | refine ⟨rfl, ?_⟩) (by exact HSub.at 1 rfl (HSub.at 0 rfl (HSub.nil _))) (fun z hz => ?_)
  clear hO
  obtain ⟨i, N, zs⟩ := z
  obtain ⟨hi, hO, hz, hdv, hval⟩ := hz
  dsimp only at hi hO hz hdv hval ⊢
  have hlz := hO.len
  by_cases hin : i < l.length
  · have hb256 : (bts l).getD i 0 < 256 := bts_lt
    have hbb : (bts l).getD i 0 < 18446744073709551616 := by omega
    obtain ⟨k, hk⟩ : ∃ k, k = l.length - 1 - i := ⟨_, rfl⟩
    have hki : l.length - i = k + 1 := by omega
    have hzk : zs.getD (k / 4) 0 < 4294967296 := mem_getD_lt (b := W32) (by decide) hz _
    have hr4 : k % 4 < 4 := Nat.mod_lt _ (by decide)
    have hp3 := pow3_le hr4
    have hsh : (bts l).getD i 0 * 256 ^ (k % 4) < 4294967296 := by
      have := Nat.mul_le_mul (show (bts l).getD i 0 ≤ 255 by omega) hp3
      omega
    have hdk : 256 ^ (k % 4 + 1) ∣ zs.getD (k / 4) 0 := by
      have := hdv (k / 4)
      rwa [hki, show min 4 (k + 1 - 4 * (k / 4)) = k % 4 + 1 by omega] at this
    have hor := abs_or hdk hb256
    have horlt : zs.getD (k / 4) 0 + (bts l).getD i 0 * 256 ^ (k % 4) < 4294967296 := by rw [← hor]; exact or32_lt hzk hsh
    have hkn : k / 4 < nw := by omega
    (repeat' (first | refine JC.seq ?_ | refine JC.ops ?_ | refine JC.opsD ?_ | refine JO.nil ?_ | refine JX.thenN ?_ | (apply r_move; exact rfl; exact rfl; exact rfl) | (apply r_fieldAddr; exact rfl; exact rfl; exact rfl) | (apply r_assign; exact rfl; exact rfl; exact rfl) | (apply r_load; exact rfl; exact rfl; exact rfl; exact rfl; (first | exact at0 | exact at1 | exact at2 | exact at3 | exact at4 | exact at5 | exact at6 | exact at7 | exact at8 | exact at9); exact rfl) | (apply r_divN (j := 4); exact rfl; exact rfl; exact rfl; exact rfl; omega) | (apply r_modN (j := 4); exact rfl; exact rfl; exact rfl; exact rfl; omega) | (apply r_mulN (i := 8); exact rfl; exact rfl; exact rfl; exact rfl; (first | assumption | omega)) | (apply r_sub1; exact rfl; exact rfl; exact rfl; exact rfl; omega) | (apply r_subN; exact rfl; exact rfl; exact rfl; exact rfl; omega) | (apply r_toU64; exact rfl; exact rfl; exact rfl; (first | assumption | omega)) | (apply r_idxU; exact rfl; exact rfl; exact rfl; exact rfl; (first | assumption | exact WU.rd (by assumption) rfl [] | exact OwnU.rd (by assumption)); (first | assumption | omega)) | (apply r_ldU; exact rfl; exact rfl; exact rfl; exact rfl; (first | assumption | exact WU.rd (by assumption) rfl [] | exact OwnU.rd (by assumption)); (repeat' first | exact HSub.nil _ | exact HSub.hd | exact HSub.in0 | exact HSub.refl _ | refine HSub.skip ?_ | refine HSub.skipN ?_); (first | assumption | omega)) | (apply r_lenS; exact rfl; exact rfl; exact rfl) | (apply r_idxS; exact rfl; exact rfl; exact rfl; exact rfl; (first | assumption | omega)) | (apply r_shlU; exact rfl; exact rfl; exact rfl; exact rfl; (first | assumption | omega)) | (apply r_lss; exact rfl; exact rfl; exact rfl; exact rfl; all_goals intro hc; all_goals try (exfalso; omega)) | refine JC.skip ?_ | refine JC.condT rfl ?_ | refine JC.block ?_))
    rw [← hk, pow8, Nat.mod_eq_of_lt (show (bts l).getD i 0 * 256 ^ (k % 4) < 18446744073709551616 by omega)]
    refine r_orV (zs.getD (k / 4) 0 + (bts l).getD i 0 * 256 ^ (k % 4)) rfl rfl rfl rfl (by omega) hor ?_
    (repeat' (first | (apply r_idxU; exact rfl; exact rfl; exact rfl; exact rfl; (first | assumption | exact WU.rd (by assumption) rfl [] | exact OwnU.rd (by assumption)); (first | assumption | omega))))
    refine r_stU (A := [_]) hO rfl rfl (by first | trivial | exact ⟨rfl, rfl⟩) rfl rfl (by omega) (fun N1 hO1 => ?_)
    (repeat' (first | refine JC.ops ?_ | refine JO.nil ?_ | refine JX.thenN ?_ | (apply r_move; exact rfl; exact rfl; exact rfl) | (apply r_add1; exact rfl; exact rfl; exact rfl; exact rfl; omega) | refine JX.blockN ?_))
    refine JX.roundH (i + 1, N1, _) ⟨by dsimp only; omega, hO1, set_lt hz horlt, fun j => ?_, ?_⟩ (by dsimp only; omega) (by repeat first | exact trivial | refine ⟨rfl, ?_⟩) (by (first | exact HSub.refl _ | (repeat' first | exact HSub.nil _ | exact HSub.refl _ | refine HSub.at 0 rfl ?_ | refine HSub.at 1 rfl ?_ | refine HSub.at 2 rfl ?_ | refine HSub.at 3 rfl ?_ | refine HSub.at 4 rfl ?_ | refine HSub.at 5 rfl ?_ | refine HSub.at 6 rfl ?_ | refine HSub.at 7 rfl ?_)))
    · dsimp only
      by_cases hj : k / 4 = j
      · subst hj
        rw [getD_set_self (by omega), show min 4 (l.length - (i + 1) - 4 * (k / 4)) = k % 4 by omega]
        exact Nat.dvd_add (Nat.dvd_trans (Nat.pow_dvd_pow 256 (Nat.le_succ _)) hdk) (Nat.dvd_mul_left _ _)
      · rw [getD_set_ne hj]
        exact Nat.dvd_trans (Nat.pow_dvd_pow 256 (by omega)) (hdv j)
    · dsimp only
      have e := val_set (b := W32) (l := zs) (j := k / 4) (u := zs.getD (k / 4) 0 + (bts l).getD i 0 * 256 ^ (k % 4)) (by omega)
      rw [Nat.mul_add] at e
      have e2 : W32 ^ (k / 4) * ((bts l).getD i 0 * 256 ^ (k % 4)) = 256 ^ k * (bts l).getD i 0 := by
        rw [pow32, Nat.mul_left_comm, ← Nat.pow_add, show 4 * (k / 4) + k % 4 = k by omega, Nat.mul_comm]
      rw [bval_take _ _ (by omega), show l.length - (i + 1) = k by omega, Nat.mul_add, ← Nat.mul_assoc]
      rw [hki, Nat.pow_succ] at hval
      omega
  · (repeat' (first | refine JC.seq ?_ | refine JC.ops ?_ | refine JO.nil ?_ | refine JX.thenN ?_ | (apply r_move; exact rfl; exact rfl; exact rfl) | (apply r_lss; exact rfl; exact rfl; exact rfl; exact rfl; all_goals intro hc; all_goals try (exfalso; omega)) | refine JX.thenE ?_ | refine JC.exit ?_ | refine JC.condF rfl ?_ | refine JX.blockE ?_))
    refine r_call0 trivial rfl rfl rfl (fun w hk hs => c_norm w _ _ _ _ (hO.rd.at hk hs (by (repeat' first | exact HSub.nil _ | exact HSub.hd | exact HSub.in0 | exact HSub.refl _ | refine HSub.skip ?_ | refine HSub.skipN ?_))) (by omega)) fun w v w' _ _ _ hR => ?_
    obtain ⟨q, hq, rfl, hnq⟩ := hR
    (repeat' (first | refine JO.nil ?_ | refine JX.thenN ?_ | (apply r_assign; exact rfl; exact rfl; exact rfl) | refine JC.ret ?_))
    have hown := hO.hd hq
    rw [← hnq] at hown
    have hql : (nrm zs).length = q := hown.len
    refine JX.ret1 rfl (fun a w' st => ⟨st.kp, N, nrm zs, st.newOf rfl (by (repeat' first | exact HSub.nil _ | exact HSub.hd | exact HSub.in0 | exact HSub.refl _ | refine HSub.skip ?_ | refine HSub.skipN ?_)), by rw [hql]; exact hown, Dig.of hz, ?_⟩)
    obtain rfl : i = l.length := by omega
    rw [val_nrm, hval, Nat.sub_self, Nat.pow_zero, Nat.one_mul, List.take_of_length_le (by omega)]

end Go.Proofs.YtdehklhdjbkneaaDoor
