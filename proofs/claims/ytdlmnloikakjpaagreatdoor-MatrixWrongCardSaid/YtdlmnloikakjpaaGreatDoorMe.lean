import Derived.Test.YtdlmnloikakjpaaGreatDoorMd
import Derived.Laws.StructEq
namespace Go.Proofs.YtdlmnloikakjpaaGreatDoor
open Go Go.RowKit
set_option linter.unusedSimpArgs false
set_option linter.unusedVariables false
set_option linter.unusedSectionVars false

theorem Qbw (a n : Nat) (hn : n ≤ 32) : a * 2 ^ n % 4294967296 = 2 ^ n * (a % 2 ^ (32 - n)) := by
 have e : (4294967296 : Nat) = 2 ^ (32 - n) * 2 ^ n := by rw [← Nat.pow_add, show 32 - n + n = 32 by omega]
 rw [e, Nat.mul_mod_mul_right, Nat.mul_comm]
theorem Qni {c n a : Nat} (hn : n ≤ 32) (hc : c < 2 ^ n) : c ||| a * 2 ^ n % 4294967296 = c + a * 2 ^ n % 4294967296 := by
 rw [Qbw a n hn, Nat.or_comm, ← Nat.two_pow_add_eq_or_of_lt hc, Nat.add_comm]
theorem Qcj {a b : Nat} (ha : a < 4294967296) (hb : b < 4294967296) : a ||| b < 4294967296 := Nat.or_lt_two_pow (n := 32) (by simpa using ha) (by simpa using hb)
theorem pow31 {n : Nat} (hn : n ≤ 31) : 2 ^ n ≤ 2147483648 := by
 have := Nat.pow_le_pow_right (n := 2) (by decide) hn
 simpa using this

set_option maxHeartbeats 8000000 in
theorem Qh5 (w : World) (v : Value) (n s : Nat) (xs : List Nat) (hv : WU w v n xs) (hx : ∀ x ∈ xs, x < W32) (hs31 : s ≤ 31) (hn : n ≤ 10000000000) :
  Calls Tryz.prog 87 #[v, nv s] w (Ret fun v w' => Kp [] w w' ∧ ∃ N zs, New N w w' ∧ OwnU N v (n + 1) zs ∧ (∀ x ∈ zs, x < W32) ∧ zs.getD n 0 < 2 ^ s ∧ val W32 zs = 2 ^ s * val W32 xs) := by
 have hlx := hv.len
 have hp := pow31 hs31
 have hp0 : 0 < 2 ^ s := Nat.pow_pos (by decide)
 refine Q0a [] [] (by simp) [] Tryz.func87 rfl mixed (by kernel_rfl) Tryz.ntmps87 Tryz.results87 rfl ⟨by simp, by simp⟩ (by simp) ?_
 simp only [toS, textOps, toSOp, kindAt, kindOf, odAt, sopsAt, ordOf, zipF]
 (repeat' (first | refine JC.seq ?_ | refine JC.ops ?_ | refine JO.nil ?_ | refine Q00 ?_ | (apply Q04; (iterate 3 exact rfl)) | (apply Q02; (iterate 3 exact rfl)) | (apply Q0r; (iterate 4 exact rfl); omega) | (apply Q19; (iterate 3 exact rfl); (first | assumption | exact WU.rd (by assumption) rfl [] | exact OwnU.rd (by assumption)))))
 refine Q3q (n := n + 1) rfl rfl rfl rfl rfl (by omega) (by omega) (fun b5 => ?_)
 have hO := Q25 b5 (n + 1) (by simp only [maxLen]; omega)
 (repeat' (first | refine JC.seq ?_ | refine JC.ops ?_ | refine JO.nil ?_ | refine Q00 ?_ | (apply Q04; (iterate 3 exact rfl)) | (apply Q02; (iterate 3 exact rfl)) | (apply Q19; (iterate 3 exact rfl); (first | assumption | exact WU.rd (by assumption) rfl [] | exact OwnU.rd (by assumption))) | refine JC.block ?_))
 refine Q0k (ι := Nat × SHeap × List Nat) ⟨fun z => [(14, nv z.1), (13, nv n), (12, v), (5, .slice (some ⟨b5, 0, none⟩) (n + 1) (n + 1)), (0, v), (1, nv s)], fun z => z.2.1 ++ [],
  fun z => z.1 ≤ n ∧ OwnU z.2.1 (.slice (some ⟨b5, 0, none⟩) (n + 1) (n + 1)) (n + 1) z.2.2 ∧ (∀ x ∈ z.2.2, x < W32) ∧ z.2.2.getD z.1 0 < 2 ^ s ∧ val W32 z.2.2 = 2 ^ s * val W32 (xs.take z.1) ∧ ∀ j, z.1 < j → z.2.2.getD j 0 = 0, fun z => n - z.1⟩
  (0, _, _) ⟨Nat.zero_le _, hO, fun x hx => by obtain ⟨a, _, rfl⟩ := List.mem_map.1 hx; decide, by
   show (tab (n + 1) fun _ => 0).getD 0 0 < 2 ^ s
   rw [Q3o]; exact hp0, by
   show val W32 (tab (n + 1) fun _ => 0) = _
   rw [Q4x]; simp [val], fun j _ => Q3o _ j⟩ (by repeat first | exact trivial | refine ⟨rfl, ?_⟩) (by (first | exact HSub.refl _ | (repeat' first | exact HSub.nil _ | exact HSub.refl _ | refine HSub.at 0 rfl ?_ | refine HSub.at 1 rfl ?_ | refine HSub.at 2 rfl ?_ | refine HSub.at 3 rfl ?_ | refine HSub.at 4 rfl ?_ | refine HSub.at 5 rfl ?_ | refine HSub.at 6 rfl ?_ | refine HSub.at 7 rfl ?_))) (fun z hz => ?_)
 clear hO
 obtain ⟨i, N, zs⟩ := z
 obtain ⟨hi, hO, hz, hci, hval, hzero⟩ := hz
 dsimp only at hi hO hz hci hval hzero ⊢
 have hlz := hO.len
 by_cases hin : i < n
 ·have hxi : xs.getD i 0 < 4294967296 := Q0s (b := W32) (by decide) hx i
  have hzi : zs.getD i 0 < 4294967296 := Q0s (b := W32) (by decide) hz i
  have hwb : xs.getD i 0 * 2 ^ s < 9223372036854775808 := by
   have := Nat.mul_le_mul (show xs.getD i 0 ≤ 4294967295 by omega) hp
   omega
  have hlow : xs.getD i 0 * 2 ^ s % 4294967296 < 4294967296 := Nat.mod_lt _ (by decide)
  have hor := Qni (c := zs.getD i 0) (n := s) (a := xs.getD i 0) (by omega) hci
  have horlt : zs.getD i 0 + xs.getD i 0 * 2 ^ s % 4294967296 < 4294967296 := by rw [← hor]; exact Qcj hzi hlow
  (repeat' (first | refine JC.seq ?_ | refine JC.ops ?_ | refine JO.nil ?_ | refine Q00 ?_ | (apply Q04; (iterate 3 exact rfl)) | (apply Q02; (iterate 3 exact rfl)) | (apply Q1i; (iterate 4 exact rfl); (first | assumption | exact WU.rd (by assumption) rfl [] | exact OwnU.rd (by assumption)); (first | assumption | omega)) | (apply Q31; (iterate 4 exact rfl); (first | assumption | exact WU.rd (by assumption) rfl [] | exact OwnU.rd (by assumption)); (repeat' first | exact HSub.nil _ | exact HSub.hd | exact Q03 | exact HSub.refl _ | refine HSub.skip ?_ | refine Q01 ?_); (first | assumption | omega)) | (apply Q3c; (iterate 4 exact rfl); (first | assumption | omega)) | (apply Q9d; (iterate 4 exact rfl); (first | assumption | omega)) | (apply Q0m; (iterate 4 exact rfl); all_goals intro hc; all_goals try (exfalso; omega)) | refine JC.skip ?_ | refine Q08 rfl ?_ | refine JC.block ?_))
  rw [Nat.mod_eq_of_lt (show xs.getD i 0 * 2 ^ s < 18446744073709551616 by omega)]
  refine Qid (zs.getD i 0 + xs.getD i 0 * 2 ^ s % 4294967296) rfl rfl rfl rfl (by omega) hor ?_
  (repeat' (first | (apply Q1i; (iterate 4 exact rfl); (first | assumption | exact WU.rd (by assumption) rfl [] | exact OwnU.rd (by assumption)); (first | assumption | omega))))
  refine Q42 (A := []) hO rfl rfl trivial rfl rfl (by omega) (fun N1 hO1 => ?_)
  (repeat' (first | refine JC.ops ?_ | refine JO.nil ?_ | refine Q00 ?_ | (apply Q04; (iterate 3 exact rfl)) | (apply Q0r; (iterate 4 exact rfl); omega) | (apply Qa9; (iterate 4 exact rfl)) | (apply Q1i; (iterate 4 exact rfl); (first | assumption | exact WU.rd (by assumption) rfl [] | exact OwnU.rd (by assumption)); (first | assumption | omega))))
  refine Q42 (A := []) hO1 rfl rfl trivial rfl rfl (by omega) (fun N2 hO2 => ?_)
  (repeat' (first | refine JC.ops ?_ | refine JO.nil ?_ | refine Q00 ?_ | (apply Q04; (iterate 3 exact rfl)) | (apply Q0r; (iterate 4 exact rfl); omega) | refine Q0b ?_))
  refine Q0c (i + 1, N2, _) ⟨by dsimp only; omega, hO2, Q2x (Q2x hz horlt) (by show _ < 4294967296; omega), ?_, ?_, fun j hj => ?_⟩ (by dsimp only; omega) (by repeat first | exact trivial | refine ⟨rfl, ?_⟩) (by (first | exact HSub.refl _ | (repeat' first | exact HSub.nil _ | exact HSub.refl _ | refine HSub.at 0 rfl ?_ | refine HSub.at 1 rfl ?_ | refine HSub.at 2 rfl ?_ | refine HSub.at 3 rfl ?_ | refine HSub.at 4 rfl ?_ | refine HSub.at 5 rfl ?_ | refine HSub.at 6 rfl ?_ | refine HSub.at 7 rfl ?_)))
  ·dsimp only
   rw [Q0y (by simp; omega)]
   refine (Nat.div_lt_iff_lt_mul (by decide)).2 ?_
   rw [Nat.mul_comm]
   exact Nat.mul_lt_mul_of_pos_left hxi hp0
  ·dsimp only
   have e1 := Q3v (b := W32) (l := zs) (j := i) (u := zs.getD i 0 + xs.getD i 0 * 2 ^ s % 4294967296) (by omega)
   have e2 := Q3v (b := W32) (l := zs.set i (zs.getD i 0 + xs.getD i 0 * 2 ^ s % 4294967296)) (j := i + 1) (u := xs.getD i 0 * 2 ^ s / 4294967296) (by simp; omega)
   rw [getD_set_ne (by omega), hzero (i + 1) (by omega), Nat.mul_zero, Nat.add_zero] at e2
   rw [e2, Q0u, Nat.mul_add, ← hval]
   have e3 : W32 ^ i * (xs.getD i 0 * 2 ^ s % 4294967296) + W32 ^ (i + 1) * (xs.getD i 0 * 2 ^ s / 4294967296) = W32 ^ i * (xs.getD i 0 * 2 ^ s) := by
    rw [Nat.pow_succ, Nat.mul_assoc, ← Nat.mul_add, Nat.mod_add_div]
   have e4 : 2 ^ s * (W32 ^ i * xs.getD i 0) = W32 ^ i * (xs.getD i 0 * 2 ^ s) := by
    rw [Nat.mul_left_comm, Nat.mul_comm (2 ^ s)]
   rw [e4, ← e3]
   rw [Nat.mul_add] at e1
   omega
  ·dsimp only at hj ⊢
   rw [getD_set_ne (by omega), getD_set_ne (by omega)]
   exact hzero j (by omega)
 ·(repeat' (first | refine JC.seq ?_ | refine JC.ops ?_ | refine JO.nil ?_ | refine Q00 ?_ | (apply Q04; (iterate 3 exact rfl)) | (apply Q02; (iterate 3 exact rfl)) | (apply Q0m; (iterate 4 exact rfl); all_goals intro hc; all_goals try (exfalso; omega)) | refine Q0i ?_ | refine JC.exit ?_ | refine JC.ret ?_ | refine Q07 rfl ?_ | refine Q0f ?_))
  obtain rfl : i = n := by omega
  exact Q0j rfl (fun a w' st => ⟨st.kp, N, zs, st.newOf rfl (by (repeat' first | exact HSub.nil _ | exact HSub.hd | exact Q03 | exact HSub.refl _ | refine HSub.skip ?_ | refine Q01 ?_)), hO, hz, hci, by rw [hval, List.take_of_length_le (by omega)]⟩)


section
variable {c : Cx} {Q : Exit → Act → World → Prop} {m : Mode} {F : SFrame} {H : SHeap} {r : List SOp} {g : Option (Option Tmp × Bool)} {ns : Bool} {d : Tmp} {ty t t' : TypeId} {x y : Operand} {i : Nat}
theorem Qkx {k : IntKind} [TI c.P t k] [TI c.P t' .u64] (hd : dstOk c.n (some d) = true) (hg : guardF F g = some true) (hx : ev F x = some (.int k i)) (hi : i < 18446744073709551616) (h : JO c Q m r ((d, uv i) :: F) H) : JO c Q m (⟨some d, .convert t t' x, ty, g, .mov, ns⟩ :: r) F H :=
 Q6u (k' := .u64) (i : Int) hd hg hx (Qd5 hi) h
end

theorem pow8 (r : Nat) : 2 ^ (8 * r) = 256 ^ r := by rw [Nat.pow_mul]
theorem pow32 (j : Nat) : W32 ^ j = 256 ^ (4 * j) := by rw [Nat.pow_mul]
theorem Qo9 {z b r : Nat} (hz : 256 ^ (r + 1) ∣ z) (hb : b < 256) : z ||| b * 256 ^ r = z + b * 256 ^ r := by
 obtain ⟨a, rfl⟩ := hz
 have h1 : b * 256 ^ r < 2 ^ (8 * (r + 1)) := by
  rw [pow8, Nat.pow_succ, Nat.mul_comm]
  exact Nat.mul_lt_mul_of_pos_left hb (Nat.pow_pos (by decide))
 have := Nat.two_pow_add_eq_or_of_lt h1 a
 rw [pow8] at this
 exact this.symm
theorem Qla {r : Nat} (hr : r < 4) : 256 ^ r ≤ 16777216 := by
 have := Nat.pow_le_pow_right (n := 256) (by decide) (show r ≤ 3 by omega)
 simpa using this

set_option maxHeartbeats 8000000 in
theorem Qc2 (w : World) (p : Bool) (l : List UInt8) (hl : l.length ≤ 3000000000) :
  Calls Tryz.prog 65 #[wv p l] w (Ret fun v w' => Kp [] w w' ∧ ∃ N zs, New N w w' ∧ OwnU N v zs.length zs ∧ Dig W32 zs ∧ val W32 zs = bval (bts l)) := by
 have hbl := Qb1 l
 refine Q0a [⟨6, 2, [], []⟩] [] (by simp) [] Tryz.func65 rfl mixed (by kernel_rfl) Tryz.ntmps65 Tryz.results65 rfl ⟨by simp, by simp⟩ (by simp) ?_
 simp only [toS, textOps, toSOp, kindAt, kindOf, odAt, sopsAt, ordOf, zipF]
 (repeat' (first | refine JC.seq ?_ | refine JC.ops ?_ | refine JO.nil ?_ | refine Q00 ?_ | (apply Q06; (iterate 3 exact rfl)) | (apply Q02; (iterate 3 exact rfl)) | (apply Q0g; (iterate 4 exact rfl); exact at0; exact rfl) | (apply Q1a (j := 4); (iterate 4 exact rfl); omega) | (apply Q4v (j := 4); (iterate 4 exact rfl); omega) | (apply Q2m; (iterate 4 exact rfl); omega) | (apply Q78; (iterate 3 exact rfl)) | (apply Q0x; (iterate 4 exact rfl); intro _)))
 rename_i b1
 refine Q3q (n := (l.length + 4 - 1) / 4) rfl rfl rfl rfl rfl (by omega) (by omega) (fun b5 => ?_)
 have hO := Q25 b5 ((l.length + 4 - 1) / 4) (by simp only [maxLen]; omega)
 generalize hnw : (l.length + 4 - 1) / 4 = nw at hO ⊢
 (repeat' (first | refine JC.seq ?_ | refine JC.ops ?_ | refine JO.nil ?_ | refine Q00 ?_ | (apply Q04; (iterate 3 exact rfl)) | (apply Q06; (iterate 3 exact rfl)) | (apply Q02; (iterate 3 exact rfl)) | (apply Q0g; (iterate 4 exact rfl); exact at1; exact rfl) | (apply Q78; (iterate 3 exact rfl)) | refine JC.block ?_))
 refine Q0k (ι := Nat × SHeap × List Nat) ⟨fun z => [(16, nv z.1), (15, nv l.length), (3, .slice (some ⟨b5, 0, none⟩) nw nw), (1, .pointer (some ⟨b1, 0, none⟩))], fun z => (b1, .cells #[.bool p, sv l] 34) :: (z.2.1 ++ []),
  fun z => z.1 ≤ l.length ∧ OwnU z.2.1 (.slice (some ⟨b5, 0, none⟩) nw nw) nw z.2.2 ∧ (∀ x ∈ z.2.2, x < W32) ∧ (∀ j, 256 ^ min 4 (l.length - z.1 - 4 * j) ∣ z.2.2.getD j 0) ∧ val W32 z.2.2 = 256 ^ (l.length - z.1) * bval ((bts l).take z.1), fun z => l.length - z.1⟩
  (0, _, _) ⟨Nat.zero_le _, hO, fun x hx => by obtain ⟨a, _, rfl⟩ := List.mem_map.1 hx; decide, fun j => by
   show _ ∣ (tab nw fun _ => 0).getD j 0
   rw [Q3o]; exact Nat.dvd_zero _, by
   show val W32 (tab nw fun _ => 0) = _
   rw [Q4x, List.take_zero, Q5f, Nat.mul_zero]⟩ (by repeat first | exact trivial | refine ⟨rfl, ?_⟩) (by exact HSub.at 1 rfl (HSub.at 0 rfl (HSub.nil _))) (fun z hz => ?_)
 clear hO
 obtain ⟨i, N, zs⟩ := z
 obtain ⟨hi, hO, hz, hdv, hval⟩ := hz
 dsimp only at hi hO hz hdv hval ⊢
 have hlz := hO.len
 by_cases hin : i < l.length
 ·have hb256 : (bts l).getD i 0 < 256 := Qhd
  have hbb : (bts l).getD i 0 < 18446744073709551616 := by omega
  obtain ⟨k, hk⟩ : ∃ k, k = l.length - 1 - i := ⟨_, rfl⟩
  have hki : l.length - i = k + 1 := by omega
  have hzk : zs.getD (k / 4) 0 < 4294967296 := Q0s (b := W32) (by decide) hz _
  have hr4 : k % 4 < 4 := Nat.mod_lt _ (by decide)
  have hp3 := Qla hr4
  have hsh : (bts l).getD i 0 * 256 ^ (k % 4) < 4294967296 := by
   have := Nat.mul_le_mul (show (bts l).getD i 0 ≤ 255 by omega) hp3
   omega
  have hdk : 256 ^ (k % 4 + 1) ∣ zs.getD (k / 4) 0 := by
   have := hdv (k / 4)
   rwa [hki, show min 4 (k + 1 - 4 * (k / 4)) = k % 4 + 1 by omega] at this
  have hor := Qo9 hdk hb256
  have horlt : zs.getD (k / 4) 0 + (bts l).getD i 0 * 256 ^ (k % 4) < 4294967296 := by rw [← hor]; exact Qcj hzk hsh
  have hkn : k / 4 < nw := by omega
  (repeat' (first | refine JC.seq ?_ | refine JC.ops ?_ | refine JC.opsD ?_ | refine JO.nil ?_ | refine Q00 ?_ | (apply Q04; (iterate 3 exact rfl)) | (apply Q06; (iterate 3 exact rfl)) | (apply Q02; (iterate 3 exact rfl)) | (apply Q0g; (iterate 4 exact rfl); exact at0; exact rfl) | (apply Q4v (j := 4); (iterate 4 exact rfl); omega) | (apply Q5k (j := 4); (iterate 4 exact rfl); omega) | (apply Q1q (i := 8); (iterate 4 exact rfl); (first | assumption | omega)) | (apply Q2m; (iterate 4 exact rfl); omega) | (apply Q4r; (iterate 4 exact rfl); omega) | (apply Qkx; (iterate 3 exact rfl); (first | assumption | omega)) | (apply Q1i; (iterate 4 exact rfl); (first | assumption | exact WU.rd (by assumption) rfl [] | exact OwnU.rd (by assumption)); (first | assumption | omega)) | (apply Q31; (iterate 4 exact rfl); (first | assumption | exact WU.rd (by assumption) rfl [] | exact OwnU.rd (by assumption)); (repeat' first | exact HSub.nil _ | exact HSub.hd | exact Q03 | exact HSub.refl _ | refine HSub.skip ?_ | refine Q01 ?_); (first | assumption | omega)) | (apply Q78; (iterate 3 exact rfl)) | (apply Qdm; (iterate 4 exact rfl); (first | assumption | omega)) | (apply Q9d; (iterate 4 exact rfl); (first | assumption | omega)) | (apply Q0m; (iterate 4 exact rfl); all_goals intro hc; all_goals try (exfalso; omega)) | refine JC.skip ?_ | refine Q08 rfl ?_ | refine JC.block ?_))
  rw [← hk, pow8, Nat.mod_eq_of_lt (show (bts l).getD i 0 * 256 ^ (k % 4) < 18446744073709551616 by omega)]
  refine Qid (zs.getD (k / 4) 0 + (bts l).getD i 0 * 256 ^ (k % 4)) rfl rfl rfl rfl (by omega) hor ?_
  (repeat' (first | (apply Q1i; (iterate 4 exact rfl); (first | assumption | exact WU.rd (by assumption) rfl [] | exact OwnU.rd (by assumption)); (first | assumption | omega))))
  refine Q42 (A := [_]) hO rfl rfl (by first | trivial | exact ⟨rfl, rfl⟩) rfl rfl (by omega) (fun N1 hO1 => ?_)
  (repeat' (first | refine JC.ops ?_ | refine JO.nil ?_ | refine Q00 ?_ | (apply Q04; (iterate 3 exact rfl)) | (apply Q0r; (iterate 4 exact rfl); omega) | refine Q0b ?_))
  refine Q0c (i + 1, N1, _) ⟨by dsimp only; omega, hO1, Q2x hz horlt, fun j => ?_, ?_⟩ (by dsimp only; omega) (by repeat first | exact trivial | refine ⟨rfl, ?_⟩) (by (first | exact HSub.refl _ | (repeat' first | exact HSub.nil _ | exact HSub.refl _ | refine HSub.at 0 rfl ?_ | refine HSub.at 1 rfl ?_ | refine HSub.at 2 rfl ?_ | refine HSub.at 3 rfl ?_ | refine HSub.at 4 rfl ?_ | refine HSub.at 5 rfl ?_ | refine HSub.at 6 rfl ?_ | refine HSub.at 7 rfl ?_)))
  ·dsimp only
   by_cases hj : k / 4 = j
   ·subst hj
    rw [Q0y (by omega), show min 4 (l.length - (i + 1) - 4 * (k / 4)) = k % 4 by omega]
    exact Nat.dvd_add (Nat.dvd_trans (Nat.pow_dvd_pow 256 (Nat.le_succ _)) hdk) (Nat.dvd_mul_left _ _)
   ·rw [getD_set_ne hj]
    exact Nat.dvd_trans (Nat.pow_dvd_pow 256 (by omega)) (hdv j)
  ·dsimp only
   have e := Q3v (b := W32) (l := zs) (j := k / 4) (u := zs.getD (k / 4) 0 + (bts l).getD i 0 * 256 ^ (k % 4)) (by omega)
   rw [Nat.mul_add] at e
   have e2 : W32 ^ (k / 4) * ((bts l).getD i 0 * 256 ^ (k % 4)) = 256 ^ k * (bts l).getD i 0 := by
    rw [pow32, Nat.mul_left_comm, ← Nat.pow_add, show 4 * (k / 4) + k % 4 = k by omega, Nat.mul_comm]
   rw [Qc7 _ _ (by omega), show l.length - (i + 1) = k by omega, Nat.mul_add, ← Nat.mul_assoc]
   rw [hki, Nat.pow_succ] at hval
   omega
 ·(repeat' (first | refine JC.seq ?_ | refine JC.ops ?_ | refine JO.nil ?_ | refine Q00 ?_ | (apply Q04; (iterate 3 exact rfl)) | (apply Q0m; (iterate 4 exact rfl); all_goals intro hc; all_goals try (exfalso; omega)) | refine Q0i ?_ | refine JC.exit ?_ | refine Q07 rfl ?_ | refine Q0f ?_))
  refine Q09 trivial rfl rfl rfl (fun w hk hs => Q3e w _ _ _ _ (hO.rd.at hk hs (by (repeat' first | exact HSub.nil _ | exact HSub.hd | exact Q03 | exact HSub.refl _ | refine HSub.skip ?_ | refine Q01 ?_))) (by omega)) fun w v w' _ _ _ hR => ?_
  obtain ⟨q, hq, rfl, hnq⟩ := hR
  (repeat' (first | refine JO.nil ?_ | refine Q00 ?_ | (apply Q02; (iterate 3 exact rfl)) | refine JC.ret ?_))
  have hown := hO.hd hq
  rw [← hnq] at hown
  have hql : (nrm zs).length = q := hown.len
  refine Q0j rfl (fun a w' st => ⟨st.kp, N, nrm zs, st.newOf rfl (by (repeat' first | exact HSub.nil _ | exact HSub.hd | exact Q03 | exact HSub.refl _ | refine HSub.skip ?_ | refine Q01 ?_)), by rw [hql]; exact hown, Q2n hz, ?_⟩)
  obtain rfl : i = l.length := by omega
  rw [Q1o, hval, Nat.sub_self, Nat.pow_zero, Nat.one_mul, List.take_of_length_le (by omega)]


theorem Qcd {d W r x Z cur : Nat} (hc : cur = r * W + x) : x + W * (d * Z + r) = d * (cur / d + W * Z) + cur % d := by
 have h1 := Nat.div_add_mod cur d
 rw [Nat.mul_add, Nat.mul_add, Nat.mul_left_comm W d Z, Nat.mul_comm W r]
 omega
theorem Q4m {l : List Nat} {i u : Nat} : (l.set i u).drop (i + 1) = l.drop (i + 1) := by
 apply List.ext_getElem?
 intro j
 rw [List.getElem?_drop, List.getElem?_drop, List.getElem?_set_ne (by omega)]

set_option maxHeartbeats 8000000 in
theorem Qlz (w : World) (v : Value) (n d : Nat) (xs : List Nat) (hv : WU w v n xs) (hx : ∀ x ∈ xs, x < W32) (hd0 : 0 < d) (hd1 : d < 4294967296) (hn : n ≤ 10000000000) :
  Calls Tryz.prog 86 #[v, uv d] w (Ret fun v w' => Kp [] w w' ∧ ∃ v1 N zs, v = .tuple #[v1, uv (val W32 xs % d)] ∧ New N w w' ∧ OwnU N v1 zs.length zs ∧ Dig W32 zs ∧ val W32 zs = val W32 xs / d) := by
 have hlx := hv.len
 refine Q0a [⟨7, 11, [], []⟩] [] (by simp) [] Tryz.func86 rfl mixed (by kernel_rfl) Tryz.ntmps86 Tryz.results86 rfl ⟨by simp, by simp⟩ (by simp) ?_
 simp only [toS, textOps, toSOp, kindAt, kindOf, odAt, sopsAt, ordOf, zipF]
 (repeat' (first | refine JC.seq ?_ | refine JC.ops ?_ | refine JO.nil ?_ | refine Q00 ?_ | (apply Q04; (iterate 3 exact rfl)) | (apply Q02; (iterate 3 exact rfl)) | (apply Q19; (iterate 3 exact rfl); (first | assumption | exact WU.rd (by assumption) rfl [] | exact OwnU.rd (by assumption)))))
 refine Q3q (n := n) rfl rfl rfl rfl rfl (by omega) (by omega) (fun b5 => ?_)
 have hO := Q25 b5 n (by simp only [maxLen]; omega)
 (repeat' (first | refine JC.seq ?_ | refine JC.ops ?_ | refine JO.nil ?_ | refine Q00 ?_ | (apply Q04; (iterate 3 exact rfl)) | (apply Q02; (iterate 3 exact rfl)) | (apply Q3b; (iterate 4 exact rfl); omega) | (apply Q19; (iterate 3 exact rfl); (first | assumption | exact WU.rd (by assumption) rfl [] | exact OwnU.rd (by assumption))) | refine JC.block ?_))
 refine Q0k (ι := Nat × Nat × SHeap × List Nat) ⟨fun z => [(8, iv ((z.1 : Int) - 1)), (7, uv z.2.1), (6, .slice (some ⟨b5, 0, none⟩) n n), (0, v), (1, uv d)], fun z => z.2.2.1 ++ [],
  fun z => z.1 ≤ n ∧ OwnU z.2.2.1 (.slice (some ⟨b5, 0, none⟩) n n) n z.2.2.2 ∧ (∀ x ∈ z.2.2.2, x < W32) ∧ z.2.1 < d ∧ val W32 (xs.drop z.1) = d * val W32 (z.2.2.2.drop z.1) + z.2.1, fun z => z.1⟩
  (n, 0, _, _) ⟨Nat.le_refl _, hO, fun x hx => by obtain ⟨a, _, rfl⟩ := List.mem_map.1 hx; decide, hd0, by
   show val W32 (xs.drop n) = d * val W32 ((tab n fun _ => 0).drop n) + 0
   rw [Q1d (by omega), Q1d (by simp [tab])]; rfl⟩ (by repeat first | exact trivial | refine ⟨rfl, ?_⟩) (by (first | exact HSub.refl _ | (repeat' first | exact HSub.nil _ | exact HSub.refl _ | refine HSub.at 0 rfl ?_ | refine HSub.at 1 rfl ?_ | refine HSub.at 2 rfl ?_ | refine HSub.at 3 rfl ?_ | refine HSub.at 4 rfl ?_ | refine HSub.at 5 rfl ?_ | refine HSub.at 6 rfl ?_ | refine HSub.at 7 rfl ?_))) (fun z hz => ?_)
 clear hO
 obtain ⟨j, r, N, zs⟩ := z
 obtain ⟨hj, hO, hz, hr, hval⟩ := hz
 dsimp only at hj hO hz hr hval ⊢
 have hlz := hO.len
 rcases j with _ | q
 ·(repeat' (first | refine JC.seq ?_ | refine JC.ops ?_ | refine JO.nil ?_ | refine Q00 ?_ | (apply Q04; (iterate 3 exact rfl)) | (apply Q2k; (iterate 4 exact rfl); all_goals intro hc; all_goals try (exfalso; omega)) | refine Q0i ?_ | refine JC.exit ?_ | refine Q07 rfl ?_ | refine Q0f ?_))
  refine Q09 trivial rfl rfl rfl (fun w hk hs => Q3e w _ _ _ _ (hO.rd.at hk hs (by (repeat' first | exact HSub.nil _ | exact HSub.hd | exact Q03 | exact HSub.refl _ | refine HSub.skip ?_ | refine Q01 ?_))) (by omega)) fun w v w' _ _ _ hR => ?_
  obtain ⟨q, hq, rfl, hnq⟩ := hR
  (repeat' (first | refine JO.nil ?_ | refine Q00 ?_ | (apply Q04; (iterate 3 exact rfl)) | (apply Q02; (iterate 3 exact rfl)) | refine JC.ret ?_))
  have hown := hO.hd hq
  rw [← hnq] at hown
  have hql : (nrm zs).length = q := hown.len
  rw [List.drop_zero, List.drop_zero] at hval
  have hmod : val W32 xs % d = r := by rw [hval, Nat.mul_add_mod, Nat.mod_eq_of_lt hr]
  have hdiv : val W32 xs / d = val W32 zs := by rw [hval, Nat.mul_add_div hd0, Nat.div_eq_of_lt hr, Nat.add_zero]
  refine Q8s rfl rfl (fun a w' st => ⟨st.kp, _, N, nrm zs, by rw [hmod], st.newOf rfl (by (repeat' first | exact HSub.nil _ | exact HSub.hd | exact Q03 | exact HSub.refl _ | refine HSub.skip ?_ | refine Q01 ?_)), by rw [hql]; exact hown, Q2n hz, by rw [Q1o, hdiv]⟩)
 ·have hiv : iv (((q + 1 : Nat) : Int) - 1) = nv q := by
   show iv _ = iv _
   congr 1
   omega
  rw [hiv]
  have hxq : xs.getD q 0 < 4294967296 := Q0s (b := W32) (by decide) hx q
  (repeat' (first | refine JC.seq ?_ | refine JC.ops ?_ | refine JC.opsD ?_ | refine JO.nil ?_ | refine Q00 ?_ | (apply Q04; (iterate 3 exact rfl)) | (apply Q02; (iterate 3 exact rfl)) | (apply Qaa; (iterate 4 exact rfl); (first | assumption | omega)) | (apply Qdj; (iterate 4 exact rfl); (first | assumption | omega | exact ⟨by assumption, by assumption⟩)) | (apply Q1i; (iterate 4 exact rfl); (first | assumption | exact WU.rd (by assumption) rfl [] | exact OwnU.rd (by assumption)); (first | assumption | omega)) | (apply Q31; (iterate 4 exact rfl); (first | assumption | exact WU.rd (by assumption) rfl [] | exact OwnU.rd (by assumption)); (repeat' first | exact HSub.nil _ | exact HSub.hd | exact Q03 | exact HSub.refl _ | refine HSub.skip ?_ | refine Q01 ?_); (first | assumption | omega)) | (apply Qdi; (iterate 4 exact rfl); (first | assumption | omega)) | (apply Qdh; (iterate 4 exact rfl); (first | assumption | omega)) | (apply Q2k; (iterate 4 exact rfl); all_goals intro hc; all_goals try (exfalso; omega)) | refine JC.skip ?_ | refine Q08 rfl ?_ | refine JC.block ?_))
  refine Q42 (A := []) hO rfl rfl (by first | trivial | exact ⟨rfl, rfl⟩) rfl rfl (by omega) (fun N' hO' => ?_)
  (repeat' (first | refine JC.ops ?_ | refine JO.nil ?_ | refine Q00 ?_ | (apply Q04; (iterate 3 exact rfl)) | (apply Q02; (iterate 3 exact rfl)) | (apply Q3b; (iterate 4 exact rfl); omega) | refine Q0b ?_))
  refine Q0c (q, _, N', _) ⟨by dsimp only; omega, hO', Q2x hz ?_, Nat.mod_lt _ hd0, ?_⟩ (by dsimp only; omega) (by repeat first | exact trivial | refine ⟨rfl, ?_⟩) (by (first | exact HSub.refl _ | (repeat' first | exact HSub.nil _ | exact HSub.refl _ | refine HSub.at 0 rfl ?_ | refine HSub.at 1 rfl ?_ | refine HSub.at 2 rfl ?_ | refine HSub.at 3 rfl ?_ | refine HSub.at 4 rfl ?_ | refine HSub.at 5 rfl ?_ | refine HSub.at 6 rfl ?_ | refine HSub.at 7 rfl ?_)))
  ·refine (Nat.div_lt_iff_lt_mul hd0).2 ?_
   show _ < 4294967296 * d
   omega
  ·dsimp only
   rw [Q1g (by omega), Q1g (l := zs.set q _) (by simp; omega), Q4m, Q0y (by omega), hval]
   exact Qcd rfl


theorem Qmv {s : Nat} (hs : s ≤ 31) (x : Nat) (hx : x < 4294967296) : x * 2 ^ (32 - s) % 18446744073709551616 % 4294967296 = 2 ^ (32 - s) * (x % 2 ^ s) := by
 have h1 : x * 2 ^ (32 - s) < 18446744073709551616 := by
  have h2 : 2 ^ (32 - s) ≤ 4294967296 := by
   have := Nat.pow_le_pow_right (n := 2) (by decide) (show 32 - s ≤ 32 by omega)
   simpa using this
  have := Nat.mul_le_mul (show x ≤ 4294967295 by omega) h2
  omega
 rw [Nat.mod_eq_of_lt h1, Qbw x (32 - s) (by omega), show 32 - (32 - s) = s by omega]
theorem Qi0 {s P A x : Nat} (hs : s ≤ 31) : (A + P * 4294967296 * x) / 2 ^ s = A / 2 ^ s + P * (2 ^ (32 - s) * (x % 2 ^ s)) + P * 4294967296 * (x / 2 ^ s) := by
 have hp : 0 < 2 ^ s := Nat.pow_pos (by decide)
 have e : (4294967296 : Nat) = 2 ^ (32 - s) * 2 ^ s := by rw [← Nat.pow_add, show 32 - s + s = 32 by omega]
 have e2 : A + P * 4294967296 * x = A + 2 ^ s * (P * (2 ^ (32 - s) * (x % 2 ^ s)) + P * 4294967296 * (x / 2 ^ s)) := by
  have h1 : x = x % 2 ^ s + 2 ^ s * (x / 2 ^ s) := (Nat.mod_add_div x (2 ^ s)).symm
  have h2 : P * 4294967296 * x = P * 4294967296 * (x % 2 ^ s) + 2 ^ s * (P * 4294967296 * (x / 2 ^ s)) := by
   conv => lhs; rw [h1]
   rw [Nat.mul_add, Nat.mul_left_comm]
  have h3 : P * 4294967296 * (x % 2 ^ s) = 2 ^ s * (P * (2 ^ (32 - s) * (x % 2 ^ s))) := by
   conv => lhs; rw [e]
   simp only [Nat.mul_left_comm, Nat.mul_comm, Nat.mul_assoc]
  rw [h2, h3, Nat.mul_add]
 rw [e2, Nat.add_mul_div_left _ _ hp, Nat.add_assoc]
set_option maxHeartbeats 8000000 in
theorem Qh1 (w : World) (v : Value) (n s : Nat) (xs : List Nat) (hv : WU w v n xs) (hx : ∀ x ∈ xs, x < W32) (hs31 : s ≤ 31) (hn : n ≤ 10000000000) :
  Calls Tryz.prog 90 #[v, nv s] w (Ret fun v w' => Kp [] w w' ∧ ∃ N zs, New N w w' ∧ OwnU N v zs.length zs ∧ Dig W32 zs ∧ val W32 zs = val W32 xs / 2 ^ s) := by
 have hlx := hv.len
 have hp0 : 0 < 2 ^ s := Nat.pow_pos (by decide)
 refine Q0a [⟨5, 3, [], []⟩, ⟨7, 3, [], []⟩] [] (by simp) [] Tryz.func90 rfl mixed (by kernel_rfl) Tryz.ntmps90 Tryz.results90 rfl ⟨by simp, by simp⟩ (by simp) ?_
 simp only [toS, textOps, toSOp, kindAt, kindOf, odAt, sopsAt, ordOf, zipF]
 (repeat' (first | refine JC.seq ?_ | refine JC.ops ?_ | refine JO.nil ?_ | refine Q00 ?_ | (apply Q04; (iterate 3 exact rfl)) | (apply Q02; (iterate 3 exact rfl)) | (apply Q19; (iterate 3 exact rfl); (first | assumption | exact WU.rd (by assumption) rfl [] | exact OwnU.rd (by assumption)))))
 refine Q3q (n := n) rfl rfl rfl rfl rfl (by omega) (by omega) (fun b5 => ?_)
 have hO := Q25 b5 n (by simp only [maxLen]; omega)
 (repeat' (first | refine JC.seq ?_ | refine JC.ops ?_ | refine JO.nil ?_ | refine Q00 ?_ | (apply Q04; (iterate 3 exact rfl)) | (apply Q02; (iterate 3 exact rfl)) | (apply Q19; (iterate 3 exact rfl); (first | assumption | exact WU.rd (by assumption) rfl [] | exact OwnU.rd (by assumption))) | refine JC.block ?_))
 refine Q0k (ι := Nat × SHeap × List Nat) ⟨fun z => [(13, nv z.1), (12, nv n), (11, v), (5, .slice (some ⟨b5, 0, none⟩) n n), (0, v), (1, nv s)], fun z => z.2.1 ++ [],
  fun z => z.1 ≤ n ∧ OwnU z.2.1 (.slice (some ⟨b5, 0, none⟩) n n) n z.2.2 ∧ (∀ x ∈ z.2.2, x < W32) ∧ (0 < z.1 → z.2.2.getD (z.1 - 1) 0 < 2 ^ (32 - s)) ∧ val W32 z.2.2 = val W32 (xs.take z.1) / 2 ^ s ∧ ∀ j, z.1 ≤ j → z.2.2.getD j 0 = 0, fun z => n - z.1⟩
  (0, _, _) ⟨Nat.zero_le _, hO, fun x hx => by obtain ⟨a, _, rfl⟩ := List.mem_map.1 hx; decide, fun h => absurd h (Nat.lt_irrefl 0), by
   show val W32 (tab n fun _ => 0) = _
   rw [Q4x]; simp [val], fun j _ => Q3o _ j⟩ (by repeat first | exact trivial | refine ⟨rfl, ?_⟩) (by (first | exact HSub.refl _ | (repeat' first | exact HSub.nil _ | exact HSub.refl _ | refine HSub.at 0 rfl ?_ | refine HSub.at 1 rfl ?_ | refine HSub.at 2 rfl ?_ | refine HSub.at 3 rfl ?_ | refine HSub.at 4 rfl ?_ | refine HSub.at 5 rfl ?_ | refine HSub.at 6 rfl ?_ | refine HSub.at 7 rfl ?_))) (fun z hz => ?_)
 clear hO
 obtain ⟨i, N, zs⟩ := z
 obtain ⟨hi, hO, hz, hci, hval, hzero⟩ := hz
 dsimp only at hi hO hz hci hval hzero ⊢
 have hlz := hO.len
 by_cases hin : i < n
 ·have hxi : xs.getD i 0 < 4294967296 := Q0s (b := W32) (by decide) hx i
  have hsh : xs.getD i 0 / 2 ^ s < 4294967296 := Nat.lt_of_le_of_lt (Nat.div_le_self _ _) hxi
  have hlt32 : xs.getD i 0 / 2 ^ s < 2 ^ (32 - s) := by
   refine (Nat.div_lt_iff_lt_mul hp0).2 ?_
   rw [← Nat.pow_add, show 32 - s + s = 32 by omega]
   exact hxi
  have hor1 : zs.getD i 0 ||| xs.getD i 0 / 2 ^ s = xs.getD i 0 / 2 ^ s := by rw [hzero i (Nat.le_refl _), Nat.zero_or]
  have hzi : zs.getD i 0 < 4294967296 := Q0s (b := W32) (by decide) hz i
  (repeat' (first | refine JC.seq ?_ | refine JC.ops ?_ | refine JC.opsD ?_ | refine JO.nil ?_ | refine Q00 ?_ | (apply Q04; (iterate 3 exact rfl)) | (apply Q02; (iterate 3 exact rfl)) | (apply Q1i; (iterate 4 exact rfl); (first | assumption | exact WU.rd (by assumption) rfl [] | exact OwnU.rd (by assumption)); (first | assumption | omega)) | (apply Q31; (iterate 4 exact rfl); (first | assumption | exact WU.rd (by assumption) rfl [] | exact OwnU.rd (by assumption)); (repeat' first | exact HSub.nil _ | exact HSub.hd | exact Q03 | exact HSub.refl _ | refine HSub.skip ?_ | refine Q01 ?_); (first | assumption | omega)) | (apply Q43; (iterate 4 exact rfl); (first | assumption | omega)) | (apply Q0m; (iterate 4 exact rfl); all_goals intro hc; all_goals try (exfalso; omega)) | refine JC.skip ?_ | refine Q08 rfl ?_ | refine JC.block ?_))
  refine Qid (xs.getD i 0 / 2 ^ s) rfl rfl rfl rfl (by omega) hor1 ?_
  (repeat' (first | (apply Q1i; (iterate 4 exact rfl); (first | assumption | exact WU.rd (by assumption) rfl [] | exact OwnU.rd (by assumption)); (first | assumption | omega))))
  refine Q42 (A := []) hO rfl rfl (by first | trivial | exact ⟨rfl, rfl⟩) rfl rfl (by omega) (fun N1 hO1 => ?_)
  have e1 := Q3v (b := W32) (l := zs) (j := i) (u := xs.getD i 0 / 2 ^ s) (by omega)
  rw [hzero i (Nat.le_refl _), Nat.mul_zero, Nat.add_zero] at e1
  by_cases hi0 : 0 < i
  ·have hzp : zs.getD (i - 1) 0 < 4294967296 := Q0s (b := W32) (by decide) hz (i - 1)
   have hul := Qmv hs31 _ hxi
   have hul2 : 2 ^ (32 - s) * (xs.getD i 0 % 2 ^ s) < 4294967296 := by rw [← hul]; exact Nat.mod_lt _ (by decide)
   have hor2 : zs.getD (i - 1) 0 ||| 2 ^ (32 - s) * (xs.getD i 0 % 2 ^ s) = zs.getD (i - 1) 0 + 2 ^ (32 - s) * (xs.getD i 0 % 2 ^ s) := by
    rw [Nat.or_comm, ← Nat.two_pow_add_eq_or_of_lt (hci hi0), Nat.add_comm]
   have hor3 : zs.getD (i - 1) 0 + 2 ^ (32 - s) * (xs.getD i 0 % 2 ^ s) < 4294967296 := by rw [← hor2]; exact Qcj hzp hul2
   have hget : (zs.set i (xs.getD i 0 / 2 ^ s)).getD (i - 1) 0 = zs.getD (i - 1) 0 := getD_set_ne (by omega)
   have hsub : ((32 : Int) - (s : Int)) = ((32 - s : Nat) : Int) := by omega
   (repeat' (first | refine JC.seq ?_ | refine JC.ops ?_ | refine JC.opsD ?_ | refine JO.nil ?_ | refine Q00 ?_ | (apply Q04; (iterate 3 exact rfl)) | (apply Q2m; (iterate 4 exact rfl); omega) | (apply Q3b; (iterate 4 exact rfl); omega) | (apply Q1i; (iterate 4 exact rfl); (first | assumption | exact WU.rd (by assumption) rfl [] | exact OwnU.rd (by assumption)); (first | assumption | omega)) | (apply Q31; (iterate 4 exact rfl); (first | assumption | exact WU.rd (by assumption) rfl [] | exact OwnU.rd (by assumption)); (repeat' first | exact HSub.nil _ | exact HSub.hd | exact Q03 | exact HSub.refl _ | refine HSub.skip ?_ | refine Q01 ?_); (first | assumption | omega)) | (apply Q1l; (iterate 4 exact rfl); all_goals intro hc; all_goals try (exfalso; omega)) | refine Q08 rfl ?_))
   refine Q9d (j := 32 - s) rfl rfl rfl (by first | rfl | exact congrArg (fun z => some (Value.int .i64 z)) hsub) (by omega) ?_
   (repeat' (first | (apply Q3c; (iterate 4 exact rfl); (first | assumption | omega))))
   refine Qid (zs.getD (i - 1) 0 + 2 ^ (32 - s) * (xs.getD i 0 % 2 ^ s)) rfl rfl rfl rfl (by rw [hget, hul]; omega) (by rw [hget, hul]; exact hor2) ?_
   (repeat' (first | (apply Q1i; (iterate 4 exact rfl); (first | assumption | exact WU.rd (by assumption) rfl [] | exact OwnU.rd (by assumption)); (first | assumption | omega))))
   refine Q42 (A := []) hO1 rfl rfl (by first | trivial | exact ⟨rfl, rfl⟩) rfl rfl (by omega) (fun N2 hO2 => ?_)
   (repeat' (first | refine JC.ops ?_ | refine JO.nil ?_ | refine Q00 ?_ | (apply Q04; (iterate 3 exact rfl)) | (apply Q0r; (iterate 4 exact rfl); omega) | refine Q0b ?_))
   refine Q0c (i + 1, N2, _) ⟨by dsimp only; omega, hO2, Q2x (Q2x hz hsh) hor3, fun _ => ?_, ?_, fun j hj => ?_⟩ (by dsimp only; omega) (by repeat first | exact trivial | refine ⟨rfl, ?_⟩) (by (first | exact HSub.refl _ | (repeat' first | exact HSub.nil _ | exact HSub.refl _ | refine HSub.at 0 rfl ?_ | refine HSub.at 1 rfl ?_ | refine HSub.at 2 rfl ?_ | refine HSub.at 3 rfl ?_ | refine HSub.at 4 rfl ?_ | refine HSub.at 5 rfl ?_ | refine HSub.at 6 rfl ?_ | refine HSub.at 7 rfl ?_)))
   ·dsimp only
    rw [Nat.add_sub_cancel, getD_set_ne (by omega), Q0y (by omega)]
    exact hlt32
   ·dsimp only
    have e2 := Q3v (b := W32) (l := zs.set i (xs.getD i 0 / 2 ^ s)) (j := i - 1) (u := zs.getD (i - 1) 0 + 2 ^ (32 - s) * (xs.getD i 0 % 2 ^ s)) (by simp; omega)
    rw [hget] at e2
    have e3 := Qi0 (s := s) (P := W32 ^ (i - 1)) (A := val W32 (xs.take i)) (x := xs.getD i 0) hs31
    have e4 : W32 ^ (i - 1) * 4294967296 = W32 ^ i := by
     conv => rhs; rw [show i = i - 1 + 1 by omega, Nat.pow_succ]
    rw [e4] at e3
    rw [Q0u, e3, ← hval]
    rw [Nat.mul_add] at e2
    omega
   ·dsimp only at hj ⊢
    rw [getD_set_ne (by omega), getD_set_ne (by omega)]
    exact hzero j (by omega)
  ·obtain rfl : i = 0 := by omega
   (repeat' (first | refine JC.seq ?_ | refine JC.ops ?_ | refine JO.nil ?_ | refine Q00 ?_ | (apply Q04; (iterate 3 exact rfl)) | (apply Q0r; (iterate 4 exact rfl); omega) | (apply Q1l; (iterate 4 exact rfl); all_goals intro hc; all_goals try (exfalso; omega)) | refine JC.skip ?_ | refine Q07 rfl ?_ | refine Q0b ?_))
   refine Q0c (0 + 1, N1, _) ⟨by dsimp only; omega, hO1, Q2x hz hsh, fun _ => ?_, ?_, fun j hj => ?_⟩ (by dsimp only; omega) (by repeat first | exact trivial | refine ⟨rfl, ?_⟩) (by (first | exact HSub.refl _ | (repeat' first | exact HSub.nil _ | exact HSub.refl _ | refine HSub.at 0 rfl ?_ | refine HSub.at 1 rfl ?_ | refine HSub.at 2 rfl ?_ | refine HSub.at 3 rfl ?_ | refine HSub.at 4 rfl ?_ | refine HSub.at 5 rfl ?_ | refine HSub.at 6 rfl ?_ | refine HSub.at 7 rfl ?_)))
   ·dsimp only
    rw [Q0y (by omega)]
    exact hlt32
   ·dsimp only
    rw [e1, hval, Q0u]
    simp [val]
   ·dsimp only at hj ⊢
    rw [getD_set_ne (by omega)]
    exact hzero j (by omega)
 ·(repeat' (first | refine JC.seq ?_ | refine JC.ops ?_ | refine JO.nil ?_ | refine Q00 ?_ | (apply Q04; (iterate 3 exact rfl)) | (apply Q0m; (iterate 4 exact rfl); all_goals intro hc; all_goals try (exfalso; omega)) | refine Q0i ?_ | refine JC.exit ?_ | refine Q07 rfl ?_ | refine Q0f ?_))
  refine Q09 trivial rfl rfl rfl (fun w hk hs => Q3e w _ _ _ _ (hO.rd.at hk hs (by (repeat' first | exact HSub.nil _ | exact HSub.hd | exact Q03 | exact HSub.refl _ | refine HSub.skip ?_ | refine Q01 ?_))) (by omega)) fun w v w' _ _ _ hR => ?_
  obtain ⟨q, hq, rfl, hnq⟩ := hR
  (repeat' (first | refine JO.nil ?_ | refine Q00 ?_ | (apply Q02; (iterate 3 exact rfl)) | refine JC.ret ?_))
  have hown := hO.hd hq
  rw [← hnq] at hown
  have hql : (nrm zs).length = q := hown.len
  refine Q0j rfl (fun a w' st => ⟨st.kp, N, nrm zs, st.newOf rfl (by (repeat' first | exact HSub.nil _ | exact HSub.hd | exact Q03 | exact HSub.refl _ | refine HSub.skip ?_ | refine Q01 ?_)), by rw [hql]; exact hown, Q2n hz, ?_⟩)
  rw [Q1o, hval, List.take_of_length_le (by omega)]


structure GivesD (v : Value) (xs ys : List Nat) (w : World) (r : Value) (w' : World) : Prop where
 ex : ∃ N1 N2 v1 v2 zs rs, r = .tuple #[v1, v2] ∧ New (N1 ++ N2) w w' ∧ OwnU N1 v1 zs.length zs ∧ (OwnU N2 v2 rs.length rs ∨ (N2 = [] ∧ v2 = v ∧ rs = xs)) ∧ Dig W32 zs ∧ Dig W32 rs ∧ val W32 xs = val W32 zs * val W32 ys + val W32 rs ∧ val W32 rs < val W32 ys

theorem Qhz {b : Nat} {ys : List Nat} (h : ys.length = 1) : val b ys = ys.getD 0 0 := by
 match ys, h with
 | [y], _ => simp [val]

theorem Qdv {A P z V D W Z T U : Nat} (hU : U = z + V * D) (h : A + P * U + V * (P * W * Z) = T) : A + P * z + V * (P * (D + W * Z)) = T := by
 subst hU
 rw [← h]
 simp only [Nat.mul_add, Nat.mul_assoc, Nat.mul_left_comm P V D]
 omega

set_option maxHeartbeats 16000000 in
theorem Qon (w : World) (v u : Value) (n k : Nat) (xs ys : List Nat) (hv : WU w v n xs) (hu : WU w u k ys) (hx : Dig W32 xs) (hy : Dig W32 ys) (h0 : 0 < val W32 ys) (hn : n ≤ 1000000000) (hk : k ≤ 1000000000) :
  Calls Tryz.prog 67 #[v, u] w (Ret fun r w' => Kp [] w w' ∧ GivesD v xs ys w r w') := by
 have hlx := hv.len
 have hly := hu.len
 have hk0 : 0 < k := by
  rcases Nat.eq_zero_or_pos k with h | h
  ·subst h
   rw [List.eq_nil_of_length_eq_zero hly] at h0
   exact absurd h0 (Nat.lt_irrefl 0)
  ·exact h
 refine Q0a [⟨11, 1, [], []⟩, ⟨16, 1, [], []⟩, ⟨17, 8, [], []⟩] [] (by simp) [] Tryz.func67 rfl mixed (by kernel_rfl) Tryz.ntmps67 Tryz.results67 rfl ⟨by simp, by simp⟩ (by simp) ?_
 simp only [toS, textOps, toSOp, kindAt, kindOf, odAt, sopsAt, ordOf, zipF]
 (repeat' (first | refine JC.seq ?_ | refine JC.ops ?_ | refine JO.nil ?_ | refine Q00 ?_ | (apply Q04; (iterate 3 exact rfl)) | (apply Q02; (iterate 3 exact rfl))))
 refine Q09 trivial rfl rfl rfl (fun w hk' hs => Qm3 w _ _ _ _ _ _ (hv.mono hk') (hu.mono hk') hx hy (by omega) (by omega)) fun w v w' _ _ _ hR => ?_
 subst hR
 by_cases hlt : val W32 xs < val W32 ys
 ·have hneg := Q2u.2 hlt
  (repeat' (first | refine JC.seq ?_ | refine JC.ops ?_ | refine JO.nil ?_ | refine Q00 ?_ | (apply Q04; (iterate 3 exact rfl)) | (apply Q02; (iterate 3 exact rfl)) | (apply Q0m; (iterate 4 exact rfl); all_goals intro hc; all_goals try (exfalso; omega)) | refine Q0o ?_ | refine JC.ret ?_ | refine Q08 rfl ?_))
  exact Q8s rfl rfl (fun a w' st => ⟨st.kp, ⟨[], [], _, _, [], xs, rfl, New.nil _ _, OwnU.nil, .inr ⟨rfl, rfl, rfl⟩, Dig.nil _, hx, by simp [val], hlt⟩⟩)
 have hneg : ¬ cmpV (val W32 xs) (val W32 ys) < 0 := fun h => hlt (Q2u.1 h)
 have hkn : k ≤ n := by
  refine Decidable.byContradiction fun h => hlt ?_
  exact Q32 (by decide) hx hy (by omega)
 by_cases hk1 : k = 1
 ·subst hk1
  have hd1 : ys.getD 0 0 < 4294967296 := Q0s (b := W32) (by decide) hy.lt 0
  have hvy := Qhz (b := W32) hly
  rw [hvy] at h0
  (repeat' (first | refine JC.seq ?_ | refine JC.ops ?_ | refine JO.nil ?_ | refine Q00 ?_ | (apply Q04; (iterate 3 exact rfl)) | (apply Q1i; (iterate 4 exact rfl); (first | assumption | exact WU.rd (by assumption) rfl [] | exact OwnU.rd (by assumption)); (first | assumption | omega)) | (apply Q31; (iterate 4 exact rfl); (first | assumption | exact WU.rd (by assumption) rfl [] | exact OwnU.rd (by assumption)); (repeat' first | exact HSub.nil _ | exact HSub.hd | exact Q03 | exact HSub.refl _ | refine HSub.skip ?_ | refine Q01 ?_); (first | assumption | omega)) | (apply Q19; (iterate 3 exact rfl); (first | assumption | exact WU.rd (by assumption) rfl [] | exact OwnU.rd (by assumption))) | (apply Q0m; (iterate 4 exact rfl); all_goals intro hc; all_goals try (exfalso; omega)) | (apply Q2f; (iterate 4 exact rfl); all_goals intro hc; all_goals try (exfalso; omega)) | refine JC.skip ?_ | refine Q08 rfl ?_ | refine Q07 rfl ?_))
  refine Q0h (A := []) rfl trivial rfl rfl rfl (fun w hk hs => Qlz w _ _ _ _ (hv.mono hk) hx.lt h0 hd1 (by omega)) fun w v w' _ _ _ hR => ?_
  obtain ⟨v1, N1, zs, rfl, hN1, hO1, hz1, hval1⟩ := hR
  refine ⟨N1, hN1, ?_⟩
  (repeat' (first | refine JC.seq ?_ | refine JC.ops ?_ | refine JO.nil ?_ | refine Q00 ?_ | (apply Q04; (iterate 3 exact rfl)) | (apply Q02; (iterate 3 exact rfl)) | (apply Q0v; (iterate 4 exact rfl)) | (apply Q0w; (iterate 5 exact rfl); (repeat first | exact trivial | refine ⟨rfl, ?_⟩); decide; decide; intro _)))
  rename_i b3
  have hO3 : OwnU [(b3, .cells ⟨[uv (val W32 xs % ys.getD 0 0)]⟩ 71)] (.slice (some ⟨b3, 0, none⟩) 1 1) 1 [val W32 xs % ys.getD 0 0] := Q3s b3 1 [val W32 xs % ys.getD 0 0] _ rfl rfl (by omega)
  refine Q09 trivial rfl rfl rfl (fun w hk hs => Q3e w _ _ _ _ (hO3.rd.at hk hs (by (repeat' first | exact HSub.nil _ | exact HSub.hd | exact Q03 | exact HSub.refl _ | refine HSub.skip ?_ | refine Q01 ?_))) (by omega)) fun w v w' _ _ _ hR => ?_
  obtain ⟨k3, hk3, rfl, hn3⟩ := hR
  have hO3' := hO3.hd hk3
  rw [← hn3] at hO3'
  have hl3 : (nrm [val W32 xs % ys.getD 0 0]).length = k3 := hO3'.len
  have hmod := Nat.mod_lt (val W32 xs) h0
  (repeat' (first | refine JO.nil ?_ | refine Q00 ?_ | (apply Q02; (iterate 3 exact rfl)) | refine Q0o ?_ | refine JC.ret ?_))
  refine Q8s rfl rfl (fun a w' st => ⟨st.kp, ⟨N1, _, _, _, zs, nrm [val W32 xs % ys.getD 0 0], rfl, st.newOf (N := N1 ++ [(b3, .cells ⟨[uv (val W32 xs % ys.getD 0 0)]⟩ 71)]) rfl ?_, hO1, .inl (by rw [hl3]; exact hO3'), hz1, Q2n fun x hx' => ?_, ?_, ?_⟩⟩)
  ·refine ⟨[], ?_⟩
   simp only [List.append_nil, List.nil_append]
   exact List.perm_append_comm (l₁ := [_])
  ·rw [List.mem_singleton] at hx'
   rw [hx']
   show _ < 4294967296
   omega
  ·rw [hvy, Q4a, hval1, Nat.mul_comm]
   exact (Nat.div_add_mod _ _).symm
  ·rw [hvy, Q4a]; exact hmod
 have hne : ys ≠ [] := fun e => by subst e; simp at hly; omega
 have htlt : ys.getD (k - 1) 0 < 4294967296 := Q0s (b := W32) (by decide) hy.lt (k - 1)
 have ht0 : 0 < ys.getD (k - 1) 0 := by
  refine Nat.pos_of_ne_zero fun e => ?_
  have h1 := Qd4 (b := W32) (by decide) hy.nrm hne
  rw [hly] at h1
  have h2 := Q27 W32 ys (k - 1) (by omega)
  rw [Q1g (by omega), e, Q1d (by omega)] at h2
  have h3 := Q2p hy.lt (k := k - 1) (by omega)
  simp only [Nat.mul_zero, Nat.add_zero] at h2
  omega
 (repeat' (first | refine JC.seq ?_ | refine JC.ops ?_ | refine JO.nil ?_ | refine Q00 ?_ | (apply Q04; (iterate 3 exact rfl)) | (apply Q02; (iterate 3 exact rfl)) | (apply Q19; (iterate 3 exact rfl); (first | assumption | exact WU.rd (by assumption) rfl [] | exact OwnU.rd (by assumption))) | (apply Q0m; (iterate 4 exact rfl); all_goals intro hc; all_goals try (exfalso; omega)) | (apply Q2f; (iterate 4 exact rfl); all_goals intro hc; all_goals try (exfalso; omega)) | refine JC.skip ?_ | refine Q07 rfl ?_ | refine JC.block ?_))
 refine Q0k (ι := Nat) ⟨fun s => [(8, nv s), (0, v), (1, u)], fun _ => [], fun s => s ≤ 31 ∧ ys.getD (k - 1) 0 * 2 ^ s < 4294967296, fun s => 32 - s⟩ 0 ⟨by omega, by simpa using htlt⟩ (by repeat first | exact trivial | refine ⟨rfl, ?_⟩) (by (first | exact HSub.refl _ | (repeat' first | exact HSub.nil _ | exact HSub.refl _ | refine HSub.at 0 rfl ?_ | refine HSub.at 1 rfl ?_ | refine HSub.at 2 rfl ?_ | refine HSub.at 3 rfl ?_ | refine HSub.at 4 rfl ?_ | refine HSub.at 5 rfl ?_ | refine HSub.at 6 rfl ?_ | refine HSub.at 7 rfl ?_))) (fun s hs => ?_)
 obtain ⟨hs31, hts⟩ := hs
 dsimp only at hs31 hts ⊢
 by_cases htop : ys.getD (k - 1) 0 * 2 ^ s / 2 ^ 31 = 0
 ·have hsm : ys.getD (k - 1) 0 * 2 ^ s < 2147483648 := by
   have := (Nat.div_eq_zero_iff).1 htop
   omega
  have hs30 : s + 1 ≤ 31 := by
   refine Decidable.byContradiction fun h => ?_
   obtain rfl : s = 31 := by omega
   have := Nat.mul_le_mul_right (2 ^ 31) ht0
   omega
  (repeat' (first | refine JC.seq ?_ | refine JC.ops ?_ | (apply Q04; (iterate 3 exact rfl)) | (apply Q2m; (iterate 4 exact rfl); omega) | (apply Q1i; (iterate 4 exact rfl); (first | assumption | exact WU.rd (by assumption) rfl [] | exact OwnU.rd (by assumption)); (first | assumption | omega)) | (apply Q31; (iterate 4 exact rfl); (first | assumption | exact WU.rd (by assumption) rfl [] | exact OwnU.rd (by assumption)); (repeat' first | exact HSub.nil _ | exact HSub.hd | exact Q03 | exact HSub.refl _ | refine HSub.skip ?_ | refine Q01 ?_); (first | assumption | omega)) | (apply Q19; (iterate 3 exact rfl); (first | assumption | exact WU.rd (by assumption) rfl [] | exact OwnU.rd (by assumption))) | (apply Q9d; (iterate 4 exact rfl); (first | assumption | omega))))
  rw [Nat.mod_eq_of_lt (show ys.getD (k - 1) 0 * 2 ^ s < 18446744073709551616 by omega)]
  refine Q43 (j := 31) rfl rfl rfl rfl (by omega) ?_
  rw [htop]
  (repeat' (first | refine JC.ops ?_ | refine JO.nil ?_ | refine Q00 ?_ | (apply Q04; (iterate 3 exact rfl)) | (apply Q02; (iterate 3 exact rfl)) | (apply Q0r; (iterate 4 exact rfl); omega) | (apply Q2f; (iterate 4 exact rfl); all_goals intro hc; all_goals try (exfalso; omega)) | refine JC.skip ?_ | refine Q08 rfl ?_ | refine JC.block ?_ | refine Q0b ?_))
  exact Q0c (s + 1) ⟨hs30, by rw [Nat.pow_succ, ← Nat.mul_assoc]; omega⟩ (by dsimp only; omega) (by repeat first | exact trivial | refine ⟨rfl, ?_⟩) (by (first | exact HSub.refl _ | (repeat' first | exact HSub.nil _ | exact HSub.refl _ | refine HSub.at 0 rfl ?_ | refine HSub.at 1 rfl ?_ | refine HSub.at 2 rfl ?_ | refine HSub.at 3 rfl ?_ | refine HSub.at 4 rfl ?_ | refine HSub.at 5 rfl ?_ | refine HSub.at 6 rfl ?_ | refine HSub.at 7 rfl ?_)))
 (repeat' (first | refine JC.seq ?_ | refine JC.ops ?_ | (apply Q04; (iterate 3 exact rfl)) | (apply Q2m; (iterate 4 exact rfl); omega) | (apply Q1i; (iterate 4 exact rfl); (first | assumption | exact WU.rd (by assumption) rfl [] | exact OwnU.rd (by assumption)); (first | assumption | omega)) | (apply Q31; (iterate 4 exact rfl); (first | assumption | exact WU.rd (by assumption) rfl [] | exact OwnU.rd (by assumption)); (repeat' first | exact HSub.nil _ | exact HSub.hd | exact Q03 | exact HSub.refl _ | refine HSub.skip ?_ | refine Q01 ?_); (first | assumption | omega)) | (apply Q19; (iterate 3 exact rfl); (first | assumption | exact WU.rd (by assumption) rfl [] | exact OwnU.rd (by assumption))) | (apply Q9d; (iterate 4 exact rfl); (first | assumption | omega))))
 rw [Nat.mod_eq_of_lt (show ys.getD (k - 1) 0 * 2 ^ s < 18446744073709551616 by omega)]
 refine Q43 (j := 31) rfl rfl rfl rfl (by omega) ?_
 (repeat' (first | refine JC.seq ?_ | refine JC.ops ?_ | refine JO.nil ?_ | refine Q00 ?_ | (apply Q04; (iterate 3 exact rfl)) | (apply Q2f; (iterate 4 exact rfl); all_goals intro hc; all_goals try (exfalso; omega)) | refine Q0i ?_ | refine JC.exit ?_ | refine Q07 rfl ?_ | refine Q0f ?_))
 refine Q0h (A := []) rfl trivial rfl rfl rfl (fun w hk hs => Qh5 w _ _ _ _ (hv.mono hk) hx.lt hs31 (by omega)) fun w v w' _ _ _ hR => ?_
 obtain ⟨Nu, us0, hNu, hOu, hu0, hutop, hval0⟩ := hR
 obtain ⟨bu, capu, restu, rfl, rfl, hcu, hru, hmu⟩ := hOu.blk (by omega)
 refine ⟨_, hNu, ?_⟩
 (repeat' (first | (apply Q04; (iterate 3 exact rfl))))
 refine Q0h (A := [_]) rfl trivial rfl rfl rfl (fun w hk' hs => Qh5 w _ _ _ _ (hu.mono hk') hy.lt hs31 (by omega)) fun w v w' _ _ _ hR => ?_
 obtain ⟨Nv, vs0, hNv, hOv, hv0, _, hvalv⟩ := hR
 obtain ⟨bv, capv, restv, rfl, rfl, hcv, hrv, hmv⟩ := hOv.blk (by omega)
 refine ⟨_, hNv, ?_⟩
 skip
 refine Q09 trivial rfl rfl rfl (fun w hk hs => Q3e w _ _ _ _ (hOv.rd.at hk hs (by (repeat' first | exact HSub.nil _ | exact HSub.hd | exact Q03 | exact HSub.refl _ | refine HSub.skip ?_ | refine Q01 ?_))) (by omega)) fun w v w' _ _ _ hR => ?_
 obtain ⟨kv, hkv, rfl, hnv⟩ := hR
 have hOv1 := hOv.hd hkv
 rw [← hnv] at hOv1
 have hDv : Dig W32 (nrm vs0) := Q2n hv0
 have hVv : val W32 (nrm vs0) = 2 ^ s * val W32 ys := by rw [Q1o, hvalv]
 obtain ⟨hlv, hVge⟩ := Qfl hs31 hly hk0 hy hts hDv hVv
 obtain rfl : kv = k := by rw [← hlv]; exact hOv1.len.symm
 have hlu0 := hOu.len
 have hV0 : 0 < val W32 (nrm vs0) := by rw [hVv]; exact Nat.mul_pos (Nat.pow_pos (by decide)) h0
 have hbig := Qfk hu0 hlu0 (by omega) hkn hutop hVge
 generalize nrm vs0 = vs at hnv hOv1 hDv hVv hlv hVge hV0 hbig
 clear hvalv hnv
 (repeat' (first | refine JC.seq ?_ | refine JC.ops ?_ | refine JO.nil ?_ | refine Q00 ?_ | (apply Q04; (iterate 3 exact rfl)) | (apply Q02; (iterate 3 exact rfl)) | (apply Q4w; (iterate 3 exact rfl)) | (apply Q4r; (iterate 4 exact rfl); omega)))
 refine Q3q (n := n + 1 - kv) rfl rfl rfl rfl rfl (by omega) (by omega) (fun bq => ?_)
 have hOq := Q25 bq (n + 1 - kv) (by simp only [maxLen]; omega)
 have htv : vs.getD (kv - 1) 0 < 4294967296 := Q0s (b := W32) (by decide) hDv.lt (kv - 1)
 have hsv : vs.getD (kv - 2) 0 < 4294967296 := Q0s (b := W32) (by decide) hDv.lt (kv - 2)
 have htv0 : 0 < vs.getD (kv - 1) 0 := by
  refine Nat.pos_of_ne_zero fun e => ?_
  have h2 := Q27 W32 vs (kv - 1) (by omega)
  rw [Q1g (by omega), e, Q1d (by omega)] at h2
  have h3 := Q2p hDv.lt (k := kv - 1) (by omega)
  simp only [Nat.mul_zero, Nat.add_zero] at h2
  have := Nat.le_mul_of_pos_left (W32 ^ (kv - 1)) (Nat.pow_pos (n := s) (show 0 < 2 by decide))
  have hVge' : 2 ^ s * W32 ^ (kv - 1) ≤ val W32 vs := hVge
  omega
 (repeat' (first | refine JC.seq ?_ | refine JC.ops ?_ | refine JC.opsD ?_ | refine JO.nil ?_ | refine Q00 ?_ | (apply Q04; (iterate 3 exact rfl)) | (apply Q02; (iterate 3 exact rfl)) | (apply Q4w; (iterate 3 exact rfl)) | (apply Q2m; (iterate 4 exact rfl); omega) | (apply Qbi; (iterate 4 exact rfl); omega) | (apply Q1i; (iterate 4 exact rfl); (first | assumption | exact WU.rd (by assumption) rfl [] | exact OwnU.rd (by assumption)); (first | assumption | omega)) | (apply Q31; (iterate 4 exact rfl); (first | assumption | exact WU.rd (by assumption) rfl [] | exact OwnU.rd (by assumption)); (repeat' first | exact HSub.nil _ | exact HSub.hd | exact Q03 | exact HSub.refl _ | refine HSub.skip ?_ | refine Q01 ?_); (first | assumption | omega)) | refine JC.block ?_))
 rw [show (Value.int IntKind.i64 ((n + 1 - kv - 1 : Nat) : Int)) = iv (((n + 1 - kv : Nat) : Int) - 1) from by congr 1; omega]
 have hvs : vs.length = kv := hlv
 refine Q0k (ι := Nat × List Nat × SHeap × List Nat) ⟨fun z => [(14, iv ((z.1 : Int) - 1)), (13, uv (vs.getD (kv - 2) 0)), (12, uv (vs.getD (kv - 1) 0)), (11, .slice (some ⟨bq, 0, none⟩) (n + 1 - kv) (n + 1 - kv)), (10, .slice (some ⟨bv, 0, none⟩) kv capv), (9, .slice (some ⟨bu, 0, none⟩) (n + 1) capu), (8, nv s)],
  fun z => (bu, .cells (rowCU z.2.1 restu) 71 (0, 0)) :: (bv, .cells (rowCU vs0 restv) 71 (0, 0)) :: (z.2.2.1 ++ []),
  fun z => z.1 ≤ n + 1 - kv ∧ z.2.1.length = n + 1 ∧ (∀ x ∈ z.2.1, x < W32) ∧ OwnU z.2.2.1 (.slice (some ⟨bq, 0, none⟩) (n + 1 - kv) (n + 1 - kv)) (n + 1 - kv) z.2.2.2 ∧ (∀ x ∈ z.2.2.2, x < W32) ∧ val W32 (z.2.1.drop z.1) < val W32 vs ∧ val W32 z.2.1 + val W32 vs * (W32 ^ z.1 * val W32 (z.2.2.2.drop z.1)) = 2 ^ s * val W32 xs, fun z => z.1⟩
  (n + 1 - kv, us0, _, _) ⟨Nat.le_refl _, hlu0, hu0, hOq, fun x hx => by obtain ⟨a, _, rfl⟩ := List.mem_map.1 hx; decide, hbig, by
   show val W32 us0 + val W32 vs * (W32 ^ (n + 1 - kv) * val W32 ((tab (n + 1 - kv) fun _ => 0).drop (n + 1 - kv))) = _
   rw [Q1d (by simp [tab]), Nat.mul_zero, Nat.mul_zero, Nat.add_zero, hval0]⟩ (by repeat first | exact trivial | refine ⟨rfl, ?_⟩) (by exact HSub.at 1 rfl (HSub.at 1 rfl (HSub.at 0 rfl (HSub.nil _)))) (fun z hz => ?_)
 clear hOu hOq hlu0 hu0 hutop hval0 hbig hNu
 obtain ⟨j, us, Nq, qs⟩ := z
 obtain ⟨hj, hlu, hu0, hOq, hqs, hdr, hval⟩ := hz
 dsimp only at hj hlu hu0 hOq hqs hdr hval ⊢
 have hOu : OwnU [(bu, .cells (rowCU us restu) 71 (0, 0))] (.slice (some ⟨bu, 0, none⟩) (n + 1) capu) (n + 1) us := Q7e hlu hcu hru hmu
 have hlq := hOq.len
 rcases j with _ | i
 ·(repeat' (first | refine JC.seq ?_ | refine JC.ops ?_ | refine JO.nil ?_ | refine Q00 ?_ | (apply Q04; (iterate 3 exact rfl)) | (apply Q2k; (iterate 4 exact rfl); all_goals intro hc; all_goals try (exfalso; omega)) | refine Q0i ?_ | refine JC.exit ?_ | refine Q07 rfl ?_ | refine Q0f ?_))
  refine Q09 trivial rfl rfl rfl (fun w hk hs => Q3e w _ _ _ _ (hOq.rd.at hk hs (by (repeat' first | exact HSub.nil _ | exact HSub.hd | exact Q03 | exact HSub.refl _ | refine HSub.skip ?_ | refine Q01 ?_))) (by omega)) fun w v w' _ _ _ hR => ?_
  obtain ⟨kq, hkq, rfl, hnq⟩ := hR
  have hOq' := hOq.hd hkq
  rw [← hnq] at hOq'
  have hql : (nrm qs).length = kq := hOq'.len
  (repeat' (first | (apply Q04; (iterate 3 exact rfl))))
  refine Q09 trivial rfl rfl rfl (fun w hk hs => Q3e w _ _ _ _ (hOu.rd.at hk hs (by (repeat' first | exact HSub.nil _ | exact HSub.hd | exact Q03 | exact HSub.refl _ | refine HSub.skip ?_ | refine Q01 ?_))) (by omega)) fun w v w' _ _ _ hR => ?_
  obtain ⟨ku, hku, rfl, hnu⟩ := hR
  have hOu' := hOu.hd hku
  rw [← hnu] at hOu'
  have hDu : Dig W32 (nrm us) := Q2n hu0
  (repeat' (first | (apply Q04; (iterate 3 exact rfl))))
  refine Q0h (A := [_, _]) rfl trivial rfl rfl rfl (fun w hk hs => Qh1 w _ _ _ _ (hOu'.rd.at hk hs (by (repeat' first | exact HSub.nil _ | exact HSub.hd | exact Q03 | exact HSub.refl _ | refine HSub.skip ?_ | refine Q01 ?_))) hDu.lt hs31 (by omega)) fun w v w' _ _ _ hR => ?_
  obtain ⟨Nr, rs, hNr, hOr, hr, hvr⟩ := hR
  refine ⟨Nr, hNr, ?_⟩
  rw [Q1o] at hvr
  simp only [List.drop_zero, Nat.pow_zero, Nat.one_mul] at hdr hval
  rw [hVv] at hval hdr
  have hfin := Qgq (Nat.pow_pos (by decide)) hval hdr
  (repeat' (first | refine JO.nil ?_ | refine Q00 ?_ | (apply Q02; (iterate 3 exact rfl)) | refine JC.ret ?_))
  exact Q8s rfl rfl (fun a w' st => ⟨st.kp, ⟨Nq, Nr, _, _, nrm qs, rs, rfl, st.newOf rfl (by
   refine HSub.trans ?_ (HSub.skip (HSub.skip (HSub.refl _)))
   exact ⟨[], by simpa using List.perm_append_comm⟩), by rw [hql]; exact hOq', .inl hOr, Q2n hqs, hr, by rw [Q1o, hvr]; exact hfin.1, by rw [hvr]; exact hfin.2⟩⟩)
 have hiv : iv (((i + 1 : Nat) : Int) - 1) = nv i := by
  show iv _ = iv _
  congr 1
  omega
 rw [hiv]
 have hst := Qlo (W := W32) hu0 hDv.lt hlv (by omega) (show i + kv < us.length by omega) hdr
 have ha : us.getD (i + kv) 0 < 4294967296 := Q0s (b := W32) (by decide) hu0 _
 have hb : us.getD (i + kv - 1) 0 < 4294967296 := Q0s (b := W32) (by decide) hu0 _
 have hcc : us.getD (i + kv - 2) 0 < 4294967296 := Q0s (b := W32) (by decide) hu0 _
 (repeat' (first | refine JC.seq ?_ | refine JC.ops ?_ | refine JC.opsD ?_ | refine JO.nil ?_ | refine Q00 ?_ | (apply Q04; (iterate 3 exact rfl)) | (apply Q02; (iterate 3 exact rfl)) | (apply Q4w; (iterate 3 exact rfl)) | (apply Q1a; (iterate 4 exact rfl); omega) | (apply Q2m; (iterate 4 exact rfl); omega) | (apply Qaa; (iterate 4 exact rfl); (first | assumption | omega)) | (apply Qdj; (iterate 4 exact rfl); (first | assumption | omega | exact ⟨by assumption, by assumption⟩)) | (apply Q1i; (iterate 4 exact rfl); (first | assumption | exact WU.rd (by assumption) rfl [] | exact OwnU.rd (by assumption)); (first | assumption | omega)) | (apply Q31; (iterate 4 exact rfl); (first | assumption | exact WU.rd (by assumption) rfl [] | exact OwnU.rd (by assumption)); (repeat' first | exact HSub.nil _ | exact HSub.hd | exact Q03 | exact HSub.refl _ | refine HSub.skip ?_ | refine Q01 ?_); (first | assumption | omega)) | (apply Qdi; (iterate 4 exact rfl); (first | assumption | omega)) | (apply Qdh; (iterate 4 exact rfl); (first | assumption | omega)) | (apply Q2k; (iterate 4 exact rfl); all_goals intro hc; all_goals try (exfalso; omega)) | refine JC.skip ?_ | refine Q08 rfl ?_ | refine JC.block ?_))
 obtain ⟨hUlt, ⟨lv, hlv1, hVeq⟩, ⟨lu, hlu1, hUeq⟩, hhead, htail⟩ := hst
 have hq0 := Qix htv0 hVeq hUeq hcc hlu1
 refine Q0k (ι := Nat × Nat) ⟨fun y => [(17, uv y.1), (18, uv y.2), (15, nv (i + kv)), (14, nv i), (13, uv (vs.getD (kv - 2) 0)), (12, uv (vs.getD (kv - 1) 0)), (11, .slice (some ⟨bq, 0, none⟩) (n + 1 - kv) (n + 1 - kv)), (10, .slice (some ⟨bv, 0, none⟩) kv capv), (9, .slice (some ⟨bu, 0, none⟩) (n + 1) capu), (8, nv s)],
  fun _ => (bu, .cells (rowCU us restu) 71 (0, 0)) :: (bv, .cells (rowCU vs0 restv) 71 (0, 0)) :: (Nq ++ []),
  fun y => us.getD (i + kv) 0 * 4294967296 + us.getD (i + kv - 1) 0 = y.1 * vs.getD (kv - 1) 0 + y.2 ∧ val W32 (us.drop i) / val W32 vs ≤ y.1, fun y => y.1⟩
  ((us.getD (i + kv) 0 * 4294967296 + us.getD (i + kv - 1) 0) / vs.getD (kv - 1) 0, (us.getD (i + kv) 0 * 4294967296 + us.getD (i + kv - 1) 0) % vs.getD (kv - 1) 0) ⟨by dsimp only; rw [Nat.mul_comm _ (vs.getD (kv - 1) 0)]; exact (Nat.div_add_mod _ _).symm, hq0⟩ (by repeat first | exact trivial | refine ⟨rfl, ?_⟩) (by (first | exact HSub.refl _ | (repeat' first | exact HSub.nil _ | exact HSub.refl _ | refine HSub.at 0 rfl ?_ | refine HSub.at 1 rfl ?_ | refine HSub.at 2 rfl ?_ | refine HSub.at 3 rfl ?_ | refine HSub.at 4 rfl ?_ | refine HSub.at 5 rfl ?_ | refine HSub.at 6 rfl ?_ | refine HSub.at 7 rfl ?_))) (fun y hyy => ?_)
 obtain ⟨G, R⟩ := y
 obtain ⟨hGR, hqG⟩ := hyy
 dsimp only at hGR hqG ⊢
 have hGle : G ≤ G * vs.getD (kv - 1) 0 := Nat.le_mul_of_pos_right _ htv0
 have hqW : val W32 (us.drop i) / val W32 vs < 4294967296 := Nat.div_lt_of_lt_mul hUlt
 have hdecr : ∀ g r, g * vs.getD (kv - 1) 0 + r = G * vs.getD (kv - 1) 0 + R → g + 1 = G → r = R + vs.getD (kv - 1) 0 := by
  intro g r h1 h2
  rw [← h2, Nat.add_mul, Nat.one_mul] at h1
  omega
 have hround : 1 ≤ G → us.getD (i + kv) 0 * 4294967296 + us.getD (i + kv - 1) 0 = (G - 1) * vs.getD (kv - 1) 0 + (R + vs.getD (kv - 1) 0) := by
  intro h1
  have : G * vs.getD (kv - 1) 0 = (G - 1) * vs.getD (kv - 1) 0 + vs.getD (kv - 1) 0 := by
   conv => lhs; rw [show G = G - 1 + 1 by omega, Nat.add_mul, Nat.one_mul]
  omega
 by_cases hg : 4294967295 < G
 ·(repeat' (first | refine JC.seq ?_ | refine JC.ops ?_ | refine JO.nil ?_ | refine Q00 ?_ | (apply Q04; (iterate 3 exact rfl)) | (apply Q02; (iterate 3 exact rfl)) | (apply Q0n; (iterate 4 exact rfl)) | (apply Q87; (iterate 4 exact rfl); (first | assumption | omega)) | (apply Qdo; (iterate 4 exact rfl); (first | assumption | omega)) | (apply Q1l; (iterate 4 exact rfl); all_goals intro hc; all_goals try (exfalso; omega)) | refine JC.skip ?_ | refine Q08 rfl ?_ | refine JC.block ?_ | refine Q0b ?_ | (apply Q10; exact rfl; exact rfl; (first | (intro h; cases h; done) | (intro _; rfl)))))
  exact Q0c (G - 1, R + vs.getD (kv - 1) 0) ⟨hround (by omega), by dsimp only; omega⟩ (by dsimp only; omega) (by repeat first | exact trivial | refine ⟨rfl, ?_⟩) (by (first | exact HSub.refl _ | (repeat' first | exact HSub.nil _ | exact HSub.refl _ | refine HSub.at 0 rfl ?_ | refine HSub.at 1 rfl ?_ | refine HSub.at 2 rfl ?_ | refine HSub.at 3 rfl ?_ | refine HSub.at 4 rfl ?_ | refine HSub.at 5 rfl ?_ | refine HSub.at 6 rfl ?_ | refine HSub.at 7 rfl ?_)))
 have hgs := Qbt (show G < 4294967296 by omega) hsv
 have hout : G * (vs.getD (kv - 1) 0 * W32 + vs.getD (kv - 2) 0) ≤ (us.getD (i + kv) 0 * W32 + us.getD (i + kv - 1) 0) * W32 + us.getD (i + kv - 2) 0 ∨ (R ≤ 4294967295 ∧ R * 4294967296 + us.getD (i + kv - 2) 0 < G * vs.getD (kv - 2) 0) := by
  by_cases h : R ≤ 4294967295 ∧ R * 4294967296 + us.getD (i + kv - 2) 0 < G * vs.getD (kv - 2) 0
  ·exact .inr h
  ·refine .inl (Qnp hGR (by show G < 4294967296; omega) hsv ?_)
   show 4294967296 ≤ R ∨ G * vs.getD (kv - 2) 0 ≤ R * 4294967296 + us.getD (i + kv - 2) 0
   omega
 by_cases hdec : R ≤ 4294967295 ∧ R * 4294967296 + us.getD (i + kv - 2) 0 < G * vs.getD (kv - 2) 0
 ·obtain ⟨hR1, hR2⟩ := hdec
  have hG1 : 1 ≤ G := by
   rcases Nat.eq_zero_or_pos G with h | h
   ·subst h; rw [Nat.zero_mul] at hR2; omega
   ·exact h
  have hqlt : val W32 (us.drop i) / val W32 vs < G := by
   refine Qnr (V2 := vs.getD (kv - 1) 0 * 4294967296 + vs.getD (kv - 2) 0) (U3 := (us.getD (i + kv) 0 * 4294967296 + us.getD (i + kv - 1) 0) * 4294967296 + us.getD (i + kv - 2) 0) hVeq hUeq hlu1 ?_
   rw [hGR, Nat.mul_add, Nat.add_mul, Nat.mul_assoc G]
   omega
  (repeat' (first | refine JC.seq ?_ | refine JC.ops ?_ | refine JO.nil ?_ | refine Q00 ?_ | (apply Q04; (iterate 3 exact rfl)) | (apply Q02; (iterate 3 exact rfl)) | (apply Qbi; (iterate 4 exact rfl); omega) | (apply Q0n; (iterate 4 exact rfl)) | (apply Q0q; (iterate 4 exact rfl)) | (apply Qaa; (iterate 4 exact rfl); (first | assumption | omega)) | (apply Qdj; (iterate 4 exact rfl); (first | assumption | omega | exact ⟨by assumption, by assumption⟩)) | (apply Q1i; (iterate 4 exact rfl); (first | assumption | exact WU.rd (by assumption) rfl [] | exact OwnU.rd (by assumption)); (first | assumption | omega)) | (apply Q31; (iterate 4 exact rfl); (first | assumption | exact WU.rd (by assumption) rfl [] | exact OwnU.rd (by assumption)); (repeat' first | exact HSub.nil _ | exact HSub.hd | exact Q03 | exact HSub.refl _ | refine HSub.skip ?_ | refine Q01 ?_); (first | assumption | omega)) | (apply Q87; (iterate 4 exact rfl); (first | assumption | omega)) | (apply Qg0; (iterate 4 exact rfl); (first | assumption | omega)) | (apply Qdo; (iterate 4 exact rfl); (first | assumption | omega)) | (apply Qab; (iterate 4 exact rfl); all_goals intro hc; all_goals try (exfalso; omega)) | (apply Q1l; (iterate 4 exact rfl); all_goals intro hc; all_goals try (exfalso; omega)) | refine JC.skip ?_ | refine Q08 rfl ?_ | refine JC.block ?_ | refine Q0b ?_))
  exact Q0c (G - 1, R + vs.getD (kv - 1) 0) ⟨hround hG1, by dsimp only; omega⟩ (by dsimp only; omega) (by repeat first | exact trivial | refine ⟨rfl, ?_⟩) (by (first | exact HSub.refl _ | (repeat' first | exact HSub.nil _ | exact HSub.refl _ | refine HSub.at 0 rfl ?_ | refine HSub.at 1 rfl ?_ | refine HSub.at 2 rfl ?_ | refine HSub.at 3 rfl ?_ | refine HSub.at 4 rfl ?_ | refine HSub.at 5 rfl ?_ | refine HSub.at 6 rfl ?_ | refine HSub.at 7 rfl ?_)))
 have hout1 := hout.resolve_right hdec
 have hV2 : 4294967296 ≤ vs.getD (kv - 1) 0 * W32 + vs.getD (kv - 2) 0 := by
  have h1 : 1 * 4294967296 ≤ vs.getD (kv - 1) 0 * 4294967296 := Nat.mul_le_mul_right _ htv0
  exact Nat.le_trans (by omega) (Nat.le_add_right _ _)
 have hGq := Qnq (g := G) hVeq hlv1 (Nat.lt_of_lt_of_le (by decide) hV2) hUeq hout1 (Nat.le_trans (by omega) (Nat.le_succ_of_le hV2))
 by_cases hRm : R ≤ 4294967295
 ·have hR2 : ¬ R * 4294967296 + us.getD (i + kv - 2) 0 < G * vs.getD (kv - 2) 0 := fun h => hdec ⟨hRm, h⟩
  (repeat' (first | refine JC.seq ?_ | refine JC.ops ?_ | refine JO.nil ?_ | refine Q00 ?_ | (apply Q04; (iterate 3 exact rfl)) | (apply Qbi; (iterate 4 exact rfl); omega) | (apply Q0n; (iterate 4 exact rfl)) | (apply Q0q; (iterate 4 exact rfl)) | (apply Qaa; (iterate 4 exact rfl); (first | assumption | omega)) | (apply Qdj; (iterate 4 exact rfl); (first | assumption | omega | exact ⟨by assumption, by assumption⟩)) | (apply Q1i; (iterate 4 exact rfl); (first | assumption | exact WU.rd (by assumption) rfl [] | exact OwnU.rd (by assumption)); (first | assumption | omega)) | (apply Q31; (iterate 4 exact rfl); (first | assumption | exact WU.rd (by assumption) rfl [] | exact OwnU.rd (by assumption)); (repeat' first | exact HSub.nil _ | exact HSub.hd | exact Q03 | exact HSub.refl _ | refine HSub.skip ?_ | refine Q01 ?_); (first | assumption | omega)) | (apply Qg0; (iterate 4 exact rfl); (first | assumption | omega)) | (apply Qab; (iterate 4 exact rfl); all_goals intro hc; all_goals try (exfalso; omega)) | (apply Q1l; (iterate 4 exact rfl); all_goals intro hc; all_goals try (exfalso; omega)) | refine Q0i ?_ | refine JC.exit ?_ | refine Q07 rfl ?_ | refine Q0f ?_))
  refine Q9b (o' := i) rfl rfl rfl rfl (Nat.zero_add _) (by omega) (by omega) ?_
  (repeat' (first | (apply Q04; (iterate 3 exact rfl))))
  refine Q09 trivial rfl rfl rfl (fun w hk hs => by
   have hw := Qb4 (o := i) (k := n + 1 - i) (cc := capu - i) (Q1j hs 0 rfl) (by omega) (by omega)
   rw [List.take_of_length_le (by simp; omega)] at hw
   exact Qk3 w bu i (n + 1 - i) (capu - i) kv G (us.drop i) vs _ hw (hOv1.rd.at hk hs (by (repeat' first | exact HSub.nil _ | exact HSub.hd | exact Q03 | exact HSub.refl _ | refine HSub.skip ?_ | refine Q01 ?_))) (by omega) (fun x hx => hu0 x (List.mem_of_mem_drop hx)) hDv.lt (by omega) (by omega)) fun w v w' _ _ _ hR => ?_
  subst hR
  rw [hhead]
  by_cases hl : val W32 (us.drop i) < val W32 vs * G
  ·rw [decide_eq_true hl]
   have hD : G - 1 = val W32 (us.drop i) / val W32 vs := by
    have h1 := Nat.div_lt_of_lt_mul hl
    generalize val W32 (us.drop i) / val W32 vs = q at *
    omega
   have hG1 : 1 ≤ G := by
    have h1 := Nat.div_lt_of_lt_mul hl
    generalize val W32 (us.drop i) / val W32 vs = q at *
    omega
   have hDlt : G - 1 < 4294967296 := by omega
   (repeat' (first | refine JC.seq ?_ | refine JC.ops ?_ | refine JO.nil ?_ | refine Q00 ?_ | (apply Q04; (iterate 3 exact rfl)) | (apply Q02; (iterate 3 exact rfl)) | (apply Qdo; (iterate 4 exact rfl); (first | assumption | omega)) | refine Q08 rfl ?_))
   refine Q9b (o' := i) rfl rfl rfl rfl (Nat.zero_add _) (by omega) (by omega) ?_
   (repeat' (first | (apply Q04; (iterate 3 exact rfl))))
   refine Q6v (A := []) (N := [_]) (B := (bv, .cells (rowCU vs0 restv) 71 (0, 0)) :: (Nq ++ [])) rfl trivial rfl rfl rfl (fun w hk hs => by
    have c := Qe0 w bu i capu kv (G - 1) capv us vs _ restu (Q1j hs 0 rfl) (by omega) (hOv1.rd.at hk hs (by (repeat' first | exact HSub.nil _ | exact HSub.hd | exact Q03 | exact HSub.refl _ | refine HSub.skip ?_ | refine Q01 ?_))) (fun _ => by simpa using (Qj0 hs 1 0 rfl rfl (by decide))) (by omega) hu0 hDv.lt hDlt (by omega) (by rw [hhead, hD]; exact Nat.mul_div_le _ _) (by omega)
    rw [hlu] at c
    exact c) fun w v w' _ _ _ hR => ?_
   obtain ⟨zs, hzl, hz, hvz, hbl⟩ := hR
   refine ⟨[(bu, .cells (rowCU (put i (kv + 1) zs us) restu) 71 (0, 0))], rfl, fun p hp => by cases List.mem_singleton.1 hp; exact hbl, ?_⟩
   (repeat' (first | refine JC.ops ?_ | refine JO.nil ?_ | refine Q00 ?_ | (apply Q04; (iterate 3 exact rfl)) | (apply Q1i; (iterate 4 exact rfl); (first | assumption | exact WU.rd (by assumption) rfl [] | exact OwnU.rd (by assumption)); (first | assumption | omega))))
   refine Q42 (A := [_, _]) hOq rfl rfl trivial rfl rfl (by omega) (fun Nq' hOq' => ?_)
   (repeat' (first | refine JC.ops ?_ | refine JO.nil ?_ | refine Q00 ?_ | (apply Q04; (iterate 3 exact rfl)) | (apply Q02; (iterate 3 exact rfl)) | (apply Q3b; (iterate 4 exact rfl); omega) | refine Q0b ?_))
   have hput := Q9v (b := W32) (zs := zs) (show i + (kv + 1) ≤ us.length by omega) htail
   rw [hhead] at hvz
   refine Q0c (i, put i (kv + 1) zs us, Nq', _) ⟨by dsimp only; omega, by dsimp only; rw [Q53 (by omega) hzl]; exact hlu, Qdq (by decide) hu0 hz.lt, hOq', Q2x hqs hDlt, ?_, ?_⟩ (by dsimp only; omega) (by repeat first | exact trivial | refine ⟨rfl, ?_⟩) (by (first | exact HSub.refl _ | (repeat' first | exact HSub.nil _ | exact HSub.refl _ | refine HSub.at 0 rfl ?_ | refine HSub.at 1 rfl ?_ | refine HSub.at 2 rfl ?_ | refine HSub.at 3 rfl ?_ | refine HSub.at 4 rfl ?_ | refine HSub.at 5 rfl ?_ | refine HSub.at 6 rfl ?_ | refine HSub.at 7 rfl ?_)))
   ·dsimp only
    rw [hput]
    rw [hD] at hvz
    have hm := Nat.mod_lt (val W32 (us.drop i)) hV0
    have hdm := Nat.div_add_mod (val W32 (us.drop i)) (val W32 vs)
    omega
   ·dsimp only
    have e1 := Q27 W32 (put i (kv + 1) zs us) i (by rw [Q53 (by omega) hzl]; omega)
    rw [Q7k (by omega), hput] at e1
    rw [e1, Q1g (l := qs.set i _) (by simp; omega), Q0y (by omega), Q4m]
    have e2 := Q27 W32 us i (by omega)
    rw [e2, Nat.pow_succ] at hval
    exact Qdv hvz.symm hval
  ·rw [decide_eq_false hl]
   have hD : G = val W32 (us.drop i) / val W32 vs := by
    have h1 : G ≤ val W32 (us.drop i) / val W32 vs := (Nat.le_div_iff_mul_le hV0).2 (by rw [Nat.mul_comm]; omega)
    exact Nat.le_antisymm h1 hqG
   have hDlt : G < 4294967296 := by omega
   (repeat' (first | refine JC.seq ?_ | refine JC.ops ?_ | refine JO.nil ?_ | refine Q00 ?_ | (apply Q04; (iterate 3 exact rfl)) | refine JC.skip ?_ | refine Q07 rfl ?_))
   refine Q9b (o' := i) rfl rfl rfl rfl (Nat.zero_add _) (by omega) (by omega) ?_
   (repeat' (first | (apply Q04; (iterate 3 exact rfl))))
   refine Q6v (A := []) (N := [_]) (B := (bv, .cells (rowCU vs0 restv) 71 (0, 0)) :: (Nq ++ [])) rfl trivial rfl rfl rfl (fun w hk hs => by
    have c := Qe0 w bu i capu kv (G) capv us vs _ restu (Q1j hs 0 rfl) (by omega) (hOv1.rd.at hk hs (by (repeat' first | exact HSub.nil _ | exact HSub.hd | exact Q03 | exact HSub.refl _ | refine HSub.skip ?_ | refine Q01 ?_))) (fun _ => by simpa using (Qj0 hs 1 0 rfl rfl (by decide))) (by omega) hu0 hDv.lt hDlt (by omega) (by rw [hhead, hD]; exact Nat.mul_div_le _ _) (by omega)
    rw [hlu] at c
    exact c) fun w v w' _ _ _ hR => ?_
   obtain ⟨zs, hzl, hz, hvz, hbl⟩ := hR
   refine ⟨[(bu, .cells (rowCU (put i (kv + 1) zs us) restu) 71 (0, 0))], rfl, fun p hp => by cases List.mem_singleton.1 hp; exact hbl, ?_⟩
   (repeat' (first | refine JC.ops ?_ | refine JO.nil ?_ | refine Q00 ?_ | (apply Q04; (iterate 3 exact rfl)) | (apply Q1i; (iterate 4 exact rfl); (first | assumption | exact WU.rd (by assumption) rfl [] | exact OwnU.rd (by assumption)); (first | assumption | omega))))
   refine Q42 (A := [_, _]) hOq rfl rfl trivial rfl rfl (by omega) (fun Nq' hOq' => ?_)
   (repeat' (first | refine JC.ops ?_ | refine JO.nil ?_ | refine Q00 ?_ | (apply Q04; (iterate 3 exact rfl)) | (apply Q02; (iterate 3 exact rfl)) | (apply Q3b; (iterate 4 exact rfl); omega) | refine Q0b ?_))
   have hput := Q9v (b := W32) (zs := zs) (show i + (kv + 1) ≤ us.length by omega) htail
   rw [hhead] at hvz
   refine Q0c (i, put i (kv + 1) zs us, Nq', _) ⟨by dsimp only; omega, by dsimp only; rw [Q53 (by omega) hzl]; exact hlu, Qdq (by decide) hu0 hz.lt, hOq', Q2x hqs hDlt, ?_, ?_⟩ (by dsimp only; omega) (by repeat first | exact trivial | refine ⟨rfl, ?_⟩) (by (first | exact HSub.refl _ | (repeat' first | exact HSub.nil _ | exact HSub.refl _ | refine HSub.at 0 rfl ?_ | refine HSub.at 1 rfl ?_ | refine HSub.at 2 rfl ?_ | refine HSub.at 3 rfl ?_ | refine HSub.at 4 rfl ?_ | refine HSub.at 5 rfl ?_ | refine HSub.at 6 rfl ?_ | refine HSub.at 7 rfl ?_)))
   ·dsimp only
    rw [hput]
    rw [hD] at hvz
    have hm := Nat.mod_lt (val W32 (us.drop i)) hV0
    have hdm := Nat.div_add_mod (val W32 (us.drop i)) (val W32 vs)
    omega
   ·dsimp only
    have e1 := Q27 W32 (put i (kv + 1) zs us) i (by rw [Q53 (by omega) hzl]; omega)
    rw [Q7k (by omega), hput] at e1
    rw [e1, Q1g (l := qs.set i _) (by simp; omega), Q0y (by omega), Q4m]
    have e2 := Q27 W32 us i (by omega)
    rw [e2, Nat.pow_succ] at hval
    exact Qdv hvz.symm hval
 ·(repeat' (first | refine JC.seq ?_ | refine JC.ops ?_ | refine JO.nil ?_ | refine Q00 ?_ | (apply Q04; (iterate 3 exact rfl)) | (apply Q0q; (iterate 4 exact rfl)) | (apply Qab; (iterate 4 exact rfl); all_goals intro hc; all_goals try (exfalso; omega)) | (apply Q1l; (iterate 4 exact rfl); all_goals intro hc; all_goals try (exfalso; omega)) | refine Q0i ?_ | refine JC.exit ?_ | refine Q07 rfl ?_ | refine Q0f ?_ | (apply Q10; exact rfl; exact rfl; (first | (intro h; cases h; done) | (intro _; rfl)))))
  refine Q9b (o' := i) rfl rfl rfl rfl (Nat.zero_add _) (by omega) (by omega) ?_
  (repeat' (first | (apply Q04; (iterate 3 exact rfl))))
  refine Q09 trivial rfl rfl rfl (fun w hk hs => by
   have hw := Qb4 (o := i) (k := n + 1 - i) (cc := capu - i) (Q1j hs 0 rfl) (by omega) (by omega)
   rw [List.take_of_length_le (by simp; omega)] at hw
   exact Qk3 w bu i (n + 1 - i) (capu - i) kv G (us.drop i) vs _ hw (hOv1.rd.at hk hs (by (repeat' first | exact HSub.nil _ | exact HSub.hd | exact Q03 | exact HSub.refl _ | refine HSub.skip ?_ | refine Q01 ?_))) (by omega) (fun x hx => hu0 x (List.mem_of_mem_drop hx)) hDv.lt (by omega) (by omega)) fun w v w' _ _ _ hR => ?_
  subst hR
  rw [hhead]
  by_cases hl : val W32 (us.drop i) < val W32 vs * G
  ·rw [decide_eq_true hl]
   have hD : G - 1 = val W32 (us.drop i) / val W32 vs := by
    have h1 := Nat.div_lt_of_lt_mul hl
    generalize val W32 (us.drop i) / val W32 vs = q at *
    omega
   have hG1 : 1 ≤ G := by
    have h1 := Nat.div_lt_of_lt_mul hl
    generalize val W32 (us.drop i) / val W32 vs = q at *
    omega
   have hDlt : G - 1 < 4294967296 := by omega
   (repeat' (first | refine JC.seq ?_ | refine JC.ops ?_ | refine JO.nil ?_ | refine Q00 ?_ | (apply Q04; (iterate 3 exact rfl)) | (apply Q02; (iterate 3 exact rfl)) | (apply Qdo; (iterate 4 exact rfl); (first | assumption | omega)) | refine Q08 rfl ?_))
   refine Q9b (o' := i) rfl rfl rfl rfl (Nat.zero_add _) (by omega) (by omega) ?_
   (repeat' (first | (apply Q04; (iterate 3 exact rfl))))
   refine Q6v (A := []) (N := [_]) (B := (bv, .cells (rowCU vs0 restv) 71 (0, 0)) :: (Nq ++ [])) rfl trivial rfl rfl rfl (fun w hk hs => by
    have c := Qe0 w bu i capu kv (G - 1) capv us vs _ restu (Q1j hs 0 rfl) (by omega) (hOv1.rd.at hk hs (by (repeat' first | exact HSub.nil _ | exact HSub.hd | exact Q03 | exact HSub.refl _ | refine HSub.skip ?_ | refine Q01 ?_))) (fun _ => by simpa using (Qj0 hs 1 0 rfl rfl (by decide))) (by omega) hu0 hDv.lt hDlt (by omega) (by rw [hhead, hD]; exact Nat.mul_div_le _ _) (by omega)
    rw [hlu] at c
    exact c) fun w v w' _ _ _ hR => ?_
   obtain ⟨zs, hzl, hz, hvz, hbl⟩ := hR
   refine ⟨[(bu, .cells (rowCU (put i (kv + 1) zs us) restu) 71 (0, 0))], rfl, fun p hp => by cases List.mem_singleton.1 hp; exact hbl, ?_⟩
   (repeat' (first | refine JC.ops ?_ | refine JO.nil ?_ | refine Q00 ?_ | (apply Q04; (iterate 3 exact rfl)) | (apply Q1i; (iterate 4 exact rfl); (first | assumption | exact WU.rd (by assumption) rfl [] | exact OwnU.rd (by assumption)); (first | assumption | omega))))
   refine Q42 (A := [_, _]) hOq rfl rfl trivial rfl rfl (by omega) (fun Nq' hOq' => ?_)
   (repeat' (first | refine JC.ops ?_ | refine JO.nil ?_ | refine Q00 ?_ | (apply Q04; (iterate 3 exact rfl)) | (apply Q02; (iterate 3 exact rfl)) | (apply Q3b; (iterate 4 exact rfl); omega) | refine Q0b ?_))
   have hput := Q9v (b := W32) (zs := zs) (show i + (kv + 1) ≤ us.length by omega) htail
   rw [hhead] at hvz
   refine Q0c (i, put i (kv + 1) zs us, Nq', _) ⟨by dsimp only; omega, by dsimp only; rw [Q53 (by omega) hzl]; exact hlu, Qdq (by decide) hu0 hz.lt, hOq', Q2x hqs hDlt, ?_, ?_⟩ (by dsimp only; omega) (by repeat first | exact trivial | refine ⟨rfl, ?_⟩) (by (first | exact HSub.refl _ | (repeat' first | exact HSub.nil _ | exact HSub.refl _ | refine HSub.at 0 rfl ?_ | refine HSub.at 1 rfl ?_ | refine HSub.at 2 rfl ?_ | refine HSub.at 3 rfl ?_ | refine HSub.at 4 rfl ?_ | refine HSub.at 5 rfl ?_ | refine HSub.at 6 rfl ?_ | refine HSub.at 7 rfl ?_)))
   ·dsimp only
    rw [hput]
    rw [hD] at hvz
    have hm := Nat.mod_lt (val W32 (us.drop i)) hV0
    have hdm := Nat.div_add_mod (val W32 (us.drop i)) (val W32 vs)
    omega
   ·dsimp only
    have e1 := Q27 W32 (put i (kv + 1) zs us) i (by rw [Q53 (by omega) hzl]; omega)
    rw [Q7k (by omega), hput] at e1
    rw [e1, Q1g (l := qs.set i _) (by simp; omega), Q0y (by omega), Q4m]
    have e2 := Q27 W32 us i (by omega)
    rw [e2, Nat.pow_succ] at hval
    exact Qdv hvz.symm hval
  ·rw [decide_eq_false hl]
   have hD : G = val W32 (us.drop i) / val W32 vs := by
    have h1 : G ≤ val W32 (us.drop i) / val W32 vs := (Nat.le_div_iff_mul_le hV0).2 (by rw [Nat.mul_comm]; omega)
    exact Nat.le_antisymm h1 hqG
   have hDlt : G < 4294967296 := by omega
   (repeat' (first | refine JC.seq ?_ | refine JC.ops ?_ | refine JO.nil ?_ | refine Q00 ?_ | (apply Q04; (iterate 3 exact rfl)) | refine JC.skip ?_ | refine Q07 rfl ?_))
   refine Q9b (o' := i) rfl rfl rfl rfl (Nat.zero_add _) (by omega) (by omega) ?_
   (repeat' (first | (apply Q04; (iterate 3 exact rfl))))
   refine Q6v (A := []) (N := [_]) (B := (bv, .cells (rowCU vs0 restv) 71 (0, 0)) :: (Nq ++ [])) rfl trivial rfl rfl rfl (fun w hk hs => by
    have c := Qe0 w bu i capu kv (G) capv us vs _ restu (Q1j hs 0 rfl) (by omega) (hOv1.rd.at hk hs (by (repeat' first | exact HSub.nil _ | exact HSub.hd | exact Q03 | exact HSub.refl _ | refine HSub.skip ?_ | refine Q01 ?_))) (fun _ => by simpa using (Qj0 hs 1 0 rfl rfl (by decide))) (by omega) hu0 hDv.lt hDlt (by omega) (by rw [hhead, hD]; exact Nat.mul_div_le _ _) (by omega)
    rw [hlu] at c
    exact c) fun w v w' _ _ _ hR => ?_
   obtain ⟨zs, hzl, hz, hvz, hbl⟩ := hR
   refine ⟨[(bu, .cells (rowCU (put i (kv + 1) zs us) restu) 71 (0, 0))], rfl, fun p hp => by cases List.mem_singleton.1 hp; exact hbl, ?_⟩
   (repeat' (first | refine JC.ops ?_ | refine JO.nil ?_ | refine Q00 ?_ | (apply Q04; (iterate 3 exact rfl)) | (apply Q1i; (iterate 4 exact rfl); (first | assumption | exact WU.rd (by assumption) rfl [] | exact OwnU.rd (by assumption)); (first | assumption | omega))))
   refine Q42 (A := [_, _]) hOq rfl rfl trivial rfl rfl (by omega) (fun Nq' hOq' => ?_)
   (repeat' (first | refine JC.ops ?_ | refine JO.nil ?_ | refine Q00 ?_ | (apply Q04; (iterate 3 exact rfl)) | (apply Q02; (iterate 3 exact rfl)) | (apply Q3b; (iterate 4 exact rfl); omega) | refine Q0b ?_))
   have hput := Q9v (b := W32) (zs := zs) (show i + (kv + 1) ≤ us.length by omega) htail
   rw [hhead] at hvz
   refine Q0c (i, put i (kv + 1) zs us, Nq', _) ⟨by dsimp only; omega, by dsimp only; rw [Q53 (by omega) hzl]; exact hlu, Qdq (by decide) hu0 hz.lt, hOq', Q2x hqs hDlt, ?_, ?_⟩ (by dsimp only; omega) (by repeat first | exact trivial | refine ⟨rfl, ?_⟩) (by (first | exact HSub.refl _ | (repeat' first | exact HSub.nil _ | exact HSub.refl _ | refine HSub.at 0 rfl ?_ | refine HSub.at 1 rfl ?_ | refine HSub.at 2 rfl ?_ | refine HSub.at 3 rfl ?_ | refine HSub.at 4 rfl ?_ | refine HSub.at 5 rfl ?_ | refine HSub.at 6 rfl ?_ | refine HSub.at 7 rfl ?_)))
   ·dsimp only
    rw [hput]
    rw [hD] at hvz
    have hm := Nat.mod_lt (val W32 (us.drop i)) hV0
    have hdm := Nat.div_add_mod (val W32 (us.drop i)) (val W32 vs)
    omega
   ·dsimp only
    have e1 := Q27 W32 (put i (kv + 1) zs us) i (by rw [Q53 (by omega) hzl]; omega)
    rw [Q7k (by omega), hput] at e1
    rw [e1, Q1g (l := qs.set i _) (by simp; omega), Q0y (by omega), Q4m]
    have e2 := Q27 W32 us i (by omega)
    rw [e2, Nat.pow_succ] at hval
    exact Qdv hvz.symm hval


section
variable {c : Cx} {Q : Exit → Act → World → Prop} {m : Mode} {F : SFrame} {H Hs : SHeap} {r : List SOp} {g : Option (Option Tmp × Bool)} {ns : Bool} {d : Tmp} {ty t t' : TypeId} {x y : Operand}

theorem Qcc {vs cs : Array Value} (h : vs.size = cs.size) : storeL cs 0 vs.toList = vs := by
 have key : ∀ (l : List Value) (cs : Array Value) (o : Nat), o + l.length = cs.size → (storeL cs o l).toList = cs.toList.take o ++ l := by
  intro l
  induction l with
  | nil =>
   intro cs o h
   simp only [List.length_nil, Nat.add_zero] at h
   rw [storeL, List.append_nil, List.take_of_length_le (by simp [h])]
  | cons v l ih =>
   intro cs o h
   simp only [List.length_cons] at h
   rw [storeL, ih _ _ (by rw [Array.size_setIfInBounds]; omega), Array.toList_setIfInBounds]
   have hlt : o < (cs.toList.set o v).length := by simp; omega
   rw [List.take_succ_eq_append_getElem hlt, List.take_set_of_le (Nat.le_refl _)]
   simp
 have := key vs.toList cs 0 (by simp; omega)
 apply Array.ext'
 simpa using this

theorem Qfx {b n : Nat} (k : Nat) {cs vs : Array Value} {T : TypeId} [TN c.P t n] (hg : guardF F g = some true) (hx : ev F x = some (.pointer (some ⟨b, 0, none⟩))) (hy : ev F y = some (.agg vs))
  (hb : H[k]? = some (b, .cells cs T (0, 0))) (hn : vs.size = n) (hn' : cs.size = n) (hv : (vs.toList.all (·.oneCell')) = true) (hHs : HSub Hs (H.set k (b, .cells vs T (0, 0)))) (h : JO c Q (.draw Hs true) r F (H.set k (b, .cells vs T (0, 0)))) :
  JO c Q (.draw Hs true) (⟨none, .store t x y, ty, g, .seq, ns⟩ :: r) F H := by
 refine ⟨⟨rfl, .inr ⟨hg, fun a w st _ => ?_⟩⟩⟩
 have hm' : (b, Obj.cells cs T (0, 0)) ∈ H := List.mem_of_getElem? hb
 obtain ⟨w', h1, h2, h3, h4, h5, h6, h7⟩ := Q5o (P := c.P) (t := t) (n := n) TN.size (o := 0) (v := .agg vs) (w := w) (by show vs.size = n; exact hn) (by show ∀ u ∈ vs.toList, _; exact List.all_eq_true.1 hv) (st.hs.blk _ hm') (by omega)
 have h2 : w'.heap[b]? = some (.cells (storeL cs 0 vs.toList) T (0, 0)) := h2
 rw [Qcc (by omega)] at h2
 obtain ⟨st', hstep⟩ := setBlk st hb h2 h3 h4 h5 h6 h7
 unfold Oper.wp SOp.oper
 simp only [execOp, st.fr.ev hx, st.fr.ev hy, Sem.run_bind, h1, Result.andThen_ok, Sem.run_pure]
 exact ⟨hstep, F, _, .draw Hs true, st', fun j hj => .inl (Qap hb j hj), ⟨rfl, fun _ => ⟨rfl, hHs.hsat st'.hs⟩, fun _ => rfl, .inl rfl⟩, h.h⟩

end

theorem Qjj {c : Cx} {Q : Exit → Act → World → Prop} {F : SFrame} {H : SHeap} {id : Nat} {ops : Array Oper} (Hs : SHeap) (hHs : HSub Hs H) (i j : Nat) (kd : Nat → Op → Kind) (t1 t2 : Nat) (o1 o2 : List Nat) (hij : i ≠ j) (hm : c.P.follows .mixedOrders = true)
  (hB1 : canonB c.P kd (edge ops i j) o1 t1 = true) (hB2 : canonB c.P kd (edge ops j i) o2 t2 = true)
  (h1 : JO c Q (.draw Hs true) (sopsAt kd ops t1 o1) F H) (h2 : JO c Q (.draw Hs true) (sopsAt kd ops t2 o2) F H) : JC c Q (.raw (.region id ops true)) F H := ⟨fun a w st => by
 show (Code.region id ops true).wp c.P Q a w
 refine wp_mono ?_ (fun e a w h => Only.up e a w h)
 have a1 := Q2y (Q := Q) hB1 st (hHs.hsat st.hs) (by rw [Q2e]; exact h1.h)
 have a2 := Q2y (Q := Q) hB2 st (hHs.hsat st.hs) (by rw [Q2e]; exact h2.h)
 rw [Q8f] at a1 a2
 refine wp_region_draw fun t => ?_
 simp only [Region.schedule, hm, Bool.true_or, if_true]
 rcases Q6a hij _ _ _ (Qah (ops := ops) ops.size t (Array.replicate ops.size false)) with h | h
 ·obtain ⟨t', ht⟩ := Q6z _ _ _ h
  have := wpAny_sound ops.size t' _ a _ a1
  rw [ht] at this
  exact Q22 _ _ _ this
 ·obtain ⟨t', ht⟩ := Q6z _ _ _ h
  have := wpAny_sound ops.size t' _ a _ a2
  rw [ht] at this
  exact Q22 _ _ _ this⟩


def IsZ (v : Value) (a : Int) (k : Nat) : Prop := ∃ p l, v = wv p l ∧ l.length ≤ k ∧ a = sgn p (bval (bts l))
theorem Qmc {l : List UInt8} : ∀ x ∈ bts l, x < 256 := fun x hx => by
 obtain ⟨a, _, rfl⟩ := List.mem_map.1 hx
 exact UInt8.toNat_lt a
theorem Q17 {l : List UInt8} {k : Nat} (h : l.length ≤ k) : bval (bts l) < 256 ^ k := by
 have h1 := Qhc (Qmc (l := l))
 rw [Qb1] at h1
 exact Nat.lt_of_lt_of_le h1 (Nat.pow_le_pow_right (by decide) h)
theorem IsZ.lt {v : Value} {a : Int} {k : Nat} (h : IsZ v a k) : a.natAbs < 256 ^ k := by
 obtain ⟨p, l, rfl, hl, rfl⟩ := h
 rw [Q40]
 exact Q17 hl
theorem IsZ.mono {v : Value} {a : Int} {k k' : Nat} (h : IsZ v a k) (hk : k ≤ k') : IsZ v a k' := by
 obtain ⟨p, l, rfl, hl, rfl⟩ := h
 exact ⟨p, l, rfl, by omega, rfl⟩
theorem Q0t {a : Int} {k : Nat} (h : a.natAbs < 256 ^ k) : IsZ (Wv a) a k :=
 ⟨_, _, rfl, Qan h, by rw [Q8o, Qi8]⟩
theorem Q3l {zs : List Nat} {l : List UInt8} {k : Nat} (hz : Dig W32 zs) (hv : val W32 zs = bval (bts l)) (hl : l.length ≤ k) : zs.length ≤ k := by
 refine hz.len_le (by decide) ?_
 rw [hv]
 exact Nat.lt_of_lt_of_le (Q17 hl) (Nat.pow_le_pow_left (by decide) k)

set_option maxHeartbeats 2000000 in
theorem Qj9 (w : World) (v : Value) (a : Int) (k : Nat) (hv : IsZ v a k) (hk : k ≤ 100000000) :
  Calls Tryz.prog 34 #[v] w (Ret fun r w' => Kp [] w w' ∧ r = Wv (-a)) := by
 obtain ⟨p, l, rfl, hl1, rfl⟩ := hv
 refine Q0a [⟨1, 1, [0, 2, 3, 4, 1, 5, 6], []⟩] [] (by simp) [] Tryz.func34 rfl mixed (by kernel_rfl) Tryz.ntmps34 Tryz.results34 rfl ⟨by simp, by simp⟩ (by simp) ?_
 simp only [toS, textOps, toSOp, kindAt, kindOf, odAt, sopsAt, ordOf, zipF]
 (repeat' (first | refine JC.seq ?_ | refine JC.ops ?_ | refine JC.opsD ?_ | refine JO.nil ?_ | refine Q00 ?_ | (apply Q06; (iterate 3 exact rfl)) | (apply Q0g; (iterate 4 exact rfl); exact at1; exact rfl) | (apply Q0d; (iterate 4 exact rfl); exact at1; exact rfl) | (apply Q1e; (iterate 3 exact rfl)) | (apply Q0e; (iterate 3 exact rfl); intro _) | (apply Q0x; (iterate 4 exact rfl); intro _)))
 refine Q0h (A := [_, _]) rfl trivial rfl rfl rfl (fun w hk hs => Qc2 w p l (by omega)) fun w v w' _ _ _ hR => ?_
 obtain ⟨N1, zs1, hN1, hO1, hz1, hval1⟩ := hR
 refine ⟨N1, hN1, ?_⟩
 have hzl1 := Q3l hz1 hval1 hl1
 skip
 refine Q09 trivial rfl rfl rfl (fun w hk hs => Q2l w _ _ zs1 (!p) (hO1.rd.at hk hs (by (repeat' first | exact HSub.nil _ | exact HSub.hd | exact Q03 | exact HSub.refl _ | refine HSub.skip ?_ | refine Q01 ?_))) hz1.lt (by omega)) fun w v w' _ _ _ hR => ?_
 subst hR
 (repeat' (first | refine JO.nil ?_ | refine Q00 ?_ | (apply Q05; exact rfl; (first | exact trivial | exact ⟨rfl, rfl⟩); exact rfl; exact rfl; exact at0; (iterate 3 exact rfl)) | (apply Q05; exact rfl; (first | exact trivial | exact ⟨rfl, rfl⟩); exact rfl; exact rfl; exact at0; (iterate 3 exact rfl)) | refine JC.ret ?_))
 exact Q0z 0 rfl rfl rfl (fun a w' st => ⟨st.kp, by show Wv (sgn (!p) (val W32 zs1)) = _; rw [hval1, Qfn]⟩)

set_option maxHeartbeats 2000000 in
theorem Qnz (w : World) (v : Value) (a : Int) (k : Nat) (hv : IsZ v a k) (hk : k ≤ 100000000) :
  Calls Tryz.prog 45 #[v] w (Ret fun r w' => Kp [] w w' ∧ r = iv a.sign) := by
 obtain ⟨p, l, rfl, hl1, rfl⟩ := hv
 refine Q0a [] [] (by simp) [] Tryz.func45 rfl mixed (by kernel_rfl) Tryz.ntmps45 Tryz.results45 rfl ⟨by simp, by simp⟩ (by simp) ?_
 simp only [toS, textOps, toSOp, kindAt, kindOf, odAt, sopsAt, ordOf, zipF]
 (repeat' (first | refine JC.seq ?_ | refine JC.ops ?_ | refine JO.nil ?_ | refine Q00 ?_ | (apply Q02; (iterate 3 exact rfl)) | (apply Q0d; (iterate 4 exact rfl); exact at0; exact rfl) | (apply Q0x; (iterate 4 exact rfl); intro _) | refine JC.block ?_))
 refine Q0h (A := [_]) rfl trivial rfl rfl rfl (fun w hk hs => Qc2 w p l (by omega)) fun w v w' _ _ _ hR => ?_
 obtain ⟨N1, zs1, hN1, hO1, hz1, hval1⟩ := hR
 refine ⟨N1, hN1, ?_⟩
 have hzl1 := Q3l hz1 hval1 hl1
 have he := hz1.eq_nil (by decide)
 rw [hval1] at he
 by_cases h0 : zs1.length = 0
 ·have h1 := he.1 (List.eq_nil_of_length_eq_zero h0)
  rw [h1, Q5a]
  (repeat' (first | refine JC.seq ?_ | refine JC.ops ?_ | refine JO.nil ?_ | refine Q00 ?_ | (apply Q02; (iterate 3 exact rfl)) | (apply Q19; (iterate 3 exact rfl); (first | assumption | exact WU.rd (by assumption) rfl [] | exact OwnU.rd (by assumption))) | (apply Q2f; (iterate 4 exact rfl); all_goals intro hc; all_goals try (exfalso; omega)) | refine Q0o ?_ | refine JC.ret ?_ | refine Q08 rfl ?_ | refine Q1b ?_))
  exact Q0j rfl (fun a w' st => ⟨st.kp, rfl⟩)
 ·have h1 : bval (bts l) ≠ 0 := fun h => h0 (by rw [he.2 h]; rfl)
  cases p with
  | false =>
   have h2 : (sgn false (bval (bts l))).sign = 1 := Int.sign_eq_one_of_pos (by simp [sgn]; omega)
   rw [h2]
   (repeat' (first | refine JC.seq ?_ | refine JC.ops ?_ | refine JO.nil ?_ | refine Q00 ?_ | (apply Q06; (iterate 3 exact rfl)) | (apply Q02; (iterate 3 exact rfl)) | (apply Q0g; (iterate 4 exact rfl); exact at0; exact rfl) | (apply Q19; (iterate 3 exact rfl); (first | assumption | exact WU.rd (by assumption) rfl [] | exact OwnU.rd (by assumption))) | (apply Q2f; (iterate 4 exact rfl); all_goals intro hc; all_goals try (exfalso; omega)) | refine JC.skip ?_ | refine JC.ret ?_ | refine Q07 rfl ?_ | refine Q0b ?_))
   exact Q0j rfl (fun a w' st => ⟨st.kp, rfl⟩)
  | true =>
   have h2 : (sgn true (bval (bts l))).sign = -1 := Int.sign_eq_neg_one_of_neg (by simp [sgn]; omega)
   rw [h2]
   (repeat' (first | refine JC.seq ?_ | refine JC.ops ?_ | refine JO.nil ?_ | refine Q00 ?_ | (apply Q06; (iterate 3 exact rfl)) | (apply Q02; (iterate 3 exact rfl)) | (apply Q0g; (iterate 4 exact rfl); exact at0; exact rfl) | (apply Q19; (iterate 3 exact rfl); (first | assumption | exact WU.rd (by assumption) rfl [] | exact OwnU.rd (by assumption))) | (apply Q2f; (iterate 4 exact rfl); all_goals intro hc; all_goals try (exfalso; omega)) | refine Q0o ?_ | refine JC.ret ?_ | refine Q08 rfl ?_ | refine Q07 rfl ?_ | refine Q1b ?_))
   exact Q0j rfl (fun a w' st => ⟨st.kp, rfl⟩)

set_option maxHeartbeats 4000000 in
theorem Qmb (w : World) (v u : Value) (a b : Int) (k : Nat) (hv : IsZ v a k) (hu : IsZ u b k) (hk : k ≤ 100000000) :
  Calls Tryz.prog 57 #[v, u] w (Ret fun r w' => Kp [] w w' ∧ r = Wv (a + b)) := by
 obtain ⟨p, l, rfl, hl1, rfl⟩ := hv
 obtain ⟨q, l', rfl, hl2, rfl⟩ := hu
 refine Q0a [⟨1, 1, [0, 2, 1, 3, 4, 5], []⟩, ⟨3, 2, [0, 1, 3, 4, 2, 5, 6], []⟩, ⟨5, 2, [0, 1, 3, 4, 2, 5, 6], []⟩, ⟨6, 2, [0, 1, 3, 4, 2, 5, 6], []⟩] [] (by simp) [] Tryz.func57 rfl mixed (by kernel_rfl) Tryz.ntmps57 Tryz.results57 rfl ⟨by simp, by simp⟩ (by simp) ?_
 simp only [toS, textOps, toSOp, kindAt, kindOf, odAt, sopsAt, ordOf, zipF]
 (repeat' (first | refine JC.seq ?_ | refine JC.ops ?_ | refine JC.opsD ?_ | refine JO.nil ?_ | refine Q00 ?_ | (apply Q0d; (iterate 4 exact rfl); (first | exact at1 | exact at2); exact rfl) | (apply Q0e; (iterate 3 exact rfl); intro _) | (apply Q0x; (iterate 4 exact rfl); intro _)))
 refine Q0h (A := [_, _, _]) rfl trivial rfl rfl rfl (fun w hk hs => Qc2 w p l (by omega)) fun w v w' _ _ _ hR => ?_
 obtain ⟨N1, zs1, hN1, hO1, hz1, hval1⟩ := hR
 refine ⟨N1, hN1, ?_⟩
 have hzl1 := Q3l hz1 hval1 hl1
 skip
 refine Q0h (A := [_, _, _]) rfl trivial rfl rfl rfl (fun w hk hs => Qc2 w q l' (by omega)) fun w v w' _ _ _ hR => ?_
 obtain ⟨N2, zs2, hN2, hO2, hz2, hval2⟩ := hR
 refine ⟨N2, hN2, ?_⟩
 have hzl2 := Q3l hz2 hval2 hl2
 by_cases hpq : p = q
 ·subst hpq
  (repeat' (first | refine JC.seq ?_ | refine JC.ops ?_ | refine JC.opsD ?_ | refine JO.nil ?_ | refine Q00 ?_ | (apply Q04; (iterate 3 exact rfl)) | (apply Q06; (iterate 3 exact rfl)) | (apply Q02; (iterate 3 exact rfl)) | (apply Q0g; (iterate 4 exact rfl); (first | exact at1 | exact at2); exact rfl) | (apply Qjy; (iterate 4 exact rfl)) | refine Q08 rfl ?_ | refine JC.block ?_))
  refine Q0h (A := [_, _, _]) rfl trivial rfl rfl rfl (fun w hk hs => Qm4 w _ _ _ _ _ _ (hO1.rd.at hk hs (by (repeat' first | exact HSub.nil _ | exact HSub.hd | exact Q03 | exact HSub.refl _ | refine HSub.skip ?_ | refine Q01 ?_))) (hO2.rd.at hk hs (by (repeat' first | exact HSub.nil _ | exact HSub.hd | exact Q03 | exact HSub.refl _ | refine HSub.skip ?_ | refine Q01 ?_))) hz1.lt hz2.lt (by omega) (by omega)) fun w v w' _ _ _ hR => ?_
  obtain ⟨N3, zs3, hN3, hO3, hz3, hval3⟩ := hR
  refine ⟨N3, hN3, ?_⟩
  rw [hval1, hval2] at hval3
  have hzl3 : zs3.length ≤ k + 1 := by
   refine hz3.len_le (by decide) ?_
   rw [hval3, Nat.pow_succ]
   have h1 := Nat.lt_of_lt_of_le (Q17 hl1) (Nat.pow_le_pow_left (show 256 ≤ W32 by decide) k)
   have h2 := Nat.lt_of_lt_of_le (Q17 hl2) (Nat.pow_le_pow_left (show 256 ≤ W32 by decide) k)
   show _ < W32 ^ k * 4294967296
   omega
  skip
  refine Q09 trivial rfl rfl rfl (fun w hk hs => Q2l w _ _ zs3 p (hO3.rd.at hk hs (by (repeat' first | exact HSub.nil _ | exact HSub.hd | exact Q03 | exact HSub.refl _ | refine HSub.skip ?_ | refine Q01 ?_))) hz3.lt (by omega)) fun w v w' _ _ _ hR => ?_
  subst hR
  (repeat' (first | refine JO.nil ?_ | refine Q00 ?_ | (apply Q05; exact rfl; (first | exact trivial | exact ⟨rfl, rfl⟩); exact rfl; exact rfl; exact at0; (iterate 3 exact rfl)) | (apply Q05; exact rfl; (first | exact trivial | exact ⟨rfl, rfl⟩); exact rfl; exact rfl; exact at0; (iterate 3 exact rfl)) | refine Q0o ?_ | refine JC.ret ?_ | refine Q1b ?_))
  exact Q0z 0 rfl rfl rfl (fun a w' st => ⟨st.kp, by show Wv (sgn p (val W32 zs3)) = _; rw [hval3, Qfq]⟩)
 have hpq' : (p == q) = false := by simpa using hpq
 (repeat' (first | refine JC.seq ?_ | refine JC.ops ?_ | refine JO.nil ?_ | refine Q00 ?_ | (apply Q06; (iterate 3 exact rfl)) | (apply Q02; (iterate 3 exact rfl)) | (apply Q0g; (iterate 4 exact rfl); (first | exact at1 | exact at2); exact rfl) | (apply Ql6; (iterate 4 exact rfl)) | refine JC.block ?_))
 rw [hpq']
 (repeat' (first | refine JC.seq ?_ | refine JC.ops ?_ | (apply Q04; (iterate 3 exact rfl)) | refine Q07 rfl ?_))
 refine Q09 trivial rfl rfl rfl (fun w hk hs => Qm3 w _ _ _ _ _ _ (hO1.rd.at hk hs (by (repeat' first | exact HSub.nil _ | exact HSub.hd | exact Q03 | exact HSub.refl _ | refine HSub.skip ?_ | refine Q01 ?_))) (hO2.rd.at hk hs (by (repeat' first | exact HSub.nil _ | exact HSub.hd | exact Q03 | exact HSub.refl _ | refine HSub.skip ?_ | refine Q01 ?_))) hz1 hz2 (by omega) (by omega)) fun w v w' _ _ _ hR => ?_
 subst hR
 by_cases hlt : val W32 zs1 < val W32 zs2
 ·have hneg := Q2u.2 hlt
  have hlen : zs1.length ≤ zs2.length := by
   refine Decidable.byContradiction fun h => ?_
   have := Q32 (b := W32) (by decide) hz2 hz1 (by omega)
   omega
  (repeat' (first | refine JC.seq ?_ | refine JC.opsD ?_ | refine JO.nil ?_ | refine Q00 ?_ | (apply Q04; (iterate 3 exact rfl)) | (apply Q06; (iterate 3 exact rfl)) | (apply Q02; (iterate 3 exact rfl)) | (apply Q0g; (iterate 4 exact rfl); exact at1; exact rfl) | (apply Q0m; (iterate 4 exact rfl); all_goals intro hc; all_goals try (exfalso; omega)) | refine Q08 rfl ?_))
  refine Q0h (A := [_, _, _]) rfl trivial rfl rfl rfl (fun w hk hs => Qh4 w _ _ _ _ _ _ (hO2.rd.at hk hs (by (repeat' first | exact HSub.nil _ | exact HSub.hd | exact Q03 | exact HSub.refl _ | refine HSub.skip ?_ | refine Q01 ?_))) (hO1.rd.at hk hs (by (repeat' first | exact HSub.nil _ | exact HSub.hd | exact Q03 | exact HSub.refl _ | refine HSub.skip ?_ | refine Q01 ?_))) hz2.lt hz1.lt (by omega) hlen (Nat.le_of_lt hlt)) fun w v w' _ _ _ hR => ?_
  obtain ⟨N3, zs3, hN3, hO3, hz3, hval3⟩ := hR
  refine ⟨N3, hN3, ?_⟩
  have hzl3 : zs3.length ≤ k := hz3.len_le (by decide) (Nat.lt_of_le_of_lt (show val W32 zs3 ≤ val W32 zs2 by omega) (by rw [hval2]; exact Nat.lt_of_lt_of_le (Q17 hl2) (Nat.pow_le_pow_left (by decide) k)))
  rw [hval1, hval2] at hval3
  rw [hval1, hval2] at hlt
  skip
  refine Q09 trivial rfl rfl rfl (fun w hk hs => Q2l w _ _ zs3 q (hO3.rd.at hk hs (by (repeat' first | exact HSub.nil _ | exact HSub.hd | exact Q03 | exact HSub.refl _ | refine HSub.skip ?_ | refine Q01 ?_))) hz3.lt (by omega)) fun w v w' _ _ _ hR => ?_
  subst hR
  (repeat' (first | refine JO.nil ?_ | refine Q00 ?_ | (apply Q05; exact rfl; (first | exact trivial | exact ⟨rfl, rfl⟩); exact rfl; exact rfl; exact at0; (iterate 3 exact rfl)) | (apply Q05; exact rfl; (first | exact trivial | exact ⟨rfl, rfl⟩); exact rfl; exact rfl; exact at0; (iterate 3 exact rfl)) | refine Q0o ?_ | refine JC.ret ?_ | refine Q1b ?_))
  exact Q0z 0 rfl rfl rfl (fun a w' st => ⟨st.kp, by show Wv (sgn q (val W32 zs3)) = _; rw [← Qdc hpq hlt, ← hval3, Nat.add_sub_cancel]⟩)
 ·have hneg : ¬ cmpV (val W32 zs1) (val W32 zs2) < 0 := fun h => hlt (Q2u.1 h)
  have hlen : zs2.length ≤ zs1.length := by
   refine Decidable.byContradiction fun h => hlt ?_
   exact Q32 (b := W32) (by decide) hz1 hz2 (by omega)
  (repeat' (first | refine JC.seq ?_ | refine JC.opsD ?_ | refine JO.nil ?_ | refine Q00 ?_ | (apply Q04; (iterate 3 exact rfl)) | (apply Q06; (iterate 3 exact rfl)) | (apply Q02; (iterate 3 exact rfl)) | (apply Q0g; (iterate 4 exact rfl); exact at2; exact rfl) | (apply Q0m; (iterate 4 exact rfl); all_goals intro hc; all_goals try (exfalso; omega)) | refine JC.skip ?_ | refine Q07 rfl ?_ | refine Q0b ?_))
  refine Q0h (A := [_, _, _]) rfl trivial rfl rfl rfl (fun w hk hs => Qh4 w _ _ _ _ _ _ (hO1.rd.at hk hs (by (repeat' first | exact HSub.nil _ | exact HSub.hd | exact Q03 | exact HSub.refl _ | refine HSub.skip ?_ | refine Q01 ?_))) (hO2.rd.at hk hs (by (repeat' first | exact HSub.nil _ | exact HSub.hd | exact Q03 | exact HSub.refl _ | refine HSub.skip ?_ | refine Q01 ?_))) hz1.lt hz2.lt (by omega) hlen (by omega)) fun w v w' _ _ _ hR => ?_
  obtain ⟨N3, zs3, hN3, hO3, hz3, hval3⟩ := hR
  refine ⟨N3, hN3, ?_⟩
  have hzl3 : zs3.length ≤ k := hz3.len_le (by decide) (Nat.lt_of_le_of_lt (show val W32 zs3 ≤ val W32 zs1 by omega) (by rw [hval1]; exact Nat.lt_of_lt_of_le (Q17 hl1) (Nat.pow_le_pow_left (by decide) k)))
  rw [hval1, hval2] at hval3
  rw [hval1, hval2] at hlt
  skip
  refine Q09 trivial rfl rfl rfl (fun w hk hs => Q2l w _ _ zs3 p (hO3.rd.at hk hs (by (repeat' first | exact HSub.nil _ | exact HSub.hd | exact Q03 | exact HSub.refl _ | refine HSub.skip ?_ | refine Q01 ?_))) hz3.lt (by omega)) fun w v w' _ _ _ hR => ?_
  subst hR
  (repeat' (first | refine JO.nil ?_ | refine Q00 ?_ | (apply Q05; exact rfl; (first | exact trivial | exact ⟨rfl, rfl⟩); exact rfl; exact rfl; exact at0; (iterate 3 exact rfl)) | (apply Q05; exact rfl; (first | exact trivial | exact ⟨rfl, rfl⟩); exact rfl; exact rfl; exact at0; (iterate 3 exact rfl)) | refine JC.ret ?_))
  exact Q0z 0 rfl rfl rfl (fun a w' st => ⟨st.kp, by show Wv (sgn p (val W32 zs3)) = _; rw [← Qdb hpq hlt, ← hval3, Nat.add_sub_cancel]⟩)

theorem Qeb {n k : Nat} (h : n < 256 ^ k) {m : Nat} (hm : m < 256 ^ k) : n + m < 256 ^ (k + 1) := by
 rw [Nat.pow_succ]
 omega
theorem IsZ.add {a b : Int} {k : Nat} (h : a.natAbs < 256 ^ k) (h' : b.natAbs < 256 ^ k) : IsZ (Wv (a + b)) (a + b) (k + 1) := Q0t (Nat.lt_of_le_of_lt (Int.natAbs_add_le a b) (Qeb h h'))
set_option maxHeartbeats 2000000 in
theorem Qj7 (w : World) (v u : Value) (a b : Int) (k : Nat) (hv : IsZ v a k) (hu : IsZ u b k) (hk : k ≤ 100000000) :
  Calls Tryz.prog 35 #[v, u] w (Ret fun r w' => Kp [] w w' ∧ r = Wv (a - b)) := by
 have hZ : IsZ (Wv (-b)) (-b) k := Q0t (by rw [Int.natAbs_neg]; exact hu.lt)
 obtain ⟨p, l, rfl, hl1, rfl⟩ := hv
 obtain ⟨q, l', rfl, hl2, rfl⟩ := hu
 refine Q0a [⟨1, 1, [], []⟩] [] (by simp) [] Tryz.func35 rfl mixed (by kernel_rfl) Tryz.ntmps35 Tryz.results35 rfl ⟨by simp, by simp⟩ (by simp) ?_
 simp only [toS, textOps, toSOp, kindAt, kindOf, odAt, sopsAt, ordOf, zipF]
 (repeat' (first | refine JC.seq ?_ | refine JC.ops ?_ | refine JC.opsD ?_ | refine JO.nil ?_ | refine Q00 ?_ | (apply Q0d; (iterate 4 exact rfl); (first | exact at1 | exact at2); exact rfl) | (apply Q0e; (iterate 3 exact rfl); intro _) | (apply Q0x; (iterate 4 exact rfl); intro _)))
 refine Q09 trivial rfl rfl rfl (fun w hk' hs => Qj9 w _ _ k ⟨q, l', rfl, hl2, rfl⟩ hk) fun w v w' _ _ _ hR => ?_
 subst hR
 skip
 refine Q09 trivial rfl rfl rfl (fun w hk' hs => Qmb w _ _ _ _ k ⟨p, l, rfl, hl1, rfl⟩ hZ hk) fun w v w' _ _ _ hR => ?_
 subst hR
 (repeat' (first | refine JO.nil ?_ | refine Q00 ?_ | (apply Q05; exact rfl; (first | exact trivial | exact ⟨rfl, rfl⟩); exact rfl; exact rfl; exact at0; (iterate 3 exact rfl)) | (apply Q05; exact rfl; (first | exact trivial | exact ⟨rfl, rfl⟩); exact rfl; exact rfl; exact at0; (iterate 3 exact rfl)) | refine JC.ret ?_))
 exact Q0z 0 rfl rfl rfl (fun a w' st => ⟨st.kp, by rw [Int.sub_eq_add_neg]; rfl⟩)

set_option maxHeartbeats 2000000 in
theorem Qc4 (w : World) (v u : Value) (a b : Int) (k : Nat) (hv : IsZ v a k) (hu : IsZ u b k) (hk : k ≤ 100000000) :
  Calls Tryz.prog 36 #[v, u] w (Ret fun r w' => Kp [] w w' ∧ r = Wv (a * b)) := by
 obtain ⟨p, l, rfl, hl1, rfl⟩ := hv
 obtain ⟨q, l', rfl, hl2, rfl⟩ := hu
 refine Q0a [⟨1, 1, [0, 2, 5, 6, 7, 8, 9, 1, 3, 4, 10, 11], []⟩] [] (by simp) [] Tryz.func36 rfl mixed (by kernel_rfl) Tryz.ntmps36 Tryz.results36 rfl ⟨by simp, by simp⟩ (by simp) ?_
 simp only [toS, textOps, toSOp, kindAt, kindOf, odAt, sopsAt, ordOf, zipF]
 (repeat' (first | refine JC.seq ?_ | refine JC.ops ?_ | refine JC.opsD ?_ | refine JO.nil ?_ | refine Q00 ?_ | (apply Q06; (iterate 3 exact rfl)) | (apply Q0g; (iterate 4 exact rfl); (first | exact at1 | exact at2); exact rfl) | (apply Q0d; (iterate 4 exact rfl); (first | exact at1 | exact at2); exact rfl) | (apply Q6s; (iterate 4 exact rfl)) | (apply Q0e; (iterate 3 exact rfl); intro _) | (apply Q0x; (iterate 4 exact rfl); intro _)))
 refine Q0h (A := [_, _, _]) rfl trivial rfl rfl rfl (fun w hk hs => Qc2 w p l (by omega)) fun w v w' _ _ _ hR => ?_
 obtain ⟨N1, zs1, hN1, hO1, hz1, hval1⟩ := hR
 refine ⟨N1, hN1, ?_⟩
 have hzl1 := Q3l hz1 hval1 hl1
 skip
 refine Q0h (A := [_, _, _]) rfl trivial rfl rfl rfl (fun w hk hs => Qc2 w q l' (by omega)) fun w v w' _ _ _ hR => ?_
 obtain ⟨N2, zs2, hN2, hO2, hz2, hval2⟩ := hR
 refine ⟨N2, hN2, ?_⟩
 have hzl2 := Q3l hz2 hval2 hl2
 skip
 refine Q0h (A := [_, _, _]) rfl trivial rfl rfl rfl (fun w hk hs => Qh8 w _ _ _ _ _ _ (hO1.rd.at hk hs (by (repeat' first | exact HSub.nil _ | exact HSub.hd | exact Q03 | exact HSub.refl _ | refine HSub.skip ?_ | refine Q01 ?_))) (hO2.rd.at hk hs (by (repeat' first | exact HSub.nil _ | exact HSub.hd | exact Q03 | exact HSub.refl _ | refine HSub.skip ?_ | refine Q01 ?_))) hz1.lt hz2.lt (by omega) (by omega)) fun w v w' _ _ _ hR => ?_
 obtain ⟨N3, zs3, hN3, hO3, hz3, hval3⟩ := hR
 refine ⟨N3, hN3, ?_⟩
 rw [hval1, hval2] at hval3
 have hzl3 : zs3.length ≤ k + k := by
  refine hz3.len_le (by decide) ?_
  rw [hval3, Nat.pow_add]
  have h1 := Nat.lt_of_lt_of_le (Q17 hl1) (Nat.pow_le_pow_left (show 256 ≤ W32 by decide) k)
  have h2 := Nat.lt_of_lt_of_le (Q17 hl2) (Nat.pow_le_pow_left (show 256 ≤ W32 by decide) k)
  exact Nat.mul_lt_mul_of_lt_of_le h1 (Nat.le_of_lt h2) (Nat.pow_pos (by decide))
 skip
 refine Q09 trivial rfl rfl rfl (fun w hk hs => Q2l w _ _ zs3 (p != q) (hO3.rd.at hk hs (by (repeat' first | exact HSub.nil _ | exact HSub.hd | exact Q03 | exact HSub.refl _ | refine HSub.skip ?_ | refine Q01 ?_))) hz3.lt (by omega)) fun w v w' _ _ _ hR => ?_
 subst hR
 (repeat' (first | refine JO.nil ?_ | refine Q00 ?_ | (apply Q05; exact rfl; (first | exact trivial | exact ⟨rfl, rfl⟩); exact rfl; exact rfl; exact at0; (iterate 3 exact rfl)) | (apply Q05; exact rfl; (first | exact trivial | exact ⟨rfl, rfl⟩); exact rfl; exact rfl; exact at0; (iterate 3 exact rfl)) | refine JC.ret ?_))
 exact Q0z 0 rfl rfl rfl (fun a w' st => ⟨st.kp, by show Wv (sgn (p != q) (val W32 zs3)) = _; rw [hval3, Qfp]⟩)


section
variable {c : Cx} {Q : Exit → Act → World → Prop} {m : Mode} {F : SFrame} {H : SHeap} {r : List SOp} {g : Option (Option Tmp × Bool)} {ns : Bool} {d : Tmp} {ty t t' : TypeId} {x y : Operand} {i : Nat}
theorem Qjq (hd : dstOk c.n (some d) = true) (hg : guardF F g = some true) (hx : ev F x = some (uv i)) (hb : i ≤ 18446744073709551616)
  (h : JO c Q m r ((d, uv ((18446744073709551616 - i) % 18446744073709551616)) :: F) H) : JO c Q m (⟨some d, .unOp .neg t x, ty, g, .mov, ns⟩ :: r) F H :=
 Q23 hd hg (fun a w fr => by
  have h1 : IntKind.u64.wrap (-(i : Int)) = (((18446744073709551616 - i) % 18446744073709551616 : Nat) : Int) := by rw [IntKind.wrap_u64]; omega
  simp only [execOp, fr.ev hx]
  simp [Op.unary, Op.intArith, h1, uv]) h
theorem Qdn {n : Int} (j : Nat) [TI c.P t .i64] [TI c.P t' .u64] (hd : dstOk c.n (some d) = true) (hg : guardF F g = some true) (hx : ev F x = some (.int .i64 n)) (hj : IntKind.u64.wrap n = (j : Int))
  (h : JO c Q m r ((d, uv j) :: F) H) : JO c Q m (⟨some d, .convert t t' x, ty, g, .mov, ns⟩ :: r) F H := Q6u (k' := .u64) (j : Int) hd hg hx hj h
end

theorem Qf3 (m : Nat) : val W32 [m % 4294967296, m / 4294967296] = m := by
 show m % 4294967296 + 4294967296 * (m / 4294967296 + 4294967296 * 0) = m
 omega

set_option maxHeartbeats 2000000 in
theorem Q9s (w : World) (n : Int) (h1 : -9223372036854775808 ≤ n) (h2 : n < 9223372036854775808) :
  Calls Tryz.prog 30 #[iv n] w (Ret fun r w' => Kp [] w w' ∧ r = Wv n) := by
 have hm : n.natAbs ≤ 9223372036854775808 := by omega
 have hm2 : n.natAbs < 18446744073709551616 := by omega
 have hlt : ∀ x ∈ [n.natAbs % 4294967296, n.natAbs / 4294967296], x < W32 := fun x hx => by
  simp only [List.mem_cons, List.mem_nil_iff, or_false] at hx
  show x < 4294967296
  omega
 by_cases hn : n < 0
 ·refine Q0a [] [] (by simp) [] Tryz.func30 rfl mixed (by kernel_rfl) Tryz.ntmps30 Tryz.results30 rfl ⟨by simp, by simp⟩ (by simp) ?_
  simp only [toS, textOps, toSOp, kindAt, kindOf, odAt, sopsAt, ordOf, zipF]
  (repeat' (first | refine JC.seq ?_ | refine JC.ops ?_ | refine JO.nil ?_ | refine Q00 ?_ | (apply Q04; (iterate 3 exact rfl)) | (apply Q0e; (iterate 3 exact rfl); intro _)))
  refine Qdn (18446744073709551616 - n.natAbs) rfl rfl rfl (by rw [IntKind.wrap_u64]; omega) ?_
  (repeat' (first | refine JC.seq ?_ | refine JC.ops ?_ | refine JO.nil ?_ | refine Q00 ?_ | (apply Q04; (iterate 3 exact rfl)) | (apply Q02; (iterate 3 exact rfl)) | (apply Q0m; (iterate 4 exact rfl); all_goals intro hc; all_goals try (exfalso; omega)) | refine Q08 rfl ?_))
  refine Qjq rfl rfl rfl (by omega) ?_
  rw [show (18446744073709551616 - (18446744073709551616 - n.natAbs)) % 18446744073709551616 = n.natAbs by omega]
  (repeat' (first | refine JC.seq ?_ | refine JC.ops ?_ | refine JO.nil ?_ | refine Q00 ?_ | (apply Q04; (iterate 3 exact rfl)) | (apply Q02; (iterate 3 exact rfl)) | (apply Qa9; (iterate 4 exact rfl)) | (apply Q3c; (iterate 4 exact rfl); (first | assumption | omega)) | (apply Q0m; (iterate 4 exact rfl); all_goals intro hc; all_goals try (exfalso; omega)) | (apply Q0w; (iterate 5 exact rfl); (repeat first | exact trivial | refine ⟨rfl, ?_⟩); decide; decide; intro _)))
  rename_i b3
  have hO : OwnU [(b3, .cells ⟨[uv (n.natAbs % 4294967296), uv (n.natAbs / 4294967296)]⟩ 71)] (.slice (some ⟨b3, 0, none⟩) 2 2) 2 [n.natAbs % 4294967296, n.natAbs / 4294967296] := Q3s b3 2 _ _ rfl rfl (by omega)
  refine Q09 trivial rfl rfl rfl (fun w hk hs => Q2l w _ _ _ true (hO.rd.at hk hs (by (repeat' first | exact HSub.nil _ | exact HSub.hd | exact Q03 | exact HSub.refl _ | refine HSub.skip ?_ | refine Q01 ?_))) hlt (by omega)) fun w v w' _ _ _ hR => ?_
  subst hR
  (repeat' (first | refine JO.nil ?_ | refine Q00 ?_ | (apply Q05; exact rfl; (first | exact trivial | exact ⟨rfl, rfl⟩); exact rfl; exact rfl; exact at1; (iterate 3 exact rfl)) | (apply Q05; exact rfl; (first | exact trivial | exact ⟨rfl, rfl⟩); exact rfl; exact rfl; exact at1; (iterate 3 exact rfl)) | refine JC.ret ?_))
  exact Q0z 1 rfl rfl rfl (fun a w' st => ⟨st.kp, by show Wv (sgn true (val W32 _)) = _; rw [Qf3]; congr 1; simp only [sgn, if_true, Bool.false_eq_true, if_false]; omega⟩)
 ·refine Q0a [] [] (by simp) [] Tryz.func30 rfl mixed (by kernel_rfl) Tryz.ntmps30 Tryz.results30 rfl ⟨by simp, by simp⟩ (by simp) ?_
  simp only [toS, textOps, toSOp, kindAt, kindOf, odAt, sopsAt, ordOf, zipF]
  (repeat' (first | refine JC.seq ?_ | refine JC.ops ?_ | refine JO.nil ?_ | refine Q00 ?_ | (apply Q04; (iterate 3 exact rfl)) | (apply Q0e; (iterate 3 exact rfl); intro _)))
  refine Qdn n.natAbs rfl rfl rfl (by rw [IntKind.wrap_u64]; omega) ?_
  (repeat' (first | refine JC.seq ?_ | refine JC.ops ?_ | refine JO.nil ?_ | refine Q00 ?_ | (apply Q04; (iterate 3 exact rfl)) | (apply Q02; (iterate 3 exact rfl)) | (apply Qa9; (iterate 4 exact rfl)) | (apply Q3c; (iterate 4 exact rfl); (first | assumption | omega)) | (apply Q0m; (iterate 4 exact rfl); all_goals intro hc; all_goals try (exfalso; omega)) | (apply Q0w; (iterate 5 exact rfl); (repeat first | exact trivial | refine ⟨rfl, ?_⟩); decide; decide; intro _) | refine JC.skip ?_ | refine Q07 rfl ?_))
  rename_i b3
  have hO : OwnU [(b3, .cells ⟨[uv (n.natAbs % 4294967296), uv (n.natAbs / 4294967296)]⟩ 71)] (.slice (some ⟨b3, 0, none⟩) 2 2) 2 [n.natAbs % 4294967296, n.natAbs / 4294967296] := Q3s b3 2 _ _ rfl rfl (by omega)
  refine Q09 trivial rfl rfl rfl (fun w hk hs => Q2l w _ _ _ false (hO.rd.at hk hs (by (repeat' first | exact HSub.nil _ | exact HSub.hd | exact Q03 | exact HSub.refl _ | refine HSub.skip ?_ | refine Q01 ?_))) hlt (by omega)) fun w v w' _ _ _ hR => ?_
  subst hR
  (repeat' (first | refine JO.nil ?_ | refine Q00 ?_ | (apply Q05; exact rfl; (first | exact trivial | exact ⟨rfl, rfl⟩); exact rfl; exact rfl; exact at1; (iterate 3 exact rfl)) | (apply Q05; exact rfl; (first | exact trivial | exact ⟨rfl, rfl⟩); exact rfl; exact rfl; exact at1; (iterate 3 exact rfl)) | refine JC.ret ?_))
  exact Q0z 1 rfl rfl rfl (fun a w' st => ⟨st.kp, by show Wv (sgn false (val W32 _)) = _; rw [Qf3]; congr 1; simp only [sgn, if_true, Bool.false_eq_true, if_false]; omega⟩)

theorem Q21 {c : Cx} {t t' t'' : Tmp} {v' : Value} {ty ty' n n' b b' : Nat} {cs cs' : Array Value} {T T' : TypeId} {fz fz' : Nat × Nat} {R : Value → World → Prop} {F : SFrame} {H : SHeap} [TN c.P ty n] [TN c.P ty' n'] (k k' : Nat) (h1 : look F t = some (.pointer (some ⟨b, 0, none⟩)))
  (h2 : H[k]? = some (b, Obj.cells cs T fz)) (hn : cs.size = n) (h1' : look F t' = some (.pointer (some ⟨b', 0, none⟩))) (h2' : H[k']? = some (b', Obj.cells cs' T' fz')) (hn' : cs'.size = n') (h' : look F t'' = some v') (hR : ∀ a w, St c F H a w → R (.tuple #[.agg cs, .agg cs', v']) w) : JX c (endPost c.P #[.cell t ty, .cell t' ty', .tmp t''] (Ret R)) .ret F H :=
 Q8t [.agg cs, .agg cs', v'] (Q6l k h1 h2 hn (Q6l k' h1' h2' hn' ⟨h', trivial⟩)) hR

set_option maxHeartbeats 8000000 in
theorem Qj8 (w : World) (v u : Value) (a b : Int) (k : Nat) (hv : IsZ v a k) (hu : IsZ u b k) (hk : k ≤ 100000000) :
  Calls Tryz.prog 37 #[v, u] w (Ret fun r w' => Kp [] w w' ∧ r = if b = 0 then .tuple #[Wv 0, Wv 0, .bool false] else .tuple #[Wv (a / b), Wv (a % b), .bool true]) := by
 obtain ⟨p, l, rfl, hl1, rfl⟩ := hv
 obtain ⟨q, l', rfl, hl2, rfl⟩ := hu
 refine Q0a [⟨1, 1, [0, 2, 1, 3, 4, 5], []⟩, ⟨3, 2, [], []⟩] [] (by simp) [] Tryz.func37 rfl mixed (by kernel_rfl) Tryz.ntmps37 Tryz.results37 rfl ⟨by simp, by simp⟩ (by simp) ?_
 simp only [toS, textOps, toSOp, kindAt, kindOf, odAt, sopsAt, ordOf, zipF]
 (repeat' (first | refine JC.seq ?_ | refine JC.ops ?_ | refine JC.opsD ?_ | refine JO.nil ?_ | refine Q00 ?_ | (apply Q02; (iterate 3 exact rfl)) | (apply Q0d; (iterate 4 exact rfl); (first | exact at2 | exact at3); exact rfl) | (apply Q0e; (iterate 3 exact rfl); intro _) | (apply Q0x; (iterate 4 exact rfl); intro _)))
 refine Q0h (A := [_, _, _, _]) rfl (by first | trivial | exact ⟨rfl, rfl⟩) rfl rfl rfl (fun w hk hs => Qc2 w p l (by omega)) fun w v w' _ _ _ hR => ?_
 obtain ⟨N1, zs1, hN1, hO1, hz1, hval1⟩ := hR
 refine ⟨N1, hN1, ?_⟩
 have hzl1 := Q3l hz1 hval1 hl1
 skip
 refine Q0h (A := [_, _, _, _]) rfl (by first | trivial | exact ⟨rfl, rfl⟩) rfl rfl rfl (fun w hk hs => Qc2 w q l' (by omega)) fun w v w' _ _ _ hR => ?_
 obtain ⟨N2, zs2, hN2, hO2, hz2, hval2⟩ := hR
 refine ⟨N2, hN2, ?_⟩
 have hzl2 := Q3l hz2 hval2 hl2
 have he := hz2.eq_nil (by decide)
 rw [hval2] at he
 by_cases h0 : zs2.length = 0
 ·have h1 := he.1 (List.eq_nil_of_length_eq_zero h0)
  rw [h1, if_pos (Q5a q)]
  (repeat' (first | refine JC.seq ?_ | refine JC.ops ?_ | refine JC.opsD ?_ | refine JO.nil ?_ | refine Q00 ?_ | (apply Q04; (iterate 3 exact rfl)) | (apply Q02; (iterate 3 exact rfl)) | (apply Q0d; (iterate 4 exact rfl); (first | exact at0 | exact at1); exact rfl) | (apply Q05; exact rfl; (first | exact trivial | exact ⟨rfl, rfl⟩); exact rfl; exact rfl; (first | exact at0 | exact at1); (iterate 3 exact rfl)) | (apply Qfx; (iterate 3 exact rfl); (first | exact at0 | exact at1); (iterate 3 exact rfl); (repeat' first | exact HSub.refl _ | exact HSub.nil _ | refine HSub.at 0 rfl ?_ | refine HSub.at 1 rfl ?_ | refine HSub.at 2 rfl ?_ | refine HSub.at 3 rfl ?_ | refine HSub.at 4 rfl ?_ | refine HSub.at 5 rfl ?_ | refine HSub.at 6 rfl ?_ | refine HSub.at 7 rfl ?_ | refine HSub.at 8 rfl ?_ | refine HSub.at 9 rfl ?_ | refine HSub.at 10 rfl ?_ | refine HSub.at 11 rfl ?_ | refine HSub.at 12 rfl ?_ | refine HSub.at 13 rfl ?_ | refine HSub.at 14 rfl ?_ | refine HSub.at 15 rfl ?_ | refine HSub.at 16 rfl ?_ | refine HSub.at 17 rfl ?_ | refine HSub.at 18 rfl ?_ | refine HSub.at 19 rfl ?_ | refine Q0l ?_ | refine HSub.skip ?_ | refine Q01 ?_)) | (apply Q19; (iterate 3 exact rfl); (first | assumption | exact WU.rd (by assumption) rfl [] | exact OwnU.rd (by assumption))) | (apply Q2f; (iterate 4 exact rfl); all_goals intro hc; all_goals try (exfalso; omega)) | (apply Q05; exact rfl; (first | exact trivial | exact ⟨rfl, rfl⟩); exact rfl; exact rfl; (first | exact at0 | exact at1); (iterate 3 exact rfl)) | refine Q0o ?_ | refine JC.ret ?_ | refine Q08 rfl ?_))
  exact Q21 1 0 rfl rfl rfl rfl rfl rfl rfl (fun a w' st => ⟨st.kp, rfl⟩)
 have hy0 : bval (bts l') ≠ 0 := fun h => h0 (by rw [he.2 h]; rfl)
 rw [if_neg (fun h => hy0 ((Q84 _ _).1 h))]
 have hv1 : val W32 zs1 < 256 ^ k := by rw [hval1]; exact Q17 hl1
 have hv2 : val W32 zs2 < 256 ^ k := by rw [hval2]; exact Q17 hl2
 have hpw : 256 ^ k ≤ W32 ^ k := Nat.pow_le_pow_left (by decide) k
 have hpk : 0 < 256 ^ k := Nat.pow_pos (by decide)
 (repeat' (first | refine JC.seq ?_ | refine JC.ops ?_ | refine JO.nil ?_ | refine Q00 ?_ | (apply Q04; (iterate 3 exact rfl)) | (apply Q02; (iterate 3 exact rfl)) | (apply Q19; (iterate 3 exact rfl); (first | assumption | exact WU.rd (by assumption) rfl [] | exact OwnU.rd (by assumption))) | (apply Q2f; (iterate 4 exact rfl); all_goals intro hc; all_goals try (exfalso; omega)) | refine JC.skip ?_ | refine Q07 rfl ?_))
 refine Q0h (A := [_, _, _, _]) rfl trivial rfl rfl rfl (fun w hk hs => Qon w _ _ _ _ _ _ (hO1.rd.at hk hs (by (repeat' first | exact HSub.nil _ | exact HSub.hd | exact Q03 | exact HSub.refl _ | refine HSub.skip ?_ | refine Q01 ?_))) (hO2.rd.at hk hs (by (repeat' first | exact HSub.nil _ | exact HSub.hd | exact Q03 | exact HSub.refl _ | refine HSub.skip ?_ | refine Q01 ?_))) hz1 hz2 (by omega) (by omega) (by omega)) fun w v w' _ _ _ hR => ?_
 obtain ⟨N3, N4, v3, v4, zs3, zs4, rfl, hN34, hO3, hO4, hz3, hz4, hval3, hlt4⟩ := hR.ex
 refine ⟨_, hN34, ?_⟩
 rw [List.append_assoc N3 N4]
 have hzl4 : zs4.length ≤ k := hz4.len_le (by decide) (by omega)
 have hzl3 : zs3.length ≤ k := hz3.len_le (by decide) (by
  have h1 : val W32 zs3 ≤ val W32 zs3 * val W32 zs2 := Nat.le_mul_of_pos_right _ (by omega)
  omega)
 have hlaw := Qg9 p q (val W32 zs1) (val W32 zs2) (val W32 zs3) (val W32 zs4) (by omega) hval3 hlt4
 rw [hval1, hval2] at hlaw
 have he4 := hz4.eq_nil (by decide)
 have hlaw1 := hlaw.1
 have hlaw2 := hlaw.2
 clear hlaw
 rcases hO4 with hO4 | ⟨rfl, rfl, rfl⟩
 ·by_cases hp : p = true ∧ 0 < zs4.length
  ·obtain ⟨rfl, hp4⟩ := hp
   have hr0 : 0 < val W32 zs4 := Nat.pos_of_ne_zero fun h => by rw [he4.2 h] at hp4; exact absurd hp4 (by simp)
   obtain ⟨hq1, hq2⟩ := hlaw1 ⟨rfl, hr0⟩
   have hlen : zs4.length ≤ zs2.length := by
    refine Decidable.byContradiction fun h => ?_
    have := Q32 (b := W32) (by decide) hz2 hz4 (by omega)
    omega
   (repeat' (first | refine JC.seq ?_ | refine JC.ops ?_ | refine JO.nil ?_ | refine Q00 ?_ | (apply Q04; (iterate 3 exact rfl)) | (apply Q06; (iterate 3 exact rfl)) | (apply Q02; (iterate 3 exact rfl)) | (apply Q0g; (iterate 4 exact rfl); exact at3; exact rfl) | (apply Q0n; (iterate 4 exact rfl)) | (apply Q0v; (iterate 4 exact rfl)) | (apply Q19; (iterate 3 exact rfl); (first | assumption | exact WU.rd (by assumption) rfl [] | exact OwnU.rd (by assumption))) | (apply Q1l; (iterate 4 exact rfl); all_goals intro hc; all_goals try (exfalso; omega)) | (apply Q0w; (iterate 5 exact rfl); (repeat first | exact trivial | refine ⟨rfl, ?_⟩); decide; decide; intro _) | refine Q08 rfl ?_))
   rename_i b9
   have hO9 : OwnU [(b9, .cells ⟨[.int .u64 1]⟩ 71)] (.slice (some ⟨b9, 0, none⟩) 1 1) 1 [1] := Q3s b9 1 [1] _ rfl rfl (by omega)
   refine Q0h (A := [_, _, _, _, _]) rfl trivial rfl rfl rfl (fun w hk hs => Qm4 w _ _ _ _ _ _ (hO3.rd.at hk hs (by (repeat' first | exact HSub.nil _ | exact HSub.hd | exact Q03 | exact HSub.refl _ | refine HSub.skip ?_ | refine Q01 ?_))) (hO9.rd.at hk hs (by (repeat' first | exact HSub.nil _ | exact HSub.hd | exact Q03 | exact HSub.refl _ | refine HSub.skip ?_ | refine Q01 ?_))) hz3.lt (fun x hx => by rw [List.mem_singleton] at hx; rw [hx]; decide) (by omega) (by omega)) fun w v w' _ _ _ hR => ?_
   obtain ⟨N5, zs5, hN5, hO5, hz5, hval5⟩ := hR
   refine ⟨N5, hN5, ?_⟩
   rw [Qca] at hval5
   have hzl5 : zs5.length ≤ k + 1 := hz5.len_le (by decide) (by
    rw [hval5, Nat.pow_succ]
    have h1 : val W32 zs3 ≤ val W32 zs3 * val W32 zs2 := Nat.le_mul_of_pos_right _ (by omega)
    show _ < W32 ^ k * 4294967296
    omega)
   (repeat' (first | (apply Q04; (iterate 3 exact rfl))))
   refine Q0h (A := [_, _, _, _, _]) rfl trivial rfl rfl rfl (fun w hk hs => Qh4 w _ _ _ _ _ _ (hO2.rd.at hk hs (by (repeat' first | exact HSub.nil _ | exact HSub.hd | exact Q03 | exact HSub.refl _ | refine HSub.skip ?_ | refine Q01 ?_))) (hO4.rd.at hk hs (by (repeat' first | exact HSub.nil _ | exact HSub.hd | exact Q03 | exact HSub.refl _ | refine HSub.skip ?_ | refine Q01 ?_))) hz2.lt hz4.lt (by omega) hlen (by omega)) fun w v w' _ _ _ hR => ?_
   obtain ⟨N6, zs6, hN6, hO6, hz6, hval6⟩ := hR
   refine ⟨N6, hN6, ?_⟩
   have hzl6 : zs6.length ≤ k := hz6.len_le (by decide) (by omega)
   (repeat' (first | refine JC.seq ?_ | refine JC.ops ?_ | refine JO.nil ?_ | refine Q00 ?_ | (apply Q04; (iterate 3 exact rfl)) | (apply Q06; (iterate 3 exact rfl)) | (apply Q02; (iterate 3 exact rfl)) | (apply Q0g; (iterate 4 exact rfl); (first | exact at3 | exact at4); exact rfl) | (apply Q6s; (iterate 4 exact rfl))))
   refine Q09 trivial rfl rfl rfl (fun w hk hs => Q2l w _ _ zs5 (true != q) (hO5.rd.at hk hs (by (repeat' first | exact HSub.nil _ | exact HSub.hd | exact Q03 | exact HSub.refl _ | refine HSub.skip ?_ | refine Q01 ?_))) hz5.lt (by omega)) fun w v w' _ _ _ hR => ?_
   subst hR
   (repeat' (first | (apply Q04; (iterate 3 exact rfl))))
   refine Q09 trivial rfl rfl rfl (fun w hk hs => Q2l w _ _ zs6 false (hO6.rd.at hk hs (by (repeat' first | exact HSub.nil _ | exact HSub.hd | exact Q03 | exact HSub.refl _ | refine HSub.skip ?_ | refine Q01 ?_))) hz6.lt (by omega)) fun w v w' _ _ _ hR => ?_
   subst hR
   (repeat' (first | refine JO.nil ?_ | refine Q00 ?_ | (apply Q02; (iterate 3 exact rfl)) | (apply Q05; exact rfl; (first | exact trivial | exact ⟨rfl, rfl⟩); exact rfl; exact rfl; (first | exact at1 | exact at2); (iterate 3 exact rfl)) | (apply Q05; exact rfl; (first | exact trivial | exact ⟨rfl, rfl⟩); exact rfl; exact rfl; (first | exact at1 | exact at2); (iterate 3 exact rfl)) | refine JC.ret ?_))
   refine Q21 2 1 rfl rfl rfl rfl rfl rfl rfl (fun a w' st => ⟨st.kp, ?_⟩)
   show Value.tuple #[Wv (sgn (true != q) (val W32 zs5)), Wv (sgn false (val W32 zs6)), _] = _
   rw [hval5, hq1, ← hq2, ← hval2]
   have : val W32 zs6 = val W32 zs2 - val W32 zs4 := by omega
   rw [this]
   rfl
  have hq := hlaw2 (fun ⟨h1, h2⟩ => hp ⟨h1, by
   refine Nat.pos_of_ne_zero fun h => ?_
   have := List.eq_nil_of_length_eq_zero h
   rw [this] at h2
   exact absurd h2 (by simp [val])⟩)
  obtain ⟨hq1, hq2⟩ := hq
  have hnp : p = true → zs4.length = 0 := fun h => by
   refine Decidable.byContradiction fun h' => hp ⟨h, by omega⟩
  cases p with
  | false =>
   (repeat' (first | refine JC.seq ?_ | refine JC.ops ?_ | refine JO.nil ?_ | refine Q00 ?_ | (apply Q04; (iterate 3 exact rfl)) | (apply Q06; (iterate 3 exact rfl)) | (apply Q02; (iterate 3 exact rfl)) | (apply Q0g; (iterate 4 exact rfl); (first | exact at2 | exact at3); exact rfl) | (apply Q0q; (iterate 4 exact rfl)) | (apply Q0v; (iterate 4 exact rfl)) | (apply Q6s; (iterate 4 exact rfl)) | refine JC.skip ?_ | refine Q07 rfl ?_ | (apply Q10; exact rfl; exact rfl; (first | (intro h; cases h; done) | (intro _; rfl)))))
   refine Q09 trivial rfl rfl rfl (fun w hk hs => Q2l w _ _ zs3 (false != q) (hO3.rd.at hk hs (by (repeat' first | exact HSub.nil _ | exact HSub.hd | exact Q03 | exact HSub.refl _ | refine HSub.skip ?_ | refine Q01 ?_))) hz3.lt (by omega)) fun w v w' _ _ _ hR => ?_
   subst hR
   (repeat' (first | (apply Q04; (iterate 3 exact rfl))))
   refine Q09 trivial rfl rfl rfl (fun w hk hs => Q2l w _ _ zs4 false (hO4.rd.at hk hs (by (repeat' first | exact HSub.nil _ | exact HSub.hd | exact Q03 | exact HSub.refl _ | refine HSub.skip ?_ | refine Q01 ?_))) hz4.lt (by omega)) fun w v w' _ _ _ hR => ?_
   subst hR
   (repeat' (first | refine JO.nil ?_ | refine Q00 ?_ | (apply Q02; (iterate 3 exact rfl)) | (apply Q05; exact rfl; (first | exact trivial | exact ⟨rfl, rfl⟩); exact rfl; exact rfl; (first | exact at0 | exact at1); (iterate 3 exact rfl)) | (apply Q05; exact rfl; (first | exact trivial | exact ⟨rfl, rfl⟩); exact rfl; exact rfl; (first | exact at0 | exact at1); (iterate 3 exact rfl)) | refine JC.ret ?_))
   refine Q21 1 0 rfl rfl rfl rfl rfl rfl rfl (fun a w' st => ⟨st.kp, ?_⟩)
   show Value.tuple #[Wv (sgn (false != q) (val W32 zs3)), Wv (sgn false (val W32 zs4)), _] = _
   rw [hq1, ← hq2]
   rfl
  | true =>
   have hz0 := hnp rfl
   (repeat' (first | refine JC.seq ?_ | refine JC.ops ?_ | refine JO.nil ?_ | refine Q00 ?_ | (apply Q04; (iterate 3 exact rfl)) | (apply Q06; (iterate 3 exact rfl)) | (apply Q02; (iterate 3 exact rfl)) | (apply Q0g; (iterate 4 exact rfl); (first | exact at2 | exact at3); exact rfl) | (apply Q0n; (iterate 4 exact rfl)) | (apply Q0v; (iterate 4 exact rfl)) | (apply Q19; (iterate 3 exact rfl); (first | assumption | exact WU.rd (by assumption) rfl [] | exact OwnU.rd (by assumption))) | (apply Q1l; (iterate 4 exact rfl); all_goals intro hc; all_goals try (exfalso; omega)) | (apply Q6s; (iterate 4 exact rfl)) | refine JC.skip ?_ | refine Q07 rfl ?_))
   refine Q09 trivial rfl rfl rfl (fun w hk hs => Q2l w _ _ zs3 (true != q) (hO3.rd.at hk hs (by (repeat' first | exact HSub.nil _ | exact HSub.hd | exact Q03 | exact HSub.refl _ | refine HSub.skip ?_ | refine Q01 ?_))) hz3.lt (by omega)) fun w v w' _ _ _ hR => ?_
   subst hR
   (repeat' (first | (apply Q04; (iterate 3 exact rfl))))
   refine Q09 trivial rfl rfl rfl (fun w hk hs => Q2l w _ _ zs4 false (hO4.rd.at hk hs (by (repeat' first | exact HSub.nil _ | exact HSub.hd | exact Q03 | exact HSub.refl _ | refine HSub.skip ?_ | refine Q01 ?_))) hz4.lt (by omega)) fun w v w' _ _ _ hR => ?_
   subst hR
   (repeat' (first | refine JO.nil ?_ | refine Q00 ?_ | (apply Q02; (iterate 3 exact rfl)) | (apply Q05; exact rfl; (first | exact trivial | exact ⟨rfl, rfl⟩); exact rfl; exact rfl; (first | exact at0 | exact at1); (iterate 3 exact rfl)) | (apply Q05; exact rfl; (first | exact trivial | exact ⟨rfl, rfl⟩); exact rfl; exact rfl; (first | exact at0 | exact at1); (iterate 3 exact rfl)) | refine JC.ret ?_))
   refine Q21 1 0 rfl rfl rfl rfl rfl rfl rfl (fun a w' st => ⟨st.kp, ?_⟩)
   show Value.tuple #[Wv (sgn (true != q) (val W32 zs3)), Wv (sgn false (val W32 zs4)), _] = _
   rw [hq1, ← hq2]
   rfl
 ·by_cases hp : p = true ∧ 0 < zs4.length
  ·obtain ⟨rfl, hp4⟩ := hp
   have hr0 : 0 < val W32 zs4 := Nat.pos_of_ne_zero fun h => by rw [he4.2 h] at hp4; exact absurd hp4 (by simp)
   obtain ⟨hq1, hq2⟩ := hlaw1 ⟨rfl, hr0⟩
   have hlen : zs4.length ≤ zs2.length := by
    refine Decidable.byContradiction fun h => ?_
    have := Q32 (b := W32) (by decide) hz2 hz4 (by omega)
    omega
   (repeat' (first | refine JC.seq ?_ | refine JC.ops ?_ | refine JO.nil ?_ | refine Q00 ?_ | (apply Q04; (iterate 3 exact rfl)) | (apply Q06; (iterate 3 exact rfl)) | (apply Q02; (iterate 3 exact rfl)) | (apply Q0g; (iterate 4 exact rfl); exact at3; exact rfl) | (apply Q0n; (iterate 4 exact rfl)) | (apply Q0v; (iterate 4 exact rfl)) | (apply Q19; (iterate 3 exact rfl); (first | assumption | exact WU.rd (by assumption) rfl [] | exact OwnU.rd (by assumption))) | (apply Q1l; (iterate 4 exact rfl); all_goals intro hc; all_goals try (exfalso; omega)) | (apply Q0w; (iterate 5 exact rfl); (repeat first | exact trivial | refine ⟨rfl, ?_⟩); decide; decide; intro _) | refine Q08 rfl ?_))
   rename_i b9
   have hO9 : OwnU [(b9, .cells ⟨[.int .u64 1]⟩ 71)] (.slice (some ⟨b9, 0, none⟩) 1 1) 1 [1] := Q3s b9 1 [1] _ rfl rfl (by omega)
   refine Q0h (A := [_, _, _, _, _]) rfl trivial rfl rfl rfl (fun w hk hs => Qm4 w _ _ _ _ _ _ (hO3.rd.at hk hs (by (repeat' first | exact HSub.nil _ | exact HSub.hd | exact Q03 | exact HSub.refl _ | refine HSub.skip ?_ | refine Q01 ?_))) (hO9.rd.at hk hs (by (repeat' first | exact HSub.nil _ | exact HSub.hd | exact Q03 | exact HSub.refl _ | refine HSub.skip ?_ | refine Q01 ?_))) hz3.lt (fun x hx => by rw [List.mem_singleton] at hx; rw [hx]; decide) (by omega) (by omega)) fun w v w' _ _ _ hR => ?_
   obtain ⟨N5, zs5, hN5, hO5, hz5, hval5⟩ := hR
   refine ⟨N5, hN5, ?_⟩
   rw [Qca] at hval5
   have hzl5 : zs5.length ≤ k + 1 := hz5.len_le (by decide) (by
    rw [hval5, Nat.pow_succ]
    have h1 : val W32 zs3 ≤ val W32 zs3 * val W32 zs2 := Nat.le_mul_of_pos_right _ (by omega)
    show _ < W32 ^ k * 4294967296
    omega)
   (repeat' (first | (apply Q04; (iterate 3 exact rfl))))
   refine Q0h (A := [_, _, _, _, _]) rfl trivial rfl rfl rfl (fun w hk hs => Qh4 w _ _ _ _ _ _ (hO2.rd.at hk hs (by (repeat' first | exact HSub.nil _ | exact HSub.hd | exact Q03 | exact HSub.refl _ | refine HSub.skip ?_ | refine Q01 ?_))) (hO1.rd.at hk hs (by (repeat' first | exact HSub.nil _ | exact HSub.hd | exact Q03 | exact HSub.refl _ | refine HSub.skip ?_ | refine Q01 ?_))) hz2.lt hz4.lt (by omega) hlen (by omega)) fun w v w' _ _ _ hR => ?_
   obtain ⟨N6, zs6, hN6, hO6, hz6, hval6⟩ := hR
   refine ⟨N6, hN6, ?_⟩
   have hzl6 : zs6.length ≤ k := hz6.len_le (by decide) (by omega)
   (repeat' (first | refine JC.seq ?_ | refine JC.ops ?_ | refine JO.nil ?_ | refine Q00 ?_ | (apply Q04; (iterate 3 exact rfl)) | (apply Q06; (iterate 3 exact rfl)) | (apply Q02; (iterate 3 exact rfl)) | (apply Q0g; (iterate 4 exact rfl); (first | exact at3 | exact at4); exact rfl) | (apply Q6s; (iterate 4 exact rfl))))
   refine Q09 trivial rfl rfl rfl (fun w hk hs => Q2l w _ _ zs5 (true != q) (hO5.rd.at hk hs (by (repeat' first | exact HSub.nil _ | exact HSub.hd | exact Q03 | exact HSub.refl _ | refine HSub.skip ?_ | refine Q01 ?_))) hz5.lt (by omega)) fun w v w' _ _ _ hR => ?_
   subst hR
   (repeat' (first | (apply Q04; (iterate 3 exact rfl))))
   refine Q09 trivial rfl rfl rfl (fun w hk hs => Q2l w _ _ zs6 false (hO6.rd.at hk hs (by (repeat' first | exact HSub.nil _ | exact HSub.hd | exact Q03 | exact HSub.refl _ | refine HSub.skip ?_ | refine Q01 ?_))) hz6.lt (by omega)) fun w v w' _ _ _ hR => ?_
   subst hR
   (repeat' (first | refine JO.nil ?_ | refine Q00 ?_ | (apply Q02; (iterate 3 exact rfl)) | (apply Q05; exact rfl; (first | exact trivial | exact ⟨rfl, rfl⟩); exact rfl; exact rfl; (first | exact at1 | exact at2); (iterate 3 exact rfl)) | (apply Q05; exact rfl; (first | exact trivial | exact ⟨rfl, rfl⟩); exact rfl; exact rfl; (first | exact at1 | exact at2); (iterate 3 exact rfl)) | refine JC.ret ?_))
   refine Q21 2 1 rfl rfl rfl rfl rfl rfl rfl (fun a w' st => ⟨st.kp, ?_⟩)
   show Value.tuple #[Wv (sgn (true != q) (val W32 zs5)), Wv (sgn false (val W32 zs6)), _] = _
   rw [hval5, hq1, ← hq2, ← hval2]
   have : val W32 zs6 = val W32 zs2 - val W32 zs4 := by omega
   rw [this]
   rfl
  have hq := hlaw2 (fun ⟨h1, h2⟩ => hp ⟨h1, by
   refine Nat.pos_of_ne_zero fun h => ?_
   have := List.eq_nil_of_length_eq_zero h
   rw [this] at h2
   exact absurd h2 (by simp [val])⟩)
  obtain ⟨hq1, hq2⟩ := hq
  have hnp : p = true → zs4.length = 0 := fun h => by
   refine Decidable.byContradiction fun h' => hp ⟨h, by omega⟩
  cases p with
  | false =>
   (repeat' (first | refine JC.seq ?_ | refine JC.ops ?_ | refine JO.nil ?_ | refine Q00 ?_ | (apply Q04; (iterate 3 exact rfl)) | (apply Q06; (iterate 3 exact rfl)) | (apply Q02; (iterate 3 exact rfl)) | (apply Q0g; (iterate 4 exact rfl); (first | exact at2 | exact at3); exact rfl) | (apply Q0q; (iterate 4 exact rfl)) | (apply Q0v; (iterate 4 exact rfl)) | (apply Q6s; (iterate 4 exact rfl)) | refine JC.skip ?_ | refine Q07 rfl ?_ | (apply Q10; exact rfl; exact rfl; (first | (intro h; cases h; done) | (intro _; rfl)))))
   refine Q09 trivial rfl rfl rfl (fun w hk hs => Q2l w _ _ zs3 (false != q) (hO3.rd.at hk hs (by (repeat' first | exact HSub.nil _ | exact HSub.hd | exact Q03 | exact HSub.refl _ | refine HSub.skip ?_ | refine Q01 ?_))) hz3.lt (by omega)) fun w v w' _ _ _ hR => ?_
   subst hR
   (repeat' (first | (apply Q04; (iterate 3 exact rfl))))
   refine Q09 trivial rfl rfl rfl (fun w hk hs => Q2l w _ _ zs4 false (hO1.rd.at hk hs (by (repeat' first | exact HSub.nil _ | exact HSub.hd | exact Q03 | exact HSub.refl _ | refine HSub.skip ?_ | refine Q01 ?_))) hz4.lt (by omega)) fun w v w' _ _ _ hR => ?_
   subst hR
   (repeat' (first | refine JO.nil ?_ | refine Q00 ?_ | (apply Q02; (iterate 3 exact rfl)) | (apply Q05; exact rfl; (first | exact trivial | exact ⟨rfl, rfl⟩); exact rfl; exact rfl; (first | exact at0 | exact at1); (iterate 3 exact rfl)) | (apply Q05; exact rfl; (first | exact trivial | exact ⟨rfl, rfl⟩); exact rfl; exact rfl; (first | exact at0 | exact at1); (iterate 3 exact rfl)) | refine JC.ret ?_))
   refine Q21 1 0 rfl rfl rfl rfl rfl rfl rfl (fun a w' st => ⟨st.kp, ?_⟩)
   show Value.tuple #[Wv (sgn (false != q) (val W32 zs3)), Wv (sgn false (val W32 zs4)), _] = _
   rw [hq1, ← hq2]
   rfl
  | true =>
   have hz0 := hnp rfl
   (repeat' (first | refine JC.seq ?_ | refine JC.ops ?_ | refine JO.nil ?_ | refine Q00 ?_ | (apply Q04; (iterate 3 exact rfl)) | (apply Q06; (iterate 3 exact rfl)) | (apply Q02; (iterate 3 exact rfl)) | (apply Q0g; (iterate 4 exact rfl); (first | exact at2 | exact at3); exact rfl) | (apply Q0n; (iterate 4 exact rfl)) | (apply Q0v; (iterate 4 exact rfl)) | (apply Q19; (iterate 3 exact rfl); (first | assumption | exact WU.rd (by assumption) rfl [] | exact OwnU.rd (by assumption))) | (apply Q1l; (iterate 4 exact rfl); all_goals intro hc; all_goals try (exfalso; omega)) | (apply Q6s; (iterate 4 exact rfl)) | refine JC.skip ?_ | refine Q07 rfl ?_))
   refine Q09 trivial rfl rfl rfl (fun w hk hs => Q2l w _ _ zs3 (true != q) (hO3.rd.at hk hs (by (repeat' first | exact HSub.nil _ | exact HSub.hd | exact Q03 | exact HSub.refl _ | refine HSub.skip ?_ | refine Q01 ?_))) hz3.lt (by omega)) fun w v w' _ _ _ hR => ?_
   subst hR
   (repeat' (first | (apply Q04; (iterate 3 exact rfl))))
   refine Q09 trivial rfl rfl rfl (fun w hk hs => Q2l w _ _ zs4 false (hO1.rd.at hk hs (by (repeat' first | exact HSub.nil _ | exact HSub.hd | exact Q03 | exact HSub.refl _ | refine HSub.skip ?_ | refine Q01 ?_))) hz4.lt (by omega)) fun w v w' _ _ _ hR => ?_
   subst hR
   (repeat' (first | refine JO.nil ?_ | refine Q00 ?_ | (apply Q02; (iterate 3 exact rfl)) | (apply Q05; exact rfl; (first | exact trivial | exact ⟨rfl, rfl⟩); exact rfl; exact rfl; (first | exact at0 | exact at1); (iterate 3 exact rfl)) | (apply Q05; exact rfl; (first | exact trivial | exact ⟨rfl, rfl⟩); exact rfl; exact rfl; (first | exact at0 | exact at1); (iterate 3 exact rfl)) | refine JC.ret ?_))
   refine Q21 1 0 rfl rfl rfl rfl rfl rfl rfl (fun a w' st => ⟨st.kp, ?_⟩)
   show Value.tuple #[Wv (sgn (true != q) (val W32 zs3)), Wv (sgn false (val W32 zs4)), _] = _
   rw [hq1, ← hq2]
   rfl


abbrev wc (z : Int) : Array Value := #[.bool (decide (z < 0)), sv (magU z.natAbs)]

theorem RdY.blk {c : Cx} {b cap n : Nat} {xs : List Nat} {rest : List Value} {T : TypeId} {fz : Nat × Nat} (hl : xs.length = n) (hc : n ≤ cap) : RdY c [(b, .cells (rowCY xs rest) T fz)] (.slice (some ⟨b, 0, none⟩) n cap) n xs := by
 refine ⟨by simp [hl], _, cap, rfl, hc, fun h0 => ⟨⟨b, 0, rfl⟩, fun w hw j u hu => ?_⟩⟩
 rw [Q4b, Nat.zero_add]
 refine Q18 (hw.2.blk (b, _) (List.mem_cons_self ..)) ?_
 have e : (rowCY xs rest)[j]? = (xs.map yv ++ rest)[j]? := by simp [rowCY]
 rw [e, List.getElem?_append_left (List.getElem?_eq_some_iff.1 hu).1]
 exact hu

section
variable {c : Cx} {Q : Exit → Act → World → Prop} {m : Mode} {F : SFrame} {H : SHeap} {r : List SOp} {g : Option (Option Tmp × Bool)} {ns : Bool} {d : Tmp} {ty t t' : TypeId} {x y : Operand} {l : List UInt8} {i : Nat}
end

def body : List UInt8 → List UInt8
 | x :: l => if x == 45 then l else x :: l
 | [] => []

theorem WY.hd {w : World} {A : Option Addr} {n k cap : Nat} {xs : List Nat} (hv : WY w (.slice A n cap) n xs) (hk : k ≤ n) : WY w (.slice A k cap) k (xs.take k) := by
 have hl := hv.len
 obtain ⟨h1, A', cap', h2, h3, h4⟩ := hv
 simp only [Value.slice.injEq] at h2
 obtain ⟨rfl, _, rfl⟩ := h2
 refine ⟨by simp; omega, A, cap, rfl, by omega, fun h0 => ⟨(h4 (by omega)).1, fun j u hu => ?_⟩⟩
 obtain ⟨⟨b, o, rfl⟩, h5⟩ := h4 (by omega)
 refine h5 j u ?_
 rw [List.map_take, List.getElem?_take] at hu
 split at hu
 ·exact hu
 ·cases hu
theorem WY.cap {w : World} {A : Option Addr} {n cap : Nat} {xs : List Nat} (h : WY w (.slice A n cap) n xs) : n ≤ cap := by
 obtain ⟨_, A', cap', h2, h3, _⟩ := h
 simp only [Value.slice.injEq] at h2
 obtain ⟨_, _, rfl⟩ := h2
 exact h3

section
variable {c : Cx} {Q : Exit → Act → World → Prop} {m : Mode} {F : SFrame} {H : SHeap} {r : List SOp} {g : Option (Option Tmp × Bool)} {ns : Bool} {d : Tmp} {ty t t' : TypeId} {x y : Operand}
end

theorem Qko (n : Int) {m : Nat} (hm : 0 < m) : -(m : Int) < n.tmod m ∧ n.tmod m < m ∧ (n.tmod m + m).tmod m = ((n % m).toNat : Int) := by
 have e := Int.mul_tdiv_add_tmod n m
 have h1 : n.tmod m < m := Int.tmod_lt_of_pos _ (by omega)
 have h2 : -(m : Int) < n.tmod m := by
  have h := Int.tmod_lt_of_pos (-n) (show (0 : Int) < m by omega)
  rw [Int.neg_tmod] at h
  omega
 refine ⟨h2, h1, ?_⟩
 rw [Int.tmod_eq_emod_of_nonneg (by omega), Int.toNat_of_nonneg (Int.emod_nonneg _ (by omega))]
 have h3 : n.tmod m + m = n + m * (1 - n.tdiv m) := by rw [Int.mul_sub]; omega
 rw [h3, Int.add_mul_emod_self_left]

set_option maxHeartbeats 2000000 in
theorem Qo1 (w : World) (n : Int) (m : Nat) (hm : 0 < m) (hm2 : m < 1000) :
  Calls Tryz.prog 28 #[iv n, nv m] w (Ret fun v w' => Kp [] w w' ∧ v = nv (n % m).toNat ∧ (n % m).toNat < m) := by
 obtain ⟨b1, b2, b3⟩ := Qko n hm
 have hlt : (n % m).toNat < m := by
  have h1 := Int.emod_nonneg n (show (m : Int) ≠ 0 by omega)
  have h2 := Int.emod_lt_of_pos n (show (0 : Int) < m by omega)
  omega
 refine Q0a [] [] (by simp) [] Tryz.func28 rfl mixed (by kernel_rfl) Tryz.ntmps28 Tryz.results28 rfl ⟨by simp, by simp⟩ (by simp) ?_
 simp only [toS, textOps, toSOp, kindAt, kindOf, odAt, sopsAt, ordOf, zipF]
 (repeat' (first | refine JC.seq ?_ | refine JC.ops ?_ | refine JO.nil ?_ | refine Q00 ?_ | (apply Q04; (iterate 3 exact rfl)) | (apply Q02; (iterate 3 exact rfl)) | (apply Qii; (iterate 4 exact rfl); omega) | (apply Qnc; (iterate 4 exact rfl); omega) | refine JC.ret ?_))
 exact Q0j rfl (fun a w' st => ⟨st.kp, by rw [b3], hlt⟩)


class TWide (P : Program) (t : TypeId) : Prop where
 guard : P.eqGuardType P.depth t = false
 eql : ∀ (w : World) (p q : Bool) (l m : List UInt8), (Op.equalIn 10000 t (wv p l) (wv q m)).run P w = .ok (p == q && decide (l = m)) w

instance : TWide Tryz.prog 34 := ⟨Tryz.eqGuardType34, fun w p q l m => by
 have hf : Tryz.prog.underlying 34 = some (.struct (Tryz.prog.fieldsOf 34)) := by rw [Program.fieldsOf, Tryz.underlying34]
 rw [run_equalIn_agg w 9999 34 _ _ hf Tryz.stoodInHeld34]
 simp only [Program.fieldsOf, Tryz.underlying34]
 have h4 : ∀ (w : World) (xs : Array Value) (a b : Value), xs = #[a, b] → (part 4 xs 0).run Tryz.prog w = .ok a w := by
  intro w xs a b e
  subst e
  simp [part, isAgg, run_underlying Tryz.underlying4, Sem.run_bind]
 have h9 : ∀ (w : World) (xs : Array Value) (a b : Value), xs = #[a, b] → (part 9 xs 1).run Tryz.prog w = .ok b w := by
  intro w xs a b e
  subst e
  simp [part, isAgg, run_underlying Tryz.underlying9, Sem.run_bind]
 have g1 := h4 w #[.bool p, sv l] _ _ rfl
 have g2 := h4 w #[.bool q, sv m] _ _ rfl
 have g3 := h9 w #[.bool p, sv l] _ _ rfl
 have g4 := h9 w #[.bool q, sv m] _ _ rfl
 have g5 := run_equalIn_bool' (P := Tryz.prog) w 9998 4 p q Tryz.underlying4
 have g6 := run_equalIn_string (P := Tryz.prog) w 9998 9 ⟨l.toArray⟩ ⟨m.toArray⟩ Tryz.underlying9
 rw [Q63, Q63] at g6
 have hlm : (l == m) = decide (l = m) := by
  by_cases h : l = m
  ·simp [h]
  ·simp [h]
 rw [hlm] at g6
 simp only [Op.eqFields]
 rw [if_pos (by decide), if_pos (by decide)]
 simp only [Sem.run_bind, g1, g2, g3, g4, g5, g6, Result.andThen_ok]
 cases hpq : (p == q) with
 | false => simp
 | true =>
  simp only [Bool.not_true, Bool.false_eq_true, if_false, Sem.run_bind, g3, g4, g6, Result.andThen_ok, Bool.true_and]
  cases decide (l = m) <;> simp⟩

theorem Qmk {a b : Int} : (decide (a < 0) == decide (b < 0) && decide (magU a.natAbs = magU b.natAbs)) = decide (a = b) := by
 by_cases h : a = b
 ·subst h; simp
 ·rw [decide_eq_false h]
  by_cases h2 : a.natAbs = b.natAbs
  ·have : decide (a < 0) ≠ decide (b < 0) := by
    intro e
    have e2 : (a < 0) ↔ (b < 0) := by simpa using e
    omega
   have h3 : (decide (a < 0) == decide (b < 0)) = false := by simpa using this
   rw [h3]; rfl
  ·have : decide (magU a.natAbs = magU b.natAbs) = false := decide_eq_false fun e => h2 (Qao e)
   rw [this, Bool.and_false]

section
variable {c : Cx} {Q : Exit → Act → World → Prop} {m : Mode} {F : SFrame} {H : SHeap} {r : List SOp} {g : Option (Option Tmp × Bool)} {ns : Bool} {d : Tmp} {ty t t' : TypeId} {x y : Operand}
theorem Qoj {p q : Bool} {l k : List UInt8} [hT : TWide c.P t] (hd : dstOk c.n (some d) = true) (hg : guardF F g = some true) (hx : ev F x = some (wv p l)) (hy : ev F y = some (wv q k))
  (h : JO c Q m r ((d, .bool (p == q && decide (l = k))) :: F) H) : JO c Q m (⟨some d, .binOp .eql t x y t', ty, g, .mov, ns⟩ :: r) F H :=
 Q23 hd hg (fun a w fr => by
  simp only [execOp, fr.ev hx, fr.ev hy, Sem.run_bind, run_eqGuard_agg w .eql t x y _ _ hT.guard, Result.andThen_ok, run_eql_struct, hT.eql, Sem.run_pure]) h
theorem Qfz {p q : Bool} {l k : List UInt8} [hT : TWide c.P t] (hd : dstOk c.n (some d) = true) (hg : guardF F g = some true) (hx : ev F x = some (wv p l)) (hy : ev F y = some (wv q k))
  (h : JO c Q m r ((d, .bool (!(p == q && decide (l = k)))) :: F) H) : JO c Q m (⟨some d, .binOp .neq t x y t', ty, g, .mov, ns⟩ :: r) F H :=
 Q23 hd hg (fun a w fr => by
  simp only [execOp, fr.ev hx, fr.ev hy, Sem.run_bind, run_eqGuard_agg w .neq t x y _ _ hT.guard, Result.andThen_ok, run_neq_struct, hT.eql, Sem.run_pure]) h
theorem Qng {a b : Int} [TWide c.P t] (hd : dstOk c.n (some d) = true) (hg : guardF F g = some true) (hx : ev F x = some (Wv a)) (hy : ev F y = some (Wv b)) (hab : a = b)
  (h : JO c Q m r ((d, .bool true) :: F) H) : JO c Q m (⟨some d, .binOp .eql t x y t', ty, g, .mov, ns⟩ :: r) F H :=
 Qoj hd hg hx hy (by rw [Qmk, decide_eq_true hab]; exact h)
theorem Qjs {a b : Int} [TWide c.P t] (hd : dstOk c.n (some d) = true) (hg : guardF F g = some true) (hx : ev F x = some (Wv a)) (hy : ev F y = some (Wv b)) (hab : a = b)
  (h : JO c Q m r ((d, .bool false) :: F) H) : JO c Q m (⟨some d, .binOp .neq t x y t', ty, g, .mov, ns⟩ :: r) F H :=
 Qfz hd hg hx hy (by rw [Qmk, decide_eq_true hab]; exact h)
end

theorem IsZ.i64 {n : Int} (h1 : -9223372036854775808 ≤ n) (h2 : n < 9223372036854775808) : IsZ (Wv n) n 8 := Q0t (by
 have : n.natAbs ≤ 9223372036854775808 := by omega
 exact Nat.lt_of_le_of_lt this (by decide))


abbrev B16 : Nat := 65536

theorem OwnN.hd {N : SHeap} {A : Option Addr} {n k cap : Nat} {xs : List Nat} (h : OwnN N (.slice A n cap) n xs) (hk : k ≤ n) : OwnN N (.slice A k cap) k (xs.take k) := by
 have hl := h.len
 obtain ⟨h1, ⟨h2, h3, h4⟩ | ⟨b, cap', cur, h2, h3, h4, h5, h6, h7⟩⟩ := h
 ·subst h4
  subst h3
  obtain rfl : k = 0 := by omega
  have h0 : xs = [] := List.eq_nil_of_length_eq_zero hl
  subst h0
  rw [h2]
  exact OwnN.nil
 ·simp only [Value.slice.injEq, true_and] at h2
  obtain ⟨rfl, rfl⟩ := h2
  refine ⟨by simp; omega, .inr ⟨b, cap, cur, rfl, h3, by omega, h5, h6, ?_⟩⟩
  rw [Nat.mul_one] at h7 ⊢
  rw [List.map_take, ← h7, List.take_take, Nat.min_eq_left hk]

def NewR (w w' : World) (v : Value) (z m : Nat) : Prop := ∃ N zs, New N w w' ∧ OwnN N v zs.length zs ∧ (∀ x ∈ zs, x < B16) ∧ val B16 zs = z ∧ zs.length ≤ m
def NewD (w w' : World) (v : Value) (z : Nat) : Prop := ∃ N zs, New N w w' ∧ OwnN N v zs.length zs ∧ Dig B16 zs ∧ val B16 zs = z

theorem Q2b (b : Nat) (l : List Nat) (x : Nat) : val b (l ++ [x]) = val b l + b ^ l.length * x := by
 rw [Q37, val, val, Nat.mul_zero, Nat.add_zero]
theorem Q1z {b : Nat} {l : List Nat} {x : Nat} (h : ∀ y ∈ l, y < b) (hx : x < b) : ∀ y ∈ l ++ [x], y < b := fun y hy => by
 rcases List.mem_append.1 hy with h1 | h1
 ·exact h y h1
 ·rw [List.mem_singleton.1 h1]; exact hx
theorem Q72 (l : List Nat) (m : Nat) (h0 : 0 < m) (h : m ≤ l.length) : bval (l.take m) = l.getD (m - 1) 0 + 256 * bval (l.take (m - 1)) := by
 have := Qc7 l (m - 1) (by omega)
 rwa [show m - 1 + 1 = m by omega] at this
theorem Qgr {P a b x V : Nat} : V + P * (a + 256 * b) + P * 65536 * x = V + P * (a + 256 * (b + 256 * x)) := by
 rw [Nat.mul_assoc, Nat.add_assoc, ← Nat.mul_add]
 congr 2
 omega

set_option maxHeartbeats 8000000 in
theorem Q3t (w : World) (p : Bool) (l : List UInt8) (hl : l.length ≤ 3000000000) :
  Calls Tryz.prog 71 #[wv p l] w (Ret fun v w' => Kp [] w w' ∧ NewD w w' v (bval (bts l))) := by
 have hbl := Qb1 l
 refine Q0a [] [] (by simp) [] Tryz.func71 rfl mixed (by kernel_rfl) Tryz.ntmps71 Tryz.results71 rfl ⟨by simp, by simp⟩ (by simp) ?_
 simp only [toS, textOps, toSOp, kindAt, kindOf, odAt, sopsAt, ordOf, zipF]
 (repeat' (first | refine JC.seq ?_ | refine JC.ops ?_ | refine JO.nil ?_ | refine Q00 ?_ | (apply Q04; (iterate 3 exact rfl)) | (apply Q06; (iterate 3 exact rfl)) | (apply Q02; (iterate 3 exact rfl)) | (apply Q0g; (iterate 4 exact rfl); exact at0; exact rfl) | (apply Q78; (iterate 3 exact rfl)) | (apply Q0x; (iterate 4 exact rfl); intro _) | refine JC.block ?_))
 rename_i b1
 refine Q0k (ι := Int × Value × SHeap × List Nat) ⟨fun z => [(5, iv z.1), (3, z.2.1), (1, .pointer (some ⟨b1, 0, none⟩))], fun z => (b1, .cells #[.bool p, sv l] 34) :: (z.2.2.1 ++ []),
  fun z => z.1 = l.length - 2 * z.2.2.2.length ∧ -2 ≤ z.1 ∧ OwnN z.2.2.1 z.2.1 z.2.2.2.length z.2.2.2 ∧ (∀ x ∈ z.2.2.2, x < B16) ∧ val B16 z.2.2.2 + B16 ^ z.2.2.2.length * bval ((bts l).take z.1.toNat) = bval (bts l), fun z => (z.1 + 2).toNat⟩
  ((l.length : Int), _, [], []) ⟨by simp, by simp, OwnN.nil, fun _ h => absurd h List.not_mem_nil, by
   dsimp only
   rw [Int.toNat_natCast, List.take_of_length_le (by omega)]
   simp [val]⟩ (by repeat first | exact trivial | refine ⟨rfl, ?_⟩) (by exact HSub.at 0 rfl (HSub.nil _)) (fun z hz => ?_)
 obtain ⟨i, v, N, zs⟩ := z
 obtain ⟨hi, hi2, hO, hz, hval⟩ := hz
 dsimp only at hi hi2 hO hz hval ⊢
 by_cases hin : 0 < i
 ·obtain ⟨m, rfl⟩ : ∃ m : Nat, i = m := ⟨i.toNat, by omega⟩
  rw [Int.toNat_natCast] at hval
  have hm0 : 0 < m := by omega
  have hml : m ≤ l.length := by omega
  have hd1 : (bts l).getD (m - 1) 0 < 256 := Qhd
  have hd2 : (bts l).getD (m - 2) 0 < 256 := Qhd
  by_cases hm1 : 1 < m
  ·(repeat' (first | refine JC.seq ?_ | refine JC.ops ?_ | refine JO.nil ?_ | refine Q00 ?_ | (apply Q04; (iterate 3 exact rfl)) | (apply Q06; (iterate 3 exact rfl)) | (apply Q02; (iterate 3 exact rfl)) | (apply Q0g; (iterate 4 exact rfl); exact at0; exact rfl) | (apply Q1q (i := 256); (iterate 4 exact rfl); (first | assumption | omega)) | (apply Q1a; (iterate 4 exact rfl); omega) | (apply Q2m; (iterate 4 exact rfl); omega) | (apply Qbi; (iterate 4 exact rfl); omega) | (apply Qae; (iterate 3 exact rfl); omega) | (apply Qdm; (iterate 4 exact rfl); (first | assumption | omega)) | (apply Q1l; (iterate 4 exact rfl); all_goals intro hc; all_goals try (exfalso; omega)) | (apply Q0w; (iterate 5 exact rfl); (repeat first | exact trivial | refine ⟨rfl, ?_⟩); decide; decide; intro _) | refine JC.skip ?_ | refine Q08 rfl ?_ | refine JC.block ?_))
   rename_i b2
   refine Q1r (A := [_, _]) hO (Q2g b2 1 [(bts l).getD (m - 1) 0 + 256 * (bts l).getD (m - 2) 0] _ rfl rfl (by decide)).rd (by (repeat' first | exact HSub.nil _ | exact HSub.hd | exact Q03 | exact HSub.refl _ | refine HSub.skip ?_ | refine Q01 ?_)) rfl trivial rfl rfl rfl rfl (by omega) (fun v' N' hO' => ?_)
   (repeat' (first | refine JC.ops ?_ | refine JO.nil ?_ | refine Q00 ?_ | (apply Q04; (iterate 3 exact rfl)) | (apply Q02; (iterate 3 exact rfl)) | (apply Qbi; (iterate 4 exact rfl); omega) | refine Q0b ?_))
   refine Q0c (((m - 2 : Nat) : Int), v', N', zs ++ [(bts l).getD (m - 1) 0 + 256 * (bts l).getD (m - 2) 0]) ⟨by simp only [List.length_append, List.length_singleton]; omega, by dsimp only; omega, by rw [List.length_append]; exact hO', Q1z hz (by show _ < 65536; omega), ?_⟩ (by dsimp only; omega) (by repeat first | exact trivial | refine ⟨rfl, ?_⟩) (by (repeat' first | exact HSub.refl _ | exact HSub.nil _ | refine HSub.at 0 rfl ?_ | refine HSub.at 1 rfl ?_ | refine HSub.at 2 rfl ?_ | refine HSub.at 3 rfl ?_ | refine HSub.at 4 rfl ?_ | refine HSub.at 5 rfl ?_ | refine HSub.at 6 rfl ?_ | refine HSub.at 7 rfl ?_ | refine HSub.at 8 rfl ?_ | refine HSub.at 9 rfl ?_ | refine HSub.at 10 rfl ?_ | refine HSub.at 11 rfl ?_ | refine HSub.at 12 rfl ?_ | refine HSub.at 13 rfl ?_ | refine HSub.at 14 rfl ?_ | refine HSub.at 15 rfl ?_ | refine HSub.at 16 rfl ?_ | refine HSub.at 17 rfl ?_ | refine HSub.at 18 rfl ?_ | refine HSub.at 19 rfl ?_ | refine Q0l ?_ | refine HSub.skip ?_ | refine Q01 ?_))
   dsimp only
   rw [Q2b, List.length_append, List.length_singleton, Int.toNat_natCast, ← hval, Q72 _ m hm0 (by omega), Q72 _ (m - 1) (by omega) (by omega), show m - 1 - 1 = m - 2 by omega, Nat.pow_succ]
   exact Qgr
  ·(repeat' (first | refine JC.seq ?_ | refine JC.ops ?_ | refine JO.nil ?_ | refine Q00 ?_ | (apply Q04; (iterate 3 exact rfl)) | (apply Q06; (iterate 3 exact rfl)) | (apply Q02; (iterate 3 exact rfl)) | (apply Q0g; (iterate 4 exact rfl); exact at0; exact rfl) | (apply Q2m; (iterate 4 exact rfl); omega) | (apply Qae; (iterate 3 exact rfl); omega) | (apply Qdm; (iterate 4 exact rfl); (first | assumption | omega)) | (apply Q1l; (iterate 4 exact rfl); all_goals intro hc; all_goals try (exfalso; omega)) | (apply Q0w; (iterate 5 exact rfl); (repeat first | exact trivial | refine ⟨rfl, ?_⟩); decide; decide; intro _) | refine JC.skip ?_ | refine Q08 rfl ?_ | refine Q07 rfl ?_ | refine JC.block ?_))
   rename_i b2
   refine Q1r (A := [_, _]) hO (Q2g b2 1 [(bts l).getD (m - 1) 0] _ rfl rfl (by decide)).rd (by (repeat' first | exact HSub.nil _ | exact HSub.hd | exact Q03 | exact HSub.refl _ | refine HSub.skip ?_ | refine Q01 ?_)) rfl trivial rfl rfl rfl rfl (by omega) (fun v' N' hO' => ?_)
   (repeat' (first | refine JC.ops ?_ | refine JO.nil ?_ | refine Q00 ?_ | (apply Q04; (iterate 3 exact rfl)) | (apply Q02; (iterate 3 exact rfl)) | (apply Q3b; (iterate 4 exact rfl); omega) | refine Q0b ?_))
   refine Q0c ((m : Int) - 2, v', N', zs ++ [(bts l).getD (m - 1) 0]) ⟨by simp only [List.length_append, List.length_singleton]; omega, by dsimp only; omega, by rw [List.length_append]; exact hO', Q1z hz (by show _ < 65536; omega), ?_⟩ (by dsimp only; omega) (by repeat first | exact trivial | refine ⟨rfl, ?_⟩) (by (repeat' first | exact HSub.refl _ | exact HSub.nil _ | refine HSub.at 0 rfl ?_ | refine HSub.at 1 rfl ?_ | refine HSub.at 2 rfl ?_ | refine HSub.at 3 rfl ?_ | refine HSub.at 4 rfl ?_ | refine HSub.at 5 rfl ?_ | refine HSub.at 6 rfl ?_ | refine HSub.at 7 rfl ?_ | refine HSub.at 8 rfl ?_ | refine HSub.at 9 rfl ?_ | refine HSub.at 10 rfl ?_ | refine HSub.at 11 rfl ?_ | refine HSub.at 12 rfl ?_ | refine HSub.at 13 rfl ?_ | refine HSub.at 14 rfl ?_ | refine HSub.at 15 rfl ?_ | refine HSub.at 16 rfl ?_ | refine HSub.at 17 rfl ?_ | refine HSub.at 18 rfl ?_ | refine HSub.at 19 rfl ?_ | refine Q0l ?_ | refine HSub.skip ?_ | refine Q01 ?_))
   dsimp only
   obtain rfl : m = 1 := by omega
   rw [Q2b, List.length_append, List.length_singleton, show ((1 : Nat) : Int) - 2 = -1 from rfl, show (-1 : Int).toNat = 0 from rfl, List.take_zero, Q5f, Nat.mul_zero, Nat.add_zero, ← hval, Q72 _ 1 (by decide) (by omega), Nat.sub_self, List.take_zero, Q5f, Nat.mul_zero, Nat.add_zero]
 ·(repeat' (first | refine JC.seq ?_ | refine JC.ops ?_ | refine JO.nil ?_ | refine Q00 ?_ | (apply Q04; (iterate 3 exact rfl)) | (apply Q1l; (iterate 4 exact rfl); all_goals intro hc; all_goals try (exfalso; omega)) | refine Q0i ?_ | refine JC.exit ?_ | refine Q07 rfl ?_ | refine Q0f ?_))
  obtain ⟨A, cap, rfl⟩ := hO.form
  refine Q09 trivial rfl rfl rfl (fun w hk hs => Q9o w _ _ _ _ (hO.rd.at hk hs (by (repeat' first | exact HSub.nil _ | exact HSub.hd | exact Q03 | exact HSub.refl _ | refine HSub.skip ?_ | refine Q01 ?_))) (by omega)) fun w v w' _ _ _ hR => ?_
  obtain ⟨q, hq, rfl, hnq⟩ := hR
  (repeat' (first | refine JO.nil ?_ | refine Q00 ?_ | (apply Q02; (iterate 3 exact rfl)) | refine JC.ret ?_))
  have hown := hO.hd hq
  rw [← hnq] at hown
  have hql : (nrm zs).length = q := hown.len
  refine Q0j rfl (fun a w' st => ⟨st.kp, N, nrm zs, st.newOf rfl (by (repeat' first | exact HSub.nil _ | exact HSub.hd | exact Q03 | exact HSub.refl _ | refine HSub.skip ?_ | refine Q01 ?_)), by rw [hql]; exact hown, Q2n hz, ?_⟩)
  rw [show i.toNat = 0 by omega, List.take_zero, Q5f, Nat.mul_zero, Nat.add_zero] at hval
  rw [Q1o, hval]

end Go.Proofs.YtdlmnloikakjpaaGreatDoor

