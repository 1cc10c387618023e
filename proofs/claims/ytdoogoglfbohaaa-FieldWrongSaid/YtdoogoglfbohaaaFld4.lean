/- Walks of field: products. -/
import Derived.Test.YtdoogoglfbohaaaFld3
namespace Go.Proofs.Ytdoogoglfbohaaa
open Go Go.RowKit
set_option linter.unusedSimpArgs false
set_option linter.unusedVariables false
set_option linter.unusedSectionVars false

/-- The product, while it is made: rows before i are done; row i: k numbers are added, k + 1 in the columns before j. -/
def mS (m n : NM) (i k j : Nat) : List Nat := tab2 m.r n.c fun a b => if a < i then dot m n a b m.c else if a = i then dot m n i b (if b < j then k + 1 else k) else 0

theorem mS_zero (m n : NM) : mS m n 0 0 0 = tab (m.r * n.c) fun _ => 0 := by
  unfold mS tab2
  refine tab_congr fun t _ => ?_
  simp only [Nat.not_lt_zero, if_false]
  split <;> simp [dot_zero]
theorem mS_set {m n : NM} {i k j : Nat} (hj : j < n.c) : (mS m n i k j).set (i * n.c + j) (dot m n i j (k + 1)) = mS m n i k (j + 1) := by
  unfold mS
  rw [tab2_set hj]
  refine tab2_congr fun a b ha hb => ?_
  by_cases h1 : a < i
  · have : ¬ (a = i ∧ b = j) := by omega
    simp [h1, this]
  · by_cases h2 : a = i
    · subst h2
      by_cases h3 : b = j
      · subst h3; simp
      · have e : (b < j + 1) = (b < j) := by simp; omega
        simp [h3, e]
    · simp [h1, h2]
theorem mS_row {m n : NM} {i k j : Nat} (hj : n.c ≤ j) : mS m n i k j = mS m n i (k + 1) 0 := by
  unfold mS
  refine tab2_congr fun a b ha hb => ?_
  rw [if_pos (show b < j by omega)]
  simp
theorem mS_skip {m n : NM} {i k j : Nat} (h0 : ent m.c m.e i k = 0) : mS m n i k j = mS m n i (k + 1) 0 := by
  unfold mS
  refine tab2_congr fun a b ha hb => ?_
  have : ∀ b, dot m n i b (k + 1) = dot m n i b k := fun b => by
    rw [← dot_succ, h0, Nat.zero_mul, Nat.add_zero]
    simp [dot]
  have e : dot m n i b (if b < j then k + 1 else k) = dot m n i b (k + 1) := by
    split
    · rfl
    · exact (this b).symm
  simp [e]
theorem mS_next {m n : NM} {i k : Nat} (hk : m.c ≤ k) (hk' : k ≤ m.c) : mS m n i k 0 = mS m n (i + 1) 0 0 := by
  unfold mS
  have : k = m.c := by omega
  subst this
  refine tab2_congr fun a b ha hb => ?_
  by_cases h1 : a < i
  · simp [h1, show a < i + 1 by omega]
  · by_cases h2 : a = i
    · subst h2; simp
    · by_cases h3 : a = i + 1
      · subst h3; simp [dot_zero, h1]
      · simp [h1, h2, h3, show ¬ a < i + 1 by omega]
theorem mS_get {m n : NM} {i k j : Nat} (hi : i < m.r) (hj : j < n.c) : (mS m n i k j).getD (i * n.c + j) 0 = dot m n i j k := by
  have := ent_tab2 (g := fun a b => if a < i then dot m n a b m.c else if a = i then dot m n i b (if b < j then k + 1 else k) else 0) hi hj
  simp only [ent] at this
  unfold mS
  rw [this]
  simp
theorem mS_end {m n : NM} {i : Nat} (hi : m.r ≤ i) : mS m n i 0 0 = (mulM m n).e := by
  unfold mS
  show tab2 m.r n.c _ = tab2 m.r n.c fun i j => dot m n i j m.c
  refine tab2_congr fun a b ha hb => ?_
  simp [show a < i by omega]

theorem mul_bound {a b p : Nat} (ha : a < p) (hb : b < p) (hp : p ≤ 997) : a * b ≤ 994009 := by
  have := Nat.mul_le_mul (show a ≤ 997 by omega) (show b ≤ 997 by omega)
  omega
theorem row_le {r c i : Nat} (hi : i < r) : (i + 1) * c ≤ r * c := Nat.mul_le_mul_right c (by omega)

set_option maxHeartbeats 4000000 in
theorem c_Mul (w : World) (v u : Value) (m n : NM) (hm : Rt m) (hn : Rt n) (hp : m.p = n.p) (hr : m.c = n.r) (hv : IsM w v m) (hu : IsM w u n) :
    Calls Try.prog 19 #[v, u] w (Ret fun v w' => Kp [] w w' ∧ GivesMB (mulM m n) w v w') := by
  have hvF := hv.f
  have huF := hu.f
  obtain ⟨E, rfl, hE⟩ := hv
  obtain ⟨E', rfl, hE'⟩ := hu
  have hle := hm.le
  have hle' := hn.le
  have hl := hm.len
  have hl' := hn.len
  rw [hl] at hE
  rw [hl'] at hE'
  have hbr := hm.r
  have hbc := hm.c
  have hbc' := hn.c
  have hrc := rc_le hbr hbc'
  refine calls_of_S [⟨14, 2, [], []⟩] [] (by simp) [] Try.func19 rfl mixed (by kernel_rfl) Try.ntmps19 Try.results19 rfl ⟨by simp, by simp⟩ (by simp) ?_
  simp only [toS, textOps, toSOp, kindAt, kindOf, odAt, sopsAt, ordOf, zipF]
  (repeat' (first | refine JC.seq ?_ | refine JC.ops ?_ | refine JO.nil ?_ | refine JX.thenN ?_ | (apply r_assign; exact rfl; exact rfl; exact rfl) | (apply r_loadN; exact rfl; exact rfl; exact rfl; exact rfl; (first | exact at0 | exact at1 | exact at2 | exact at3 | exact at4 | exact at5 | exact at6 | exact at7); exact rfl) | (apply r_allocZ; exact rfl; exact rfl; exact rfl; intro _) | (apply r_boxA; exact rfl; exact rfl; exact rfl; exact rfl; intro _)))
  rename_i b2 b3 b4
  refine r_call0 trivial rfl rfl rfl (fun w hk _ => c_one w _ _ m.fm n.fm (hvF.mono hk) (huF.mono hk) hm.flen hn.flen) fun w v w' _ _ _ hR => ?_
  obtain ⟨b', rfl, hb⟩ := hR
  obtain rfl := hb.2 (oneF_of hm hn hp)
  (repeat' (first | refine JC.seq ?_ | refine JC.ops ?_ | refine JO.nil ?_ | refine JX.thenN ?_ | (apply r_move; exact rfl; exact rfl; exact rfl) | (apply r_fieldAddr; exact rfl; exact rfl; exact rfl) | (apply r_load; exact rfl; exact rfl; exact rfl; exact rfl; (first | exact at0 | exact at1 | exact at2 | exact at3 | exact at4 | exact at5 | exact at6 | exact at7); exact rfl) | (apply r_pickF; exact rfl; exact rfl; exact rfl; exact rfl) | (apply r_not; exact rfl; exact rfl; exact rfl) | (apply r_neq; exact rfl; exact rfl; exact rfl; exact rfl; all_goals intro hc; all_goals try (exfalso; omega)) | refine JC.skip ?_ | refine JC.condF rfl ?_))
  refine r_callA (A := [_, _, _]) (B := []) rfl trivial rfl rfl rfl (fun w hk _ => c_zero m.p m.r n.c hm.pr hm.r hn.c w) fun w v w' _ _ _ hR => ?_
  obtain ⟨N, Eo, hN, rfl, hO⟩ := hR
  obtain ⟨Ao, co, rfl⟩ := hO.form
  refine ⟨N, hN, ?_⟩
  (repeat' (first | refine JC.seq ?_ | refine JC.ops ?_ | refine JO.nil ?_ | refine JX.thenN ?_ | (apply r_move; exact rfl; exact rfl; exact rfl) | (apply r_fieldAddr; exact rfl; exact rfl; exact rfl) | (apply r_load; exact rfl; exact rfl; exact rfl; exact rfl; (first | exact at0 | exact at1 | exact at2 | exact at3 | exact at4 | exact at5 | exact at6 | exact at7); exact rfl) | (apply r_allocZ; exact rfl; exact rfl; exact rfl; intro _) | (apply r_storeN; exact rfl; (first | exact trivial | exact ⟨rfl, rfl⟩); exact rfl; exact rfl; (first | exact at0 | exact at1 | exact at2 | exact at3 | exact at4 | exact at5 | exact at6 | exact at7); exact rfl; exact rfl; exact rfl) | refine JC.block ?_))
  rename_i b6
  refine JC.loopH (ι := Nat × SHeap) ⟨fun i => [(34, nv i.1), (33, nv m.r), (6, .pointer (some ⟨b6, 0, none⟩)), (2, .pointer (some ⟨b2, 0, none⟩)), (3, .pointer (some ⟨b3, 0, none⟩)), (4, .pointer (some ⟨b4, 0, none⟩)), (5, .bool false)],
    fun i => [(b6, .cells #[nv m.p, nv m.r, nv n.c, .slice Ao (m.r * n.c) co] 27), (b4, .cells #[iv 0, iv 0, iv 0, .slice none 0 0] 27), (b3, .cells #[nv n.p, nv n.r, nv n.c, E'] 27), (b2, .cells #[nv m.p, nv m.r, nv m.c, E] 27)] ++ (i.2 ++ []),
    fun i => i.1 ≤ m.r ∧ OwnN i.2 (.slice Ao (m.r * n.c) co) (m.r * n.c) (mS m n i.1 0 0), fun i => m.r - i.1⟩ (0, N) ⟨by omega, by rw [mS_zero]; exact hO⟩ ⟨rfl, rfl, rfl, rfl, rfl, rfl, rfl, trivial⟩ (by (first | exact HSub.refl _ | (repeat' first | exact HSub.nil _ | exact HSub.refl _ | refine HSub.at 0 rfl ?_ | refine HSub.at 1 rfl ?_ | refine HSub.at 2 rfl ?_ | refine HSub.at 3 rfl ?_ | refine HSub.at 4 rfl ?_ | refine HSub.at 5 rfl ?_ | refine HSub.at 6 rfl ?_ | refine HSub.at 7 rfl ?_))) (fun i hi => ?_)
  obtain ⟨i, N⟩ := i
  obtain ⟨hin, hO⟩ := hi
  dsimp only at hin hO ⊢
  have hpos := hm.pos
  have hp9 := hm.pr.2.1
  have hic : i * m.c ≤ 160000 := Nat.mul_le_mul (show i ≤ 400 by omega) hbc
  have hic1 : (i + 1) * m.c ≤ 160400 := by rw [Nat.add_mul]; omega
  have hin2 : i * n.c ≤ 160000 := Nat.mul_le_mul (show i ≤ 400 by omega) hbc'
  (repeat' (first | refine JC.seq ?_ | refine JC.ops ?_ | refine JO.nil ?_ | refine JX.thenN ?_ | (apply r_move; exact rfl; exact rfl; exact rfl) | (apply r_fieldAddr; exact rfl; exact rfl; exact rfl) | (apply r_assign; exact rfl; exact rfl; exact rfl) | (apply r_load; exact rfl; exact rfl; exact rfl; exact rfl; (first | exact at0 | exact at1 | exact at2 | exact at3 | exact at4 | exact at5 | exact at6 | exact at7); exact rfl) | (apply r_loadN; exact rfl; exact rfl; exact rfl; exact rfl; (first | exact at0 | exact at1 | exact at2 | exact at3 | exact at4 | exact at5 | exact at6 | exact at7); exact rfl) | (apply r_add1; exact rfl; exact rfl; exact rfl; exact rfl; omega) | (apply r_mulN; exact rfl; exact rfl; exact rfl; exact rfl; (first | assumption | omega)) | (apply r_lss; exact rfl; exact rfl; exact rfl; exact rfl; all_goals intro hc; all_goals try (exfalso; omega)) | (apply r_storeN; exact rfl; (first | exact trivial | exact ⟨rfl, rfl⟩); exact rfl; exact rfl; (first | exact at0 | exact at1 | exact at2 | exact at3 | exact at4 | exact at5 | exact at6 | exact at7); exact rfl; exact rfl; exact rfl) | refine JX.thenE ?_ | refine JC.skip ?_ | refine JC.exit ?_ | refine JC.ret ?_ | refine JC.condT rfl ?_ | refine JC.condF rfl ?_ | refine JC.block ?_ | refine JX.blockE ?_))
  · refine r_rowN rfl rfl rfl (WN.rd hE rfl []) rfl rfl (row_le (by omega)) (fun v' hv' hat => ?_)
    (repeat' (first | refine JO.nil ?_ | refine JX.thenN ?_ | (apply r_move; exact rfl; exact rfl; exact rfl) | (apply r_lenN; exact rfl; exact rfl; exact rfl; (first | assumption | exact WN.rd (by assumption) rfl [] | exact OwnN.rd (by assumption))) | refine JC.block ?_))
    refine JC.loopH (ι := Nat × SHeap) ⟨fun z => [(50, nv z.1), (49, nv m.c), (48, v'), (34, nv i), (7, nv i), (33, nv m.r), (6, .pointer (some ⟨b6, 0, none⟩)), (2, .pointer (some ⟨b2, 0, none⟩)), (3, .pointer (some ⟨b3, 0, none⟩)), (4, .pointer (some ⟨b4, 0, none⟩)), (5, .bool false)], fun z => [(b6, .cells #[nv m.p, nv m.r, nv n.c, .slice Ao (m.r * n.c) co] 27), (b4, .cells #[iv 0, iv 0, iv 0, .slice none 0 0] 27), (b3, .cells #[nv n.p, nv n.r, nv n.c, E'] 27), (b2, .cells #[nv m.p, nv m.r, nv m.c, E] 27)] ++ (z.2 ++ []),
      fun z => z.1 ≤ m.c ∧ OwnN z.2 (.slice Ao (m.r * n.c) co) (m.r * n.c) (mS m n i z.1 0), fun z => m.c - z.1⟩ (0, N) ⟨by omega, hO⟩ ⟨rfl, rfl, rfl, rfl, rfl, rfl, rfl, rfl, rfl, rfl, rfl, trivial⟩ (by (first | exact HSub.refl _ | (repeat' first | exact HSub.nil _ | exact HSub.refl _ | refine HSub.at 0 rfl ?_ | refine HSub.at 1 rfl ?_ | refine HSub.at 2 rfl ?_ | refine HSub.at 3 rfl ?_ | refine HSub.at 4 rfl ?_ | refine HSub.at 5 rfl ?_ | refine HSub.at 6 rfl ?_ | refine HSub.at 7 rfl ?_))) (fun k hk => ?_)
    obtain ⟨k, N⟩ := k
    obtain ⟨hkn, hO⟩ := hk
    dsimp only at hkn hO ⊢
    have hkc : k * n.c ≤ 160000 := Nat.mul_le_mul (show k ≤ 400 by omega) hbc'
    have hkc1 : (k + 1) * n.c ≤ 160400 := by rw [Nat.add_mul]; omega
    (repeat' (first | refine JC.seq ?_ | refine JC.ops ?_ | refine JO.nil ?_ | refine JX.thenN ?_ | (apply r_move; exact rfl; exact rfl; exact rfl) | (apply r_fieldAddr; exact rfl; exact rfl; exact rfl) | (apply r_assign; exact rfl; exact rfl; exact rfl) | (apply r_load; exact rfl; exact rfl; exact rfl; exact rfl; (first | exact at0 | exact at1 | exact at2 | exact at3 | exact at4 | exact at5 | exact at6 | exact at7); exact rfl) | (apply r_idxN; exact rfl; exact rfl; exact rfl; exact rfl; (first | assumption | exact WN.rd (by assumption) rfl [] | exact OwnN.rd (by assumption)); (first | assumption | omega)) | (apply r_ldN; exact rfl; exact rfl; exact rfl; exact rfl; (first | assumption | exact WN.rd (by assumption) rfl [] | exact OwnN.rd (by assumption)); (repeat' first | exact HSub.nil _ | exact HSub.hd | exact HSub.in0 | exact HSub.refl _ | refine HSub.skip ?_ | refine HSub.skipN ?_); (first | assumption | omega)) | (apply r_add1; exact rfl; exact rfl; exact rfl; exact rfl; omega) | (apply r_mulN; exact rfl; exact rfl; exact rfl; exact rfl; (first | assumption | omega)) | (apply r_lss; exact rfl; exact rfl; exact rfl; exact rfl; all_goals intro hc; all_goals try (exfalso; omega)) | refine JX.thenE ?_ | refine JC.skip ?_ | refine JC.exit ?_ | refine JC.condT rfl ?_ | refine JC.condF rfl ?_ | refine JC.block ?_ | refine JX.blockN ?_ | refine JX.blockE ?_))
    · refine r_rowN rfl rfl rfl (WN.rd hE' rfl []) rfl rfl (row_le (by omega)) (fun u' hu' hat' => ?_)
      (repeat' (first | refine JO.nil ?_ | refine JX.thenN ?_ | (apply r_move; exact rfl; exact rfl; exact rfl) | (apply r_lenN; exact rfl; exact rfl; exact rfl; (first | assumption | exact WN.rd (by assumption) rfl [] | exact OwnN.rd (by assumption))) | refine JC.block ?_))
      have hk : k < m.c := by omega
      have hi : i < m.r := by omega
      have ex : (rowOf m.c m.e i).getD k 0 = ent m.c m.e i k := rowOf_getD hk
      refine JC.loopH (ι := Nat × SHeap) ⟨fun z => [(68, nv z.1), (67, nv n.c), (66, u'), (8, nv k), (9, nv (ent m.c m.e i k)), (50, nv k), (49, nv m.c), (48, v'), (34, nv i), (7, nv i), (33, nv m.r), (6, .pointer (some ⟨b6, 0, none⟩)), (2, .pointer (some ⟨b2, 0, none⟩)), (3, .pointer (some ⟨b3, 0, none⟩)), (4, .pointer (some ⟨b4, 0, none⟩)), (5, .bool false)], fun z => [(b6, .cells #[nv m.p, nv m.r, nv n.c, .slice Ao (m.r * n.c) co] 27), (b4, .cells #[iv 0, iv 0, iv 0, .slice none 0 0] 27), (b3, .cells #[nv n.p, nv n.r, nv n.c, E'] 27), (b2, .cells #[nv m.p, nv m.r, nv m.c, E] 27)] ++ (z.2 ++ []),
        fun z => z.1 ≤ n.c ∧ OwnN z.2 (.slice Ao (m.r * n.c) co) (m.r * n.c) (mS m n i k z.1), fun z => n.c - z.1⟩ (0, N) ⟨by omega, hO⟩ ⟨rfl, rfl, rfl, rfl, congrArg (fun t => some (nv t)) ex, rfl, rfl, rfl, rfl, rfl, rfl, rfl, rfl, rfl, rfl, rfl, trivial⟩ (by (first | exact HSub.refl _ | (repeat' first | exact HSub.nil _ | exact HSub.refl _ | refine HSub.at 0 rfl ?_ | refine HSub.at 1 rfl ?_ | refine HSub.at 2 rfl ?_ | refine HSub.at 3 rfl ?_ | refine HSub.at 4 rfl ?_ | refine HSub.at 5 rfl ?_ | refine HSub.at 6 rfl ?_ | refine HSub.at 7 rfl ?_))) (fun j hj => ?_)
      obtain ⟨j, N⟩ := j
      obtain ⟨hjn, hO⟩ := hj
      dsimp only at hjn hO ⊢
      (repeat' (first | refine JC.seq ?_ | refine JC.ops ?_ | refine JC.opsD ?_ | refine JO.nil ?_ | refine JX.thenN ?_ | (apply r_move; exact rfl; exact rfl; exact rfl) | (apply r_fieldAddr; exact rfl; exact rfl; exact rfl) | (apply r_assign; exact rfl; exact rfl; exact rfl) | (apply r_load; exact rfl; exact rfl; exact rfl; exact rfl; (first | exact at0 | exact at1 | exact at2 | exact at3 | exact at4 | exact at5 | exact at6 | exact at7); exact rfl) | (apply r_idxN; exact rfl; exact rfl; exact rfl; exact rfl; (first | assumption | exact WN.rd (by assumption) rfl [] | exact OwnN.rd (by assumption)); (first | assumption | omega)) | (apply r_ldN; exact rfl; exact rfl; exact rfl; exact rfl; (first | assumption | exact WN.rd (by assumption) rfl [] | exact OwnN.rd (by assumption)); (repeat' first | exact HSub.nil _ | exact HSub.hd | exact HSub.in0 | exact HSub.refl _ | refine HSub.skip ?_ | refine HSub.skipN ?_); (first | assumption | omega)) | (apply r_add1; exact rfl; exact rfl; exact rfl; exact rfl; omega) | (apply r_addN; exact rfl; exact rfl; exact rfl; exact rfl; omega) | (apply r_mulN; exact rfl; exact rfl; exact rfl; exact rfl; (first | assumption | omega)) | (apply r_lss; exact rfl; exact rfl; exact rfl; exact rfl; all_goals intro hc; all_goals try (exfalso; omega)) | refine JX.thenE ?_ | refine JC.skip ?_ | refine JC.exit ?_ | refine JC.condT rfl ?_ | refine JC.condF rfl ?_ | refine JC.block ?_ | refine JX.blockN ?_ | refine JX.blockE ?_))
      · have hj : j < n.c := by omega
        have ey : (rowOf n.c n.e k).getD j 0 = ent n.c n.e k j := rowOf_getD hj
        have hb1 := hm.ent i k
        have hb2 := hn.ent k j
        have hbb := mul_bound hb1 (hp ▸ hb2) hp9
        have hbx : ent m.c m.e i k * (rowOf n.c n.e k).getD j 0 < 9223372036854775808 := by rw [ey]; omega
        have hlt := idx_lt hi hj
        have ed : (mS m n i k j).getD (i * n.c + j) 0 = dot m n i j k := mS_get hi hj
        have hdl : dot m n i j k < m.p := Nat.mod_lt _ hpos
        have hbs : (mS m n i k j).getD (i * n.c + j) 0 + ent m.c m.e i k * (rowOf n.c n.e k).getD j 0 < 9223372036854775808 := by rw [ed, ey]; omega
        (repeat' (first | (apply r_move; exact rfl; exact rfl; exact rfl) | (apply r_fieldAddr; exact rfl; exact rfl; exact rfl) | (apply r_load; exact rfl; exact rfl; exact rfl; exact rfl; (first | exact at0 | exact at1 | exact at2 | exact at3 | exact at4 | exact at5 | exact at6 | exact at7); exact rfl) | (apply r_idxN; exact rfl; exact rfl; exact rfl; exact rfl; (first | assumption | exact WN.rd (by assumption) rfl [] | exact OwnN.rd (by assumption)); (first | assumption | omega)) | (apply r_ldN; exact rfl; exact rfl; exact rfl; exact rfl; (first | assumption | exact WN.rd (by assumption) rfl [] | exact OwnN.rd (by assumption)); (repeat' first | exact HSub.nil _ | exact HSub.hd | exact HSub.in0 | exact HSub.refl _ | refine HSub.skip ?_ | refine HSub.skipN ?_); (first | assumption | omega)) | (apply r_addN; exact rfl; exact rfl; exact rfl; exact rfl; omega) | (apply r_mulN; exact rfl; exact rfl; exact rfl; exact rfl; (first | assumption | omega)) | (apply r_modN; exact rfl; exact rfl; exact rfl; exact rfl; omega)))
        have eu : ((mS m n i k j).getD (i * n.c + j) 0 + ent m.c m.e i k * (rowOf n.c n.e k).getD j 0) % m.p = dot m n i j (k + 1) := by rw [ed, ey, dot_succ]
        refine r_stN (A := [_, _, _, _]) (u := dot m n i j (k + 1)) hO rfl rfl ⟨rfl, rfl⟩ rfl (congrArg (fun t => some (nv t)) eu) hlt (fun N' hO' => ?_)
        rw [mS_set hj] at hO'
        (repeat' (first | refine JC.ops ?_ | refine JO.nil ?_ | refine JX.thenN ?_ | (apply r_move; exact rfl; exact rfl; exact rfl) | (apply r_add1; exact rfl; exact rfl; exact rfl; exact rfl; omega) | refine JX.blockN ?_))
        exact JX.roundH (j + 1, N') ⟨by dsimp only; omega, hO'⟩ (by dsimp only; omega) ⟨rfl, rfl, rfl, rfl, rfl, rfl, rfl, rfl, rfl, rfl, rfl, rfl, rfl, rfl, rfl, rfl, trivial⟩ (by (first | exact HSub.refl _ | (repeat' first | exact HSub.nil _ | exact HSub.refl _ | refine HSub.at 0 rfl ?_ | refine HSub.at 1 rfl ?_ | refine HSub.at 2 rfl ?_ | refine HSub.at 3 rfl ?_ | refine HSub.at 4 rfl ?_ | refine HSub.at 5 rfl ?_ | refine HSub.at 6 rfl ?_ | refine HSub.at 7 rfl ?_)))
      · rw [mS_row (by omega)] at hO
        exact JX.roundH (k + 1, N) ⟨by dsimp only; omega, hO⟩ (by dsimp only; omega) ⟨rfl, rfl, rfl, rfl, rfl, rfl, rfl, rfl, rfl, rfl, rfl, trivial⟩ (by (first | exact HSub.refl _ | (repeat' first | exact HSub.nil _ | exact HSub.refl _ | refine HSub.at 0 rfl ?_ | refine HSub.at 1 rfl ?_ | refine HSub.at 2 rfl ?_ | refine HSub.at 3 rfl ?_ | refine HSub.at 4 rfl ?_ | refine HSub.at 5 rfl ?_ | refine HSub.at 6 rfl ?_ | refine HSub.at 7 rfl ?_)))
    · rw [mS_next (by omega) hkn] at hO
      exact JX.roundH (i + 1, N) ⟨by dsimp only; omega, hO⟩ (by dsimp only; omega) ⟨rfl, rfl, rfl, rfl, rfl, rfl, rfl, trivial⟩ (by (first | exact HSub.refl _ | (repeat' first | exact HSub.nil _ | exact HSub.refl _ | refine HSub.at 0 rfl ?_ | refine HSub.at 1 rfl ?_ | refine HSub.at 2 rfl ?_ | refine HSub.at 3 rfl ?_ | refine HSub.at 4 rfl ?_ | refine HSub.at 5 rfl ?_ | refine HSub.at 6 rfl ?_ | refine HSub.at 7 rfl ?_)))
  · rw [mS_end (by omega)] at hO
    exact JX.retCT 1 rfl rfl rfl rfl (fun a w' st => ⟨st.kp, N, _, rfl, st.newOf rfl (by (repeat' first | exact HSub.nil _ | exact HSub.hd | exact HSub.in0 | exact HSub.refl _ | refine HSub.skip ?_ | refine HSub.skipN ?_)), OwnM.mk' hO⟩)

set_option maxHeartbeats 2000000 in
theorem c_MulF (w : World) (v u : Value) (a b : FM) (h : ¬ (OneF a b ∧ a.C = b.R)) (ha : IsF w v a) (hb : IsF w u b) (hl : a.E.length < 1000000000) (hl' : b.E.length < 1000000000) :
    Calls Try.prog 19 #[v, u] w (Ret fun v w' => Kp [] w w' ∧ v = .tuple #[zeroV, .bool false]) := by
  have hvF := ha
  have huF := hb
  obtain ⟨E, rfl, hE⟩ := ha
  obtain ⟨E', rfl, hE'⟩ := hb
  unfold fmV
  refine calls_of_S [⟨14, 2, [], []⟩] [] (by simp) [] Try.func19 rfl mixed (by kernel_rfl) Try.ntmps19 Try.results19 rfl ⟨by simp, by simp⟩ (by simp) ?_
  simp only [toS, textOps, toSOp, kindAt, kindOf, odAt, sopsAt, ordOf, zipF]
  (repeat' (first | refine JC.seq ?_ | refine JC.ops ?_ | refine JO.nil ?_ | refine JX.thenN ?_ | (apply r_assign; exact rfl; exact rfl; exact rfl) | (apply r_loadN; exact rfl; exact rfl; exact rfl; exact rfl; (first | exact at0 | exact at1 | exact at2 | exact at3 | exact at4 | exact at5 | exact at6 | exact at7); exact rfl) | (apply r_allocZ; exact rfl; exact rfl; exact rfl; intro _) | (apply r_boxA; exact rfl; exact rfl; exact rfl; exact rfl; intro _)))
  refine r_call0 trivial rfl rfl rfl (fun w hk _ => c_one w _ _ a b (hvF.mono hk) (huF.mono hk) hl hl') fun w v w' _ _ _ hR => ?_
  obtain ⟨b', rfl, hb⟩ := hR
  cases b' <;> (repeat' (first | refine JC.seq ?_ | refine JC.ops ?_ | refine JO.nil ?_ | refine JX.thenN ?_ | (apply r_move; exact rfl; exact rfl; exact rfl) | (apply r_fieldAddr; exact rfl; exact rfl; exact rfl) | (apply r_assign; exact rfl; exact rfl; exact rfl) | (apply r_load; exact rfl; exact rfl; exact rfl; exact rfl; (first | exact at0 | exact at1 | exact at2 | exact at3 | exact at4 | exact at5 | exact at6 | exact at7); exact rfl) | (apply r_pickT; exact rfl; exact rfl; exact rfl; exact rfl) | (apply r_pickF; exact rfl; exact rfl; exact rfl; exact rfl) | (apply r_not; exact rfl; exact rfl; exact rfl) | (apply r_neq; exact rfl; exact rfl; exact rfl; exact rfl; all_goals intro hc; all_goals try (exfalso; omega)) | (apply r_buildL; exact rfl; exact rfl; exact rfl; exact rfl; exact rfl) | (apply r_storeN; exact rfl; (first | exact trivial | exact ⟨rfl, rfl⟩); exact rfl; exact rfl; (first | exact at0 | exact at1 | exact at2 | exact at3 | exact at4 | exact at5 | exact at6 | exact at7); exact rfl; exact rfl; exact rfl) | refine JX.thenR ?_ | refine JC.skip ?_ | refine JC.ret ?_ | refine JC.condT rfl ?_ | refine JC.condF rfl ?_ | (apply r_skip; exact rfl; exact rfl; (first | (intro h; cases h; done) | (intro _; rfl)))))
  all_goals first
    | exact JX.retCT 0 rfl rfl rfl rfl (fun a w' st => ⟨st.kp, rfl⟩)
    | exact absurd ⟨hb.1 rfl, by omega⟩ h

set_option maxHeartbeats 2000000 in
theorem c_refMulF (w : World) (v u : Value) (a b : FM) (h : ¬ (OneF a b ∧ a.C = b.R)) (ha : IsF w v a) (hb : IsF w u b) (hl : a.E.length < 1000000000) (hl' : b.E.length < 1000000000) :
    Calls Try.prog 43 #[v, u] w (Ret fun v w' => Kp [] w w' ∧ v = .tuple #[zeroV, .bool false]) := by
  have hvF := ha
  have huF := hb
  obtain ⟨E, rfl, hE⟩ := ha
  obtain ⟨E', rfl, hE'⟩ := hb
  unfold fmV
  refine calls_of_S [⟨15, 2, [], []⟩] [] (by simp) [] Try.func43 rfl mixed (by kernel_rfl) Try.ntmps43 Try.results43 rfl ⟨by simp, by simp⟩ (by simp) ?_
  simp only [toS, textOps, toSOp, kindAt, kindOf, odAt, sopsAt, ordOf, zipF]
  (repeat' (first | refine JC.seq ?_ | refine JC.ops ?_ | refine JO.nil ?_ | refine JX.thenN ?_ | (apply r_assign; exact rfl; exact rfl; exact rfl) | (apply r_loadN; exact rfl; exact rfl; exact rfl; exact rfl; (first | exact at0 | exact at1 | exact at2 | exact at3 | exact at4 | exact at5 | exact at6 | exact at7); exact rfl) | (apply r_allocZ; exact rfl; exact rfl; exact rfl; intro _) | (apply r_boxA; exact rfl; exact rfl; exact rfl; exact rfl; intro _)))
  refine r_call0 trivial rfl rfl rfl (fun w hk _ => c_refone w _ _ a b (hvF.mono hk) (huF.mono hk) hl hl') fun w v w' _ _ _ hR => ?_
  obtain ⟨b', rfl, hb⟩ := hR
  cases b' <;> (repeat' (first | refine JC.seq ?_ | refine JC.ops ?_ | refine JO.nil ?_ | refine JX.thenN ?_ | (apply r_move; exact rfl; exact rfl; exact rfl) | (apply r_fieldAddr; exact rfl; exact rfl; exact rfl) | (apply r_assign; exact rfl; exact rfl; exact rfl) | (apply r_load; exact rfl; exact rfl; exact rfl; exact rfl; (first | exact at0 | exact at1 | exact at2 | exact at3 | exact at4 | exact at5 | exact at6 | exact at7); exact rfl) | (apply r_pickT; exact rfl; exact rfl; exact rfl; exact rfl) | (apply r_pickF; exact rfl; exact rfl; exact rfl; exact rfl) | (apply r_not; exact rfl; exact rfl; exact rfl) | (apply r_neq; exact rfl; exact rfl; exact rfl; exact rfl; all_goals intro hc; all_goals try (exfalso; omega)) | (apply r_buildL; exact rfl; exact rfl; exact rfl; exact rfl; exact rfl) | (apply r_storeN; exact rfl; (first | exact trivial | exact ⟨rfl, rfl⟩); exact rfl; exact rfl; (first | exact at0 | exact at1 | exact at2 | exact at3 | exact at4 | exact at5 | exact at6 | exact at7); exact rfl; exact rfl; exact rfl) | refine JX.thenR ?_ | refine JC.skip ?_ | refine JC.ret ?_ | refine JC.condT rfl ?_ | refine JC.condF rfl ?_ | (apply r_skip; exact rfl; exact rfl; (first | (intro h; cases h; done) | (intro _; rfl)))))
  all_goals first
    | exact JX.retCT 0 rfl rfl rfl rfl (fun a w' st => ⟨st.kp, rfl⟩)
    | exact absurd ⟨hb.1 rfl, by omega⟩ h

set_option maxHeartbeats 4000000 in
theorem c_refMul (w : World) (v u : Value) (m n : NM) (hm : Rt m) (hn : Rt n) (hp : m.p = n.p) (hr : m.c = n.r) (hv : IsM w v m) (hu : IsM w u n) :
    Calls Try.prog 43 #[v, u] w (Ret fun v w' => Kp [] w w' ∧ GivesMB (mulM m n) w v w') := by
  have hvF := hv.f
  have huF := hu.f
  obtain ⟨E, rfl, hE⟩ := hv
  obtain ⟨E', rfl, hE'⟩ := hu
  have hl := hm.len
  have hl' := hn.len
  rw [hl] at hE
  rw [hl'] at hE'
  have hbr := hm.r
  have hbc := hm.c
  have hbc' := hn.c
  have hrc := rc_le hbr hbc'
  refine calls_of_S [⟨15, 2, [], []⟩] [] (by simp) [] Try.func43 rfl mixed (by kernel_rfl) Try.ntmps43 Try.results43 rfl ⟨by simp, by simp⟩ (by simp) ?_
  simp only [toS, textOps, toSOp, kindAt, kindOf, odAt, sopsAt, ordOf, zipF]
  (repeat' (first | refine JC.seq ?_ | refine JC.ops ?_ | refine JO.nil ?_ | refine JX.thenN ?_ | (apply r_assign; exact rfl; exact rfl; exact rfl) | (apply r_loadN; exact rfl; exact rfl; exact rfl; exact rfl; (first | exact at0 | exact at1 | exact at2 | exact at3 | exact at4 | exact at5 | exact at6 | exact at7); exact rfl) | (apply r_allocZ; exact rfl; exact rfl; exact rfl; intro _) | (apply r_boxA; exact rfl; exact rfl; exact rfl; exact rfl; intro _)))
  rename_i b2 b3 b4
  refine r_call0 trivial rfl rfl rfl (fun w hk _ => c_refone w _ _ m.fm n.fm (hvF.mono hk) (huF.mono hk) hm.flen hn.flen) fun w v w' _ _ _ hR => ?_
  obtain ⟨b', rfl, hb⟩ := hR
  obtain rfl := hb.2 (oneF_of hm hn hp)
  (repeat' (first | refine JC.seq ?_ | refine JC.ops ?_ | refine JO.nil ?_ | refine JX.thenN ?_ | (apply r_move; exact rfl; exact rfl; exact rfl) | (apply r_fieldAddr; exact rfl; exact rfl; exact rfl) | (apply r_assign; exact rfl; exact rfl; exact rfl) | (apply r_load; exact rfl; exact rfl; exact rfl; exact rfl; (first | exact at0 | exact at1 | exact at2 | exact at3 | exact at4 | exact at5 | exact at6 | exact at7); exact rfl) | (apply r_pickF; exact rfl; exact rfl; exact rfl; exact rfl) | (apply r_not; exact rfl; exact rfl; exact rfl) | (apply r_neq; exact rfl; exact rfl; exact rfl; exact rfl; all_goals intro hc; all_goals try (exfalso; omega)) | refine JC.skip ?_ | refine JC.condF rfl ?_))
  refine r_callA (A := [_, _, _]) (B := []) rfl trivial rfl rfl rfl (fun w hk _ => c_refZero m.p m.r n.c hm.pr hm.r hn.c w) fun w v w' _ _ _ hR => ?_
  obtain ⟨N, Eo, hN, rfl, hO⟩ := hR
  obtain ⟨Ao, co, rfl⟩ := hO.form
  refine ⟨N, hN, ?_⟩
  (repeat' (first | refine JC.seq ?_ | refine JC.ops ?_ | refine JO.nil ?_ | refine JX.thenN ?_ | (apply r_assign; exact rfl; exact rfl; exact rfl) | (apply r_allocZ; exact rfl; exact rfl; exact rfl; intro _) | (apply r_storeN; exact rfl; (first | exact trivial | exact ⟨rfl, rfl⟩); exact rfl; exact rfl; (first | exact at0 | exact at1 | exact at2 | exact at3 | exact at4 | exact at5 | exact at6 | exact at7); exact rfl; exact rfl; exact rfl) | refine JC.block ?_))
  rename_i b6
  refine JC.loopH (ι := Nat × SHeap) ⟨fun z => [(8, nv z.1), (7, .pointer (some ⟨b6, 0, none⟩)), (2, .pointer (some ⟨b2, 0, none⟩)), (3, .pointer (some ⟨b3, 0, none⟩)), (4, .pointer (some ⟨b4, 0, none⟩)), (5, .bool false)], fun z => [(b6, .cells #[nv m.p, nv m.r, nv n.c, .slice Ao (m.r * n.c) co] 27), (b4, .cells #[iv 0, iv 0, iv 0, .slice none 0 0] 27), (b3, .cells #[nv n.p, nv n.r, nv n.c, E'] 27), (b2, .cells #[nv m.p, nv m.r, nv m.c, E] 27)] ++ (z.2 ++ []),
    fun z => z.1 ≤ m.r ∧ OwnN z.2 (.slice Ao (m.r * n.c) co) (m.r * n.c) (mS m n z.1 0 0), fun z => m.r - z.1⟩ (0, N) ⟨by omega, by rw [mS_zero]; exact hO⟩ (by repeat first | exact trivial | refine ⟨rfl, ?_⟩) (by (first | exact HSub.refl _ | (repeat' first | exact HSub.nil _ | exact HSub.refl _ | refine HSub.at 0 rfl ?_ | refine HSub.at 1 rfl ?_ | refine HSub.at 2 rfl ?_ | refine HSub.at 3 rfl ?_ | refine HSub.at 4 rfl ?_ | refine HSub.at 5 rfl ?_ | refine HSub.at 6 rfl ?_ | refine HSub.at 7 rfl ?_))) (fun i hi => ?_)
  obtain ⟨i, N⟩ := i
  obtain ⟨hin, hO⟩ := hi
  dsimp only at hin hO ⊢
  have hpos := hm.pos
  have hp9 := hm.pr.2.1
  have hic : i * m.c ≤ 160000 := Nat.mul_le_mul (show i ≤ 400 by omega) hbc
  have hin2 : i * n.c ≤ 160000 := Nat.mul_le_mul (show i ≤ 400 by omega) hbc'
  (repeat' (first | refine JC.seq ?_ | refine JC.ops ?_ | refine JO.nil ?_ | refine JX.thenN ?_ | (apply r_move; exact rfl; exact rfl; exact rfl) | (apply r_fieldAddr; exact rfl; exact rfl; exact rfl) | (apply r_assign; exact rfl; exact rfl; exact rfl) | (apply r_load; exact rfl; exact rfl; exact rfl; exact rfl; (first | exact at0 | exact at1 | exact at2 | exact at3 | exact at4 | exact at5 | exact at6 | exact at7); exact rfl) | (apply r_loadN; exact rfl; exact rfl; exact rfl; exact rfl; (first | exact at0 | exact at1 | exact at2 | exact at3 | exact at4 | exact at5 | exact at6 | exact at7); exact rfl) | (apply r_lss; exact rfl; exact rfl; exact rfl; exact rfl; all_goals intro hc; all_goals try (exfalso; omega)) | (apply r_storeN; exact rfl; (first | exact trivial | exact ⟨rfl, rfl⟩); exact rfl; exact rfl; (first | exact at0 | exact at1 | exact at2 | exact at3 | exact at4 | exact at5 | exact at6 | exact at7); exact rfl; exact rfl; exact rfl) | refine JX.thenE ?_ | refine JC.skip ?_ | refine JC.exit ?_ | refine JC.ret ?_ | refine JC.condT rfl ?_ | refine JC.condF rfl ?_ | refine JC.block ?_ | refine JX.blockE ?_))
  · refine JC.loopH (ι := Nat × SHeap) ⟨fun z => [(9, nv z.1), (8, nv i), (7, .pointer (some ⟨b6, 0, none⟩)), (2, .pointer (some ⟨b2, 0, none⟩)), (3, .pointer (some ⟨b3, 0, none⟩)), (4, .pointer (some ⟨b4, 0, none⟩)), (5, .bool false)], fun z => [(b6, .cells #[nv m.p, nv m.r, nv n.c, .slice Ao (m.r * n.c) co] 27), (b4, .cells #[iv 0, iv 0, iv 0, .slice none 0 0] 27), (b3, .cells #[nv n.p, nv n.r, nv n.c, E'] 27), (b2, .cells #[nv m.p, nv m.r, nv m.c, E] 27)] ++ (z.2 ++ []),
      fun z => z.1 ≤ m.c ∧ OwnN z.2 (.slice Ao (m.r * n.c) co) (m.r * n.c) (mS m n i z.1 0), fun z => m.c - z.1⟩ (0, N) ⟨by omega, hO⟩ (by repeat first | exact trivial | refine ⟨rfl, ?_⟩) (by (first | exact HSub.refl _ | (repeat' first | exact HSub.nil _ | exact HSub.refl _ | refine HSub.at 0 rfl ?_ | refine HSub.at 1 rfl ?_ | refine HSub.at 2 rfl ?_ | refine HSub.at 3 rfl ?_ | refine HSub.at 4 rfl ?_ | refine HSub.at 5 rfl ?_ | refine HSub.at 6 rfl ?_ | refine HSub.at 7 rfl ?_))) (fun k hk => ?_)
    obtain ⟨k, N⟩ := k
    obtain ⟨hkn, hO⟩ := hk
    dsimp only at hkn hO ⊢
    have hkc : k * n.c ≤ 160000 := Nat.mul_le_mul (show k ≤ 400 by omega) hbc'
    have hi : i < m.r := by omega
    have hlt : k < m.c → i * m.c + k < m.r * m.c := fun hk => idx_lt hi hk
    by_cases hk : k < m.c
    · have hlt := hlt hk
      (repeat' (first | refine JC.seq ?_ | refine JC.ops ?_ | refine JO.nil ?_ | refine JX.thenN ?_ | (apply r_move; exact rfl; exact rfl; exact rfl) | (apply r_fieldAddr; exact rfl; exact rfl; exact rfl) | (apply r_assign; exact rfl; exact rfl; exact rfl) | (apply r_load; exact rfl; exact rfl; exact rfl; exact rfl; (first | exact at0 | exact at1 | exact at2 | exact at3 | exact at4 | exact at5 | exact at6 | exact at7); exact rfl) | (apply r_idxN; exact rfl; exact rfl; exact rfl; exact rfl; (first | assumption | exact WN.rd (by assumption) rfl [] | exact OwnN.rd (by assumption)); (first | assumption | omega)) | (apply r_ldN; exact rfl; exact rfl; exact rfl; exact rfl; (first | assumption | exact WN.rd (by assumption) rfl [] | exact OwnN.rd (by assumption)); (repeat' first | exact HSub.nil _ | exact HSub.hd | exact HSub.in0 | exact HSub.refl _ | refine HSub.skip ?_ | refine HSub.skipN ?_); (first | assumption | omega)) | (apply r_addN; exact rfl; exact rfl; exact rfl; exact rfl; omega) | (apply r_mulN; exact rfl; exact rfl; exact rfl; exact rfl; (first | assumption | omega)) | (apply r_lss; exact rfl; exact rfl; exact rfl; exact rfl; all_goals intro hc; all_goals try (exfalso; omega)) | refine JC.skip ?_ | refine JC.condT rfl ?_ | refine JC.block ?_))
      refine JC.loopH (ι := Nat × SHeap) ⟨fun z => [(11, nv z.1), (10, nv (m.e.getD (i * m.c + k) 0)), (9, nv k), (8, nv i), (7, .pointer (some ⟨b6, 0, none⟩)), (2, .pointer (some ⟨b2, 0, none⟩)), (3, .pointer (some ⟨b3, 0, none⟩)), (4, .pointer (some ⟨b4, 0, none⟩)), (5, .bool false)], fun z => [(b6, .cells #[nv m.p, nv m.r, nv n.c, .slice Ao (m.r * n.c) co] 27), (b4, .cells #[iv 0, iv 0, iv 0, .slice none 0 0] 27), (b3, .cells #[nv n.p, nv n.r, nv n.c, E'] 27), (b2, .cells #[nv m.p, nv m.r, nv m.c, E] 27)] ++ (z.2 ++ []),
        fun z => z.1 ≤ n.c ∧ OwnN z.2 (.slice Ao (m.r * n.c) co) (m.r * n.c) (mS m n i k z.1), fun z => n.c - z.1⟩ (0, N) ⟨by omega, hO⟩ (by repeat first | exact trivial | refine ⟨rfl, ?_⟩) (by (first | exact HSub.refl _ | (repeat' first | exact HSub.nil _ | exact HSub.refl _ | refine HSub.at 0 rfl ?_ | refine HSub.at 1 rfl ?_ | refine HSub.at 2 rfl ?_ | refine HSub.at 3 rfl ?_ | refine HSub.at 4 rfl ?_ | refine HSub.at 5 rfl ?_ | refine HSub.at 6 rfl ?_ | refine HSub.at 7 rfl ?_))) (fun j hj => ?_)
      obtain ⟨j, N⟩ := j
      obtain ⟨hjn, hO⟩ := hj
      dsimp only at hjn hO ⊢
      by_cases hj : j < n.c
      · have hb1 : m.e.getD (i * m.c + k) 0 < m.p := hm.ent i k
        have hb2 : n.e.getD (k * n.c + j) 0 < n.p := hn.ent k j
        have hbb := mul_bound hb1 (hp ▸ hb2) hp9
        have hlt1 := idx_lt hi hj
        have hlt2 : k * n.c + j < n.r * n.c := idx_lt (hr ▸ hk) hj
        have ed : (mS m n i k j).getD (i * n.c + j) 0 = dot m n i j k := mS_get hi hj
        have hdl : dot m n i j k < m.p := Nat.mod_lt _ hpos
        (repeat' (first | refine JC.seq ?_ | refine JC.ops ?_ | refine JC.opsD ?_ | refine JO.nil ?_ | refine JX.thenN ?_ | (apply r_move; exact rfl; exact rfl; exact rfl) | (apply r_fieldAddr; exact rfl; exact rfl; exact rfl) | (apply r_assign; exact rfl; exact rfl; exact rfl) | (apply r_load; exact rfl; exact rfl; exact rfl; exact rfl; (first | exact at0 | exact at1 | exact at2 | exact at3 | exact at4 | exact at5 | exact at6 | exact at7); exact rfl) | (apply r_idxN; exact rfl; exact rfl; exact rfl; exact rfl; (first | assumption | exact WN.rd (by assumption) rfl [] | exact OwnN.rd (by assumption)); (first | assumption | omega)) | (apply r_ldN; exact rfl; exact rfl; exact rfl; exact rfl; (first | assumption | exact WN.rd (by assumption) rfl [] | exact OwnN.rd (by assumption)); (repeat' first | exact HSub.nil _ | exact HSub.hd | exact HSub.in0 | exact HSub.refl _ | refine HSub.skip ?_ | refine HSub.skipN ?_); (first | assumption | omega)) | (apply r_add1; exact rfl; exact rfl; exact rfl; exact rfl; omega) | (apply r_addN; exact rfl; exact rfl; exact rfl; exact rfl; omega) | (apply r_mulN; exact rfl; exact rfl; exact rfl; exact rfl; (first | assumption | omega)) | (apply r_modN; exact rfl; exact rfl; exact rfl; exact rfl; omega) | (apply r_pickT; exact rfl; exact rfl; exact rfl; exact rfl) | (apply r_lss; exact rfl; exact rfl; exact rfl; exact rfl; all_goals intro hc; all_goals try (exfalso; omega)) | (apply r_gtr; exact rfl; exact rfl; exact rfl; exact rfl; all_goals intro hc; all_goals try (exfalso; omega)) | refine JX.thenE ?_ | refine JC.skip ?_ | refine JC.exit ?_ | refine JC.condT rfl ?_ | refine JC.condF rfl ?_ | refine JC.block ?_ | refine JX.blockN ?_ | refine JX.blockE ?_))
        · have eu : ((mS m n i k j).getD (i * n.c + j) 0 + m.e.getD (i * m.c + k) 0 * n.e.getD (k * n.c + j) 0) % m.p = dot m n i j (k + 1) := by rw [ed, ← dot_succ]; rfl
          refine r_stN (A := [_, _, _, _]) (u := dot m n i j (k + 1)) hO rfl rfl ⟨rfl, rfl⟩ rfl (congrArg (fun t => some (nv t)) eu) hlt1 (fun N' hO' => ?_)
          rw [mS_set hj] at hO'
          (repeat' (first | refine JC.ops ?_ | refine JO.nil ?_ | refine JX.thenN ?_ | (apply r_move; exact rfl; exact rfl; exact rfl) | (apply r_assign; exact rfl; exact rfl; exact rfl) | (apply r_add1; exact rfl; exact rfl; exact rfl; exact rfl; omega) | refine JX.blockN ?_))
          exact JX.roundH (j + 1, N') ⟨by dsimp only; omega, hO'⟩ (by dsimp only; omega) (by repeat first | exact trivial | refine ⟨rfl, ?_⟩) (by (first | exact HSub.refl _ | (repeat' first | exact HSub.nil _ | exact HSub.refl _ | refine HSub.at 0 rfl ?_ | refine HSub.at 1 rfl ?_ | refine HSub.at 2 rfl ?_ | refine HSub.at 3 rfl ?_ | refine HSub.at 4 rfl ?_ | refine HSub.at 5 rfl ?_ | refine HSub.at 6 rfl ?_ | refine HSub.at 7 rfl ?_)))
        · rw [mS_skip (show ent m.c m.e i k = 0 from by show m.e.getD (i * m.c + k) 0 = 0; omega)] at hO
          exact JX.roundH (k + 1, N) ⟨by dsimp only; omega, hO⟩ (by dsimp only; omega) (by repeat first | exact trivial | refine ⟨rfl, ?_⟩) (by (first | exact HSub.refl _ | (repeat' first | exact HSub.nil _ | exact HSub.refl _ | refine HSub.at 0 rfl ?_ | refine HSub.at 1 rfl ?_ | refine HSub.at 2 rfl ?_ | refine HSub.at 3 rfl ?_ | refine HSub.at 4 rfl ?_ | refine HSub.at 5 rfl ?_ | refine HSub.at 6 rfl ?_ | refine HSub.at 7 rfl ?_)))
      · (repeat' (first | refine JC.seq ?_ | refine JC.ops ?_ | refine JO.nil ?_ | refine JX.thenN ?_ | (apply r_move; exact rfl; exact rfl; exact rfl) | (apply r_fieldAddr; exact rfl; exact rfl; exact rfl) | (apply r_assign; exact rfl; exact rfl; exact rfl) | (apply r_load; exact rfl; exact rfl; exact rfl; exact rfl; (first | exact at0 | exact at1 | exact at2 | exact at3 | exact at4 | exact at5 | exact at6 | exact at7); exact rfl) | (apply r_add1; exact rfl; exact rfl; exact rfl; exact rfl; omega) | (apply r_pickF; exact rfl; exact rfl; exact rfl; exact rfl) | (apply r_lss; exact rfl; exact rfl; exact rfl; exact rfl; all_goals intro hc; all_goals try (exfalso; omega)) | refine JX.thenE ?_ | refine JC.exit ?_ | refine JC.condF rfl ?_ | refine JX.blockN ?_ | refine JX.blockE ?_ | (apply r_skip; exact rfl; exact rfl; (first | (intro h; cases h; done) | (intro _; rfl)))))
        rw [mS_row (by omega)] at hO
        exact JX.roundH (k + 1, N) ⟨by dsimp only; omega, hO⟩ (by dsimp only; omega) (by repeat first | exact trivial | refine ⟨rfl, ?_⟩) (by (first | exact HSub.refl _ | (repeat' first | exact HSub.nil _ | exact HSub.refl _ | refine HSub.at 0 rfl ?_ | refine HSub.at 1 rfl ?_ | refine HSub.at 2 rfl ?_ | refine HSub.at 3 rfl ?_ | refine HSub.at 4 rfl ?_ | refine HSub.at 5 rfl ?_ | refine HSub.at 6 rfl ?_ | refine HSub.at 7 rfl ?_)))
    · (repeat' (first | refine JC.seq ?_ | refine JC.ops ?_ | refine JO.nil ?_ | refine JX.thenN ?_ | (apply r_move; exact rfl; exact rfl; exact rfl) | (apply r_fieldAddr; exact rfl; exact rfl; exact rfl) | (apply r_assign; exact rfl; exact rfl; exact rfl) | (apply r_load; exact rfl; exact rfl; exact rfl; exact rfl; (first | exact at0 | exact at1 | exact at2 | exact at3 | exact at4 | exact at5 | exact at6 | exact at7); exact rfl) | (apply r_add1; exact rfl; exact rfl; exact rfl; exact rfl; omega) | (apply r_lss; exact rfl; exact rfl; exact rfl; exact rfl; all_goals intro hc; all_goals try (exfalso; omega)) | refine JX.thenE ?_ | refine JC.exit ?_ | refine JC.condF rfl ?_ | refine JX.blockN ?_ | refine JX.blockE ?_))
      rw [mS_next (by omega) hkn] at hO
      exact JX.roundH (i + 1, N) ⟨by dsimp only; omega, hO⟩ (by dsimp only; omega) (by repeat first | exact trivial | refine ⟨rfl, ?_⟩) (by (first | exact HSub.refl _ | (repeat' first | exact HSub.nil _ | exact HSub.refl _ | refine HSub.at 0 rfl ?_ | refine HSub.at 1 rfl ?_ | refine HSub.at 2 rfl ?_ | refine HSub.at 3 rfl ?_ | refine HSub.at 4 rfl ?_ | refine HSub.at 5 rfl ?_ | refine HSub.at 6 rfl ?_ | refine HSub.at 7 rfl ?_)))
  · rw [mS_end (by omega)] at hO
    exact JX.retCT 1 rfl rfl rfl rfl (fun a w' st => ⟨st.kp, N, _, rfl, st.newOf rfl (by (repeat' first | exact HSub.nil _ | exact HSub.hd | exact HSub.in0 | exact HSub.refl _ | refine HSub.skip ?_ | refine HSub.skipN ?_)), OwnM.mk' hO⟩)

end Go.Proofs.Ytdoogoglfbohaaa
