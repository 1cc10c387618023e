import Derived.Test.YtdlmnloikakjpaaDoorMj
import Derived.Test.YtdlmnloikakjpaaDoorMi
import Derived.Test.YtdlmnloikakjpaaDoorMh
import Derived.Test.YtdlmnloikakjpaaDoorMe
namespace Go.Proofs.YtdlmnloikakjpaaDoor
open Go Go.RowKit
set_option linter.unusedSimpArgs false
set_option linter.unusedVariables false
set_option linter.unusedSectionVars false

def cn (r i : Nat) : Nat := if i ≤ r then i else i - 1
theorem cn_self (r : Nat) : cn r (r + 1) = cn r r := by unfold cn; rw [if_neg (by omega), if_pos (by omega)]; omega
theorem cn_next {r i : Nat} (h : i ≠ r) : cn r (i + 1) = cn r i + 1 := by unfold cn; split <;> split <;> omega
theorem sk_cn {r i : Nat} (h : i ≠ r) : sk r (cn r i) = i := by
  unfold sk cn
  repeat' split
  all_goals omega
theorem cn_end {n r : Nat} (hr : r < n) : cn r n = n - 1 := by unfold cn; rw [if_neg (by omega)]
theorem tab_snoc {f : Nat → Int} (n : Nat) : tab (n + 1) f = tab n f ++ [f n] := by simp [tab, List.range_succ]
def wiG (m : ZM) (r c : Nat) : Mi := fun a b => m.at (sk r a) (sk c b)
def wiZ (m : ZM) (r c : Nat) : ZM := zof (m.r - 1) (m.r - 1) (wiG m r c)
def wiS (m : ZM) (r c i j : Nat) : List Int := tbz (cn r i) (m.r - 1) (wiG m r c) ++ (if i = r then [] else tab (cn c j) fun b => wiG m r c (cn r i) b)
theorem wiS_start (m : ZM) (r c i : Nat) : wiS m r c i 0 = tbz (cn r i) (m.r - 1) (wiG m r c) := by
  unfold wiS
  split
  · simp
  · have : cn c 0 = 0 := by unfold cn; rw [if_pos (Nat.zero_le _)]
    rw [this]; simp [tab]
theorem wiS_row (m : ZM) (r c j : Nat) (j' : Nat) : wiS m r c r j = wiS m r c r j' := by unfold wiS; rw [if_pos rfl, if_pos rfl]
theorem wiS_col (m : ZM) (r c i : Nat) : wiS m r c i (c + 1) = wiS m r c i c := by unfold wiS; rw [cn_self]
theorem wiS_step {m : ZM} {r c i j : Nat} (hi : i ≠ r) (hj : j ≠ c) : wiS m r c i j ++ [m.at i j] = wiS m r c i (j + 1) := by
  unfold wiS
  rw [if_neg hi, if_neg hi, cn_next hj, tab_snoc, List.append_assoc]
  congr 2
  unfold wiG
  rw [sk_cn hi, sk_cn hj]
theorem wiS_next {m : ZM} {r c i : Nat} (hc : c < m.r) : wiS m r c i m.r = wiS m r c (i + 1) 0 := by
  rw [wiS_start]
  unfold wiS
  by_cases h : i = r
  · subst h
    rw [if_pos rfl, List.append_nil, cn_self]
  · rw [if_neg h, cn_next h, cn_end hc]
    exact (tbz_next _ _ _).symm

set_option maxHeartbeats 4000000 in
theorem c_without (w : World) (v : Value) (m : ZM) (r c : Nat) (hm : RtZ m) (hsq : m.r = m.c) (hr : r < m.r) (hcc : c < m.r) (hv : IsM w v m) :
    Calls Tryd.prog 67 #[v, nv r, nv c] w (Ret fun v w' => Kp [] w w' ∧ GivesM (wiZ m r c) w v w') := by
  obtain ⟨E, rfl, hE⟩ := hv
  have hle := hm.le
  have hmr := hm.r
  rw [hm.len, ← hsq] at hE
  rw [← hsq]
  have hnn := rcZ hmr hmr
  refine calls_of_S [⟨9, 2, [], []⟩] [] (by simp) [] Tryd.func67 rfl mixed (by kernel_rfl) Tryd.ntmps67 Tryd.results67 rfl ⟨by simp, by simp⟩ (by simp) ?_
  simp only [toS, textOps, toSOp, kindAt, kindOf, odAt, sopsAt, ordOf, zipF]
  have hR := WZ.rd (c := ⟨Tryd.prog, 53, w, [], by simp⟩) hE rfl []
  (repeat' (first | refine JC.seq ?_ | refine JC.ops ?_ | refine JO.nil ?_ | refine JX.thenN ?_ | (apply r_fieldAddr; (iterate 3 exact rfl)) | (apply r_assign; (iterate 3 exact rfl)) | (apply r_load; (iterate 4 exact rfl); (first | exact at0 | exact at1); exact rfl) | (apply r_build2; (iterate 4 exact rfl)) | (apply r_sub1; (iterate 4 exact rfl); omega) | (apply r_storeN; exact rfl; (first | exact trivial | exact ⟨rfl, rfl⟩); exact rfl; exact rfl; (first | exact at0 | exact at1); (iterate 3 exact rfl)) | (apply r_allocZ; (iterate 3 exact rfl); intro _) | (apply r_boxA; (iterate 4 exact rfl); intro _) | (apply r_storeN; exact rfl; (first | exact trivial | exact ⟨rfl, rfl⟩); exact rfl; exact rfl; (first | exact at0 | exact at1); (iterate 3 exact rfl)) | refine JC.block ?_))
  rename_i b3 b6 b7
  refine JC.loopH (ι := Nat × Nat × SHeap × Value) ⟨fun z => [(8, nv z.1), (1, nv r), (2, nv c), (3, .pointer (some ⟨b3, 0, none⟩)), (6, .pointer (some ⟨b6, 0, none⟩)), (7, .pointer (some ⟨b7, 0, none⟩))],
    fun z => [(b7, .cells #[nv (m.r - 1), nv (m.r - 1), z.2.2.2] 29), (b6, .cells #[iv 0, iv 0, .slice none 0 0] 29), (b3, .cells #[nv m.r, nv m.r, E] 29)] ++ (z.2.2.1 ++ []),
    fun z => z.1 ≤ m.r ∧ z.2.1 ≤ z.1 * m.r ∧ OwnZ z.2.2.1 z.2.2.2 z.2.1 (wiS m r c z.1 0), fun z => m.r - z.1⟩ (0, 0, [], .slice none 0 0) ⟨by omega, by simp, by rw [wiS_start, show cn r 0 = 0 from rfl]; simpa [tbz_rows] using OwnZ.nil⟩ (by repeat first | exact trivial | refine ⟨rfl, ?_⟩) (by (repeat' first | exact HSub.refl _ | exact HSub.nil _ | refine HSub.at 0 rfl ?_ | refine HSub.at 1 rfl ?_ | refine HSub.at 2 rfl ?_ | refine HSub.at 3 rfl ?_ | refine HSub.at 4 rfl ?_ | refine HSub.at 5 rfl ?_ | refine HSub.at 6 rfl ?_ | refine HSub.at 7 rfl ?_ | refine HSub.at 8 rfl ?_ | refine HSub.at 9 rfl ?_ | refine HSub.at 10 rfl ?_ | refine HSub.at 11 rfl ?_ | refine HSub.at 12 rfl ?_ | refine HSub.at 13 rfl ?_ | refine HSub.at 14 rfl ?_ | refine HSub.at 15 rfl ?_ | refine HSub.at 16 rfl ?_ | refine HSub.at 17 rfl ?_ | refine HSub.at 18 rfl ?_ | refine HSub.at 19 rfl ?_ | refine HSub.segH ?_ | refine HSub.skip ?_ | refine HSub.skipN ?_)) (fun z hz => ?_)
  obtain ⟨i, k, N, v8⟩ := z
  obtain ⟨hi, hk, hO⟩ := hz
  dsimp only at hi hk hO ⊢
  obtain ⟨A8, c8, rfl⟩ := hO.form
  by_cases hii : i < m.r
  · have q1 : i * m.r ≤ 40000 := Nat.le_trans (Nat.mul_le_mul_right _ hi) hnn
    (repeat' (first | refine JC.seq ?_ | refine JC.ops ?_ | refine JO.nil ?_ | refine JX.thenN ?_ | (apply r_move; (iterate 3 exact rfl)) | (apply r_fieldAddr; (iterate 3 exact rfl)) | (apply r_assign; (iterate 3 exact rfl)) | (apply r_load; (iterate 4 exact rfl); exact at2; exact rfl) | (apply r_lss; (iterate 4 exact rfl); all_goals intro hc; all_goals try (exfalso; omega)) | refine JC.skip ?_ | refine JC.condT rfl ?_ | refine JC.block ?_))
    refine JC.loopH (ι := Nat × Nat × SHeap × Value) ⟨fun z => [(9, nv z.1), (8, nv i), (1, nv r), (2, nv c), (3, .pointer (some ⟨b3, 0, none⟩)), (6, .pointer (some ⟨b6, 0, none⟩)), (7, .pointer (some ⟨b7, 0, none⟩))],
      fun z => [(b7, .cells #[nv (m.r - 1), nv (m.r - 1), z.2.2.2] 29), (b6, .cells #[iv 0, iv 0, .slice none 0 0] 29), (b3, .cells #[nv m.r, nv m.r, E] 29)] ++ (z.2.2.1 ++ []),
      fun z => z.1 ≤ m.r ∧ z.2.1 ≤ i * m.r + z.1 ∧ OwnZ z.2.2.1 z.2.2.2 z.2.1 (wiS m r c i z.1), fun z => m.r - z.1⟩ (0, k, N, .slice A8 k c8) ⟨by omega, by dsimp only; omega, hO⟩ (by repeat first | exact trivial | refine ⟨rfl, ?_⟩) (HSub.refl _) (fun z hz => ?_)
    clear hO
    obtain ⟨j, k, N, v8⟩ := z
    obtain ⟨hj, hk, hO⟩ := hz
    dsimp only at hj hk hO ⊢
    obtain ⟨A8, c8, rfl⟩ := hO.form
    by_cases hjj : j < m.r
    · have hij : i * m.r + j < m.r * m.r := zx_lt hii hjj
      by_cases h1 : i = r
      · subst h1
        rw [wiS_row m i c j (j + 1)] at hO
        (repeat' (first | refine JC.seq ?_ | refine JC.ops ?_ | refine JO.nil ?_ | refine JX.thenN ?_ | (apply r_move; (iterate 3 exact rfl)) | (apply r_fieldAddr; (iterate 3 exact rfl)) | (apply r_assign; (iterate 3 exact rfl)) | (apply r_load; (iterate 4 exact rfl); exact at2; exact rfl) | (apply r_add1; (iterate 4 exact rfl); omega) | (apply r_pickF; (iterate 4 exact rfl)) | (apply r_lss; (iterate 4 exact rfl); all_goals intro hc; all_goals try (exfalso; omega)) | (apply r_neq; (iterate 4 exact rfl); all_goals intro hc; all_goals try (exfalso; omega)) | refine JC.skip ?_ | refine JC.condT rfl ?_ | refine JC.condF rfl ?_ | refine JC.block ?_ | refine JX.blockN ?_ | (apply r_skip; exact rfl; exact rfl; (first | (intro h; cases h; done) | (intro _; rfl)))))
        exact JX.roundH (j + 1, k, N, _) ⟨by dsimp only; omega, by dsimp only; omega, hO⟩ (by dsimp only; omega) (by repeat first | exact trivial | refine ⟨rfl, ?_⟩) (HSub.refl _)
      · by_cases h2 : j = c
        · subst h2
          rw [← wiS_col] at hO
          (repeat' (first | refine JC.seq ?_ | refine JC.ops ?_ | refine JO.nil ?_ | refine JX.thenN ?_ | (apply r_move; (iterate 3 exact rfl)) | (apply r_fieldAddr; (iterate 3 exact rfl)) | (apply r_assign; (iterate 3 exact rfl)) | (apply r_load; (iterate 4 exact rfl); exact at2; exact rfl) | (apply r_add1; (iterate 4 exact rfl); omega) | (apply r_pickT; (iterate 4 exact rfl)) | (apply r_lss; (iterate 4 exact rfl); all_goals intro hc; all_goals try (exfalso; omega)) | (apply r_neq; (iterate 4 exact rfl); all_goals intro hc; all_goals try (exfalso; omega)) | refine JC.skip ?_ | refine JC.condT rfl ?_ | refine JC.condF rfl ?_ | refine JC.block ?_ | refine JX.blockN ?_))
          exact JX.roundH (j + 1, k, N, _) ⟨by dsimp only; omega, by dsimp only; omega, hO⟩ (by dsimp only; omega) (by repeat first | exact trivial | refine ⟨rfl, ?_⟩) (HSub.refl _)
        · have e : m.e.getD (i * m.r + j) 0 = m.at i j := by show _ = m.e.getD (i * m.c + j) 0; rw [← hsq]
          (repeat' (first | refine JC.seq ?_ | refine JC.ops ?_ | refine JO.nil ?_ | refine JX.thenN ?_ | (apply r_move; (iterate 3 exact rfl)) | (apply r_fieldAddr; (iterate 3 exact rfl)) | (apply r_load; (iterate 4 exact rfl); exact at2; exact rfl) | (apply r_pickT; (iterate 4 exact rfl)) | (apply r_lss; (iterate 4 exact rfl); all_goals intro hc; all_goals try (exfalso; omega)) | (apply r_neq; (iterate 4 exact rfl); all_goals intro hc; all_goals try (exfalso; omega)) | refine JC.skip ?_ | refine JC.condT rfl ?_ | refine JC.block ?_))
          refine JC.opsDs [(b7, .cells #[nv (m.r - 1), nv (m.r - 1), .slice A8 k c8] 29), (b3, .cells #[nv m.r, nv m.r, E] 29)] (by (first | exact HSub.refl _ | (repeat' first | exact HSub.nil _ | exact HSub.refl _ | refine HSub.at 0 rfl ?_ | refine HSub.at 1 rfl ?_ | refine HSub.at 2 rfl ?_ | refine HSub.at 3 rfl ?_ | refine HSub.at 4 rfl ?_ | refine HSub.at 5 rfl ?_ | refine HSub.at 6 rfl ?_ | refine HSub.at 7 rfl ?_))) ?_
          (repeat' (first | (apply r_move; (iterate 3 exact rfl)) | (apply r_fieldAddr; (iterate 3 exact rfl)) | (apply r_load; (iterate 4 exact rfl); (first | exact at0 | exact at1); exact rfl) | (apply r_idxZ; (iterate 4 exact rfl); (first | assumption | exact WZ.rd (by assumption) rfl [] | exact OwnZ.rd (by assumption)); (first | assumption | omega)) | (apply r_ldZ; (iterate 4 exact rfl); (first | assumption | exact WZ.rd (by assumption) rfl [] | exact OwnZ.rd (by assumption)); (repeat' first | exact HSub.nil _ | exact HSub.hd | exact HSub.in0 | exact HSub.refl _ | refine HSub.skip ?_ | refine HSub.skipN ?_); (first | assumption | omega)) | (apply r_addN; (iterate 4 exact rfl); omega) | (apply r_mulN; (iterate 4 exact rfl); (first | assumption | omega))))
          rw [e]
          refine r_buildG (sz := 2) (vs := [Wv (m.at i j)]) (cl := [.bool (wz (m.at i j)).1, sv (wz (m.at i j)).2]) rfl rfl (by first | rfl | trivial | exact ⟨rfl, rfl⟩) rfl rfl (fun v hv => by
            cases List.mem_singleton.1 hv; rfl) rfl (by decide) (by decide) (fun b => ?_)
          have ho := own_oneZ b (m.at i j)
          skip
          refine r_appendZL (A := [_, _, _, _]) (B := []) hO ho.rd (by (repeat' first | exact HSub.nil _ | exact HSub.hd | exact HSub.in0 | exact HSub.refl _ | refine HSub.skip ?_ | refine HSub.skipN ?_)) rfl (by (first | exact HSub.refl _ | (repeat' first | exact HSub.nil _ | exact HSub.refl _ | refine HSub.at 0 rfl ?_ | refine HSub.at 1 rfl ?_ | refine HSub.at 2 rfl ?_ | refine HSub.at 3 rfl ?_ | refine HSub.at 4 rfl ?_ | refine HSub.at 5 rfl ?_ | refine HSub.at 6 rfl ?_ | refine HSub.at 7 rfl ?_))) rfl rfl rfl rfl (by omega) (fun v4 N4 hO4 => ?_)
          rw [wiS_step h1 h2] at hO4
          obtain ⟨A4, c4, rfl⟩ := hO4.form
          (repeat' (first | refine JC.ops ?_ | refine JO.nil ?_ | refine JX.thenN ?_ | (apply r_move; (iterate 3 exact rfl)) | (apply r_fieldAddr; (iterate 3 exact rfl)) | (apply r_assign; (iterate 3 exact rfl)) | (apply r_add1; (iterate 4 exact rfl); omega) | (apply r_store; exact rfl; (first | exact trivial | exact ⟨rfl, rfl⟩); exact rfl; exact rfl; exact at1; exact rfl; exact rfl; (first | exact Nat.le_of_ble_eq_true rfl | (simp; done) | omega)) | refine JX.blockN ?_))
          exact JX.roundH (j + 1, k + 1, N4, _) ⟨by dsimp only; omega, by dsimp only; omega, hO4⟩ (by dsimp only; omega) (by repeat first | exact trivial | refine ⟨rfl, ?_⟩) (by exact HSub.skip (HSub.refl _))
    · obtain rfl : j = m.r := by omega
      rw [wiS_next hcc] at hO
      (repeat' (first | refine JC.seq ?_ | refine JC.ops ?_ | refine JO.nil ?_ | refine JX.thenN ?_ | (apply r_move; (iterate 3 exact rfl)) | (apply r_fieldAddr; (iterate 3 exact rfl)) | (apply r_assign; (iterate 3 exact rfl)) | (apply r_load; (iterate 4 exact rfl); exact at2; exact rfl) | (apply r_add1; (iterate 4 exact rfl); omega) | (apply r_lss; (iterate 4 exact rfl); all_goals intro hc; all_goals try (exfalso; omega)) | refine JX.thenE ?_ | refine JC.exit ?_ | refine JC.condF rfl ?_ | refine JX.blockN ?_ | refine JX.blockE ?_))
      exact JX.roundH (i + 1, k, N, _) ⟨by dsimp only; omega, by dsimp only; rw [Nat.add_mul, Nat.one_mul]; omega, hO⟩ (by dsimp only; omega) (by repeat first | exact trivial | refine ⟨rfl, ?_⟩) (HSub.refl _)
  · obtain rfl : i = m.r := by omega
    (repeat' (first | refine JC.seq ?_ | refine JC.ops ?_ | refine JO.nil ?_ | refine JX.thenN ?_ | (apply r_move; (iterate 3 exact rfl)) | (apply r_fieldAddr; (iterate 3 exact rfl)) | (apply r_load; (iterate 4 exact rfl); (first | exact at0 | exact at1 | exact at2); exact rfl) | (apply r_loadN; (iterate 4 exact rfl); (first | exact at0 | exact at1 | exact at2); exact rfl) | (apply r_storeN; exact rfl; (first | exact trivial | exact ⟨rfl, rfl⟩); exact rfl; exact rfl; (first | exact at0 | exact at1 | exact at2); (iterate 3 exact rfl)) | (apply r_lss; (iterate 4 exact rfl); all_goals intro hc; all_goals try (exfalso; omega)) | (apply r_storeN; exact rfl; (first | exact trivial | exact ⟨rfl, rfl⟩); exact rfl; exact rfl; (first | exact at0 | exact at1 | exact at2); (iterate 3 exact rfl)) | refine JX.thenE ?_ | refine JC.exit ?_ | refine JC.ret ?_ | refine JC.condF rfl ?_ | refine JX.blockE ?_))
    rw [wiS_start, cn_end hr] at hO
    exact JX.retC 1 rfl rfl rfl (fun a w' st => ⟨st.kp, N, st.newOf rfl (by (repeat' first | exact HSub.nil _ | exact HSub.hd | exact HSub.in0 | exact HSub.refl _ | refine HSub.skip ?_ | refine HSub.skipN ?_)), OwnM.mk' hO⟩)

theorem wiZ_det (m : ZM) (r c : Nat) : det (m.r - 1) (wiZ m r c).at = det (m.r - 1) fun a b => m.at (sk r a) (sk c b) := det_congr fun i hi j hj => zof_at hi hj
theorem wiZ_bd {m : ZM} {K : Nat} (h : BdZ K m) (r c : Nat) : BdZ K (wiZ m r c) := fun i => by
  show ((tab ((m.r - 1) * (m.r - 1)) fun k => wiG m r c (k / (m.r - 1)) (k % (m.r - 1))).getD i 0).natAbs < _
  by_cases hi : i < (m.r - 1) * (m.r - 1)
  · rw [tab_getD hi]; exact h.at _ _
  · rw [List.getD, List.getElem?_eq_none (by simp [tab]; omega)]; exact Nat.pow_pos (by decide)
def adjZ (m : ZM) : ZM := zof m.r m.r (adj (m.r - 1) m.at (det m.r m.at))
def adS (m : ZM) (i j : Nat) : List Int := tbz m.r m.r fun a b => if a < i ∨ (a = i ∧ b < j) then adj (m.r - 1) m.at (det m.r m.at) a b else 0
theorem adS_zero (m : ZM) : adS m 0 0 = tab (m.r * m.r) fun _ => 0 := by
  unfold adS tbz
  exact tab_congr fun t _ => by simp
theorem adS_set {m : ZM} {i j : Nat} (hj : j < m.r) : (adS m i j).set (i * m.r + j) (adj (m.r - 1) m.at (det m.r m.at) i j) = adS m i (j + 1) := by
  unfold adS
  rw [tbz_set hj]
  refine tbz_congr fun a b _ _ => ?_
  by_cases h : a = i ∧ b = j
  · obtain ⟨rfl, rfl⟩ := h
    rw [if_pos ⟨rfl, rfl⟩, if_pos (.inr ⟨rfl, by omega⟩)]
  · rw [if_neg h]
    have : (a < i ∨ a = i ∧ b < j + 1) ↔ (a < i ∨ a = i ∧ b < j) := by omega
    simp only [this]
theorem adS_row (m : ZM) (i : Nat) : adS m i m.r = adS m (i + 1) 0 := tbz_congr fun a b _ hb => by
  have : (a < i ∨ a = i ∧ b < m.r) ↔ (a < i + 1 ∨ a = i + 1 ∧ b < 0) := by omega
  simp only [this]
theorem adS_end (m : ZM) : adS m m.r 0 = (adjZ m).e := tbz_congr fun a b ha _ => by rw [if_pos (.inl ha)]
theorem magU_eq1 {d : Int} : (magU d.natAbs = [1]) ↔ d.natAbs = 1 := by
  have h1 : magU 1 = [1] := by decide
  constructor
  · intro h
    exact magU_inj (h.trans h1.symm)
  · intro h
    rw [h, h1]

set_option maxHeartbeats 8000000 in
theorem c_refInverse (K : Nat) (w : World) (v : Value) (m : ZM) (hm : RtZ m) (hsq : m.r = m.c) (hK : (m.r + 1) * (K + 1) ≤ 40000000) (hx : BdZ K m) (hv : IsM w v m) :
    Calls Tryd.prog 27 #[v] w (Ret fun v w' => Kp [] w w' ∧ if (det m.r m.at).natAbs = 1 then GivesMB (adjZ m) true w v w' else v = .tuple #[zeroM, .bool false]) := by
  have hv0 := hv
  obtain ⟨E, rfl, hE⟩ := hv
  have hle := hm.le
  have hmr := hm.r
  have hnn := rcZ hmr hmr
  by_cases h1 : (det m.r m.at).natAbs = 1
  · simp only [if_pos h1]
    have hB : ∀ i j, (det (m.r - 1) fun a b => m.at (sk i a) (sk j b)).natAbs < 256 ^ ((m.r + 1) * (K + 1)) := fun i j => by
      have := det_bd (n := m.r - 1) (A := fun a b => m.at (sk i a) (sk j b)) (K := K) (by omega) (fun a b => hx.at _ _)
      refine Nat.lt_of_le_of_lt this (Nat.pow_lt_pow_right (by decide) ?_)
      have e1 : (m.r + 1) * (K + 1) = m.r * (K + 1) + (K + 1) := by rw [Nat.add_mul, Nat.one_mul]
      have := Nat.mul_le_mul_right (K + 1) (show m.r - 1 ≤ m.r by omega)
      omega
    have hd1 : (det m.r m.at).natAbs < 256 ^ ((m.r + 1) * (K + 1)) := by rw [h1]; exact Nat.one_lt_pow (by have : 0 < (m.r + 1) * (K + 1) := Nat.mul_pos (by omega) (by omega); omega) (by decide)
    refine calls_of_S [⟨14, 2, [], []⟩] [] (by simp) [] Tryd.func27 rfl mixed (by kernel_rfl) Tryd.ntmps27 Tryd.results27 rfl ⟨by simp, by simp⟩ (by simp) ?_
    simp only [toS, textOps, toSOp, kindAt, kindOf, odAt, sopsAt, ordOf, zipF]
    (repeat' (first | refine JC.seq ?_ | refine JC.ops ?_ | refine JO.nil ?_ | refine JX.thenN ?_ | (apply r_assign; (iterate 3 exact rfl)) | (apply r_loadN; (iterate 4 exact rfl); exact at1; exact rfl) | (apply r_allocZ; (iterate 3 exact rfl); intro _) | (apply r_boxA; (iterate 4 exact rfl); intro _)))
    rename_i b1 b2
    refine r_call0 trivial rfl rfl rfl (fun w hk _ => c_refDet K w _ m hm hsq hK hx (hv0.mono hk)) fun w v w' _ _ _ hR => ?_
    subst hR
    (repeat' (first | refine JC.seq ?_ | refine JC.ops ?_ | refine JO.nil ?_ | refine JX.thenN ?_ | (apply r_move; (iterate 3 exact rfl)) | (apply r_fieldAddr; (iterate 3 exact rfl)) | (apply r_assign; (iterate 3 exact rfl)) | (apply r_load; (iterate 4 exact rfl); exact at0; exact rfl) | (apply r_pickF; (iterate 4 exact rfl)) | (apply r_not; (iterate 3 exact rfl)) | (apply r_extract; (iterate 4 exact rfl)) | (apply r_storeN; exact rfl; (first | exact trivial | exact ⟨rfl, rfl⟩); exact rfl; exact rfl; exact at0; (iterate 3 exact rfl)) | (apply r_neS; (iterate 4 exact rfl)) | (apply r_allocZ; (iterate 3 exact rfl); intro _) | (apply r_storeN; exact rfl; (first | exact trivial | exact ⟨rfl, rfl⟩); exact rfl; exact rfl; exact at0; (iterate 3 exact rfl))))
    rename_i b4
    rw [show decide (magU (det m.r m.at).natAbs ≠ [1]) = false from decide_eq_false (fun h => h (magU_eq1.2 h1))]
    (repeat' (first | refine JC.seq ?_ | refine JC.ops ?_ | refine JX.thenN ?_ | (apply r_fieldAddr; (iterate 3 exact rfl)) | (apply r_load; (iterate 4 exact rfl); exact at2; exact rfl) | refine JC.skip ?_ | refine JC.condF rfl ?_))
    refine r_callA (A := [_, _, _]) (B := []) rfl (by first | trivial | exact ⟨rfl, rfl⟩) rfl rfl rfl (fun w _ _ => c_refZero m.r m.r hmr hmr w) fun w v w' _ _ _ hR => ?_
    obtain ⟨N, Eo, hN, rfl, hO⟩ := hR
    obtain ⟨Ao, co, rfl⟩ := hO.form
    refine ⟨N, hN, ?_⟩
    generalize hd : det m.r m.at = d at h1 hd1 ⊢
    (repeat' (first | refine JC.seq ?_ | refine JC.ops ?_ | refine JO.nil ?_ | refine JX.thenN ?_ | (apply r_assign; (iterate 3 exact rfl)) | (apply r_storeN; exact rfl; (first | exact trivial | exact ⟨rfl, rfl⟩); exact rfl; exact rfl; exact at0; (iterate 3 exact rfl)) | (apply r_allocZ; (iterate 3 exact rfl); intro _) | (apply r_storeN; exact rfl; (first | exact trivial | exact ⟨rfl, rfl⟩); exact rfl; exact rfl; exact at0; (iterate 3 exact rfl)) | refine JC.block ?_))
    rename_i b6
    have hadj : ∀ i j, sg (i + j) * (det (m.r - 1) fun a b => m.at (sk j a) (sk i b)) * d = adj (m.r - 1) m.at (det m.r m.at) i j := fun i j => by rw [hd]; rfl
    refine JC.loopH (ι := Nat × SHeap) ⟨fun z => [(7, nv z.1), (6, .pointer (some ⟨b6, 0, none⟩)), (4, .pointer (some ⟨b4, 0, none⟩)), (2, .pointer (some ⟨b2, 0, none⟩)), (1, .pointer (some ⟨b1, 0, none⟩))],
      fun z => [(b6, .cells #[nv m.r, nv m.r, .slice Ao (m.r * m.r) co] 29), (b4, .cells (wc d) 41), (b2, .cells #[iv 0, iv 0, .slice none 0 0] 29), (b1, .cells #[nv m.r, nv m.c, E] 29)] ++ (z.2 ++ []),
      fun z => z.1 ≤ m.r ∧ OwnZ z.2 (.slice Ao (m.r * m.r) co) (m.r * m.r) (adS m z.1 0), fun z => m.r - z.1⟩ (0, N) ⟨by omega, by rw [adS_zero]; exact hO⟩ (by repeat first | exact trivial | refine ⟨rfl, ?_⟩) (by (repeat' first | exact HSub.refl _ | exact HSub.nil _ | refine HSub.at 0 rfl ?_ | refine HSub.at 1 rfl ?_ | refine HSub.at 2 rfl ?_ | refine HSub.at 3 rfl ?_ | refine HSub.at 4 rfl ?_ | refine HSub.at 5 rfl ?_ | refine HSub.at 6 rfl ?_ | refine HSub.at 7 rfl ?_ | refine HSub.at 8 rfl ?_ | refine HSub.at 9 rfl ?_ | refine HSub.at 10 rfl ?_ | refine HSub.at 11 rfl ?_ | refine HSub.at 12 rfl ?_ | refine HSub.at 13 rfl ?_ | refine HSub.at 14 rfl ?_ | refine HSub.at 15 rfl ?_ | refine HSub.at 16 rfl ?_ | refine HSub.at 17 rfl ?_ | refine HSub.at 18 rfl ?_ | refine HSub.at 19 rfl ?_ | refine HSub.segH ?_ | refine HSub.skip ?_ | refine HSub.skipN ?_)) (fun z hz => ?_)
    clear hO
    obtain ⟨i, N⟩ := z
    obtain ⟨hi, hO⟩ := hz
    dsimp only at hi hO ⊢
    by_cases hii : i < m.r
    · have q1 : i * m.r ≤ 40000 := Nat.le_trans (Nat.mul_le_mul_right _ hi) hnn
      (repeat' (first | refine JC.seq ?_ | refine JC.ops ?_ | refine JO.nil ?_ | refine JX.thenN ?_ | (apply r_move; (iterate 3 exact rfl)) | (apply r_fieldAddr; (iterate 3 exact rfl)) | (apply r_assign; (iterate 3 exact rfl)) | (apply r_load; (iterate 4 exact rfl); exact at3; exact rfl) | (apply r_lss; (iterate 4 exact rfl); all_goals intro hc; all_goals try (exfalso; omega)) | refine JC.skip ?_ | refine JC.condT rfl ?_ | refine JC.block ?_))
      refine JC.loopH (ι := Nat × SHeap) ⟨fun z => [(8, nv z.1), (7, nv i), (6, .pointer (some ⟨b6, 0, none⟩)), (4, .pointer (some ⟨b4, 0, none⟩)), (2, .pointer (some ⟨b2, 0, none⟩)), (1, .pointer (some ⟨b1, 0, none⟩))],
        fun z => [(b6, .cells #[nv m.r, nv m.r, .slice Ao (m.r * m.r) co] 29), (b4, .cells (wc d) 41), (b2, .cells #[iv 0, iv 0, .slice none 0 0] 29), (b1, .cells #[nv m.r, nv m.c, E] 29)] ++ (z.2 ++ []),
        fun z => z.1 ≤ m.r ∧ OwnZ z.2 (.slice Ao (m.r * m.r) co) (m.r * m.r) (adS m i z.1), fun z => m.r - z.1⟩ (0, N) ⟨by omega, hO⟩ (by repeat first | exact trivial | refine ⟨rfl, ?_⟩) (HSub.refl _) (fun z hz => ?_)
      clear hO
      obtain ⟨j, N⟩ := z
      obtain ⟨hj, hO⟩ := hz
      dsimp only at hj hO ⊢
      by_cases hjj : j < m.r
      · have hij := zx_lt hii hjj
        (repeat' (first | refine JC.seq ?_ | refine JC.ops ?_ | refine JO.nil ?_ | refine JX.thenN ?_ | (apply r_move; (iterate 3 exact rfl)) | (apply r_fieldAddr; (iterate 3 exact rfl)) | (apply r_load; (iterate 4 exact rfl); exact at3; exact rfl) | (apply r_loadN; (iterate 4 exact rfl); exact at3; exact rfl) | (apply r_lss; (iterate 4 exact rfl); all_goals intro hc; all_goals try (exfalso; omega)) | refine JC.skip ?_ | refine JC.condT rfl ?_ | refine JC.block ?_))
        refine r_callA (A := [_, _, _, _]) (B := N ++ []) rfl (by first | trivial | exact ⟨rfl, rfl⟩) rfl rfl rfl (fun w hk _ => c_without w _ m j i hm hsq hjj hii (hv0.mono hk)) fun w v w' _ _ _ hR => ?_
        obtain ⟨Nw, hNw, Ew, rfl, hOw⟩ := hR
        obtain ⟨Aw, cw, rfl⟩ := hOw.form
        refine ⟨Nw, hNw, ?_⟩
        skip
        refine r_call0 (by first | trivial | exact ⟨rfl, rfl⟩) rfl rfl rfl (fun w hk hs => c_refDet K w _ (wiZ m j i) (zof_rt (by omega) (by omega)) rfl (Nat.le_trans (Nat.mul_le_mul_right _ (show m.r - 1 + 1 ≤ m.r + 1 by omega)) hK) (wiZ_bd hx j i) ⟨_, rfl, hOw.rd.at hk hs (by (repeat' first | exact HSub.nil _ | exact HSub.hd | exact HSub.in0 | exact HSub.refl _ | refine HSub.skip ?_ | refine HSub.skipN ?_))⟩) fun w v w' _ _ _ hR => ?_
        rw [show det (wiZ m j i).r (wiZ m j i).at = det (m.r - 1) fun a b => m.at (sk j a) (sk i b) from wiZ_det m j i] at hR
        subst hR
        have hDb := hB j i
        have hA := hadj i j
        generalize (det (m.r - 1) fun a b => m.at (sk j a) (sk i b)) = D at hDb hA ⊢
        (repeat' (first | refine JC.seq ?_ | refine JC.ops ?_ | refine JC.opsD ?_ | refine JO.nil ?_ | refine JX.thenN ?_ | (apply r_move; (iterate 3 exact rfl)) | (apply r_fieldAddr; (iterate 3 exact rfl)) | (apply r_assign; (iterate 3 exact rfl)) | (apply r_load; (iterate 4 exact rfl); (first | exact at0 | exact at1 | exact at2 | exact at4); exact rfl) | (apply r_loadN; (iterate 4 exact rfl); (first | exact at0 | exact at1 | exact at2 | exact at4); exact rfl) | (apply r_addN; (iterate 4 exact rfl); omega) | (apply r_mulN; (iterate 4 exact rfl); (first | assumption | omega)) | (apply r_mod; (iterate 4 exact rfl); omega) | (apply r_extract; (iterate 4 exact rfl)) | (apply r_storeN; exact rfl; (first | exact trivial | exact ⟨rfl, rfl⟩); exact rfl; exact rfl; (first | exact at0 | exact at1 | exact at2 | exact at4); (iterate 3 exact rfl)) | (apply r_eql; (iterate 4 exact rfl); all_goals intro hc; all_goals try (exfalso; omega)) | (apply r_allocZ; (iterate 3 exact rfl); intro _) | (apply r_storeN; exact rfl; (first | exact trivial | exact ⟨rfl, rfl⟩); exact rfl; exact rfl; (first | exact at0 | exact at1 | exact at2 | exact at4); (iterate 3 exact rfl)) | refine JC.skip ?_ | refine JC.condT rfl ?_ | refine JC.condF rfl ?_))
        have hpar : ((i + j : Nat) : Int).tmod 2 = (((i + j) % 2 : Nat) : Int) := (Int.ofNat_tmod (i + j) 2).symm
        · refine r_call0 (by first | trivial | exact ⟨rfl, rfl⟩) rfl rfl rfl (fun w _ _ => c_NegR w _ D _ (IsZ.can hDb) (by omega)) fun w v w' _ _ _ hR => ?_
          subst hR
          (repeat' (first | refine JC.opsD ?_ | refine JO.nil ?_ | refine JX.thenN ?_ | (apply r_move; (iterate 3 exact rfl)) | (apply r_fieldAddr; (iterate 3 exact rfl)) | (apply r_load; (iterate 4 exact rfl); (first | exact at0 | exact at1 | exact at2 | exact at4); exact rfl) | (apply r_loadN; (iterate 4 exact rfl); (first | exact at0 | exact at1 | exact at2 | exact at4); exact rfl) | (apply r_addN; (iterate 4 exact rfl); omega) | (apply r_mulN; (iterate 4 exact rfl); (first | assumption | omega)) | (apply r_storeN; exact rfl; (first | exact trivial | exact ⟨rfl, rfl⟩); exact rfl; exact rfl; (first | exact at0 | exact at1 | exact at2 | exact at4); (iterate 3 exact rfl)) | (apply r_storeN; exact rfl; (first | exact trivial | exact ⟨rfl, rfl⟩); exact rfl; exact rfl; (first | exact at0 | exact at1 | exact at2 | exact at4); (iterate 3 exact rfl))))
          refine r_call0 (by first | trivial | exact ⟨rfl, rfl⟩) rfl rfl rfl (fun w _ _ => c_MulR w _ _ (-D) d _ (IsZ.can (by rw [Int.natAbs_neg]; exact hDb)) (IsZ.can hd1) (by omega)) fun w v w' _ _ _ hR => ?_
          rw [show -D * d = adj (m.r - 1) m.at (det m.r m.at) i j by rw [← hA, show sg (i + j) = -1 from if_neg (by omega)]; simp] at hR
          subst hR
          (repeat' (first | (apply r_idxZ; (iterate 4 exact rfl); (first | assumption | exact WZ.rd (by assumption) rfl [] | exact OwnZ.rd (by assumption)); (first | assumption | omega))))
          refine r_stZ (A := [_, _, _, _, _] ++ Nw) hO rfl rfl (by first | trivial | exact ⟨rfl, rfl⟩) rfl rfl hij (fun N' hO' => ?_)
          rw [adS_set hjj] at hO'
          (repeat' (first | refine JC.ops ?_ | refine JO.nil ?_ | refine JX.thenN ?_ | (apply r_move; (iterate 3 exact rfl)) | (apply r_assign; (iterate 3 exact rfl)) | (apply r_add1; (iterate 4 exact rfl); omega) | refine JX.blockN ?_))
          exact JX.roundH (j + 1, N') ⟨by dsimp only; omega, hO'⟩ (by dsimp only; omega) (by repeat first | exact trivial | refine ⟨rfl, ?_⟩) (by (repeat' first | exact HSub.refl _ | exact HSub.nil _ | refine HSub.at 0 rfl ?_ | refine HSub.at 1 rfl ?_ | refine HSub.at 2 rfl ?_ | refine HSub.at 3 rfl ?_ | refine HSub.at 4 rfl ?_ | refine HSub.at 5 rfl ?_ | refine HSub.at 6 rfl ?_ | refine HSub.at 7 rfl ?_ | refine HSub.at 8 rfl ?_ | refine HSub.at 9 rfl ?_ | refine HSub.at 10 rfl ?_ | refine HSub.at 11 rfl ?_ | refine HSub.at 12 rfl ?_ | refine HSub.at 13 rfl ?_ | refine HSub.at 14 rfl ?_ | refine HSub.at 15 rfl ?_ | refine HSub.at 16 rfl ?_ | refine HSub.at 17 rfl ?_ | refine HSub.at 18 rfl ?_ | refine HSub.at 19 rfl ?_ | refine HSub.segH ?_ | refine HSub.skip ?_ | refine HSub.skipN ?_))
        · have hpar : ((i + j : Nat) : Int).tmod 2 = (((i + j) % 2 : Nat) : Int) := (Int.ofNat_tmod (i + j) 2).symm
          refine r_call0 (by first | trivial | exact ⟨rfl, rfl⟩) rfl rfl rfl (fun w _ _ => c_MulR w _ _ (D) d _ (IsZ.can hDb) (IsZ.can hd1) (by omega)) fun w v w' _ _ _ hR => ?_
          rw [show D * d = adj (m.r - 1) m.at (det m.r m.at) i j by rw [← hA, show sg (i + j) = 1 from if_pos (by omega)]; simp] at hR
          subst hR
          (repeat' (first | (apply r_idxZ; (iterate 4 exact rfl); (first | assumption | exact WZ.rd (by assumption) rfl [] | exact OwnZ.rd (by assumption)); (first | assumption | omega))))
          refine r_stZ (A := [_, _, _, _, _] ++ Nw) hO rfl rfl (by first | trivial | exact ⟨rfl, rfl⟩) rfl rfl hij (fun N' hO' => ?_)
          rw [adS_set hjj] at hO'
          (repeat' (first | refine JC.ops ?_ | refine JO.nil ?_ | refine JX.thenN ?_ | (apply r_move; (iterate 3 exact rfl)) | (apply r_assign; (iterate 3 exact rfl)) | (apply r_add1; (iterate 4 exact rfl); omega) | refine JX.blockN ?_))
          exact JX.roundH (j + 1, N') ⟨by dsimp only; omega, hO'⟩ (by dsimp only; omega) (by repeat first | exact trivial | refine ⟨rfl, ?_⟩) (by (repeat' first | exact HSub.refl _ | exact HSub.nil _ | refine HSub.at 0 rfl ?_ | refine HSub.at 1 rfl ?_ | refine HSub.at 2 rfl ?_ | refine HSub.at 3 rfl ?_ | refine HSub.at 4 rfl ?_ | refine HSub.at 5 rfl ?_ | refine HSub.at 6 rfl ?_ | refine HSub.at 7 rfl ?_ | refine HSub.at 8 rfl ?_ | refine HSub.at 9 rfl ?_ | refine HSub.at 10 rfl ?_ | refine HSub.at 11 rfl ?_ | refine HSub.at 12 rfl ?_ | refine HSub.at 13 rfl ?_ | refine HSub.at 14 rfl ?_ | refine HSub.at 15 rfl ?_ | refine HSub.at 16 rfl ?_ | refine HSub.at 17 rfl ?_ | refine HSub.at 18 rfl ?_ | refine HSub.at 19 rfl ?_ | refine HSub.segH ?_ | refine HSub.skip ?_ | refine HSub.skipN ?_))
      · obtain rfl : j = m.r := by omega
        rw [adS_row] at hO
        (repeat' (first | refine JC.seq ?_ | refine JC.ops ?_ | refine JO.nil ?_ | refine JX.thenN ?_ | (apply r_move; (iterate 3 exact rfl)) | (apply r_fieldAddr; (iterate 3 exact rfl)) | (apply r_assign; (iterate 3 exact rfl)) | (apply r_load; (iterate 4 exact rfl); exact at3; exact rfl) | (apply r_add1; (iterate 4 exact rfl); omega) | (apply r_lss; (iterate 4 exact rfl); all_goals intro hc; all_goals try (exfalso; omega)) | refine JX.thenE ?_ | refine JC.exit ?_ | refine JC.condF rfl ?_ | refine JX.blockN ?_ | refine JX.blockE ?_))
        exact JX.roundH (i + 1, N) ⟨by dsimp only; omega, hO⟩ (by dsimp only; omega) (by repeat first | exact trivial | refine ⟨rfl, ?_⟩) (HSub.refl _)
    · obtain rfl : i = m.r := by omega
      (repeat' (first | refine JC.seq ?_ | refine JC.ops ?_ | refine JO.nil ?_ | refine JX.thenN ?_ | (apply r_move; (iterate 3 exact rfl)) | (apply r_fieldAddr; (iterate 3 exact rfl)) | (apply r_assign; (iterate 3 exact rfl)) | (apply r_load; (iterate 4 exact rfl); (first | exact at0 | exact at2 | exact at3); exact rfl) | (apply r_loadN; (iterate 4 exact rfl); (first | exact at0 | exact at2 | exact at3); exact rfl) | (apply r_storeN; exact rfl; (first | exact trivial | exact ⟨rfl, rfl⟩); exact rfl; exact rfl; (first | exact at0 | exact at2 | exact at3); (iterate 3 exact rfl)) | (apply r_lss; (iterate 4 exact rfl); all_goals intro hc; all_goals try (exfalso; omega)) | (apply r_storeN; exact rfl; (first | exact trivial | exact ⟨rfl, rfl⟩); exact rfl; exact rfl; (first | exact at0 | exact at2 | exact at3); (iterate 3 exact rfl)) | refine JX.thenE ?_ | refine JC.exit ?_ | refine JC.ret ?_ | refine JC.condF rfl ?_ | refine JX.blockE ?_))
      rw [adS_end] at hO
      exact JX.retCT 2 rfl rfl rfl rfl (fun a w' st => ⟨st.kp, N, _, rfl, st.newOf rfl (by (repeat' first | exact HSub.nil _ | exact HSub.hd | exact HSub.in0 | exact HSub.refl _ | refine HSub.skip ?_ | refine HSub.skipN ?_)), OwnM.mk' hO⟩)
  · simp only [if_neg h1]
    refine calls_of_S [⟨14, 2, [], []⟩] [] (by simp) [] Tryd.func27 rfl mixed (by kernel_rfl) Tryd.ntmps27 Tryd.results27 rfl ⟨by simp, by simp⟩ (by simp) ?_
    simp only [toS, textOps, toSOp, kindAt, kindOf, odAt, sopsAt, ordOf, zipF]
    (repeat' (first | refine JC.seq ?_ | refine JC.ops ?_ | refine JO.nil ?_ | refine JX.thenN ?_ | (apply r_assign; (iterate 3 exact rfl)) | (apply r_loadN; (iterate 4 exact rfl); exact at1; exact rfl) | (apply r_allocZ; (iterate 3 exact rfl); intro _) | (apply r_boxA; (iterate 4 exact rfl); intro _)))
    rename_i b1 b2
    refine r_call0 trivial rfl rfl rfl (fun w hk _ => c_refDet K w _ m hm hsq hK hx (hv0.mono hk)) fun w v w' _ _ _ hR => ?_
    subst hR
    (repeat' (first | refine JC.seq ?_ | refine JC.ops ?_ | refine JO.nil ?_ | refine JX.thenN ?_ | (apply r_move; (iterate 3 exact rfl)) | (apply r_fieldAddr; (iterate 3 exact rfl)) | (apply r_assign; (iterate 3 exact rfl)) | (apply r_load; (iterate 4 exact rfl); exact at0; exact rfl) | (apply r_pickF; (iterate 4 exact rfl)) | (apply r_not; (iterate 3 exact rfl)) | (apply r_extract; (iterate 4 exact rfl)) | (apply r_storeN; exact rfl; (first | exact trivial | exact ⟨rfl, rfl⟩); exact rfl; exact rfl; exact at0; (iterate 3 exact rfl)) | (apply r_neS; (iterate 4 exact rfl)) | (apply r_allocZ; (iterate 3 exact rfl); intro _) | (apply r_storeN; exact rfl; (first | exact trivial | exact ⟨rfl, rfl⟩); exact rfl; exact rfl; exact at0; (iterate 3 exact rfl))))
    rename_i b4
    rw [show decide (magU (det m.r m.at).natAbs ≠ [1]) = true from decide_eq_true (fun h => h1 (magU_eq1.1 h))]
    (repeat' (first | refine JC.seq ?_ | refine JC.ops ?_ | refine JO.nil ?_ | refine JX.thenN ?_ | (apply r_assign; (iterate 3 exact rfl)) | (apply r_storeN; exact rfl; (first | exact trivial | exact ⟨rfl, rfl⟩); exact rfl; exact rfl; exact at1; (iterate 3 exact rfl)) | (apply r_buildL; (iterate 5 exact rfl)) | (apply r_storeN; exact rfl; (first | exact trivial | exact ⟨rfl, rfl⟩); exact rfl; exact rfl; exact at1; (iterate 3 exact rfl)) | refine JX.thenR ?_ | refine JC.ret ?_ | refine JC.condT rfl ?_))
    exact JX.retCT 1 rfl rfl rfl rfl (fun a w' st => ⟨st.kp, rfl⟩)

end Go.Proofs.YtdlmnloikakjpaaDoor

namespace Go.Proofs.YtdlmnloikakjpaaDoor
open Go Go.RowKit Go.ChangeShapes Go.WideShapes Go.ChangeAt
set_option linter.unusedSimpArgs false
set_option linter.unusedVariables false
set_option linter.unusedSectionVars false

def IsL (w : World) (v : Value) (L : List Int) : Prop := (∀ i, I64 (L.getD i 0)) ∧ WI w v L.length L ∧ L.length < 9223372036854775808
theorem IsL.mono {w w' : World} {v : Value} {L : List Int} (h : IsL w v L) (hk : Kp [] w w') : IsL w' v L := ⟨h.1, h.2.1.mono hk, h.2.2⟩

theorem IsL.of_trod {H : Type} {enc : TypeId × Value → H} {w : World} {held : Bool} {v : Value} {n base : Nat} {sp : Nat → Bool} {y : DataW H × List MemPlace}
    (hf : DataW.trod enc Tryd.prog w base sp held n 22 [v] = some y) : ∃ L, IsL w v L := by
  rcases open_ints Tryd.underlying22 Tryd.underlying3 (by kernel_rfl) hf with ⟨hcs, _⟩ | ⟨x, l, c, zs, hcs, _, hl, hm, hz, _, hcell, hwz⟩
  · simp only [List.cons.injEq, and_true] at hcs
    subst hcs
    exact ⟨[], fun i => ⟨by simp, by simp⟩, ⟨rfl, none, 0, rfl, Nat.le_refl _, fun h => absurd h (Nat.lt_irrefl _)⟩, by simp⟩
  · simp only [List.cons.injEq, and_true] at hcs
    subst hcs
    unfold maxLen at hm
    have hlz : l ≤ zs.length := by rw [hz]; split <;> omega
    have hz2 : zs.length ≤ c := by rw [hz]; split <;> omega
    have hlen : (zs.take l).length = l := by simp; omega
    refine ⟨zs.take l, i64_getD fun n hn => i64_wf (hwz n (List.mem_of_mem_take hn)), ?_, by omega⟩
    rw [hlen]
    refine ⟨by simp; omega, some x, c, rfl, hl, fun h0 => ?_⟩
    obtain ⟨b, o, sp⟩ := x
    have hsp : sp = none := by
      have := hcell 0 (by omega)
      cases sp with
      | none => rfl
      | some s =>
        simp only [Addr.add, if_true, World.cell?] at this
        split at this <;> simp at this
    subst hsp
    refine ⟨⟨b, o, rfl⟩, fun j u hu => ?_⟩
    simp only [vAt]
    rw [List.getElem?_map, List.getElem?_take] at hu
    split at hu
    · rename_i hj
      have hjz : j < zs.length := by omega
      rw [gD_lt (d := 0) hjz] at hu
      cases hu
      rw [← add_none]
      exact hcell j hjz
    · cases hu

set_option maxRecDepth 100000 in
theorem open_list {H : Type} {enc : TypeId × Value → H} {w : World} {r : Reach} {b0 : Nat} {held : Bool} {v : Value} {d : DataW H} {ps : List MemPlace} (hv : Value.okWide Tryd.prog w r b0 22 v)
    (h : DataW.Trod enc Tryd.prog w 0 (fun _ => true) held 22 v d ps) : ∃ L, IsL w v L := by
  obtain ⟨a1, len, cap, rfl⟩ := okWide_slice Tryd.underlying22 hv
  obtain ⟨fuel, hf⟩ := h
  exact IsL.of_trod (show DataW.trod enc Tryd.prog w 0 (fun _ => true) held fuel 22 [.slice a1 len cap] = some _ from hf)

def IsLL (w : World) (v : Value) (X : List (List Int)) : Prop := X.length < 9223372036854775808 ∧ ∃ ss : List Value, RdW w 1 v X.length ss ∧ ∀ i, i < X.length → IsL w (ss.getD i (iv 0)) (X.getD i [])
theorem IsLL.mono {w w' : World} {v : Value} {X : List (List Int)} (h : IsLL w v X) (hk : Kp [] w w') : IsLL w' v X := by
  obtain ⟨h0, ss, h1, h2⟩ := h
  exact ⟨h0, ss, h1.mono hk, fun i hi => (h2 i hi).mono hk⟩
set_option maxRecDepth 100000 in
theorem open_u8 {H : Type} {enc : TypeId × Value → H} {w : World} {r : Reach} {b0 : Nat} {held : Bool} {v : Value} {d : DataW H} {ps : List MemPlace} (hv : Value.okWide Tryd.prog w r b0 5 v)
    (h : DataW.Trod enc Tryd.prog w 0 (fun _ => true) held 5 v d ps) : ∃ q : Nat, v = .int .u8 (q : Int) ∧ q < 256 := by
  obtain ⟨x, rfl, rfl, rfl, wx⟩ := open_int Tryd.underlying5 hv h
  obtain ⟨m, rfl, hm⟩ := u8_nat wx
  exact ⟨m, rfl, hm⟩

end Go.Proofs.YtdlmnloikakjpaaDoor

namespace Go.Proofs.YtdlmnloikakjpaaDoor
open Go Go.RowKit
set_option linter.unusedSimpArgs false
set_option linter.unusedVariables false
set_option linter.unusedSectionVars false

def unF (i j : Nat) (sw : Bool) (f : Int) (M : Mi) : Mi := fun a b => if i = j then (if a = i then -M a b else M a b) else if sw then (if a = i then M j b else if a = j then M i b else M a b) else (if a = i then M i b + f * M j b else M a b)
def unS (i j : Nat) (sw : Bool) (f : Int) (M : Mi) (c : Nat) : Mi := fun a b => if b < c then unF i j sw f M a b else M a b
theorem unS_step {i j c : Nat} {sw : Bool} {f : Int} {M : Mi} (a b : Nat) : (if b = c then unF i j sw f M a b else unS i j sw f M c a b) = unS i j sw f M (c + 1) a b := by
  unfold unS
  by_cases h : b = c
  · subst h; rw [if_pos rfl, if_pos (by omega)]
  · rw [if_neg h]
    have : (b < c + 1) ↔ b < c := by omega
    simp only [this]
theorem unS_one {i j c : Nat} {sw : Bool} {f X : Int} {M : Mi} (hX : X = unF i j sw f M i c) (hne : ∀ a, a ≠ i → unF i j sw f M a c = M a c) (a b : Nat) : (if a = i ∧ b = c then X else unS i j sw f M c a b) = unS i j sw f M (c + 1) a b := by
  rw [← unS_step]
  by_cases h : b = c
  · subst h
    rw [if_pos rfl]
    by_cases h2 : a = i
    · subst h2; rw [if_pos ⟨rfl, rfl⟩, hX]
    · rw [if_neg (fun e => h2 e.1), hne a h2]; unfold unS; rw [if_neg (Nat.lt_irrefl b)]
  · rw [if_neg h, if_neg (fun e => h e.2)]
theorem unS_two {i j c : Nat} {sw : Bool} {f X Y : Int} {M : Mi} (hij : i ≠ j) (hX : X = unF i j sw f M i c) (hY : Y = unF i j sw f M j c) (hne : ∀ a, a ≠ i → a ≠ j → unF i j sw f M a c = M a c) (a b : Nat) : (if a = j ∧ b = c then Y else if a = i ∧ b = c then X else unS i j sw f M c a b) = unS i j sw f M (c + 1) a b := by
  rw [← unS_step]
  by_cases h : b = c
  · subst h
    rw [if_pos rfl]
    by_cases h3 : a = j
    · subst h3; rw [if_pos ⟨rfl, rfl⟩, hY]
    · rw [if_neg (fun e => h3 e.1)]
      by_cases h2 : a = i
      · subst h2; rw [if_pos ⟨rfl, rfl⟩, hX]
      · rw [if_neg (fun e => h2 e.1), hne a h2 h3]; unfold unS; rw [if_neg (Nat.lt_irrefl b)]
  · rw [if_neg h, if_neg (fun e => h e.2), if_neg (fun e => h e.2)]
structure UnI (n k : Nat) (M : Mi) : Prop where
  dt : (det n M).natAbs = 1
  bd : ∀ a b, a < n → b < n → (M a b).natAbs ≤ 4 ^ k
theorem UnI.step {n k i j : Nat} {sw : Bool} {f : Int} {M M' : Mi} (h : UnI n k M) (hi : i < n) (hj : j < n) (hf : f.natAbs ≤ 3) (hM : ∀ a b, a < n → b < n → M' a b = unF i j sw f M a b) : UnI n (k + 1) M' := by
  refine ⟨?_, fun a b ha hb => ?_⟩
  · by_cases h1 : i = j
    · subst h1
      have e : det n M' = det n (setRow M i fun b => -1 * M i b) := det_congr fun a ha b hb => by
        rw [hM a b ha hb]
        unfold unF
        rw [if_pos rfl]
        by_cases h2 : a = i
        · subst h2; rw [if_pos rfl, setRow_self]; omega
        · rw [if_neg h2, setRow_ne h2]
      rw [e, det_mulr _ hi, Int.natAbs_mul, h.dt]
      rfl
    · cases sw with
      | true =>
        have e : det n M' = det n (swp M i j) := det_congr fun a ha b hb => by
          rw [hM a b ha hb]
          unfold unF swp
          rw [if_neg h1]
          rfl
        rw [e, det_swap hi hj h1, Int.natAbs_neg, h.dt]
      | false =>
        have e : det n M' = det n (setRow M i fun b => M i b + f * M j b) := det_congr fun a ha b hb => by
          rw [hM a b ha hb]
          unfold unF
          rw [if_neg h1]
          by_cases h2 : a = i
          · subst h2; rw [setRow_self]; simp
          · rw [setRow_ne h2]; simp [h2]
        rw [e, det_addr f hi hj h1, h.dt]
  · have b0 := h.bd a b ha hb
    have b1 := h.bd i b hi hb
    have b2 := h.bd j b hj hb
    have e : 4 ^ (k + 1) = 4 * 4 ^ k := by rw [Nat.pow_succ]; omega
    rw [hM a b ha hb, e]
    have b3 : (f * M j b).natAbs ≤ 3 * 4 ^ k := by rw [Int.natAbs_mul]; exact Nat.mul_le_mul hf b2
    unfold unF
    generalize f * M j b = y at b3 ⊢
    generalize 4 ^ k = P at *
    split
    · split <;> omega
    · split
      · split
        · omega
        · split <;> omega
      · split <;> omega

section
variable {c : Cx} {Q : Exit → Act → World → Prop} {m : Mode} {F : SFrame} {H : SHeap} {r : List SOp} {g : Option (Option Tmp × Bool)} {ns : Bool} {d : Tmp} {ty t t' : TypeId} {x y : Operand}
theorem tdiv_bd (i : Int) {j : Nat} (hj : 0 < j) : (i.tdiv j).natAbs ≤ i.natAbs := by
  rw [Int.natAbs_tdiv]
  exact Nat.div_le_self _ _
theorem r_quoI {i : Int} (j : Nat) (hd : dstOk c.n (some d) = true) (hg : guardF F g = some true) (hx : ev F x = some (.int .i64 i)) (hy : ev F y = some (.int .i64 (j : Nat))) (hb : 0 < j) (hi : I64 i)
    (h : JO c Q m r ((d, (.int .i64 (i.tdiv j))) :: F) H) : JO c Q m (⟨some d, .binOp .quo t x y t', ty, g, .mov, ns⟩ :: r) F H :=
  r_arith hd hg hx hy (fun w => by
    have h0 : ¬ ((j : Int) = 0) := by omega
    have h1 := tdiv_bd i hb
    have h2 : -9223372036854775808 ≤ i.tdiv j ∧ i.tdiv j ≤ 9223372036854775807 := by
      unfold I64 at hi
      rcases (show j = 1 ∨ 2 ≤ j by omega) with hj | hj
      · subst hj
        have : i.tdiv ((1 : Nat) : Int) = i := Int.tdiv_one i
        omega
      · have : (i.tdiv j).natAbs ≤ i.natAbs / 2 := by
          rw [Int.natAbs_tdiv, Int.natAbs_natCast]
          exact Nat.div_le_div_left hj (by omega)
        omega
    rw [binOp_quo]; simp only [Op.intDiv, h0, if_false, in64 h2, Sem.run_pure]) h
end

set_option maxHeartbeats 8000000 in
theorem c_Unimodular (w : World) (n : Nat) (v : Value) (L : List Int) (hv : IsL w v L) (hn : n ≤ 6) :
    Calls Tryd.prog 23 #[nv n, v] w (Ret fun v w' => Kp [] w w' ∧ ∃ m : ZM, RtZ m ∧ m.r = n ∧ m.c = n ∧ UnI n 40 m.at ∧ GivesM m w v w') := by
  obtain ⟨hI, hL, hll⟩ := hv
  have hnn := rcZ (show n ≤ 200 by omega) (show n ≤ 200 by omega)
  refine calls_of_S [⟨14, 2, [], []⟩, ⟨16, 2, [], []⟩, ⟨12, 2, [], []⟩] [] (by simp) [] Tryd.func23 rfl mixed (by kernel_rfl) Tryd.ntmps23 Tryd.results23 rfl ⟨by simp, by simp⟩ (by simp) ?_
  simp only [toS, textOps, toSOp, kindAt, kindOf, odAt, sopsAt, ordOf, zipF]
  have hRL : RdI ⟨Tryd.prog, 133, w, [], by simp⟩ [] v L.length L := hL.rd rfl []
  (repeat' (first | refine JC.seq ?_ | refine JC.ops ?_ | refine JO.nil ?_ | refine JX.thenN ?_ | (apply r_move; (iterate 3 exact rfl)) | (apply r_allocZ; (iterate 3 exact rfl); intro _)))
  rename_i b4
  refine r_callA (A := [_]) (B := []) rfl (by first | trivial | exact ⟨rfl, rfl⟩) rfl rfl rfl (fun w _ _ => c_refOne n (by omega) w) fun w v' w' _ _ _ hR => ?_
  obtain ⟨N, hN, Eo, rfl, hO⟩ := hR
  obtain ⟨Ao, co, rfl⟩ := hO.form
  refine ⟨N, hN, ?_⟩
  have hol : (oneZ n).e.length = n * n := tbz_len _ _ _
  rw [hol] at hO
  rw [hol]
  have hU0 : UnI n 0 (enz n (oneZ n).e) := ⟨by
    have : det n (enz n (oneZ n).e) = 1 := (det_congr fun i hi j hj => enz_tbz hi hj).trans det_id
    rw [this]; rfl, fun a b ha hb => by
    have : enz n (oneZ n).e a b = idI a b := enz_tbz ha hb
    rw [this]; unfold idI; split <;> decide⟩
  generalize (oneZ n).e = es0 at hO hU0
  (repeat' (first | refine JC.seq ?_ | refine JC.ops ?_ | refine JO.nil ?_ | refine JX.thenN ?_ | (apply r_assign; (iterate 3 exact rfl)) | (apply r_storeN; exact rfl; (first | exact trivial | exact ⟨rfl, rfl⟩); exact rfl; exact rfl; exact at0; (iterate 3 exact rfl)) | (apply r_allocZ; (iterate 3 exact rfl); intro _) | (apply r_storeN; exact rfl; (first | exact trivial | exact ⟨rfl, rfl⟩); exact rfl; exact rfl; exact at0; (iterate 3 exact rfl)) | refine JC.block ?_))
  rename_i b5
  refine JC.loopH (ι := Nat × SHeap × List Int) ⟨fun z => [(6, nv z.1), (0, nv n), (1, v), (5, .pointer (some ⟨b5, 0, none⟩)), (4, .pointer (some ⟨b4, 0, none⟩))],
    fun z => [(b5, .cells #[nv n, nv n, .slice Ao (n * n) co] 29), (b4, .cells #[iv 0, iv 0, .slice none 0 0] 29)] ++ (z.2.1 ++ []),
    fun z => z.1 ≤ 40 ∧ z.1 ≤ L.length ∧ OwnZ z.2.1 (.slice Ao (n * n) co) (n * n) z.2.2 ∧ UnI n z.1 (enz n z.2.2), fun z => 40 - z.1⟩ (0, N, es0) ⟨by dsimp only; omega, by dsimp only; omega, hO, hU0⟩ (by repeat first | exact trivial | refine ⟨rfl, ?_⟩) (by (repeat' first | exact HSub.refl _ | exact HSub.nil _ | refine HSub.at 0 rfl ?_ | refine HSub.at 1 rfl ?_ | refine HSub.at 2 rfl ?_ | refine HSub.at 3 rfl ?_ | refine HSub.at 4 rfl ?_ | refine HSub.at 5 rfl ?_ | refine HSub.at 6 rfl ?_ | refine HSub.at 7 rfl ?_ | refine HSub.at 8 rfl ?_ | refine HSub.at 9 rfl ?_ | refine HSub.at 10 rfl ?_ | refine HSub.at 11 rfl ?_ | refine HSub.at 12 rfl ?_ | refine HSub.at 13 rfl ?_ | refine HSub.at 14 rfl ?_ | refine HSub.at 15 rfl ?_ | refine HSub.at 16 rfl ?_ | refine HSub.at 17 rfl ?_ | refine HSub.at 18 rfl ?_ | refine HSub.at 19 rfl ?_ | refine HSub.segH ?_ | refine HSub.skip ?_ | refine HSub.skipN ?_)) (fun z hz => ?_)
  clear hO hU0
  obtain ⟨k, N, es⟩ := z
  obtain ⟨hk40, hkL, hO, hU⟩ := hz
  dsimp only at hk40 hkL hO hU ⊢
  have hel := hO.len
  by_cases hk : k < L.length ∧ k < 40 ∧ 0 < n
  · obtain ⟨hk1, hk2, hn0⟩ := hk
    have hIk := hI k
    (repeat' (first | refine JC.seq ?_ | refine JC.ops ?_ | refine JO.nil ?_ | refine JX.thenN ?_ | (apply r_move; (iterate 3 exact rfl)) | (apply r_idxI; (iterate 4 exact rfl); (first | assumption | exact WI.rd (by assumption) rfl [] | exact OwnI.rd (by assumption)); (first | assumption | omega)) | (apply r_ldI; (iterate 4 exact rfl); (first | assumption | exact WI.rd (by assumption) rfl [] | exact OwnI.rd (by assumption)); (repeat' first | exact HSub.nil _ | exact HSub.hd | exact HSub.in0 | exact HSub.refl _ | refine HSub.skip ?_ | refine HSub.skipN ?_); (first | assumption | omega)) | (apply r_lenI; (iterate 3 exact rfl); (first | assumption | exact WI.rd (by assumption) rfl [] | exact OwnI.rd (by assumption))) | (apply r_pickT; (iterate 4 exact rfl)) | (apply r_lss; (iterate 4 exact rfl); all_goals intro hc; all_goals try (exfalso; omega)) | (apply r_gtr; (iterate 4 exact rfl); all_goals intro hc; all_goals try (exfalso; omega)) | refine JC.skip ?_ | refine JC.condT rfl ?_ | refine JC.block ?_))
    refine r_call0 (by first | trivial | exact ⟨rfl, rfl⟩) rfl rfl rfl (fun w _ _ => c_Mod w (L.getD k 0) n hn0 (by omega)) fun w v' w' _ _ _ hR => ?_
    obtain ⟨rfl, hi⟩ := hR
    generalize (L.getD k 0 % n).toNat = i at hi ⊢
    (repeat' (first | refine JC.seq ?_ | refine JC.ops ?_ | refine JO.nil ?_ | refine JX.thenN ?_ | (apply r_move; (iterate 3 exact rfl)) | (apply r_assign; (iterate 3 exact rfl)) | (apply r_idxI; (iterate 4 exact rfl); (first | assumption | exact WI.rd (by assumption) rfl [] | exact OwnI.rd (by assumption)); (first | assumption | omega)) | (apply r_ldI; (iterate 4 exact rfl); (first | assumption | exact WI.rd (by assumption) rfl [] | exact OwnI.rd (by assumption)); (repeat' first | exact HSub.nil _ | exact HSub.hd | exact HSub.in0 | exact HSub.refl _ | refine HSub.skip ?_ | refine HSub.skipN ?_); (first | assumption | omega))))
    refine r_quoI (i := L.getD k 0) n rfl rfl rfl rfl hn0 hIk ?_
    (repeat' (first | (apply r_move; (iterate 3 exact rfl))))
    refine r_call0 (by first | trivial | exact ⟨rfl, rfl⟩) rfl rfl rfl (fun w _ _ => c_Mod w ((L.getD k 0).tdiv n) n hn0 (by omega)) fun w v' w' _ _ _ hR => ?_
    obtain ⟨rfl, hj⟩ := hR
    generalize ((L.getD k 0).tdiv n % n).toNat = j at hj ⊢
    (repeat' (first | refine JC.seq ?_ | refine JC.ops ?_ | refine JO.nil ?_ | refine JX.thenN ?_ | (apply r_move; (iterate 3 exact rfl)) | (apply r_assign; (iterate 3 exact rfl)) | (apply r_idxI; (iterate 4 exact rfl); (first | assumption | exact WI.rd (by assumption) rfl [] | exact OwnI.rd (by assumption)); (first | assumption | omega)) | (apply r_ldI; (iterate 4 exact rfl); (first | assumption | exact WI.rd (by assumption) rfl [] | exact OwnI.rd (by assumption)); (repeat' first | exact HSub.nil _ | exact HSub.hd | exact HSub.in0 | exact HSub.refl _ | refine HSub.skip ?_ | refine HSub.skipN ?_); (first | assumption | omega))))
    refine r_quoI (i := L.getD k 0) 64 rfl rfl rfl rfl (by omega) hIk ?_
    skip
    refine r_call0 (by first | trivial | exact ⟨rfl, rfl⟩) rfl rfl rfl (fun w _ _ => c_Mod w ((L.getD k 0).tdiv (64 : Nat)) 7 (by omega) (by omega)) fun w v' w' _ _ _ hR => ?_
    obtain ⟨rfl, hx7⟩ := hR
    generalize ((L.getD k 0).tdiv (64 : Nat) % (7 : Nat)).toNat = x7 at hx7 ⊢
    (repeat' (first | (apply r_sub; (iterate 4 exact rfl); omega)))
    obtain ⟨f, hf⟩ : ∃ f : Int, f = (x7 : Int) - 3 := ⟨_, rfl⟩
    rw [← hf]
    have hf3 : f.natAbs ≤ 3 := by omega
    refine r_call0 (by first | trivial | exact ⟨rfl, rfl⟩) rfl rfl rfl (fun w _ _ => c_FromR w f (by omega) (by omega)) fun w v' w' _ _ _ hR => ?_
    subst hR
    clear hf hx7
    have bM := hU.bd
    have hB : (4 : Nat) ^ k * 4 ≤ 256 ^ 11 := Nat.le_trans (Nat.mul_le_mul_right 4 (Nat.pow_le_pow_right (by decide) hk40)) (by decide)
    (repeat' (first | refine JC.seq ?_ | refine JC.ops ?_ | refine JO.nil ?_ | refine JX.thenN ?_ | (apply r_assign; (iterate 3 exact rfl)) | (apply r_storeN; exact rfl; (first | exact trivial | exact ⟨rfl, rfl⟩); exact rfl; exact rfl; exact at0; (iterate 3 exact rfl)) | (apply r_allocZ; (iterate 3 exact rfl); intro _) | (apply r_storeN; exact rfl; (first | exact trivial | exact ⟨rfl, rfl⟩); exact rfl; exact rfl; exact at0; (iterate 3 exact rfl)) | refine JC.block ?_))
    rename_i b9
    refine JC.loopH (ι := Nat × SHeap × List Int) ⟨fun z => [(10, nv z.1), (9, .pointer (some ⟨b9, 0, none⟩)), (8, nv j), (7, nv i), (6, nv k), (0, nv n), (1, v), (5, .pointer (some ⟨b5, 0, none⟩)), (4, .pointer (some ⟨b4, 0, none⟩))],
      fun z => [(b9, .cells (wc f) 41), (b5, .cells #[nv n, nv n, .slice Ao (n * n) co] 29), (b4, .cells #[iv 0, iv 0, .slice none 0 0] 29)] ++ (z.2.1 ++ []),
      fun z => z.1 ≤ n ∧ OwnZ z.2.1 (.slice Ao (n * n) co) (n * n) z.2.2 ∧ ∀ a b, a < n → b < n → enz n z.2.2 a b = unS i j (decide ((L.getD k 0).tmod 5 = 0)) f (enz n es) z.1 a b, fun z => n - z.1⟩ (0, N, es) ⟨by dsimp only; omega, hO, fun a b _ _ => by unfold unS; rw [if_neg (by omega)]⟩ (by repeat first | exact trivial | refine ⟨rfl, ?_⟩) (by (repeat' first | exact HSub.refl _ | exact HSub.nil _ | refine HSub.at 0 rfl ?_ | refine HSub.at 1 rfl ?_ | refine HSub.at 2 rfl ?_ | refine HSub.at 3 rfl ?_ | refine HSub.at 4 rfl ?_ | refine HSub.at 5 rfl ?_ | refine HSub.at 6 rfl ?_ | refine HSub.at 7 rfl ?_ | refine HSub.at 8 rfl ?_ | refine HSub.at 9 rfl ?_ | refine HSub.at 10 rfl ?_ | refine HSub.at 11 rfl ?_ | refine HSub.at 12 rfl ?_ | refine HSub.at 13 rfl ?_ | refine HSub.at 14 rfl ?_ | refine HSub.at 15 rfl ?_ | refine HSub.at 16 rfl ?_ | refine HSub.at 17 rfl ?_ | refine HSub.at 18 rfl ?_ | refine HSub.at 19 rfl ?_ | refine HSub.segH ?_ | refine HSub.skip ?_ | refine HSub.skipN ?_)) (fun z hz => ?_)
    clear hO
    obtain ⟨c, N, es2⟩ := z
    obtain ⟨hc, hO, hM⟩ := hz
    dsimp only at hc hO hM ⊢
    have hel2 := hO.len
    by_cases hcn : c < n
    · have q1 : i * n ≤ 40000 := Nat.le_trans (Nat.mul_le_mul_right _ (by omega)) hnn
      have q2 : j * n ≤ 40000 := Nat.le_trans (Nat.mul_le_mul_right _ (by omega)) hnn
      have x1 := zx_lt hi hcn
      have x2 := zx_lt hj hcn
      have g1 : es2.getD (i * n + c) 0 = enz n es i c := (hM i c hi hcn).trans (by unfold unS; rw [if_neg (by omega)])
      have g2 : es2.getD (j * n + c) 0 = enz n es j c := (hM j c hj hcn).trans (by unfold unS; rw [if_neg (by omega)])
      have d1 : (es2.getD (i * n + c) 0).natAbs < 256 ^ 11 := by rw [g1]; have := bM i c hi hcn; have : 0 < 4 ^ k := Nat.pow_pos (by decide); omega
      have d2 : (es2.getD (j * n + c) 0).natAbs < 256 ^ 11 := by rw [g2]; have := bM j c hj hcn; have : 0 < 4 ^ k := Nat.pow_pos (by decide); omega
      have df : f.natAbs < 256 ^ 1 := by omega
      by_cases hij : i = j
      · (repeat' (first | refine JC.seq ?_ | refine JC.ops ?_ | refine JC.opsD ?_ | refine JO.nil ?_ | refine JX.thenN ?_ | (apply r_move; (iterate 3 exact rfl)) | (apply r_fieldAddr; (iterate 3 exact rfl)) | (apply r_assign; (iterate 3 exact rfl)) | (apply r_load; (iterate 4 exact rfl); (first | exact at0 | exact at1 | exact at2); exact rfl) | (apply r_loadN; (iterate 4 exact rfl); (first | exact at0 | exact at1 | exact at2); exact rfl) | (apply r_idxZ; (iterate 4 exact rfl); (first | assumption | exact WZ.rd (by assumption) rfl [] | exact OwnZ.rd (by assumption)); (first | assumption | omega)) | (apply r_ldZ; (iterate 4 exact rfl); (first | assumption | exact WZ.rd (by assumption) rfl [] | exact OwnZ.rd (by assumption)); (repeat' first | exact HSub.nil _ | exact HSub.hd | exact HSub.in0 | exact HSub.refl _ | refine HSub.skip ?_ | refine HSub.skipN ?_); (first | assumption | omega)) | (apply r_addN; (iterate 4 exact rfl); omega) | (apply r_mulN; (iterate 4 exact rfl); (first | assumption | omega)) | (apply r_storeN; exact rfl; (first | exact trivial | exact ⟨rfl, rfl⟩); exact rfl; exact rfl; (first | exact at0 | exact at1 | exact at2); (iterate 3 exact rfl)) | (apply r_lss; (iterate 4 exact rfl); all_goals intro hc; all_goals try (exfalso; omega)) | (apply r_eql; (iterate 4 exact rfl); all_goals intro hc; all_goals try (exfalso; omega)) | (apply r_allocZ; (iterate 3 exact rfl); intro _) | (apply r_storeN; exact rfl; (first | exact trivial | exact ⟨rfl, rfl⟩); exact rfl; exact rfl; (first | exact at0 | exact at1 | exact at2); (iterate 3 exact rfl)) | refine JC.skip ?_ | refine JC.condT rfl ?_ | refine JC.block ?_))
        refine r_call0 (by first | trivial | exact ⟨rfl, rfl⟩) rfl rfl rfl (fun w _ _ => c_NegR w _ (es2.getD (i * n + c) 0) 11 (IsZ.can d1) (by omega)) fun w v' w' _ _ _ hR => ?_
        subst hR
        (repeat' (first | (apply r_idxZ; (iterate 4 exact rfl); (first | assumption | exact WZ.rd (by assumption) rfl [] | exact OwnZ.rd (by assumption)); (first | assumption | omega))))
        refine r_stZ (A := [_, _, _, _]) (u := -(es2.getD (i * n + c) 0)) hO rfl rfl (by first | trivial | exact ⟨rfl, rfl⟩) rfl rfl x1 (fun N1 hO1 => ?_)
        (repeat' (first | refine JC.ops ?_ | refine JO.nil ?_ | refine JX.thenN ?_ | (apply r_move; (iterate 3 exact rfl)) | (apply r_assign; (iterate 3 exact rfl)) | (apply r_add1; (iterate 4 exact rfl); omega) | refine JX.blockN ?_))
        refine JX.roundH (c + 1, N1, _) ⟨by dsimp only; omega, hO1, fun a b ha hb => ?_⟩ (by dsimp only; omega) (by repeat first | exact trivial | refine ⟨rfl, ?_⟩) (HSub.skip (HSub.refl _))
        dsimp only
        rw [enz_set hel2 hi hcn hb, hM a b ha hb]
        exact unS_one (by rw [g1]; unfold unF; rw [if_pos hij, if_pos rfl]) (fun a ha => by unfold unF; rw [if_pos hij, if_neg ha]) a b
      · by_cases hsw : (L.getD k 0).tmod 5 = 0
        · (repeat' (first | refine JC.seq ?_ | refine JC.ops ?_ | refine JC.opsD ?_ | refine JO.nil ?_ | refine JX.thenN ?_ | (apply r_move; (iterate 3 exact rfl)) | (apply r_fieldAddr; (iterate 3 exact rfl)) | (apply r_assign; (iterate 3 exact rfl)) | (apply r_load; (iterate 4 exact rfl); (first | exact at0 | exact at1 | exact at2); exact rfl) | (apply r_idxZ; (iterate 4 exact rfl); (first | assumption | exact WZ.rd (by assumption) rfl [] | exact OwnZ.rd (by assumption)); (first | assumption | omega)) | (apply r_ldZ; (iterate 4 exact rfl); (first | assumption | exact WZ.rd (by assumption) rfl [] | exact OwnZ.rd (by assumption)); (repeat' first | exact HSub.nil _ | exact HSub.hd | exact HSub.in0 | exact HSub.refl _ | refine HSub.skip ?_ | refine HSub.skipN ?_); (first | assumption | omega)) | (apply r_idxI; (iterate 4 exact rfl); (first | assumption | exact WI.rd (by assumption) rfl [] | exact OwnI.rd (by assumption)); (first | assumption | omega)) | (apply r_ldI; (iterate 4 exact rfl); (first | assumption | exact WI.rd (by assumption) rfl [] | exact OwnI.rd (by assumption)); (repeat' first | exact HSub.nil _ | exact HSub.hd | exact HSub.in0 | exact HSub.refl _ | refine HSub.skip ?_ | refine HSub.skipN ?_); (first | assumption | omega)) | (apply r_addN; (iterate 4 exact rfl); omega) | (apply r_mulN; (iterate 4 exact rfl); (first | assumption | omega)) | (apply r_mod; (iterate 4 exact rfl); omega) | (apply r_storeN; exact rfl; (first | exact trivial | exact ⟨rfl, rfl⟩); exact rfl; exact rfl; (first | exact at0 | exact at1 | exact at2); (iterate 3 exact rfl)) | (apply r_lss; (iterate 4 exact rfl); all_goals intro hc; all_goals try (exfalso; omega)) | (apply r_eql; (iterate 4 exact rfl); all_goals intro hc; all_goals try (exfalso; omega)) | (apply r_allocZ; (iterate 3 exact rfl); intro _) | (apply r_storeN; exact rfl; (first | exact trivial | exact ⟨rfl, rfl⟩); exact rfl; exact rfl; (first | exact at0 | exact at1 | exact at2); (iterate 3 exact rfl)) | refine JC.skip ?_ | refine JC.condT rfl ?_ | refine JC.condF rfl ?_ | refine JC.block ?_))
          refine r_stZ (A := [_, _, _, _]) (u := es2.getD (j * n + c) 0) hO rfl rfl (by first | trivial | exact ⟨rfl, rfl⟩) rfl rfl x1 (fun N1 hO1 => ?_)
          (repeat' (first | refine JC.ops ?_ | refine JO.nil ?_ | refine JX.thenN ?_ | (apply r_move; (iterate 3 exact rfl)) | (apply r_fieldAddr; (iterate 3 exact rfl)) | (apply r_load; (iterate 4 exact rfl); (first | exact at0 | exact at2); exact rfl) | (apply r_loadN; (iterate 4 exact rfl); (first | exact at0 | exact at2); exact rfl) | (apply r_idxZ; (iterate 4 exact rfl); (first | assumption | exact WZ.rd (by assumption) rfl [] | exact OwnZ.rd (by assumption)); (first | assumption | omega)) | (apply r_addN; (iterate 4 exact rfl); omega) | (apply r_mulN; (iterate 4 exact rfl); (first | assumption | omega))))
          refine r_stZ (A := [_, _, _, _]) (u := es2.getD (i * n + c) 0) hO1 rfl rfl (by first | trivial | exact ⟨rfl, rfl⟩) rfl rfl x2 (fun N2 hO2 => ?_)
          (repeat' (first | refine JC.ops ?_ | refine JO.nil ?_ | refine JX.thenN ?_ | (apply r_move; (iterate 3 exact rfl)) | (apply r_assign; (iterate 3 exact rfl)) | (apply r_add1; (iterate 4 exact rfl); omega) | refine JX.blockN ?_))
          refine JX.roundH (c + 1, N2, _) ⟨by dsimp only; omega, hO2, fun a b ha hb => ?_⟩ (by dsimp only; omega) (by repeat first | exact trivial | refine ⟨rfl, ?_⟩) (HSub.skip (HSub.refl _))
          dsimp only
          rw [enz_set (by rw [List.length_set]; exact hel2) hj hcn hb, enz_set hel2 hi hcn hb, hM a b ha hb, decide_eq_true hsw]
          exact unS_two hij (by rw [g2]; unfold unF; rw [if_neg hij, if_pos rfl, if_pos rfl]) (by rw [g1]; unfold unF; rw [if_neg hij, if_pos rfl, if_neg (fun e => hij e.symm), if_pos rfl]) (fun a h1 h2 => by unfold unF; rw [if_neg hij, if_pos rfl, if_neg h1, if_neg h2]) a b
        · (repeat' (first | refine JC.seq ?_ | refine JC.ops ?_ | refine JC.opsD ?_ | refine JO.nil ?_ | refine JX.thenN ?_ | (apply r_move; (iterate 3 exact rfl)) | (apply r_fieldAddr; (iterate 3 exact rfl)) | (apply r_assign; (iterate 3 exact rfl)) | (apply r_load; (iterate 4 exact rfl); (first | exact at0 | exact at1 | exact at2); exact rfl) | (apply r_loadN; (iterate 4 exact rfl); (first | exact at0 | exact at1 | exact at2); exact rfl) | (apply r_idxZ; (iterate 4 exact rfl); (first | assumption | exact WZ.rd (by assumption) rfl [] | exact OwnZ.rd (by assumption)); (first | assumption | omega)) | (apply r_ldZ; (iterate 4 exact rfl); (first | assumption | exact WZ.rd (by assumption) rfl [] | exact OwnZ.rd (by assumption)); (repeat' first | exact HSub.nil _ | exact HSub.hd | exact HSub.in0 | exact HSub.refl _ | refine HSub.skip ?_ | refine HSub.skipN ?_); (first | assumption | omega)) | (apply r_idxI; (iterate 4 exact rfl); (first | assumption | exact WI.rd (by assumption) rfl [] | exact OwnI.rd (by assumption)); (first | assumption | omega)) | (apply r_ldI; (iterate 4 exact rfl); (first | assumption | exact WI.rd (by assumption) rfl [] | exact OwnI.rd (by assumption)); (repeat' first | exact HSub.nil _ | exact HSub.hd | exact HSub.in0 | exact HSub.refl _ | refine HSub.skip ?_ | refine HSub.skipN ?_); (first | assumption | omega)) | (apply r_addN; (iterate 4 exact rfl); omega) | (apply r_mulN; (iterate 4 exact rfl); (first | assumption | omega)) | (apply r_mod; (iterate 4 exact rfl); omega) | (apply r_storeN; exact rfl; (first | exact trivial | exact ⟨rfl, rfl⟩); exact rfl; exact rfl; (first | exact at0 | exact at1 | exact at2); (iterate 3 exact rfl)) | (apply r_lss; (iterate 4 exact rfl); all_goals intro hc; all_goals try (exfalso; omega)) | (apply r_eql; (iterate 4 exact rfl); all_goals intro hc; all_goals try (exfalso; omega)) | (apply r_allocZ; (iterate 3 exact rfl); intro _) | (apply r_storeN; exact rfl; (first | exact trivial | exact ⟨rfl, rfl⟩); exact rfl; exact rfl; (first | exact at0 | exact at1 | exact at2); (iterate 3 exact rfl)) | refine JC.skip ?_ | refine JC.condT rfl ?_ | refine JC.condF rfl ?_ | refine JC.block ?_))
          refine r_call0 (by first | trivial | exact ⟨rfl, rfl⟩) rfl rfl rfl (fun w _ _ => c_MulR w _ _ f (es2.getD (j * n + c) 0) 11 (IsZ.can (bd_up df (by omega))) (IsZ.can d2) (by omega)) fun w v' w' _ _ _ hR => ?_
          subst hR
          skip
          refine r_call0 (by first | trivial | exact ⟨rfl, rfl⟩) rfl rfl rfl (fun w _ _ => c_AddR w _ _ (es2.getD (i * n + c) 0) (f * es2.getD (j * n + c) 0) 22 (IsZ.can (bd_up d1 (by omega))) (IsZ.can (mul_bd (bd_up df (by omega)) d2)) (by omega)) fun w v' w' _ _ _ hR => ?_
          subst hR
          (repeat' (first | (apply r_idxZ; (iterate 4 exact rfl); (first | assumption | exact WZ.rd (by assumption) rfl [] | exact OwnZ.rd (by assumption)); (first | assumption | omega))))
          refine r_stZ (A := [_, _, _, _]) (u := es2.getD (i * n + c) 0 + f * es2.getD (j * n + c) 0) hO rfl rfl (by first | trivial | exact ⟨rfl, rfl⟩) rfl rfl x1 (fun N1 hO1 => ?_)
          (repeat' (first | refine JC.ops ?_ | refine JO.nil ?_ | refine JX.thenN ?_ | (apply r_move; (iterate 3 exact rfl)) | (apply r_assign; (iterate 3 exact rfl)) | (apply r_add1; (iterate 4 exact rfl); omega) | refine JX.blockN ?_))
          refine JX.roundH (c + 1, N1, _) ⟨by dsimp only; omega, hO1, fun a b ha hb => ?_⟩ (by dsimp only; omega) (by repeat first | exact trivial | refine ⟨rfl, ?_⟩) (HSub.skip (HSub.refl _))
          dsimp only
          rw [enz_set hel2 hi hcn hb, hM a b ha hb, decide_eq_false hsw]
          exact unS_one (by rw [g1, g2]; unfold unF; rw [if_neg hij]; simp) (fun a ha => by unfold unF; rw [if_neg hij]; simp [ha]) a b
    · obtain rfl : c = n := by omega
      have hU2 := hU.step (M' := enz c es2) hi hj hf3 (fun a b ha hb => (hM a b ha hb).trans (by unfold unS; rw [if_pos hb]))
      (repeat' (first | refine JC.seq ?_ | refine JC.ops ?_ | refine JO.nil ?_ | refine JX.thenN ?_ | (apply r_move; (iterate 3 exact rfl)) | (apply r_assign; (iterate 3 exact rfl)) | (apply r_add1; (iterate 4 exact rfl); omega) | (apply r_lss; (iterate 4 exact rfl); all_goals intro hc; all_goals try (exfalso; omega)) | refine JX.thenE ?_ | refine JC.exit ?_ | refine JC.condF rfl ?_ | refine JX.blockN ?_ | refine JX.blockE ?_))
      exact JX.roundH (k + 1, N, es2) ⟨by dsimp only; omega, by dsimp only; omega, hO, hU2⟩ (by dsimp only; omega) (by repeat first | exact trivial | refine ⟨rfl, ?_⟩) (HSub.skip (HSub.refl _))
  · have hU40 : UnI n 40 (enz n es) := ⟨hU.dt, fun a b ha hb => Nat.le_trans (hU.bd a b ha hb) (Nat.pow_le_pow_right (by decide) hk40)⟩
    (repeat' (first | refine JC.seq ?_ | refine JC.ops ?_ | refine JO.nil ?_ | refine JX.thenN ?_ | (apply r_move; (iterate 3 exact rfl)) | (apply r_loadN; (iterate 4 exact rfl); (first | exact at0 | exact at1); exact rfl) | (apply r_lenI; (iterate 3 exact rfl); (first | assumption | exact WI.rd (by assumption) rfl [] | exact OwnI.rd (by assumption))) | (apply r_pickT; (iterate 4 exact rfl)) | (apply r_pickF; (iterate 4 exact rfl)) | (apply r_storeN; exact rfl; (first | exact trivial | exact ⟨rfl, rfl⟩); exact rfl; exact rfl; (first | exact at0 | exact at1); (iterate 3 exact rfl)) | (apply r_lss; (iterate 4 exact rfl); all_goals intro hc; all_goals try (exfalso; omega)) | (apply r_gtr; (iterate 4 exact rfl); all_goals intro hc; all_goals try (exfalso; omega)) | (apply r_storeN; exact rfl; (first | exact trivial | exact ⟨rfl, rfl⟩); exact rfl; exact rfl; (first | exact at0 | exact at1); (iterate 3 exact rfl)) | refine JX.thenE ?_ | refine JC.exit ?_ | refine JC.ret ?_ | refine JC.condF rfl ?_ | refine JX.blockE ?_ | (apply r_skip; exact rfl; exact rfl; (first | (intro h; cases h; done) | (intro _; rfl)))))
    all_goals exact JX.retC 1 rfl rfl rfl (fun a w' st => ⟨st.kp, ⟨n, n, es⟩, ⟨by show n ≤ 200; omega, by show n ≤ 200; omega, hel⟩, rfl, rfl, hU40, N, st.newOf rfl (by (repeat' first | exact HSub.nil _ | exact HSub.hd | exact HSub.in0 | exact HSub.refl _ | refine HSub.skip ?_ | refine HSub.skipN ?_)), OwnM.mk' hO⟩)


theorem dd_one {d : Int} (h : d.natAbs = 1) : d * d = 1 := by
  rcases (show d = 1 ∨ d = -1 by omega) with rfl | rfl <;> rfl
theorem adj_r {n : Nat} {A : Mi} (h : (det n A).natAbs = 1) {i k : Nat} (hi : i < n) (hk : k < n) : mmI n A (adj (n - 1) A (det n A)) i k = idI i k := by
  obtain ⟨n, rfl⟩ : ∃ m, n = m + 1 := ⟨n - 1, by omega⟩
  have := adj_right (n := n) (A := A) (d := det (n + 1) A) (i := i) (k := k) (by omega) (by omega)
  rw [dd_one h] at this
  exact this
theorem adj_l {n : Nat} {A : Mi} (h : (det n A).natAbs = 1) {i k : Nat} (hi : i < n) (hk : k < n) : mmI n (adj (n - 1) A (det n A)) A i k = idI i k := by
  obtain ⟨n, rfl⟩ : ∃ m, n = m + 1 := ⟨n - 1, by omega⟩
  have := adj_left (n := n) (A := A) (d := det (n + 1) A) (i := i) (k := k) (by omega) (by omega)
  rw [dd_one h] at this
  exact this
theorem adjZ_unique {x m : ZM} (hx : RtZ x) (h1 : x.r = m.r) (h2 : x.c = m.r) (hd : (det m.r m.at).natAbs = 1) (h : ∀ i j, i < m.r → j < m.r → mmI m.r x.at m.at i j = idI i j) : x = adjZ m := by
  rw [← zof_of hx, h1, h2]
  refine zof_congr (r := m.r) (c := m.r) fun i j hi hj => ?_
  have e1 : mmI m.r x.at (mmI m.r m.at (adj (m.r - 1) m.at (det m.r m.at))) i j = x.at i j := by
    rw [← mmI_idr (A := x.at) (i := i) hj]
    exact mmI_congr (fun _ _ => rfl) (fun k hk => adj_r hd hk hj)
  rw [← e1, ← mmI_assoc]
  refine (mmI_congr (A' := idI) (B' := adj (m.r - 1) m.at (det m.r m.at)) (fun k hk => h i k hi hk) (fun _ _ => rfl)).trans ?_
  exact mmI_id hi
theorem mul_adjZ {m : ZM} (hsq : m.r = m.c) (hd : (det m.r m.at).natAbs = 1) : mulZ m (adjZ m) = oneZ m.r := by
  refine zof_congr (r := m.r) (c := m.r) fun i j hi hj => ?_
  show mmI m.c m.at (adjZ m).at i j = idI i j
  rw [← hsq, ← adj_r hd hi hj]
  exact mmI_congr (fun _ _ => rfl) (fun k hk => zof_at hk hj)
theorem adjZ_mul {m : ZM} (hsq : m.r = m.c) (hd : (det m.r m.at).natAbs = 1) : mulZ (adjZ m) m = oneZ m.r := by
  show zof m.r m.c (fun i j => mmI m.r (adjZ m).at m.at i j) = oneZ m.r
  rw [← hsq]
  refine zof_congr (r := m.r) (c := m.r) fun i j hi hj => ?_
  rw [← adj_l hd hi hj]
  exact mmI_congr (fun k hk => zof_at hi hk) (fun _ _ => rfl)
theorem adjZ_bd {m : ZM} {K : Nat} (hr : m.r ≤ 6) (hd : (det m.r m.at).natAbs = 1) (h : BdZ K m) : BdZ (7 * (K + 1)) (adjZ m) := fun i => by
  show ((tab (m.r * m.r) fun k => adj (m.r - 1) m.at (det m.r m.at) (k / m.r) (k % m.r)).getD i 0).natAbs < _
  by_cases hi : i < m.r * m.r
  · rw [tab_getD hi]
    unfold adj
    have hs : (sg (i / m.r + i % m.r)).natAbs = 1 := by unfold sg; split <;> rfl
    rw [Int.natAbs_mul, Int.natAbs_mul, hs, hd, Nat.one_mul, Nat.mul_one]
    refine Nat.lt_of_le_of_lt (det_bd (K := K) (by omega) (fun a b => h.at _ _)) (Nat.pow_lt_pow_right (by decide) ?_)
    have := Nat.mul_le_mul_right (K + 1) (show m.r - 1 ≤ 6 by omega)
    omega
  · rw [List.getD, List.getElem?_eq_none (by simp [tab]; omega)]; exact Nat.pow_pos (by decide)

def eB (n : Nat) : Nat → Nat
  | 0 => 11
  | k + 1 => eB n k + (2 * eB n k + 1) * (n - (k + 1))
def uB (n : Nat) : Nat → Nat
  | 0 => 0
  | k + 1 => uB n k + eB n (k + 1) + 1
theorem euB : ∀ n, n < 7 → ∀ k, k < 7 → k ≤ n → eB n k < 300000 ∧ uB n k < 300000 := by decide
theorem eB_step {n k : Nat} : 256 ^ eB n k * (9 * (1 + 256 ^ eB n k) ^ 2) ^ (n - (k + 1)) ≤ 256 ^ eB n (k + 1) := by
  rw [eB, Nat.pow_add]
  refine Nat.mul_le_mul_left _ ?_
  rw [Nat.pow_mul]
  refine Nat.pow_le_pow_left ?_ _
  have e : 256 ^ (2 * eB n k + 1) = (256 ^ eB n k) ^ 2 * 256 := by rw [Nat.pow_succ, Nat.mul_comm 2, Nat.pow_mul]
  rw [e]
  have hp : 0 < 256 ^ eB n k := Nat.pow_pos (by decide)
  generalize 256 ^ eB n k = X at hp ⊢
  have h1 : (1 + X) ^ 2 ≤ (2 * X) ^ 2 := Nat.pow_le_pow_left (by omega) 2
  have h2 : (2 * X) ^ 2 = 4 * X ^ 2 := by rw [Nat.mul_pow]
  omega
theorem uB_step {n k : Nat} : 256 ^ uB n k * (1 + 256 ^ eB n (k + 1)) + 256 ^ eB n (k + 1) ≤ 256 ^ uB n (k + 1) := by
  rw [uB, Nat.pow_succ, Nat.pow_add]
  have hp : 0 < 256 ^ uB n k := Nat.pow_pos (by decide)
  have hq : 0 < 256 ^ eB n (k + 1) := Nat.pow_pos (by decide)
  generalize 256 ^ uB n k = X at hp ⊢
  generalize 256 ^ eB n (k + 1) = Y at hq ⊢
  have h1 : X ≤ X * Y := Nat.le_mul_of_pos_right _ hq
  have h2 : Y ≤ X * Y := Nat.le_mul_of_pos_left _ hp
  rw [Nat.mul_add, Nat.mul_one]
  omega

theorem c_InvN (w : World) (v : Value) (m : ZM) (hm : RtZ m) (hsq : m.r = m.c) (hn : m.r ≤ 6) (hx : BdZ 12 m) (hb : ∀ i j, i < m.r → j < m.r → (m.at i j).natAbs ≤ 256 ^ 11) (hv : IsM w v m) :
    Calls Tryd.prog 24 #[v] w (Ret fun v w' => Kp [] w w' ∧ if (det m.r m.at).natAbs = 1 then GivesMB (adjZ m) true w v w' else v = .tuple #[zeroM, .bool false]) := by
  have hK : (m.r + 1) * (12 + 1) ≤ 40000000 := Nat.le_trans (Nat.mul_le_mul_right _ (show m.r + 1 ≤ 7 by omega)) (by decide)
  obtain ⟨KK, hKK⟩ : ∃ K : Nat, K = 300000 := ⟨_, rfl⟩
  refine calls_mono (c_Inverse KK 12 (fun k => 256 ^ eB m.r k) (fun k => 256 ^ uB m.r k) w v m hm hsq (by omega) hK hx hv hb (Nat.pow_pos (by decide)) (fun k _ => eB_step) (fun k _ => uB_step) (fun k hk => ?_) (by omega)) fun v w' h => ⟨h.1, ?_⟩
  · have h := euB m.r (by omega) k (by omega) hk
    rw [← hKK] at h
    exact ⟨Nat.pow_lt_pow_right (by decide) h.1, Nat.pow_lt_pow_right (by decide) h.2⟩
  · have h2 := h.2
    by_cases hd : (det m.r m.at).natAbs = 1
    · rw [if_pos hd] at h2 ⊢
      obtain ⟨x, hx, h3, h4, h5, h6⟩ := h2
      rw [← adjZ_unique hx h3 h4 hd h5]
      exact h6
    · rw [if_neg hd] at h2 ⊢
      exact h2

end Go.Proofs.YtdlmnloikakjpaaDoor

