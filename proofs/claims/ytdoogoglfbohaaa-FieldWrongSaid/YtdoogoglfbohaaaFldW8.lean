/- Walks of field: kernels of the reference; images. -/
import Derived.Test.YtdoogoglfbohaaaFldW7
namespace Go.Proofs.Ytdoogoglfbohaaa
open Go Go.RowKit
set_option linter.unusedSimpArgs false
set_option linter.unusedVariables false
set_option linter.unusedSectionVars false

set_option maxHeartbeats 4000000 in
theorem c_refKernel (w : World) (v : Value) (m : NM) (hm : Rt m) (hv : IsM w v m) :
    Calls Try.prog 36 #[v] w (Ret fun v w' => Kp [] w w' ∧ GivesM (kerM m) w v w') := by
  have hv0 := hv
  obtain ⟨E, rfl, hE⟩ := hv
  obtain ⟨hPr, hPc, hPlt, hPnd, hPmem, hPels, hPent⟩ := Pvs.of hm.big
  have hbr := hm.r
  have hbc := hm.c
  have hp := hm.pr
  have hp2 := hp.1
  have hp9 := hp.2.1
  generalize hl : pivM m = l at *
  generalize he : (echM m).e = e at *
  refine calls_of_S [⟨15, 2, [], []⟩] [] (by simp) [] Try.func36 rfl mixed (by kernel_rfl) Try.ntmps36 Try.results36 rfl ⟨by simp, by simp⟩ (by simp) ?_
  simp only [toS, textOps, toSOp, kindAt, kindOf, odAt, sopsAt, ordOf, zipF]
  (repeat' (first | refine JC.seq ?_ | refine JC.ops ?_ | refine JO.nil ?_ | refine JX.thenN ?_ | (apply r_loadN; exact rfl; exact rfl; exact rfl; exact rfl; (first | exact at0 | exact at1 | exact at2 | exact at3 | exact at4 | exact at5 | exact at6 | exact at7); exact rfl) | (apply r_allocZ; exact rfl; exact rfl; exact rfl; intro _) | (apply r_boxA; exact rfl; exact rfl; exact rfl; exact rfl; intro _)))
  rename_i b1 b2
  refine r_callA (A := [_, _]) (B := []) rfl trivial rfl rfl rfl (fun w hk _ => c_refEchelon w _ m hm (hv0.mono hk)) fun w v w' _ _ _ hR => ?_
  obtain ⟨N, N2, u, x, rfl, hN, ⟨Eo, rfl, hOe⟩, hO2⟩ := hR
  rw [hl] at hO2
  rw [he, hPels] at hOe
  obtain ⟨Ae, ce, rfl⟩ := hOe.form
  refine ⟨_, hN, ?_⟩
  rw [List.append_assoc]
  (repeat' (first | refine JC.seq ?_ | refine JC.ops ?_ | refine JO.nil ?_ | refine JX.thenN ?_ | (apply r_move; exact rfl; exact rfl; exact rfl) | (apply r_fieldAddr; exact rfl; exact rfl; exact rfl) | (apply r_assign; exact rfl; exact rfl; exact rfl) | (apply r_load; exact rfl; exact rfl; exact rfl; exact rfl; (first | exact at0 | exact at1 | exact at2 | exact at3 | exact at4 | exact at5 | exact at6 | exact at7); exact rfl) | (apply r_lenN; exact rfl; exact rfl; exact rfl; (first | assumption | exact WN.rd (by assumption) rfl [] | exact OwnN.rd (by assumption))) | (apply r_subN; exact rfl; exact rfl; exact rfl; exact rfl; omega) | (apply r_extract; exact rfl; exact rfl; exact rfl; exact rfl) | (apply r_eql; exact rfl; exact rfl; exact rfl; exact rfl; all_goals intro hc; all_goals try (exfalso; omega)) | (apply r_allocZ; exact rfl; exact rfl; exact rfl; intro _) | (apply r_buildL; exact rfl; exact rfl; exact rfl; exact rfl; exact rfl) | (apply r_storeN; exact rfl; (first | exact trivial | exact ⟨rfl, rfl⟩); exact rfl; exact rfl; (first | exact at0 | exact at1 | exact at2 | exact at3 | exact at4 | exact at5 | exact at6 | exact at7); exact rfl; exact rfl; exact rfl) | refine JX.thenR ?_ | refine JC.skip ?_ | refine JC.ret ?_ | refine JC.condT rfl ?_ | refine JC.condF rfl ?_))
  · exfalso
    have : (m.p : Int) = 0 := hc
    omega
  rename_i b3
  refine r_callA (A := [_, _, _]) rfl trivial rfl rfl rfl (fun w hk _ => c_refZero m.p m.c (m.c - l.length) hm.pr hm.c (by omega) w) fun w v w' _ _ _ hR => ?_
  obtain ⟨N5, E5, hN5, rfl, hO5⟩ := hR
  obtain ⟨A5, c5, rfl⟩ := hO5.form
  refine ⟨N5, hN5, ?_⟩
  (repeat' (first | refine JC.seq ?_ | refine JC.ops ?_ | refine JO.nil ?_ | refine JX.thenN ?_ | (apply r_assign; exact rfl; exact rfl; exact rfl) | (apply r_allocZ; exact rfl; exact rfl; exact rfl; intro _) | (apply r_storeN; exact rfl; (first | exact trivial | exact ⟨rfl, rfl⟩); exact rfl; exact rfl; (first | exact at0 | exact at1 | exact at2 | exact at3 | exact at4 | exact at5 | exact at6 | exact at7); exact rfl; exact rfl; exact rfl) | refine JC.block ?_))
  rename_i b5
  refine JC.loopH (ι := Nat × SHeap) ⟨fun z => [(7, nv z.1), (6, nv (cnt l z.1)), (4, x), (5, .pointer (some ⟨b5, 0, none⟩)), (3, .pointer (some ⟨b3, 0, none⟩)), (2, .pointer (some ⟨b2, 0, none⟩)), (1, .pointer (some ⟨b1, 0, none⟩))],
    fun z => [(b5, .cells #[nv m.p, nv m.c, nv (m.c - l.length), .slice A5 (m.c * (m.c - l.length)) c5] 27), (b3, .cells #[nv m.p, nv m.r, nv m.c, .slice Ae (m.r * m.c) ce] 27), (b2, .cells #[iv 0, iv 0, iv 0, .slice none 0 0] 27), (b1, .cells #[nv m.p, nv m.r, nv m.c, E] 27)] ++ (z.2 ++ (N ++ (N2 ++ []))),
    fun z => z.1 ≤ m.c ∧ OwnN z.2 (.slice A5 (m.c * (m.c - l.length)) c5) (m.c * (m.c - l.length)) (tab2 m.c (m.c - l.length) (kerG m.p m.c e l z.1)), fun z => m.c - z.1⟩ (0, N5) ⟨by dsimp only; omega, hO5⟩ (by repeat first | exact trivial | refine ⟨rfl, ?_⟩) (by (first | exact HSub.refl _ | (repeat' first | exact HSub.nil _ | exact HSub.refl _ | refine HSub.at 0 rfl ?_ | refine HSub.at 1 rfl ?_ | refine HSub.at 2 rfl ?_ | refine HSub.at 3 rfl ?_ | refine HSub.at 4 rfl ?_ | refine HSub.at 5 rfl ?_ | refine HSub.at 6 rfl ?_ | refine HSub.at 7 rfl ?_))) (fun z hz => ?_)
  clear hO5
  obtain ⟨j, N5⟩ := z
  obtain ⟨hj, hO⟩ := hz
  dsimp only at hj hO ⊢
  have hcc := cnt_mono (l := l) (j := j) (m.c - j)
  rw [show j + (m.c - j) = m.c by omega, cnt_end hPnd hPmem] at hcc
  by_cases hjc : j < m.c
  · (repeat' (first | refine JC.seq ?_ | refine JC.ops ?_ | refine JO.nil ?_ | refine JX.thenN ?_ | (apply r_move; exact rfl; exact rfl; exact rfl) | (apply r_fieldAddr; exact rfl; exact rfl; exact rfl) | (apply r_load; exact rfl; exact rfl; exact rfl; exact rfl; (first | exact at0 | exact at1 | exact at2 | exact at3 | exact at4 | exact at5 | exact at6 | exact at7); exact rfl) | (apply r_lss; exact rfl; exact rfl; exact rfl; exact rfl; all_goals intro hc; all_goals try (exfalso; omega)) | refine JC.skip ?_ | refine JC.condT rfl ?_ | refine JC.block ?_))
    refine r_call0 trivial rfl rfl rfl (fun w hk hs => c_among w _ _ j l (hO2.rd.at hk hs (by (repeat' first | exact HSub.nil _ | exact HSub.hd | exact HSub.in0 | exact HSub.refl _ | refine HSub.skip ?_ | refine HSub.skipN ?_))) (by omega)) fun w v w' _ _ _ hR => ?_
    subst hR
    by_cases hjl : j ∈ l
    · rw [decide_eq_true hjl]
      (repeat' (first | refine JC.seq ?_ | refine JC.ops ?_ | refine JO.nil ?_ | refine JX.thenN ?_ | (apply r_move; exact rfl; exact rfl; exact rfl) | (apply r_assign; exact rfl; exact rfl; exact rfl) | (apply r_add1; exact rfl; exact rfl; exact rfl; exact rfl; omega) | refine JX.thenE ?_ | refine JC.exit ?_ | refine JC.condT rfl ?_ | refine JX.blockE ?_))
      exact JX.roundH (j + 1, N5) ⟨by dsimp only; omega, by dsimp only [kerG]; rw [if_pos hjl]; exact hO⟩ (by dsimp only; omega) (by dsimp only [cnt]; rw [if_pos hjl]; exact (by repeat first | exact trivial | refine ⟨rfl, ?_⟩)) (by (first | exact HSub.refl _ | (repeat' first | exact HSub.nil _ | exact HSub.refl _ | refine HSub.at 0 rfl ?_ | refine HSub.at 1 rfl ?_ | refine HSub.at 2 rfl ?_ | refine HSub.at 3 rfl ?_ | refine HSub.at 4 rfl ?_ | refine HSub.at 5 rfl ?_ | refine HSub.at 6 rfl ?_ | refine HSub.at 7 rfl ?_)))
    · rw [decide_eq_false hjl]
      have hcl := cnt_lt hPnd hPmem hjc hjl
      have hidx := idx_lt hjc hcl
      have hb1 : j * (m.c - l.length) ≤ 160000 := Nat.mul_le_mul (show j ≤ 400 by omega) (show m.c - l.length ≤ 400 by omega)
      (repeat' (first | refine JC.seq ?_ | refine JC.ops ?_ | refine JO.nil ?_ | refine JX.thenN ?_ | (apply r_move; exact rfl; exact rfl; exact rfl) | (apply r_fieldAddr; exact rfl; exact rfl; exact rfl) | (apply r_assign; exact rfl; exact rfl; exact rfl) | (apply r_load; exact rfl; exact rfl; exact rfl; exact rfl; (first | exact at0 | exact at1 | exact at2 | exact at3 | exact at4 | exact at5 | exact at6 | exact at7); exact rfl) | (apply r_idxN; exact rfl; exact rfl; exact rfl; exact rfl; (first | assumption | exact WN.rd (by assumption) rfl [] | exact OwnN.rd (by assumption)); (first | assumption | omega)) | (apply r_addN; exact rfl; exact rfl; exact rfl; exact rfl; omega) | (apply r_mulN; exact rfl; exact rfl; exact rfl; exact rfl; (first | assumption | omega)) | refine JC.skip ?_ | refine JC.condF rfl ?_))
      refine r_stN (A := [_, _, _, _]) (u := 1) hO rfl rfl (by first | trivial | exact ⟨rfl, rfl⟩) rfl rfl hidx (fun N' hO' => ?_)
      rw [tab2_set hcl] at hO'
      (repeat' (first | refine JC.seq ?_ | refine JC.ops ?_ | refine JO.nil ?_ | refine JX.thenN ?_ | (apply r_assign; exact rfl; exact rfl; exact rfl) | refine JC.block ?_))
      refine JC.loopH (ι := Nat × SHeap) ⟨fun z => [(9, nv z.1), (7, nv j), (6, nv (cnt l j)), (4, x), (5, .pointer (some ⟨b5, 0, none⟩)), (3, .pointer (some ⟨b3, 0, none⟩)), (2, .pointer (some ⟨b2, 0, none⟩)), (1, .pointer (some ⟨b1, 0, none⟩))],
        fun z => [(b5, .cells #[nv m.p, nv m.c, nv (m.c - l.length), .slice A5 (m.c * (m.c - l.length)) c5] 27), (b3, .cells #[nv m.p, nv m.r, nv m.c, .slice Ae (m.r * m.c) ce] 27), (b2, .cells #[iv 0, iv 0, iv 0, .slice none 0 0] 27), (b1, .cells #[nv m.p, nv m.r, nv m.c, E] 27)] ++ (z.2 ++ (N ++ (N2 ++ []))),
        fun z => z.1 ≤ l.length ∧ OwnN z.2 (.slice A5 (m.c * (m.c - l.length)) c5) (m.c * (m.c - l.length)) (tab2 m.c (m.c - l.length) (kcol m.p m.c e l j (cnt l j) (kerG m.p m.c e l j) z.1)), fun z => l.length - z.1⟩ (0, N') ⟨by dsimp only; omega, hO'⟩ (by repeat first | exact trivial | refine ⟨rfl, ?_⟩) (by (first | exact HSub.refl _ | (repeat' first | exact HSub.nil _ | exact HSub.refl _ | refine HSub.at 0 rfl ?_ | refine HSub.at 1 rfl ?_ | refine HSub.at 2 rfl ?_ | refine HSub.at 3 rfl ?_ | refine HSub.at 4 rfl ?_ | refine HSub.at 5 rfl ?_ | refine HSub.at 6 rfl ?_ | refine HSub.at 7 rfl ?_))) (fun z hz => ?_)
      clear hO hO'
      obtain ⟨i, N5⟩ := z
      obtain ⟨hi, hO⟩ := hz
      dsimp only at hi hO ⊢
      by_cases hil : i < l.length
      · have hlt := hPlt i hil
        have hidx2 := idx_lt hlt hcl
        have hb2 : l.getD i 0 * (m.c - l.length) ≤ 160000 := Nat.mul_le_mul (show l.getD i 0 ≤ 400 by omega) (show m.c - l.length ≤ 400 by omega)
        have hb3 : i * m.c ≤ 160000 := Nat.mul_le_mul (show i ≤ 400 by omega) hbc
        have hidx3 := idx_lt (show i < m.r by omega) hjc
        have hee : e.getD (i * m.c + j) 0 < m.p := hPent i j
        (repeat' (first | refine JC.seq ?_ | refine JC.ops ?_ | refine JC.opsD ?_ | refine JO.nil ?_ | refine JX.thenN ?_ | (apply r_move; exact rfl; exact rfl; exact rfl) | (apply r_fieldAddr; exact rfl; exact rfl; exact rfl) | (apply r_load; exact rfl; exact rfl; exact rfl; exact rfl; (first | exact at0 | exact at1 | exact at2 | exact at3 | exact at4 | exact at5 | exact at6 | exact at7); exact rfl) | (apply r_idxN; exact rfl; exact rfl; exact rfl; exact rfl; (first | assumption | exact WN.rd (by assumption) rfl [] | exact OwnN.rd (by assumption)); (first | assumption | omega)) | (apply r_ldN; exact rfl; exact rfl; exact rfl; exact rfl; (first | assumption | exact WN.rd (by assumption) rfl [] | exact OwnN.rd (by assumption)); (repeat' first | exact HSub.nil _ | exact HSub.hd | exact HSub.in0 | exact HSub.refl _ | refine HSub.skip ?_ | refine HSub.skipN ?_); (first | assumption | omega)) | (apply r_lenN; exact rfl; exact rfl; exact rfl; (first | assumption | exact WN.rd (by assumption) rfl [] | exact OwnN.rd (by assumption))) | (apply r_addN; exact rfl; exact rfl; exact rfl; exact rfl; omega) | (apply r_mulN; exact rfl; exact rfl; exact rfl; exact rfl; (first | assumption | omega)) | (apply r_modN; exact rfl; exact rfl; exact rfl; exact rfl; omega) | (apply r_subN; exact rfl; exact rfl; exact rfl; exact rfl; omega) | (apply r_lss; exact rfl; exact rfl; exact rfl; exact rfl; all_goals intro hc; all_goals try (exfalso; omega)) | refine JC.skip ?_ | refine JC.condT rfl ?_ | refine JC.block ?_))
        refine r_stN (A := [_, _, _, _]) hO rfl rfl (by first | trivial | exact ⟨rfl, rfl⟩) rfl rfl hidx2 (fun N' hO' => ?_)
        rw [tab2_set hcl] at hO'
        (repeat' (first | refine JC.ops ?_ | refine JO.nil ?_ | refine JX.thenN ?_ | (apply r_move; exact rfl; exact rfl; exact rfl) | (apply r_assign; exact rfl; exact rfl; exact rfl) | (apply r_add1; exact rfl; exact rfl; exact rfl; exact rfl; omega) | refine JX.blockN ?_))
        exact JX.roundH (i + 1, N') ⟨by dsimp only; omega, hO'⟩ (by dsimp only; omega) (by repeat first | exact trivial | refine ⟨rfl, ?_⟩) (by (first | exact HSub.refl _ | (repeat' first | exact HSub.nil _ | exact HSub.refl _ | refine HSub.at 0 rfl ?_ | refine HSub.at 1 rfl ?_ | refine HSub.at 2 rfl ?_ | refine HSub.at 3 rfl ?_ | refine HSub.at 4 rfl ?_ | refine HSub.at 5 rfl ?_ | refine HSub.at 6 rfl ?_ | refine HSub.at 7 rfl ?_)))
      · have : i = l.length := by omega
        subst this
        (repeat' (first | refine JC.seq ?_ | refine JC.ops ?_ | refine JO.nil ?_ | refine JX.thenN ?_ | (apply r_move; exact rfl; exact rfl; exact rfl) | (apply r_assign; exact rfl; exact rfl; exact rfl) | (apply r_lenN; exact rfl; exact rfl; exact rfl; (first | assumption | exact WN.rd (by assumption) rfl [] | exact OwnN.rd (by assumption))) | (apply r_add1; exact rfl; exact rfl; exact rfl; exact rfl; omega) | (apply r_lss; exact rfl; exact rfl; exact rfl; exact rfl; all_goals intro hc; all_goals try (exfalso; omega)) | refine JX.thenE ?_ | refine JC.exit ?_ | refine JC.condF rfl ?_ | refine JX.blockN ?_ | refine JX.blockE ?_))
        exact JX.roundH (j + 1, N5) ⟨by dsimp only; omega, by dsimp only [kerG]; rw [if_neg hjl]; exact hO⟩ (by dsimp only; omega) (by dsimp only [cnt]; rw [if_neg hjl]; exact (by repeat first | exact trivial | refine ⟨rfl, ?_⟩)) (by (first | exact HSub.refl _ | (repeat' first | exact HSub.nil _ | exact HSub.refl _ | refine HSub.at 0 rfl ?_ | refine HSub.at 1 rfl ?_ | refine HSub.at 2 rfl ?_ | refine HSub.at 3 rfl ?_ | refine HSub.at 4 rfl ?_ | refine HSub.at 5 rfl ?_ | refine HSub.at 6 rfl ?_ | refine HSub.at 7 rfl ?_)))
  · have : j = m.c := by omega
    subst this
    (repeat' (first | refine JC.seq ?_ | refine JC.ops ?_ | refine JO.nil ?_ | refine JX.thenN ?_ | (apply r_move; exact rfl; exact rfl; exact rfl) | (apply r_fieldAddr; exact rfl; exact rfl; exact rfl) | (apply r_load; exact rfl; exact rfl; exact rfl; exact rfl; (first | exact at0 | exact at1 | exact at2 | exact at3 | exact at4 | exact at5 | exact at6 | exact at7); exact rfl) | (apply r_loadN; exact rfl; exact rfl; exact rfl; exact rfl; (first | exact at0 | exact at1 | exact at2 | exact at3 | exact at4 | exact at5 | exact at6 | exact at7); exact rfl) | (apply r_lss; exact rfl; exact rfl; exact rfl; exact rfl; all_goals intro hc; all_goals try (exfalso; omega)) | (apply r_storeN; exact rfl; (first | exact trivial | exact ⟨rfl, rfl⟩); exact rfl; exact rfl; (first | exact at0 | exact at1 | exact at2 | exact at3 | exact at4 | exact at5 | exact at6 | exact at7); exact rfl; exact rfl; exact rfl) | refine JX.thenE ?_ | refine JC.exit ?_ | refine JC.ret ?_ | refine JC.condF rfl ?_ | refine JX.blockE ?_))
    refine JX.retC 2 rfl rfl rfl (fun a w' st => ⟨st.kp, N5, st.newOf rfl (by (repeat' first | exact HSub.nil _ | exact HSub.hd | exact HSub.in0 | exact HSub.refl _ | refine HSub.skip ?_ | refine HSub.skipN ?_)), ?_⟩)
    unfold kerM
    rw [hl, he]
    exact OwnM.mk' hO

set_option maxHeartbeats 2000000 in
theorem c_KernelF (w : World) (v : Value) (a : FM) (h : ¬ RF a) (ha : IsF w v a) (hl : a.E.length < 1000000000) :
    Calls Try.prog 27 #[v] w (Ret fun v w' => Kp [] w w' ∧ v = zeroV) := by
  have hvF := ha
  obtain ⟨E, rfl, hE⟩ := ha
  unfold fmV
  refine calls_of_S [⟨14, 2, [], []⟩] [] (by simp) [] Try.func27 rfl mixed (by kernel_rfl) Try.ntmps27 Try.results27 rfl ⟨by simp, by simp⟩ (by simp) ?_
  simp only [toS, textOps, toSOp, kindAt, kindOf, odAt, sopsAt, ordOf, zipF]
  (repeat' (first | refine JC.seq ?_ | refine JC.ops ?_ | refine JO.nil ?_ | refine JX.thenN ?_ | (apply r_loadN; exact rfl; exact rfl; exact rfl; exact rfl; (first | exact at0 | exact at1 | exact at2 | exact at3 | exact at4 | exact at5 | exact at6 | exact at7); exact rfl) | (apply r_allocZ; exact rfl; exact rfl; exact rfl; intro _) | (apply r_boxA; exact rfl; exact rfl; exact rfl; exact rfl; intro _)))
  refine r_call0 trivial rfl rfl rfl (fun w hk _ => c_EchelonF w _ a h (hvF.mono hk) hl) fun w v w' _ _ _ hR => ?_
  subst hR
  unfold zeroV
  (repeat' (first | refine JC.seq ?_ | refine JC.ops ?_ | refine JO.nil ?_ | refine JX.thenN ?_ | (apply r_move; exact rfl; exact rfl; exact rfl) | (apply r_fieldAddr; exact rfl; exact rfl; exact rfl) | (apply r_assign; exact rfl; exact rfl; exact rfl) | (apply r_load; exact rfl; exact rfl; exact rfl; exact rfl; (first | exact at0 | exact at1 | exact at2 | exact at3 | exact at4 | exact at5 | exact at6 | exact at7); exact rfl) | (apply r_extract; exact rfl; exact rfl; exact rfl; exact rfl) | (apply r_eql; exact rfl; exact rfl; exact rfl; exact rfl; all_goals intro hc; all_goals try (exfalso; omega)) | (apply r_allocZ; exact rfl; exact rfl; exact rfl; intro _) | (apply r_buildL; exact rfl; exact rfl; exact rfl; exact rfl; exact rfl) | (apply r_storeN; exact rfl; (first | exact trivial | exact ⟨rfl, rfl⟩); exact rfl; exact rfl; (first | exact at0 | exact at1 | exact at2 | exact at3 | exact at4 | exact at5 | exact at6 | exact at7); exact rfl; exact rfl; exact rfl) | refine JX.thenR ?_ | refine JC.ret ?_ | refine JC.condT rfl ?_))
  exact JX.retC 1 rfl rfl rfl (fun a w' st => ⟨st.kp, rfl⟩)

set_option maxHeartbeats 2000000 in
theorem c_refKernelF (w : World) (v : Value) (a : FM) (h : ¬ RF a) (ha : IsF w v a) (hl : a.E.length < 1000000000) :
    Calls Try.prog 36 #[v] w (Ret fun v w' => Kp [] w w' ∧ v = zeroV) := by
  have hvF := ha
  obtain ⟨E, rfl, hE⟩ := ha
  unfold fmV
  refine calls_of_S [⟨15, 2, [], []⟩] [] (by simp) [] Try.func36 rfl mixed (by kernel_rfl) Try.ntmps36 Try.results36 rfl ⟨by simp, by simp⟩ (by simp) ?_
  simp only [toS, textOps, toSOp, kindAt, kindOf, odAt, sopsAt, ordOf, zipF]
  (repeat' (first | refine JC.seq ?_ | refine JC.ops ?_ | refine JO.nil ?_ | refine JX.thenN ?_ | (apply r_loadN; exact rfl; exact rfl; exact rfl; exact rfl; (first | exact at0 | exact at1 | exact at2 | exact at3 | exact at4 | exact at5 | exact at6 | exact at7); exact rfl) | (apply r_allocZ; exact rfl; exact rfl; exact rfl; intro _) | (apply r_boxA; exact rfl; exact rfl; exact rfl; exact rfl; intro _)))
  refine r_call0 trivial rfl rfl rfl (fun w hk _ => c_refEchelonF w _ a h (hvF.mono hk) hl) fun w v w' _ _ _ hR => ?_
  subst hR
  unfold zeroV
  (repeat' (first | refine JC.seq ?_ | refine JC.ops ?_ | refine JO.nil ?_ | refine JX.thenN ?_ | (apply r_move; exact rfl; exact rfl; exact rfl) | (apply r_fieldAddr; exact rfl; exact rfl; exact rfl) | (apply r_assign; exact rfl; exact rfl; exact rfl) | (apply r_load; exact rfl; exact rfl; exact rfl; exact rfl; (first | exact at0 | exact at1 | exact at2 | exact at3 | exact at4 | exact at5 | exact at6 | exact at7); exact rfl) | (apply r_extract; exact rfl; exact rfl; exact rfl; exact rfl) | (apply r_eql; exact rfl; exact rfl; exact rfl; exact rfl; all_goals intro hc; all_goals try (exfalso; omega)) | (apply r_allocZ; exact rfl; exact rfl; exact rfl; intro _) | (apply r_buildL; exact rfl; exact rfl; exact rfl; exact rfl; exact rfl) | (apply r_storeN; exact rfl; (first | exact trivial | exact ⟨rfl, rfl⟩); exact rfl; exact rfl; (first | exact at0 | exact at1 | exact at2 | exact at3 | exact at4 | exact at5 | exact at6 | exact at7); exact rfl; exact rfl; exact rfl) | refine JX.thenR ?_ | refine JC.ret ?_ | refine JC.condT rfl ?_))
  exact JX.retC 1 rfl rfl rfl (fun a w' st => ⟨st.kp, rfl⟩)

set_option maxHeartbeats 2000000 in
theorem c_ImageF (w : World) (v : Value) (a : FM) (h : ¬ RF a) (ha : IsF w v a) (hl : a.E.length < 1000000000) :
    Calls Try.prog 22 #[v] w (Ret fun v w' => Kp [] w w' ∧ v = zeroV) := by
  have hvF := ha
  obtain ⟨E, rfl, hE⟩ := ha
  unfold fmV
  refine calls_of_S [⟨11, 2, [], []⟩] [] (by simp) [] Try.func22 rfl mixed (by kernel_rfl) Try.ntmps22 Try.results22 rfl ⟨by simp, by simp⟩ (by simp) ?_
  simp only [toS, textOps, toSOp, kindAt, kindOf, odAt, sopsAt, ordOf, zipF]
  (repeat' (first | refine JC.seq ?_ | refine JC.ops ?_ | refine JO.nil ?_ | refine JX.thenN ?_ | (apply r_loadN; exact rfl; exact rfl; exact rfl; exact rfl; (first | exact at0 | exact at1 | exact at2 | exact at3 | exact at4 | exact at5 | exact at6 | exact at7); exact rfl) | (apply r_allocZ; exact rfl; exact rfl; exact rfl; intro _) | (apply r_boxA; exact rfl; exact rfl; exact rfl; exact rfl; intro _)))
  refine r_call0 trivial rfl rfl rfl (fun w hk _ => c_EchelonF w _ a h (hvF.mono hk) hl) fun w v w' _ _ _ hR => ?_
  subst hR
  unfold zeroV
  (repeat' (first | refine JC.seq ?_ | refine JC.ops ?_ | refine JO.nil ?_ | refine JX.thenN ?_ | (apply r_move; exact rfl; exact rfl; exact rfl) | (apply r_fieldAddr; exact rfl; exact rfl; exact rfl) | (apply r_assign; exact rfl; exact rfl; exact rfl) | (apply r_load; exact rfl; exact rfl; exact rfl; exact rfl; (first | exact at0 | exact at1 | exact at2 | exact at3 | exact at4 | exact at5 | exact at6 | exact at7); exact rfl) | (apply r_extract; exact rfl; exact rfl; exact rfl; exact rfl) | (apply r_eql; exact rfl; exact rfl; exact rfl; exact rfl; all_goals intro hc; all_goals try (exfalso; omega)) | (apply r_allocZ; exact rfl; exact rfl; exact rfl; intro _) | (apply r_buildL; exact rfl; exact rfl; exact rfl; exact rfl; exact rfl) | (apply r_storeN; exact rfl; (first | exact trivial | exact ⟨rfl, rfl⟩); exact rfl; exact rfl; (first | exact at0 | exact at1 | exact at2 | exact at3 | exact at4 | exact at5 | exact at6 | exact at7); exact rfl; exact rfl; exact rfl) | refine JX.thenR ?_ | refine JC.ret ?_ | refine JC.condT rfl ?_))
  exact JX.retC 1 rfl rfl rfl (fun a w' st => ⟨st.kp, rfl⟩)

set_option maxHeartbeats 2000000 in
theorem c_refImageF (w : World) (v : Value) (a : FM) (h : ¬ RF a) (ha : IsF w v a) (hl : a.E.length < 1000000000) :
    Calls Try.prog 37 #[v] w (Ret fun v w' => Kp [] w w' ∧ v = zeroV) := by
  have hvF := ha
  obtain ⟨E, rfl, hE⟩ := ha
  unfold fmV
  refine calls_of_S [⟨11, 2, [], []⟩] [] (by simp) [] Try.func37 rfl mixed (by kernel_rfl) Try.ntmps37 Try.results37 rfl ⟨by simp, by simp⟩ (by simp) ?_
  simp only [toS, textOps, toSOp, kindAt, kindOf, odAt, sopsAt, ordOf, zipF]
  (repeat' (first | refine JC.seq ?_ | refine JC.ops ?_ | refine JO.nil ?_ | refine JX.thenN ?_ | (apply r_loadN; exact rfl; exact rfl; exact rfl; exact rfl; (first | exact at0 | exact at1 | exact at2 | exact at3 | exact at4 | exact at5 | exact at6 | exact at7); exact rfl) | (apply r_allocZ; exact rfl; exact rfl; exact rfl; intro _) | (apply r_boxA; exact rfl; exact rfl; exact rfl; exact rfl; intro _)))
  refine r_call0 trivial rfl rfl rfl (fun w hk _ => c_refEchelonF w _ a h (hvF.mono hk) hl) fun w v w' _ _ _ hR => ?_
  subst hR
  unfold zeroV
  (repeat' (first | refine JC.seq ?_ | refine JC.ops ?_ | refine JO.nil ?_ | refine JX.thenN ?_ | (apply r_move; exact rfl; exact rfl; exact rfl) | (apply r_fieldAddr; exact rfl; exact rfl; exact rfl) | (apply r_assign; exact rfl; exact rfl; exact rfl) | (apply r_load; exact rfl; exact rfl; exact rfl; exact rfl; (first | exact at0 | exact at1 | exact at2 | exact at3 | exact at4 | exact at5 | exact at6 | exact at7); exact rfl) | (apply r_extract; exact rfl; exact rfl; exact rfl; exact rfl) | (apply r_eql; exact rfl; exact rfl; exact rfl; exact rfl; all_goals intro hc; all_goals try (exfalso; omega)) | (apply r_allocZ; exact rfl; exact rfl; exact rfl; intro _) | (apply r_buildL; exact rfl; exact rfl; exact rfl; exact rfl; exact rfl) | (apply r_storeN; exact rfl; (first | exact trivial | exact ⟨rfl, rfl⟩); exact rfl; exact rfl; (first | exact at0 | exact at1 | exact at2 | exact at3 | exact at4 | exact at5 | exact at6 | exact at7); exact rfl; exact rfl; exact rfl) | refine JX.thenR ?_ | refine JC.ret ?_ | refine JC.condT rfl ?_))
  exact JX.retC 1 rfl rfl rfl (fun a w' st => ⟨st.kp, rfl⟩)

def imgM (m : NM) : NM := ⟨m.p, m.r, (pivM m).length, tab2 m.r (pivM m).length fun i k => ent m.c m.e i ((pivM m).getD k 0)⟩
/-- The image, while it is made: rows before i are done, and columns before k of row i. -/
def imS (m : NM) (l : List Nat) (i k : Nat) : Nat → Nat → Nat := fun a b => if a < i ∨ (a = i ∧ b < k) then ent m.c m.e a (l.getD b 0) else 0
theorem imS_zero (m : NM) (l : List Nat) : tab2 m.r l.length (imS m l 0 0) = tab (m.r * l.length) fun _ => 0 := by
  unfold tab2 imS
  exact tab_congr fun t _ => by simp
theorem imS_set {m : NM} {l : List Nat} {i k : Nat} (hk : k < l.length) : (tab2 m.r l.length (imS m l i k)).set (i * l.length + k) (ent m.c m.e i (l.getD k 0)) = tab2 m.r l.length (imS m l i (k + 1)) := by
  rw [tab2_set hk]
  refine tab2_congr fun a b _ _ => ?_
  unfold imS
  by_cases h : a = i ∧ b = k
  · obtain ⟨rfl, rfl⟩ := h; simp
  · rw [if_neg h]
    have e : (a < i ∨ a = i ∧ b < k + 1) = (a < i ∨ a = i ∧ b < k) := by simp; omega
    simp only [e]
theorem imS_row {m : NM} {l : List Nat} {i k : Nat} (hk : l.length ≤ k) : tab2 m.r l.length (imS m l i k) = tab2 m.r l.length (imS m l (i + 1) 0) := by
  refine tab2_congr fun a b _ hb => ?_
  unfold imS
  have e : (a < i ∨ a = i ∧ b < k) = (a < i + 1 ∨ a = i + 1 ∧ b < 0) := by simp; omega
  simp only [e]
theorem imS_end {m : NM} {l : List Nat} {i : Nat} (hi : m.r ≤ i) : tab2 m.r l.length (imS m l i 0) = tab2 m.r l.length fun i k => ent m.c m.e i (l.getD k 0) := by
  refine tab2_congr fun a b ha _ => ?_
  unfold imS
  rw [if_pos (.inl (by omega))]

set_option maxHeartbeats 4000000 in
theorem c_Image (w : World) (v : Value) (m : NM) (hm : Rt m) (hv : IsM w v m) :
    Calls Try.prog 22 #[v] w (Ret fun v w' => Kp [] w w' ∧ GivesM (imgM m) w v w') := by
  have hv0 := hv
  obtain ⟨E, rfl, hE⟩ := hv
  obtain ⟨hPr, hPc, hPlt, hPnd, hPmem, hPels, hPent⟩ := Pvs.of hm.big
  have hbr := hm.r
  have hbc := hm.c
  have hp := hm.pr
  have hp2 := hp.1
  have hml := hm.len
  rw [hml] at hE
  generalize hl : pivM m = l at *
  refine calls_of_S [⟨11, 2, [], []⟩] [] (by simp) [] Try.func22 rfl mixed (by kernel_rfl) Try.ntmps22 Try.results22 rfl ⟨by simp, by simp⟩ (by simp) ?_
  simp only [toS, textOps, toSOp, kindAt, kindOf, odAt, sopsAt, ordOf, zipF]
  (repeat' (first | refine JC.seq ?_ | refine JC.ops ?_ | refine JO.nil ?_ | refine JX.thenN ?_ | (apply r_loadN; exact rfl; exact rfl; exact rfl; exact rfl; (first | exact at0 | exact at1 | exact at2 | exact at3 | exact at4 | exact at5 | exact at6 | exact at7); exact rfl) | (apply r_allocZ; exact rfl; exact rfl; exact rfl; intro _) | (apply r_boxA; exact rfl; exact rfl; exact rfl; exact rfl; intro _)))
  rename_i b1 b2
  refine r_callA (A := [_, _]) (B := []) rfl trivial rfl rfl rfl (fun w hk _ => c_Echelon w _ m hm (hv0.mono hk)) fun w v w' _ _ _ hR => ?_
  obtain ⟨N, N2, u, x, rfl, hN, ⟨Eo, rfl, hOe⟩, hO2⟩ := hR
  rw [hl] at hO2
  rw [hPels] at hOe
  obtain ⟨Ae, ce, rfl⟩ := hOe.form
  refine ⟨_, hN, ?_⟩
  rw [List.append_assoc]
  (repeat' (first | refine JC.seq ?_ | refine JC.ops ?_ | refine JO.nil ?_ | refine JX.thenN ?_ | (apply r_move; exact rfl; exact rfl; exact rfl) | (apply r_fieldAddr; exact rfl; exact rfl; exact rfl) | (apply r_assign; exact rfl; exact rfl; exact rfl) | (apply r_load; exact rfl; exact rfl; exact rfl; exact rfl; (first | exact at0 | exact at1 | exact at2 | exact at3 | exact at4 | exact at5 | exact at6 | exact at7); exact rfl) | (apply r_lenN; exact rfl; exact rfl; exact rfl; (first | assumption | exact WN.rd (by assumption) rfl [] | exact OwnN.rd (by assumption))) | (apply r_extract; exact rfl; exact rfl; exact rfl; exact rfl) | (apply r_eql; exact rfl; exact rfl; exact rfl; exact rfl; all_goals intro hc; all_goals try (exfalso; omega)) | (apply r_allocZ; exact rfl; exact rfl; exact rfl; intro _) | (apply r_buildL; exact rfl; exact rfl; exact rfl; exact rfl; exact rfl) | (apply r_storeN; exact rfl; (first | exact trivial | exact ⟨rfl, rfl⟩); exact rfl; exact rfl; (first | exact at0 | exact at1 | exact at2 | exact at3 | exact at4 | exact at5 | exact at6 | exact at7); exact rfl; exact rfl; exact rfl) | refine JX.thenR ?_ | refine JC.skip ?_ | refine JC.ret ?_ | refine JC.condT rfl ?_ | refine JC.condF rfl ?_))
  · exfalso
    have : (m.p : Int) = 0 := hc
    omega
  rename_i b3
  refine r_callA (A := [_, _, _]) rfl trivial rfl rfl rfl (fun w hk _ => c_zero m.p m.r l.length hm.pr hm.r (by omega) w) fun w v w' _ _ _ hR => ?_
  obtain ⟨N5, E5, hN5, rfl, hO5⟩ := hR
  obtain ⟨A5, c5, rfl⟩ := hO5.form
  refine ⟨N5, hN5, ?_⟩
  (repeat' (first | refine JC.seq ?_ | refine JC.ops ?_ | refine JO.nil ?_ | refine JX.thenN ?_ | (apply r_move; exact rfl; exact rfl; exact rfl) | (apply r_fieldAddr; exact rfl; exact rfl; exact rfl) | (apply r_load; exact rfl; exact rfl; exact rfl; exact rfl; (first | exact at0 | exact at1 | exact at2 | exact at3 | exact at4 | exact at5 | exact at6 | exact at7); exact rfl) | (apply r_allocZ; exact rfl; exact rfl; exact rfl; intro _) | (apply r_storeN; exact rfl; (first | exact trivial | exact ⟨rfl, rfl⟩); exact rfl; exact rfl; (first | exact at0 | exact at1 | exact at2 | exact at3 | exact at4 | exact at5 | exact at6 | exact at7); exact rfl; exact rfl; exact rfl) | refine JC.block ?_))
  rename_i b5
  refine JC.loopH (ι := Nat × SHeap) ⟨fun z => [(27, nv z.1), (26, nv m.r), (4, x), (5, .pointer (some ⟨b5, 0, none⟩)), (3, .pointer (some ⟨b3, 0, none⟩)), (2, .pointer (some ⟨b2, 0, none⟩)), (1, .pointer (some ⟨b1, 0, none⟩))],
    fun z => [(b5, .cells #[nv m.p, nv m.r, nv l.length, .slice A5 (m.r * l.length) c5] 27), (b3, .cells #[nv m.p, nv m.r, nv m.c, .slice Ae (m.r * m.c) ce] 27), (b2, .cells #[iv 0, iv 0, iv 0, .slice none 0 0] 27), (b1, .cells #[nv m.p, nv m.r, nv m.c, E] 27)] ++ (z.2 ++ (N ++ (N2 ++ []))),
    fun z => z.1 ≤ m.r ∧ OwnN z.2 (.slice A5 (m.r * l.length) c5) (m.r * l.length) (tab2 m.r l.length (imS m l z.1 0)), fun z => m.r - z.1⟩ (0, N5) ⟨by dsimp only; omega, by rw [imS_zero]; exact hO5⟩ (by repeat first | exact trivial | refine ⟨rfl, ?_⟩) (by (first | exact HSub.refl _ | (repeat' first | exact HSub.nil _ | exact HSub.refl _ | refine HSub.at 0 rfl ?_ | refine HSub.at 1 rfl ?_ | refine HSub.at 2 rfl ?_ | refine HSub.at 3 rfl ?_ | refine HSub.at 4 rfl ?_ | refine HSub.at 5 rfl ?_ | refine HSub.at 6 rfl ?_ | refine HSub.at 7 rfl ?_))) (fun z hz => ?_)
  clear hO5
  obtain ⟨i, N5⟩ := z
  obtain ⟨hi, hO⟩ := hz
  dsimp only at hi hO ⊢
  have hb1 : i * l.length ≤ 160000 := Nat.mul_le_mul (show i ≤ 400 by omega) (show l.length ≤ 400 by omega)
  have hb3 : i * m.c ≤ 160000 := Nat.mul_le_mul (show i ≤ 400 by omega) hbc
  by_cases hir : i < m.r
  · (repeat' (first | refine JC.seq ?_ | refine JC.ops ?_ | refine JO.nil ?_ | refine JX.thenN ?_ | (apply r_move; exact rfl; exact rfl; exact rfl) | (apply r_assign; exact rfl; exact rfl; exact rfl) | (apply r_lenN; exact rfl; exact rfl; exact rfl; (first | assumption | exact WN.rd (by assumption) rfl [] | exact OwnN.rd (by assumption))) | (apply r_lss; exact rfl; exact rfl; exact rfl; exact rfl; all_goals intro hc; all_goals try (exfalso; omega)) | refine JC.skip ?_ | refine JC.condT rfl ?_ | refine JC.block ?_))
    refine JC.loopH (ι := Nat × SHeap) ⟨fun z => [(32, nv z.1), (31, nv l.length), (30, x), (27, nv i), (6, nv i), (26, nv m.r), (4, x), (5, .pointer (some ⟨b5, 0, none⟩)), (3, .pointer (some ⟨b3, 0, none⟩)), (2, .pointer (some ⟨b2, 0, none⟩)), (1, .pointer (some ⟨b1, 0, none⟩))],
      fun z => [(b5, .cells #[nv m.p, nv m.r, nv l.length, .slice A5 (m.r * l.length) c5] 27), (b3, .cells #[nv m.p, nv m.r, nv m.c, .slice Ae (m.r * m.c) ce] 27), (b2, .cells #[iv 0, iv 0, iv 0, .slice none 0 0] 27), (b1, .cells #[nv m.p, nv m.r, nv m.c, E] 27)] ++ (z.2 ++ (N ++ (N2 ++ []))),
      fun z => z.1 ≤ l.length ∧ OwnN z.2 (.slice A5 (m.r * l.length) c5) (m.r * l.length) (tab2 m.r l.length (imS m l i z.1)), fun z => l.length - z.1⟩ (0, N5) ⟨by dsimp only; omega, hO⟩ (by repeat first | exact trivial | refine ⟨rfl, ?_⟩) (by (first | exact HSub.refl _ | (repeat' first | exact HSub.nil _ | exact HSub.refl _ | refine HSub.at 0 rfl ?_ | refine HSub.at 1 rfl ?_ | refine HSub.at 2 rfl ?_ | refine HSub.at 3 rfl ?_ | refine HSub.at 4 rfl ?_ | refine HSub.at 5 rfl ?_ | refine HSub.at 6 rfl ?_ | refine HSub.at 7 rfl ?_))) (fun z hz => ?_)
    clear hO
    obtain ⟨k, N5⟩ := z
    obtain ⟨hk, hO⟩ := hz
    dsimp only at hk hO ⊢
    by_cases hkl : k < l.length
    · have hlt := hPlt k hkl
      have hidx := idx_lt hir hkl
      have hidx2 := idx_lt hir hlt
      (repeat' (first | refine JC.seq ?_ | refine JC.ops ?_ | refine JC.opsD ?_ | refine JO.nil ?_ | refine JX.thenN ?_ | (apply r_move; exact rfl; exact rfl; exact rfl) | (apply r_fieldAddr; exact rfl; exact rfl; exact rfl) | (apply r_assign; exact rfl; exact rfl; exact rfl) | (apply r_load; exact rfl; exact rfl; exact rfl; exact rfl; (first | exact at0 | exact at1 | exact at2 | exact at3 | exact at4 | exact at5 | exact at6 | exact at7); exact rfl) | (apply r_idxN; exact rfl; exact rfl; exact rfl; exact rfl; (first | assumption | exact WN.rd (by assumption) rfl [] | exact OwnN.rd (by assumption)); (first | assumption | omega)) | (apply r_ldN; exact rfl; exact rfl; exact rfl; exact rfl; (first | assumption | exact WN.rd (by assumption) rfl [] | exact OwnN.rd (by assumption)); (repeat' first | exact HSub.nil _ | exact HSub.hd | exact HSub.in0 | exact HSub.refl _ | refine HSub.skip ?_ | refine HSub.skipN ?_); (first | assumption | omega)) | (apply r_lenN; exact rfl; exact rfl; exact rfl; (first | assumption | exact WN.rd (by assumption) rfl [] | exact OwnN.rd (by assumption))) | (apply r_addN; exact rfl; exact rfl; exact rfl; exact rfl; omega) | (apply r_mulN; exact rfl; exact rfl; exact rfl; exact rfl; (first | assumption | omega)) | (apply r_lss; exact rfl; exact rfl; exact rfl; exact rfl; all_goals intro hc; all_goals try (exfalso; omega)) | refine JC.skip ?_ | refine JC.condT rfl ?_ | refine JC.block ?_))
      refine r_stN (A := [_, _, _, _]) (u := ent m.c m.e i (l.getD k 0)) hO rfl rfl (by first | trivial | exact ⟨rfl, rfl⟩) rfl rfl hidx (fun N' hO' => ?_)
      rw [imS_set hkl] at hO'
      (repeat' (first | refine JC.ops ?_ | refine JO.nil ?_ | refine JX.thenN ?_ | (apply r_move; exact rfl; exact rfl; exact rfl) | (apply r_add1; exact rfl; exact rfl; exact rfl; exact rfl; omega) | refine JX.blockN ?_))
      exact JX.roundH (k + 1, N') ⟨by dsimp only; omega, hO'⟩ (by dsimp only; omega) (by repeat first | exact trivial | refine ⟨rfl, ?_⟩) (by (first | exact HSub.refl _ | (repeat' first | exact HSub.nil _ | exact HSub.refl _ | refine HSub.at 0 rfl ?_ | refine HSub.at 1 rfl ?_ | refine HSub.at 2 rfl ?_ | refine HSub.at 3 rfl ?_ | refine HSub.at 4 rfl ?_ | refine HSub.at 5 rfl ?_ | refine HSub.at 6 rfl ?_ | refine HSub.at 7 rfl ?_)))
    · rw [imS_row (show l.length ≤ k by omega)] at hO
      (repeat' (first | refine JC.seq ?_ | refine JC.ops ?_ | refine JO.nil ?_ | refine JX.thenN ?_ | (apply r_move; exact rfl; exact rfl; exact rfl) | (apply r_add1; exact rfl; exact rfl; exact rfl; exact rfl; omega) | (apply r_lss; exact rfl; exact rfl; exact rfl; exact rfl; all_goals intro hc; all_goals try (exfalso; omega)) | refine JX.thenE ?_ | refine JC.exit ?_ | refine JC.condF rfl ?_ | refine JX.blockN ?_ | refine JX.blockE ?_))
      exact JX.roundH (i + 1, N5) ⟨by dsimp only; omega, hO⟩ (by dsimp only; omega) (by repeat first | exact trivial | refine ⟨rfl, ?_⟩) (by (first | exact HSub.refl _ | (repeat' first | exact HSub.nil _ | exact HSub.refl _ | refine HSub.at 0 rfl ?_ | refine HSub.at 1 rfl ?_ | refine HSub.at 2 rfl ?_ | refine HSub.at 3 rfl ?_ | refine HSub.at 4 rfl ?_ | refine HSub.at 5 rfl ?_ | refine HSub.at 6 rfl ?_ | refine HSub.at 7 rfl ?_)))
  · (repeat' (first | refine JC.seq ?_ | refine JC.ops ?_ | refine JO.nil ?_ | refine JX.thenN ?_ | (apply r_loadN; exact rfl; exact rfl; exact rfl; exact rfl; (first | exact at0 | exact at1 | exact at2 | exact at3 | exact at4 | exact at5 | exact at6 | exact at7); exact rfl) | (apply r_lss; exact rfl; exact rfl; exact rfl; exact rfl; all_goals intro hc; all_goals try (exfalso; omega)) | (apply r_storeN; exact rfl; (first | exact trivial | exact ⟨rfl, rfl⟩); exact rfl; exact rfl; (first | exact at0 | exact at1 | exact at2 | exact at3 | exact at4 | exact at5 | exact at6 | exact at7); exact rfl; exact rfl; exact rfl) | refine JX.thenE ?_ | refine JC.exit ?_ | refine JC.ret ?_ | refine JC.condF rfl ?_ | refine JX.blockE ?_))
    refine JX.retC 2 rfl rfl rfl (fun a w' st => ⟨st.kp, N5, st.newOf rfl (by (repeat' first | exact HSub.nil _ | exact HSub.hd | exact HSub.in0 | exact HSub.refl _ | refine HSub.skip ?_ | refine HSub.skipN ?_)), ?_⟩)
    rw [imS_end (show m.r ≤ i by omega)] at hO
    unfold imgM
    rw [hl]
    exact OwnM.mk' hO

set_option maxHeartbeats 4000000 in
theorem c_refImage (w : World) (v : Value) (m : NM) (hm : Rt m) (hv : IsM w v m) :
    Calls Try.prog 37 #[v] w (Ret fun v w' => Kp [] w w' ∧ GivesM (imgM m) w v w') := by
  have hv0 := hv
  obtain ⟨E, rfl, hE⟩ := hv
  obtain ⟨hPr, hPc, hPlt, hPnd, hPmem, hPels, hPent⟩ := Pvs.of hm.big
  have hbr := hm.r
  have hbc := hm.c
  have hp := hm.pr
  have hp2 := hp.1
  have hml := hm.len
  rw [hml] at hE
  generalize hl : pivM m = l at *
  refine calls_of_S [⟨11, 2, [], []⟩] [] (by simp) [] Try.func37 rfl mixed (by kernel_rfl) Try.ntmps37 Try.results37 rfl ⟨by simp, by simp⟩ (by simp) ?_
  simp only [toS, textOps, toSOp, kindAt, kindOf, odAt, sopsAt, ordOf, zipF]
  (repeat' (first | refine JC.seq ?_ | refine JC.ops ?_ | refine JO.nil ?_ | refine JX.thenN ?_ | (apply r_loadN; exact rfl; exact rfl; exact rfl; exact rfl; (first | exact at0 | exact at1 | exact at2 | exact at3 | exact at4 | exact at5 | exact at6 | exact at7); exact rfl) | (apply r_allocZ; exact rfl; exact rfl; exact rfl; intro _) | (apply r_boxA; exact rfl; exact rfl; exact rfl; exact rfl; intro _)))
  rename_i b1 b2
  refine r_callA (A := [_, _]) (B := []) rfl trivial rfl rfl rfl (fun w hk _ => c_refEchelon w _ m hm (hv0.mono hk)) fun w v w' _ _ _ hR => ?_
  obtain ⟨N, N2, u, x, rfl, hN, ⟨Eo, rfl, hOe⟩, hO2⟩ := hR
  rw [hl] at hO2
  rw [hPels] at hOe
  obtain ⟨Ae, ce, rfl⟩ := hOe.form
  refine ⟨_, hN, ?_⟩
  rw [List.append_assoc]
  (repeat' (first | refine JC.seq ?_ | refine JC.ops ?_ | refine JO.nil ?_ | refine JX.thenN ?_ | (apply r_move; exact rfl; exact rfl; exact rfl) | (apply r_fieldAddr; exact rfl; exact rfl; exact rfl) | (apply r_assign; exact rfl; exact rfl; exact rfl) | (apply r_load; exact rfl; exact rfl; exact rfl; exact rfl; (first | exact at0 | exact at1 | exact at2 | exact at3 | exact at4 | exact at5 | exact at6 | exact at7); exact rfl) | (apply r_lenN; exact rfl; exact rfl; exact rfl; (first | assumption | exact WN.rd (by assumption) rfl [] | exact OwnN.rd (by assumption))) | (apply r_extract; exact rfl; exact rfl; exact rfl; exact rfl) | (apply r_eql; exact rfl; exact rfl; exact rfl; exact rfl; all_goals intro hc; all_goals try (exfalso; omega)) | (apply r_allocZ; exact rfl; exact rfl; exact rfl; intro _) | (apply r_buildL; exact rfl; exact rfl; exact rfl; exact rfl; exact rfl) | (apply r_storeN; exact rfl; (first | exact trivial | exact ⟨rfl, rfl⟩); exact rfl; exact rfl; (first | exact at0 | exact at1 | exact at2 | exact at3 | exact at4 | exact at5 | exact at6 | exact at7); exact rfl; exact rfl; exact rfl) | refine JX.thenR ?_ | refine JC.skip ?_ | refine JC.ret ?_ | refine JC.condT rfl ?_ | refine JC.condF rfl ?_))
  · exfalso
    have : (m.p : Int) = 0 := hc
    omega
  rename_i b3
  refine r_callA (A := [_, _, _]) rfl trivial rfl rfl rfl (fun w hk _ => c_refZero m.p m.r l.length hm.pr hm.r (by omega) w) fun w v w' _ _ _ hR => ?_
  obtain ⟨N5, E5, hN5, rfl, hO5⟩ := hR
  obtain ⟨A5, c5, rfl⟩ := hO5.form
  refine ⟨N5, hN5, ?_⟩
  (repeat' (first | refine JC.seq ?_ | refine JC.ops ?_ | refine JO.nil ?_ | refine JX.thenN ?_ | (apply r_assign; exact rfl; exact rfl; exact rfl) | (apply r_allocZ; exact rfl; exact rfl; exact rfl; intro _) | (apply r_storeN; exact rfl; (first | exact trivial | exact ⟨rfl, rfl⟩); exact rfl; exact rfl; (first | exact at0 | exact at1 | exact at2 | exact at3 | exact at4 | exact at5 | exact at6 | exact at7); exact rfl; exact rfl; exact rfl) | refine JC.block ?_))
  rename_i b5
  refine JC.loopH (ι := Nat × SHeap) ⟨fun z => [(6, nv z.1), (4, x), (5, .pointer (some ⟨b5, 0, none⟩)), (3, .pointer (some ⟨b3, 0, none⟩)), (2, .pointer (some ⟨b2, 0, none⟩)), (1, .pointer (some ⟨b1, 0, none⟩))],
    fun z => [(b5, .cells #[nv m.p, nv m.r, nv l.length, .slice A5 (m.r * l.length) c5] 27), (b3, .cells #[nv m.p, nv m.r, nv m.c, .slice Ae (m.r * m.c) ce] 27), (b2, .cells #[iv 0, iv 0, iv 0, .slice none 0 0] 27), (b1, .cells #[nv m.p, nv m.r, nv m.c, E] 27)] ++ (z.2 ++ (N ++ (N2 ++ []))),
    fun z => z.1 ≤ m.r ∧ OwnN z.2 (.slice A5 (m.r * l.length) c5) (m.r * l.length) (tab2 m.r l.length (imS m l z.1 0)), fun z => m.r - z.1⟩ (0, N5) ⟨by dsimp only; omega, by rw [imS_zero]; exact hO5⟩ (by repeat first | exact trivial | refine ⟨rfl, ?_⟩) (by (first | exact HSub.refl _ | (repeat' first | exact HSub.nil _ | exact HSub.refl _ | refine HSub.at 0 rfl ?_ | refine HSub.at 1 rfl ?_ | refine HSub.at 2 rfl ?_ | refine HSub.at 3 rfl ?_ | refine HSub.at 4 rfl ?_ | refine HSub.at 5 rfl ?_ | refine HSub.at 6 rfl ?_ | refine HSub.at 7 rfl ?_))) (fun z hz => ?_)
  clear hO5
  obtain ⟨i, N5⟩ := z
  obtain ⟨hi, hO⟩ := hz
  dsimp only at hi hO ⊢
  have hb1 : i * l.length ≤ 160000 := Nat.mul_le_mul (show i ≤ 400 by omega) (show l.length ≤ 400 by omega)
  have hb3 : i * m.c ≤ 160000 := Nat.mul_le_mul (show i ≤ 400 by omega) hbc
  by_cases hir : i < m.r
  · (repeat' (first | refine JC.seq ?_ | refine JC.ops ?_ | refine JO.nil ?_ | refine JX.thenN ?_ | (apply r_move; exact rfl; exact rfl; exact rfl) | (apply r_fieldAddr; exact rfl; exact rfl; exact rfl) | (apply r_assign; exact rfl; exact rfl; exact rfl) | (apply r_load; exact rfl; exact rfl; exact rfl; exact rfl; (first | exact at0 | exact at1 | exact at2 | exact at3 | exact at4 | exact at5 | exact at6 | exact at7); exact rfl) | (apply r_lss; exact rfl; exact rfl; exact rfl; exact rfl; all_goals intro hc; all_goals try (exfalso; omega)) | refine JC.skip ?_ | refine JC.condT rfl ?_ | refine JC.block ?_))
    refine JC.loopH (ι := Nat × SHeap) ⟨fun z => [(7, nv z.1), (6, nv i), (4, x), (5, .pointer (some ⟨b5, 0, none⟩)), (3, .pointer (some ⟨b3, 0, none⟩)), (2, .pointer (some ⟨b2, 0, none⟩)), (1, .pointer (some ⟨b1, 0, none⟩))],
      fun z => [(b5, .cells #[nv m.p, nv m.r, nv l.length, .slice A5 (m.r * l.length) c5] 27), (b3, .cells #[nv m.p, nv m.r, nv m.c, .slice Ae (m.r * m.c) ce] 27), (b2, .cells #[iv 0, iv 0, iv 0, .slice none 0 0] 27), (b1, .cells #[nv m.p, nv m.r, nv m.c, E] 27)] ++ (z.2 ++ (N ++ (N2 ++ []))),
      fun z => z.1 ≤ l.length ∧ OwnN z.2 (.slice A5 (m.r * l.length) c5) (m.r * l.length) (tab2 m.r l.length (imS m l i z.1)), fun z => l.length - z.1⟩ (0, N5) ⟨by dsimp only; omega, hO⟩ (by repeat first | exact trivial | refine ⟨rfl, ?_⟩) (by (first | exact HSub.refl _ | (repeat' first | exact HSub.nil _ | exact HSub.refl _ | refine HSub.at 0 rfl ?_ | refine HSub.at 1 rfl ?_ | refine HSub.at 2 rfl ?_ | refine HSub.at 3 rfl ?_ | refine HSub.at 4 rfl ?_ | refine HSub.at 5 rfl ?_ | refine HSub.at 6 rfl ?_ | refine HSub.at 7 rfl ?_))) (fun z hz => ?_)
    clear hO
    obtain ⟨k, N5⟩ := z
    obtain ⟨hk, hO⟩ := hz
    dsimp only at hk hO ⊢
    by_cases hkl : k < l.length
    · have hlt := hPlt k hkl
      have hidx := idx_lt hir hkl
      have hidx2 := idx_lt hir hlt
      (repeat' (first | refine JC.seq ?_ | refine JC.ops ?_ | refine JC.opsD ?_ | refine JO.nil ?_ | refine JX.thenN ?_ | (apply r_move; exact rfl; exact rfl; exact rfl) | (apply r_fieldAddr; exact rfl; exact rfl; exact rfl) | (apply r_load; exact rfl; exact rfl; exact rfl; exact rfl; (first | exact at0 | exact at1 | exact at2 | exact at3 | exact at4 | exact at5 | exact at6 | exact at7); exact rfl) | (apply r_idxN; exact rfl; exact rfl; exact rfl; exact rfl; (first | assumption | exact WN.rd (by assumption) rfl [] | exact OwnN.rd (by assumption)); (first | assumption | omega)) | (apply r_ldN; exact rfl; exact rfl; exact rfl; exact rfl; (first | assumption | exact WN.rd (by assumption) rfl [] | exact OwnN.rd (by assumption)); (repeat' first | exact HSub.nil _ | exact HSub.hd | exact HSub.in0 | exact HSub.refl _ | refine HSub.skip ?_ | refine HSub.skipN ?_); (first | assumption | omega)) | (apply r_lenN; exact rfl; exact rfl; exact rfl; (first | assumption | exact WN.rd (by assumption) rfl [] | exact OwnN.rd (by assumption))) | (apply r_addN; exact rfl; exact rfl; exact rfl; exact rfl; omega) | (apply r_mulN; exact rfl; exact rfl; exact rfl; exact rfl; (first | assumption | omega)) | (apply r_lss; exact rfl; exact rfl; exact rfl; exact rfl; all_goals intro hc; all_goals try (exfalso; omega)) | refine JC.skip ?_ | refine JC.condT rfl ?_ | refine JC.block ?_))
      refine r_stN (A := [_, _, _, _]) (u := ent m.c m.e i (l.getD k 0)) hO rfl rfl (by first | trivial | exact ⟨rfl, rfl⟩) rfl rfl hidx (fun N' hO' => ?_)
      rw [imS_set hkl] at hO'
      (repeat' (first | refine JC.ops ?_ | refine JO.nil ?_ | refine JX.thenN ?_ | (apply r_move; exact rfl; exact rfl; exact rfl) | (apply r_assign; exact rfl; exact rfl; exact rfl) | (apply r_add1; exact rfl; exact rfl; exact rfl; exact rfl; omega) | refine JX.blockN ?_))
      exact JX.roundH (k + 1, N') ⟨by dsimp only; omega, hO'⟩ (by dsimp only; omega) (by repeat first | exact trivial | refine ⟨rfl, ?_⟩) (by (first | exact HSub.refl _ | (repeat' first | exact HSub.nil _ | exact HSub.refl _ | refine HSub.at 0 rfl ?_ | refine HSub.at 1 rfl ?_ | refine HSub.at 2 rfl ?_ | refine HSub.at 3 rfl ?_ | refine HSub.at 4 rfl ?_ | refine HSub.at 5 rfl ?_ | refine HSub.at 6 rfl ?_ | refine HSub.at 7 rfl ?_)))
    · rw [imS_row (show l.length ≤ k by omega)] at hO
      (repeat' (first | refine JC.seq ?_ | refine JC.ops ?_ | refine JO.nil ?_ | refine JX.thenN ?_ | (apply r_move; exact rfl; exact rfl; exact rfl) | (apply r_assign; exact rfl; exact rfl; exact rfl) | (apply r_lenN; exact rfl; exact rfl; exact rfl; (first | assumption | exact WN.rd (by assumption) rfl [] | exact OwnN.rd (by assumption))) | (apply r_add1; exact rfl; exact rfl; exact rfl; exact rfl; omega) | (apply r_lss; exact rfl; exact rfl; exact rfl; exact rfl; all_goals intro hc; all_goals try (exfalso; omega)) | refine JX.thenE ?_ | refine JC.exit ?_ | refine JC.condF rfl ?_ | refine JX.blockN ?_ | refine JX.blockE ?_))
      exact JX.roundH (i + 1, N5) ⟨by dsimp only; omega, hO⟩ (by dsimp only; omega) (by repeat first | exact trivial | refine ⟨rfl, ?_⟩) (by (first | exact HSub.refl _ | (repeat' first | exact HSub.nil _ | exact HSub.refl _ | refine HSub.at 0 rfl ?_ | refine HSub.at 1 rfl ?_ | refine HSub.at 2 rfl ?_ | refine HSub.at 3 rfl ?_ | refine HSub.at 4 rfl ?_ | refine HSub.at 5 rfl ?_ | refine HSub.at 6 rfl ?_ | refine HSub.at 7 rfl ?_)))
  · (repeat' (first | refine JC.seq ?_ | refine JC.ops ?_ | refine JO.nil ?_ | refine JX.thenN ?_ | (apply r_move; exact rfl; exact rfl; exact rfl) | (apply r_fieldAddr; exact rfl; exact rfl; exact rfl) | (apply r_load; exact rfl; exact rfl; exact rfl; exact rfl; (first | exact at0 | exact at1 | exact at2 | exact at3 | exact at4 | exact at5 | exact at6 | exact at7); exact rfl) | (apply r_loadN; exact rfl; exact rfl; exact rfl; exact rfl; (first | exact at0 | exact at1 | exact at2 | exact at3 | exact at4 | exact at5 | exact at6 | exact at7); exact rfl) | (apply r_lss; exact rfl; exact rfl; exact rfl; exact rfl; all_goals intro hc; all_goals try (exfalso; omega)) | (apply r_storeN; exact rfl; (first | exact trivial | exact ⟨rfl, rfl⟩); exact rfl; exact rfl; (first | exact at0 | exact at1 | exact at2 | exact at3 | exact at4 | exact at5 | exact at6 | exact at7); exact rfl; exact rfl; exact rfl) | refine JX.thenE ?_ | refine JC.exit ?_ | refine JC.ret ?_ | refine JC.condF rfl ?_ | refine JX.blockE ?_))
    refine JX.retC 2 rfl rfl rfl (fun a w' st => ⟨st.kp, N5, st.newOf rfl (by (repeat' first | exact HSub.nil _ | exact HSub.hd | exact HSub.in0 | exact HSub.refl _ | refine HSub.skip ?_ | refine HSub.skipN ?_)), ?_⟩)
    rw [imS_end (show m.r ≤ i by omega)] at hO
    unfold imgM
    rw [hl]
    exact OwnM.mk' hO

end Go.Proofs.Ytdoogoglfbohaaa
