import Derived.Test.YtdlmnloikakjpaaDoorMh
import Derived.Test.YtdlmnloikakjpaaDoorMi
import Derived.Test.YtdlmnloikakjpaaDoorMj
import Derived.Test.YtdlmnloikakjpaaDoorTie
import Derived.Test.YtdlmnloikakjpaaDoorCards
import Derived.Shelf.Lay
import Derived.Lay
import Derived.LaidOnce
import Derived.SevenTiedAt
/- The law MatrixDets. ROWZ -/
namespace Go.Proofs.YtdlmnloikakjpaaDoor
open Go Go.RowKit
set_option linter.unusedSimpArgs false
set_option linter.unusedVariables false
set_option linter.unusedSectionVars false

theorem shc (C : Nat) : C % 7 ≤ 6 := by have := Nat.mod_lt C (show 0 < 7 by omega); omega
theorem det_mulZ {a b : ZM} (h1 : a.c = a.r) (h2 : b.r = a.r) (h3 : b.c = a.r) : det a.r (mulZ a b).at = det a.r a.at * det a.r b.at := by
  rw [← det_mm]
  refine det_congr fun i hi j hj => ?_
  have e : (mulZ a b).at i j = mmI a.c a.at b.at i j := zof_at hi (by omega)
  rw [e, h1]
theorem det_trZ {a : ZM} (h1 : a.c = a.r) : det a.r (trZ a).at = det a.r a.at := by
  rw [← det_tr (A := a.at)]
  refine det_congr fun i hi j hj => ?_
  exact zof_at (r := a.c) (c := a.r) (g := tr a.at) (by omega) hj
theorem det_bd2 {a : ZM} {K : Nat} (hr : a.r ≤ 6) (h : BdZ K a) : (det a.r a.at).natAbs < 256 ^ (7 * (K + 1)) := by
  have h1 := det_bd (n := a.r) (A := a.at) (K := K) (by omega) (fun i j => h.at i j)
  refine Nat.lt_of_le_of_lt h1 (Nat.pow_lt_pow_right (by decide) ?_)
  have := Nat.mul_le_mul_right (K + 1) hr
  omega

set_option maxHeartbeats 16000000 in
theorem c_MatrixDets (w : World) (v0 v1 : Value) (R0 C0 : Nat) (L0 : List Int) (R1 C1 : Nat) (L1 : List Int) (hv0 : IsS w v0 R0 C0 L0) (hv1 : IsS w v1 R1 C1 L1) :
    Calls Tryd.prog 8 #[v0, v1] w (Ret fun v w' => Kp [] w w' ∧ v = .bool true) := by
  have hs0 := hv0
  have hc0 := shc C0
  have hr0 := shc R0
  have hL0 := hv0.2.2.1
  obtain ⟨_, _, _, E0, rfl, _⟩ := hv0
  have hs1 := hv1
  have hc1 := shc C1
  have hr1 := shc R1
  have hL1 := hv1.2.2.1
  obtain ⟨_, _, _, E1, rfl, _⟩ := hv1
  refine calls_of_S [⟨11, 1, [], []⟩] [] (by simp) [] Tryd.func8 rfl mixed (by kernel_rfl) Tryd.ntmps8 Tryd.results8 rfl ⟨by simp, by simp⟩ (by simp) ?_
  simp only [toS, textOps, toSOp, kindAt, kindOf, odAt, sopsAt, ordOf, zipF]
  (repeat' (first | refine JC.seq ?_ | refine JC.ops ?_ | refine JO.nil ?_ | (apply r_assign; (iterate 3 exact rfl)) | (apply r_boxA; (iterate 4 exact rfl); intro _)))
  rename_i bs0 bs1
  refine JX.thenN ?_
  (repeat' (first | refine JC.seq ?_ | refine JC.ops ?_))
  refine r_call0 trivial rfl rfl rfl (fun w _ _ => c_sanity w) fun w v w' _ _ _ hR => ?_
  subst hR
  (repeat' (first | refine JO.nil ?_ | (apply r_assign; (iterate 3 exact rfl))))
  refine JX.part (F' := [(5, .bool true), (3, .pointer (some ⟨bs1, 0, none⟩)), (2, .pointer (some ⟨bs0, 0, none⟩))]) (H' := [(bs1, .cells #[.int .u8 (R1 : Int), .int .u8 (C1 : Int), E1] 24), (bs0, .cells #[.int .u8 (R0 : Int), .int .u8 (C0 : Int), E0] 24)] ++ ([])) (by repeat first | exact trivial | refine ⟨rfl, ?_⟩) (by (repeat' first | exact HSub.refl _ | exact HSub.nil _ | refine HSub.at 0 rfl ?_ | refine HSub.at 1 rfl ?_ | refine HSub.at 2 rfl ?_ | refine HSub.at 3 rfl ?_ | refine HSub.at 4 rfl ?_ | refine HSub.at 5 rfl ?_ | refine HSub.at 6 rfl ?_ | refine HSub.at 7 rfl ?_ | refine HSub.at 8 rfl ?_ | refine HSub.at 9 rfl ?_ | refine HSub.at 10 rfl ?_ | refine HSub.at 11 rfl ?_ | refine HSub.at 12 rfl ?_ | refine HSub.at 13 rfl ?_ | refine HSub.at 14 rfl ?_ | refine HSub.at 15 rfl ?_ | refine HSub.at 16 rfl ?_ | refine HSub.at 17 rfl ?_ | refine HSub.at 18 rfl ?_ | refine HSub.at 19 rfl ?_ | refine HSub.segH ?_ | refine HSub.skip ?_ | refine HSub.skipN ?_)) ?_
  refine JX.thenN ?_
  (repeat' (first | refine JC.seq ?_ | refine JC.ops ?_ | (apply r_fieldAddr; (iterate 3 exact rfl)) | (apply r_load; (iterate 4 exact rfl); exact at1; exact rfl)))
  refine r_modK (i := R0) 7 rfl rfl rfl rfl (by omega) ?_
  (repeat' (first | refine JO.nil ?_ | (apply r_assign; (iterate 3 exact rfl)) | (apply r_convN; (iterate 3 exact rfl); omega)))
  refine JX.part (F' := [(6, nv (R0 % 7)), (5, .bool true), (3, .pointer (some ⟨bs1, 0, none⟩)), (2, .pointer (some ⟨bs0, 0, none⟩))]) (H' := [(bs1, .cells #[.int .u8 (R1 : Int), .int .u8 (C1 : Int), E1] 24), (bs0, .cells #[.int .u8 (R0 : Int), .int .u8 (C0 : Int), E0] 24)] ++ ([])) (by repeat first | exact trivial | refine ⟨rfl, ?_⟩) (by (repeat' first | exact HSub.refl _ | exact HSub.nil _ | refine HSub.at 0 rfl ?_ | refine HSub.at 1 rfl ?_ | refine HSub.at 2 rfl ?_ | refine HSub.at 3 rfl ?_ | refine HSub.at 4 rfl ?_ | refine HSub.at 5 rfl ?_ | refine HSub.at 6 rfl ?_ | refine HSub.at 7 rfl ?_ | refine HSub.at 8 rfl ?_ | refine HSub.at 9 rfl ?_ | refine HSub.at 10 rfl ?_ | refine HSub.at 11 rfl ?_ | refine HSub.at 12 rfl ?_ | refine HSub.at 13 rfl ?_ | refine HSub.at 14 rfl ?_ | refine HSub.at 15 rfl ?_ | refine HSub.at 16 rfl ?_ | refine HSub.at 17 rfl ?_ | refine HSub.at 18 rfl ?_ | refine HSub.at 19 rfl ?_ | refine HSub.segH ?_ | refine HSub.skip ?_ | refine HSub.skipN ?_)) ?_
  refine JX.thenN ?_
  (repeat' (first | refine JC.seq ?_ | refine JC.ops ?_ | (apply r_move; (iterate 3 exact rfl)) | (apply r_loadN; (iterate 4 exact rfl); exact at1; exact rfl)))
  refine r_callA (A := [_, _]) (B := []) rfl (by first | trivial | exact ⟨rfl, rfl⟩) rfl (by first | rfl | exact ⟨rfl, rfl⟩) rfl (fun w hk hs => c_With w _ R0 C0 (R0 % 7) (R0 % 7) L0 (hs0.mono hk) (by omega) (by omega)) fun w v w' _ _ _ hR => ?_
  obtain ⟨ma, hma⟩ : ∃ m, m = shZ L0 (R0 % 7) (R0 % 7) := ⟨_, rfl⟩
  have rta : RtZ ma := by rw [hma]; exact RtZ.sh _ (by omega) (by omega)
  have bda : BdZ 8 ma := by rw [hma]; exact BdZ.sh hL0 _ _
  rw [← hma] at hR
  obtain ⟨Na, hNa, Ea, rfl, hOa⟩ := hR
  obtain ⟨Aa, ca, rfl⟩ := hOa.form
  refine ⟨Na, hNa, ?_⟩
  (repeat' (first | refine JO.nil ?_ | (apply r_storeN; exact rfl; (first | exact trivial | exact ⟨rfl, rfl⟩); exact rfl; exact rfl; exact at0; (iterate 3 exact rfl)) | (apply r_allocZ; (iterate 3 exact rfl); intro _) | (apply r_storeN; exact rfl; (first | exact trivial | exact ⟨rfl, rfl⟩); exact rfl; exact rfl; exact at0; (iterate 3 exact rfl))))
  rename_i ba
  refine JX.part (F' := [(7, .pointer (some ⟨ba, 0, none⟩)), (6, nv (R0 % 7)), (5, .bool true), (3, .pointer (some ⟨bs1, 0, none⟩))]) (H' := [(ba, .cells #[nv ma.r, nv ma.c, .slice Aa ma.e.length ca] 29), (bs1, .cells #[.int .u8 (R1 : Int), .int .u8 (C1 : Int), E1] 24)] ++ (Na ++ ([]))) (by repeat first | exact trivial | refine ⟨rfl, ?_⟩) (by (repeat' first | exact HSub.refl _ | exact HSub.nil _ | refine HSub.at 0 rfl ?_ | refine HSub.at 1 rfl ?_ | refine HSub.at 2 rfl ?_ | refine HSub.at 3 rfl ?_ | refine HSub.at 4 rfl ?_ | refine HSub.at 5 rfl ?_ | refine HSub.at 6 rfl ?_ | refine HSub.at 7 rfl ?_ | refine HSub.at 8 rfl ?_ | refine HSub.at 9 rfl ?_ | refine HSub.at 10 rfl ?_ | refine HSub.at 11 rfl ?_ | refine HSub.at 12 rfl ?_ | refine HSub.at 13 rfl ?_ | refine HSub.at 14 rfl ?_ | refine HSub.at 15 rfl ?_ | refine HSub.at 16 rfl ?_ | refine HSub.at 17 rfl ?_ | refine HSub.at 18 rfl ?_ | refine HSub.at 19 rfl ?_ | refine HSub.segH ?_ | refine HSub.skip ?_ | refine HSub.skipN ?_)) ?_
  refine JX.thenN ?_
  (repeat' (first | refine JC.seq ?_ | refine JC.ops ?_ | (apply r_move; (iterate 3 exact rfl)) | (apply r_loadN; (iterate 4 exact rfl); exact at1; exact rfl)))
  have car : ma.r = R0 % 7 := by rw [hma]; rfl
  have cac : ma.c = R0 % 7 := by rw [hma]; rfl
  refine r_callA (A := [_, _]) (B := Na ++ ([])) rfl (by first | trivial | exact ⟨rfl, rfl⟩) rfl (by first | rfl | exact ⟨rfl, rfl⟩) rfl (fun w hk hs => c_With w _ R1 C1 (R0 % 7) (R0 % 7) L1 (hs1.mono hk) (by omega) (by omega)) fun w v w' _ _ _ hR => ?_
  obtain ⟨mb, hmb⟩ : ∃ m, m = shZ L1 (R0 % 7) (R0 % 7) := ⟨_, rfl⟩
  have rtb : RtZ mb := by rw [hmb]; exact RtZ.sh _ (by omega) (by omega)
  have bdb : BdZ 8 mb := by rw [hmb]; exact BdZ.sh hL1 _ _
  rw [← hmb] at hR
  obtain ⟨Nb, hNb, Eb, rfl, hOb⟩ := hR
  obtain ⟨Ab, cb, rfl⟩ := hOb.form
  refine ⟨Nb, hNb, ?_⟩
  (repeat' (first | refine JO.nil ?_ | (apply r_storeN; exact rfl; (first | exact trivial | exact ⟨rfl, rfl⟩); exact rfl; exact rfl; exact at0; (iterate 3 exact rfl)) | (apply r_allocZ; (iterate 3 exact rfl); intro _) | (apply r_storeN; exact rfl; (first | exact trivial | exact ⟨rfl, rfl⟩); exact rfl; exact rfl; exact at0; (iterate 3 exact rfl))))
  rename_i bb
  refine JX.part (F' := [(8, .pointer (some ⟨bb, 0, none⟩)), (7, .pointer (some ⟨ba, 0, none⟩)), (6, nv (R0 % 7)), (5, .bool true)]) (H' := [(bb, .cells #[nv mb.r, nv mb.c, .slice Ab mb.e.length cb] 29), (ba, .cells #[nv ma.r, nv ma.c, .slice Aa ma.e.length ca] 29)] ++ (Nb ++ (Na ++ ([])))) (by repeat first | exact trivial | refine ⟨rfl, ?_⟩) (by (repeat' first | exact HSub.refl _ | exact HSub.nil _ | refine HSub.at 0 rfl ?_ | refine HSub.at 1 rfl ?_ | refine HSub.at 2 rfl ?_ | refine HSub.at 3 rfl ?_ | refine HSub.at 4 rfl ?_ | refine HSub.at 5 rfl ?_ | refine HSub.at 6 rfl ?_ | refine HSub.at 7 rfl ?_ | refine HSub.at 8 rfl ?_ | refine HSub.at 9 rfl ?_ | refine HSub.at 10 rfl ?_ | refine HSub.at 11 rfl ?_ | refine HSub.at 12 rfl ?_ | refine HSub.at 13 rfl ?_ | refine HSub.at 14 rfl ?_ | refine HSub.at 15 rfl ?_ | refine HSub.at 16 rfl ?_ | refine HSub.at 17 rfl ?_ | refine HSub.at 18 rfl ?_ | refine HSub.at 19 rfl ?_ | refine HSub.segH ?_ | refine HSub.skip ?_ | refine HSub.skipN ?_)) ?_
  refine JX.thenN ?_
  (repeat' (first | refine JC.seq ?_ | refine JC.ops ?_ | (apply r_loadN; (iterate 4 exact rfl); (first | exact at0 | exact at1); exact rfl)))
  have cbr : mb.r = R0 % 7 := by rw [hmb]; rfl
  have cbc : mb.c = R0 % 7 := by rw [hmb]; rfl
  refine r_callA (A := [_, _]) (B := Nb ++ (Na ++ ([]))) rfl (by first | trivial | exact ⟨rfl, rfl⟩) rfl (by first | rfl | exact ⟨rfl, rfl⟩) rfl (fun w hk hs => c_MMul 8 8 w _ _ ma mb rta rtb (by omega) (by omega) bda bdb ⟨_, rfl, hOa.rd.at hk hs (by (repeat' first | exact HSub.nil _ | exact HSub.hd | exact HSub.in0 | exact HSub.refl _ | refine HSub.skip ?_ | refine HSub.skipN ?_))⟩ ⟨_, rfl, hOb.rd.at hk hs (by (repeat' first | exact HSub.nil _ | exact HSub.hd | exact HSub.in0 | exact HSub.refl _ | refine HSub.skip ?_ | refine HSub.skipN ?_))⟩) fun w v w' _ _ _ hR => ?_
  obtain ⟨me, hme⟩ : ∃ m, m = mulZ ma mb := ⟨_, rfl⟩
  have rte : RtZ me := by rw [hme]; exact zof_rt rta.r rtb.c
  have bde : BdZ 17 me := by rw [hme]; exact (BdZ.mul rta.c bda bdb).mono (by decide)
  rw [← hme] at hR
  obtain ⟨Ne, ue, rfl, hNe, Ee, rfl, hOe⟩ := hR
  obtain ⟨Ae, ce, rfl⟩ := hOe.form
  refine ⟨Ne, hNe, ?_⟩
  (repeat' (first | refine JO.nil ?_ | (apply r_move; (iterate 3 exact rfl)) | (apply r_assign; (iterate 3 exact rfl)) | (apply r_extract; (iterate 4 exact rfl)) | (apply r_storeN; exact rfl; (first | exact trivial | exact ⟨rfl, rfl⟩); exact rfl; exact rfl; exact at0; (iterate 3 exact rfl)) | (apply r_allocZ; (iterate 3 exact rfl); intro _) | (apply r_storeN; exact rfl; (first | exact trivial | exact ⟨rfl, rfl⟩); exact rfl; exact rfl; exact at0; (iterate 3 exact rfl))))
  rename_i be
  refine JX.part (F' := [(10, .bool true), (9, .pointer (some ⟨be, 0, none⟩)), (8, .pointer (some ⟨bb, 0, none⟩)), (7, .pointer (some ⟨ba, 0, none⟩)), (5, .bool true)]) (H' := [(be, .cells #[nv me.r, nv me.c, .slice Ae me.e.length ce] 29), (bb, .cells #[nv mb.r, nv mb.c, .slice Ab mb.e.length cb] 29), (ba, .cells #[nv ma.r, nv ma.c, .slice Aa ma.e.length ca] 29)] ++ (Ne ++ (Nb ++ (Na ++ ([]))))) (by repeat first | exact trivial | refine ⟨rfl, ?_⟩) (by (repeat' first | exact HSub.refl _ | exact HSub.nil _ | refine HSub.at 0 rfl ?_ | refine HSub.at 1 rfl ?_ | refine HSub.at 2 rfl ?_ | refine HSub.at 3 rfl ?_ | refine HSub.at 4 rfl ?_ | refine HSub.at 5 rfl ?_ | refine HSub.at 6 rfl ?_ | refine HSub.at 7 rfl ?_ | refine HSub.at 8 rfl ?_ | refine HSub.at 9 rfl ?_ | refine HSub.at 10 rfl ?_ | refine HSub.at 11 rfl ?_ | refine HSub.at 12 rfl ?_ | refine HSub.at 13 rfl ?_ | refine HSub.at 14 rfl ?_ | refine HSub.at 15 rfl ?_ | refine HSub.at 16 rfl ?_ | refine HSub.at 17 rfl ?_ | refine HSub.at 18 rfl ?_ | refine HSub.at 19 rfl ?_ | refine HSub.segH ?_ | refine HSub.skip ?_ | refine HSub.skipN ?_)) ?_
  refine JX.thenN ?_
  (repeat' (first | refine JC.seq ?_ | refine JC.ops ?_ | (apply r_loadN; (iterate 4 exact rfl); exact at2; exact rfl)))
  have cer : me.r = ma.r := by rw [hme]; rfl
  have cec : me.c = mb.c := by rw [hme]; rfl
  refine r_call0 (by first | trivial | exact ⟨rfl, rfl⟩) rfl (by first | rfl | exact ⟨rfl, rfl⟩) rfl (fun w hk hs => c_Det 8 w _ ma rta (by omega) (Nat.le_trans (Nat.mul_le_mul_right _ (show ma.r + 1 ≤ 7 by omega)) (by decide)) bda ⟨_, rfl, hOa.rd.at hk hs (by (repeat' first | exact HSub.nil _ | exact HSub.hd | exact HSub.in0 | exact HSub.refl _ | refine HSub.skip ?_ | refine HSub.skipN ?_))⟩) fun w v w' _ _ _ hR => ?_
  subst hR
  (repeat' (first | refine JO.nil ?_ | (apply r_move; (iterate 3 exact rfl)) | (apply r_assign; (iterate 3 exact rfl)) | (apply r_extract; (iterate 4 exact rfl)) | (apply r_storeN; exact rfl; (first | exact trivial | exact ⟨rfl, rfl⟩); exact rfl; exact rfl; exact at0; (iterate 3 exact rfl)) | (apply r_allocZ; (iterate 3 exact rfl); intro _) | (apply r_storeN; exact rfl; (first | exact trivial | exact ⟨rfl, rfl⟩); exact rfl; exact rfl; exact at0; (iterate 3 exact rfl))))
  rename_i b11
  refine JX.part (F' := [(12, .bool true), (11, .pointer (some ⟨b11, 0, none⟩)), (10, .bool true), (9, .pointer (some ⟨be, 0, none⟩)), (8, .pointer (some ⟨bb, 0, none⟩)), (7, .pointer (some ⟨ba, 0, none⟩)), (5, .bool true)]) (H' := [(b11, .cells (wc (det ma.r ma.at)) 41), (be, .cells #[nv me.r, nv me.c, .slice Ae me.e.length ce] 29), (bb, .cells #[nv mb.r, nv mb.c, .slice Ab mb.e.length cb] 29), (ba, .cells #[nv ma.r, nv ma.c, .slice Aa ma.e.length ca] 29)] ++ (Ne ++ (Nb ++ (Na ++ ([]))))) (by repeat first | exact trivial | refine ⟨rfl, ?_⟩) (by (repeat' first | exact HSub.refl _ | exact HSub.nil _ | refine HSub.at 0 rfl ?_ | refine HSub.at 1 rfl ?_ | refine HSub.at 2 rfl ?_ | refine HSub.at 3 rfl ?_ | refine HSub.at 4 rfl ?_ | refine HSub.at 5 rfl ?_ | refine HSub.at 6 rfl ?_ | refine HSub.at 7 rfl ?_ | refine HSub.at 8 rfl ?_ | refine HSub.at 9 rfl ?_ | refine HSub.at 10 rfl ?_ | refine HSub.at 11 rfl ?_ | refine HSub.at 12 rfl ?_ | refine HSub.at 13 rfl ?_ | refine HSub.at 14 rfl ?_ | refine HSub.at 15 rfl ?_ | refine HSub.at 16 rfl ?_ | refine HSub.at 17 rfl ?_ | refine HSub.at 18 rfl ?_ | refine HSub.at 19 rfl ?_ | refine HSub.segH ?_ | refine HSub.skip ?_ | refine HSub.skipN ?_)) ?_
  refine JX.thenN ?_
  (repeat' (first | refine JC.seq ?_ | refine JC.ops ?_ | (apply r_loadN; (iterate 4 exact rfl); exact at2; exact rfl)))
  refine r_call0 (by first | trivial | exact ⟨rfl, rfl⟩) rfl (by first | rfl | exact ⟨rfl, rfl⟩) rfl (fun w hk hs => c_Det 8 w _ mb rtb (by omega) (Nat.le_trans (Nat.mul_le_mul_right _ (show mb.r + 1 ≤ 7 by omega)) (by decide)) bdb ⟨_, rfl, hOb.rd.at hk hs (by (repeat' first | exact HSub.nil _ | exact HSub.hd | exact HSub.in0 | exact HSub.refl _ | refine HSub.skip ?_ | refine HSub.skipN ?_))⟩) fun w v w' _ _ _ hR => ?_
  subst hR
  (repeat' (first | refine JO.nil ?_ | (apply r_move; (iterate 3 exact rfl)) | (apply r_assign; (iterate 3 exact rfl)) | (apply r_extract; (iterate 4 exact rfl)) | (apply r_storeN; exact rfl; (first | exact trivial | exact ⟨rfl, rfl⟩); exact rfl; exact rfl; exact at0; (iterate 3 exact rfl)) | (apply r_allocZ; (iterate 3 exact rfl); intro _) | (apply r_storeN; exact rfl; (first | exact trivial | exact ⟨rfl, rfl⟩); exact rfl; exact rfl; exact at0; (iterate 3 exact rfl))))
  rename_i b13
  refine JX.part (F' := [(14, .bool true), (13, .pointer (some ⟨b13, 0, none⟩)), (12, .bool true), (11, .pointer (some ⟨b11, 0, none⟩)), (10, .bool true), (9, .pointer (some ⟨be, 0, none⟩)), (8, .pointer (some ⟨bb, 0, none⟩)), (7, .pointer (some ⟨ba, 0, none⟩)), (5, .bool true)]) (H' := [(b13, .cells (wc (det mb.r mb.at)) 41), (b11, .cells (wc (det ma.r ma.at)) 41), (be, .cells #[nv me.r, nv me.c, .slice Ae me.e.length ce] 29), (bb, .cells #[nv mb.r, nv mb.c, .slice Ab mb.e.length cb] 29), (ba, .cells #[nv ma.r, nv ma.c, .slice Aa ma.e.length ca] 29)] ++ (Ne ++ (Nb ++ (Na ++ ([]))))) (by repeat first | exact trivial | refine ⟨rfl, ?_⟩) (by (repeat' first | exact HSub.refl _ | exact HSub.nil _ | refine HSub.at 0 rfl ?_ | refine HSub.at 1 rfl ?_ | refine HSub.at 2 rfl ?_ | refine HSub.at 3 rfl ?_ | refine HSub.at 4 rfl ?_ | refine HSub.at 5 rfl ?_ | refine HSub.at 6 rfl ?_ | refine HSub.at 7 rfl ?_ | refine HSub.at 8 rfl ?_ | refine HSub.at 9 rfl ?_ | refine HSub.at 10 rfl ?_ | refine HSub.at 11 rfl ?_ | refine HSub.at 12 rfl ?_ | refine HSub.at 13 rfl ?_ | refine HSub.at 14 rfl ?_ | refine HSub.at 15 rfl ?_ | refine HSub.at 16 rfl ?_ | refine HSub.at 17 rfl ?_ | refine HSub.at 18 rfl ?_ | refine HSub.at 19 rfl ?_ | refine HSub.segH ?_ | refine HSub.skip ?_ | refine HSub.skipN ?_)) ?_
  refine JX.thenN ?_
  (repeat' (first | refine JC.seq ?_ | refine JC.ops ?_ | (apply r_loadN; (iterate 4 exact rfl); exact at2; exact rfl)))
  refine r_call0 (by first | trivial | exact ⟨rfl, rfl⟩) rfl (by first | rfl | exact ⟨rfl, rfl⟩) rfl (fun w hk hs => c_Det 17 w _ me rte (by omega) (Nat.le_trans (Nat.mul_le_mul_right _ (show me.r + 1 ≤ 7 by omega)) (by decide)) bde ⟨_, rfl, hOe.rd.at hk hs (by (repeat' first | exact HSub.nil _ | exact HSub.hd | exact HSub.in0 | exact HSub.refl _ | refine HSub.skip ?_ | refine HSub.skipN ?_))⟩) fun w v w' _ _ _ hR => ?_
  subst hR
  (repeat' (first | refine JO.nil ?_ | (apply r_move; (iterate 3 exact rfl)) | (apply r_assign; (iterate 3 exact rfl)) | (apply r_extract; (iterate 4 exact rfl)) | (apply r_storeN; exact rfl; (first | exact trivial | exact ⟨rfl, rfl⟩); exact rfl; exact rfl; exact at0; (iterate 3 exact rfl)) | (apply r_allocZ; (iterate 3 exact rfl); intro _) | (apply r_storeN; exact rfl; (first | exact trivial | exact ⟨rfl, rfl⟩); exact rfl; exact rfl; exact at0; (iterate 3 exact rfl))))
  rename_i b15
  refine JX.part (F' := [(16, .bool true), (15, .pointer (some ⟨b15, 0, none⟩)), (14, .bool true), (13, .pointer (some ⟨b13, 0, none⟩)), (12, .bool true), (11, .pointer (some ⟨b11, 0, none⟩)), (10, .bool true), (9, .pointer (some ⟨be, 0, none⟩)), (8, .pointer (some ⟨bb, 0, none⟩)), (7, .pointer (some ⟨ba, 0, none⟩)), (5, .bool true)]) (H' := [(b15, .cells (wc (det me.r me.at)) 41), (b13, .cells (wc (det mb.r mb.at)) 41), (b11, .cells (wc (det ma.r ma.at)) 41), (be, .cells #[nv me.r, nv me.c, .slice Ae me.e.length ce] 29), (bb, .cells #[nv mb.r, nv mb.c, .slice Ab mb.e.length cb] 29), (ba, .cells #[nv ma.r, nv ma.c, .slice Aa ma.e.length ca] 29)] ++ (Ne ++ (Nb ++ (Na ++ ([]))))) (by repeat first | exact trivial | refine ⟨rfl, ?_⟩) (by (repeat' first | exact HSub.refl _ | exact HSub.nil _ | refine HSub.at 0 rfl ?_ | refine HSub.at 1 rfl ?_ | refine HSub.at 2 rfl ?_ | refine HSub.at 3 rfl ?_ | refine HSub.at 4 rfl ?_ | refine HSub.at 5 rfl ?_ | refine HSub.at 6 rfl ?_ | refine HSub.at 7 rfl ?_ | refine HSub.at 8 rfl ?_ | refine HSub.at 9 rfl ?_ | refine HSub.at 10 rfl ?_ | refine HSub.at 11 rfl ?_ | refine HSub.at 12 rfl ?_ | refine HSub.at 13 rfl ?_ | refine HSub.at 14 rfl ?_ | refine HSub.at 15 rfl ?_ | refine HSub.at 16 rfl ?_ | refine HSub.at 17 rfl ?_ | refine HSub.at 18 rfl ?_ | refine HSub.at 19 rfl ?_ | refine HSub.segH ?_ | refine HSub.skip ?_ | refine HSub.skipN ?_)) ?_
  refine JX.thenN ?_
  (repeat' (first | refine JC.seq ?_ | refine JC.ops ?_ | (apply r_loadN; (iterate 4 exact rfl); exact at5; exact rfl)))
  refine r_callA (A := [_, _, _, _, _, _]) (B := Ne ++ (Nb ++ (Na ++ ([])))) rfl (by first | trivial | exact ⟨rfl, rfl⟩) rfl (by first | rfl | exact ⟨rfl, rfl⟩) rfl (fun w hk hs => c_Transpose w _ ma rta ⟨_, rfl, hOa.rd.at hk hs (by (repeat' first | exact HSub.nil _ | exact HSub.hd | exact HSub.in0 | exact HSub.refl _ | refine HSub.skip ?_ | refine HSub.skipN ?_))⟩) fun w v w' _ _ _ hR => ?_
  obtain ⟨mt, hmt⟩ : ∃ m, m = trZ ma := ⟨_, rfl⟩
  have rtt : RtZ mt := by rw [hmt]; exact zof_rt rta.c rta.r
  have bdt : BdZ 8 mt := by rw [hmt]; exact BdZ.tr bda
  rw [← hmt] at hR
  obtain ⟨Nt, hNt, Et, rfl, hOt⟩ := hR
  obtain ⟨At, ct, rfl⟩ := hOt.form
  refine ⟨Nt, hNt, ?_⟩
  skip
  have ctr : mt.r = ma.c := by rw [hmt]; rfl
  have ctc : mt.c = ma.r := by rw [hmt]; rfl
  refine r_call0 (by first | trivial | exact ⟨rfl, rfl⟩) rfl (by first | rfl | exact ⟨rfl, rfl⟩) rfl (fun w hk hs => c_Det 8 w _ mt rtt (by omega) (Nat.le_trans (Nat.mul_le_mul_right _ (show mt.r + 1 ≤ 7 by omega)) (by decide)) bdt ⟨_, rfl, hOt.rd.at hk hs (by (repeat' first | exact HSub.nil _ | exact HSub.hd | exact HSub.in0 | exact HSub.refl _ | refine HSub.skip ?_ | refine HSub.skipN ?_))⟩) fun w v w' _ _ _ hR => ?_
  subst hR
  (repeat' (first | refine JO.nil ?_ | (apply r_move; (iterate 3 exact rfl)) | (apply r_assign; (iterate 3 exact rfl)) | (apply r_extract; (iterate 4 exact rfl)) | (apply r_storeN; exact rfl; (first | exact trivial | exact ⟨rfl, rfl⟩); exact rfl; exact rfl; exact at0; (iterate 3 exact rfl)) | (apply r_allocZ; (iterate 3 exact rfl); intro _) | (apply r_storeN; exact rfl; (first | exact trivial | exact ⟨rfl, rfl⟩); exact rfl; exact rfl; exact at0; (iterate 3 exact rfl))))
  rename_i b17
  refine JX.part (F' := [(18, .bool true), (17, .pointer (some ⟨b17, 0, none⟩)), (16, .bool true), (15, .pointer (some ⟨b15, 0, none⟩)), (14, .bool true), (13, .pointer (some ⟨b13, 0, none⟩)), (12, .bool true), (11, .pointer (some ⟨b11, 0, none⟩)), (10, .bool true), (9, .pointer (some ⟨be, 0, none⟩)), (8, .pointer (some ⟨bb, 0, none⟩)), (7, .pointer (some ⟨ba, 0, none⟩)), (5, .bool true)]) (H' := [(b17, .cells (wc (det mt.r mt.at)) 41), (b15, .cells (wc (det me.r me.at)) 41), (b13, .cells (wc (det mb.r mb.at)) 41), (b11, .cells (wc (det ma.r ma.at)) 41), (be, .cells #[nv me.r, nv me.c, .slice Ae me.e.length ce] 29), (bb, .cells #[nv mb.r, nv mb.c, .slice Ab mb.e.length cb] 29), (ba, .cells #[nv ma.r, nv ma.c, .slice Aa ma.e.length ca] 29)] ++ (Ne ++ (Nb ++ (Na ++ ([]))))) (by repeat first | exact trivial | refine ⟨rfl, ?_⟩) (by (repeat' first | exact HSub.refl _ | exact HSub.nil _ | refine HSub.at 0 rfl ?_ | refine HSub.at 1 rfl ?_ | refine HSub.at 2 rfl ?_ | refine HSub.at 3 rfl ?_ | refine HSub.at 4 rfl ?_ | refine HSub.at 5 rfl ?_ | refine HSub.at 6 rfl ?_ | refine HSub.at 7 rfl ?_ | refine HSub.at 8 rfl ?_ | refine HSub.at 9 rfl ?_ | refine HSub.at 10 rfl ?_ | refine HSub.at 11 rfl ?_ | refine HSub.at 12 rfl ?_ | refine HSub.at 13 rfl ?_ | refine HSub.at 14 rfl ?_ | refine HSub.at 15 rfl ?_ | refine HSub.at 16 rfl ?_ | refine HSub.at 17 rfl ?_ | refine HSub.at 18 rfl ?_ | refine HSub.at 19 rfl ?_ | refine HSub.segH ?_ | refine HSub.skip ?_ | refine HSub.skipN ?_)) ?_
  refine JX.thenN ?_
  (repeat' (first | refine JC.seq ?_ | refine JC.ops ?_ | (apply r_loadN; (iterate 4 exact rfl); exact at6; exact rfl)))
  refine r_call0 (by first | trivial | exact ⟨rfl, rfl⟩) rfl (by first | rfl | exact ⟨rfl, rfl⟩) rfl (fun w hk hs => c_refDet 8 w _ ma rta (by omega) (Nat.le_trans (Nat.mul_le_mul_right _ (show ma.r + 1 ≤ 7 by omega)) (by decide)) bda ⟨_, rfl, hOa.rd.at hk hs (by (repeat' first | exact HSub.nil _ | exact HSub.hd | exact HSub.in0 | exact HSub.refl _ | refine HSub.skip ?_ | refine HSub.skipN ?_))⟩) fun w v w' _ _ _ hR => ?_
  subst hR
  (repeat' (first | refine JO.nil ?_ | (apply r_move; (iterate 3 exact rfl)) | (apply r_assign; (iterate 3 exact rfl)) | (apply r_extract; (iterate 4 exact rfl)) | (apply r_storeN; exact rfl; (first | exact trivial | exact ⟨rfl, rfl⟩); exact rfl; exact rfl; exact at0; (iterate 3 exact rfl)) | (apply r_allocZ; (iterate 3 exact rfl); intro _) | (apply r_storeN; exact rfl; (first | exact trivial | exact ⟨rfl, rfl⟩); exact rfl; exact rfl; exact at0; (iterate 3 exact rfl))))
  rename_i b19
  refine JX.part (F' := [(20, .bool true), (19, .pointer (some ⟨b19, 0, none⟩)), (18, .bool true), (17, .pointer (some ⟨b17, 0, none⟩)), (16, .bool true), (15, .pointer (some ⟨b15, 0, none⟩)), (14, .bool true), (13, .pointer (some ⟨b13, 0, none⟩)), (12, .bool true), (11, .pointer (some ⟨b11, 0, none⟩)), (10, .bool true), (9, .pointer (some ⟨be, 0, none⟩)), (8, .pointer (some ⟨bb, 0, none⟩)), (7, .pointer (some ⟨ba, 0, none⟩)), (5, .bool true)]) (H' := [(b19, .cells (wc (det ma.r ma.at)) 41), (b17, .cells (wc (det mt.r mt.at)) 41), (b15, .cells (wc (det me.r me.at)) 41), (b13, .cells (wc (det mb.r mb.at)) 41), (b11, .cells (wc (det ma.r ma.at)) 41), (be, .cells #[nv me.r, nv me.c, .slice Ae me.e.length ce] 29), (bb, .cells #[nv mb.r, nv mb.c, .slice Ab mb.e.length cb] 29), (ba, .cells #[nv ma.r, nv ma.c, .slice Aa ma.e.length ca] 29)] ++ (Ne ++ (Nb ++ (Na ++ ([]))))) (by repeat first | exact trivial | refine ⟨rfl, ?_⟩) (by (repeat' first | exact HSub.refl _ | exact HSub.nil _ | refine HSub.at 0 rfl ?_ | refine HSub.at 1 rfl ?_ | refine HSub.at 2 rfl ?_ | refine HSub.at 3 rfl ?_ | refine HSub.at 4 rfl ?_ | refine HSub.at 5 rfl ?_ | refine HSub.at 6 rfl ?_ | refine HSub.at 7 rfl ?_ | refine HSub.at 8 rfl ?_ | refine HSub.at 9 rfl ?_ | refine HSub.at 10 rfl ?_ | refine HSub.at 11 rfl ?_ | refine HSub.at 12 rfl ?_ | refine HSub.at 13 rfl ?_ | refine HSub.at 14 rfl ?_ | refine HSub.at 15 rfl ?_ | refine HSub.at 16 rfl ?_ | refine HSub.at 17 rfl ?_ | refine HSub.at 18 rfl ?_ | refine HSub.at 19 rfl ?_ | refine HSub.segH ?_ | refine HSub.skip ?_ | refine HSub.skipN ?_)) ?_
  refine JX.thenN ?_
  (repeat' (first | refine JC.seq ?_ | refine JC.opsD ?_ | (apply r_move; (iterate 3 exact rfl)) | (apply r_loadN; (iterate 4 exact rfl); (first | exact at0 | exact at1 | exact at4); exact rfl) | (apply r_pickT; (iterate 4 exact rfl)) | (apply r_eqWT; (iterate 4 exact rfl); (first | exact rfl | assumption))))
  have hdt : det mt.r mt.at = det ma.r ma.at := by rw [show mt.r = ma.r by omega, hmt]; exact det_trZ (by omega)
  have hde : det me.r me.at = det ma.r ma.at * det mb.r mb.at := by rw [show me.r = ma.r by omega, show mb.r = ma.r by omega, hme]; exact det_mulZ (by omega) (by omega) (by omega)
  rw [hdt, hde]
  (repeat' (first | (apply r_move; (iterate 3 exact rfl)) | (apply r_loadN; (iterate 4 exact rfl); (first | exact at2 | exact at3 | exact at4); exact rfl) | (apply r_pickT; (iterate 4 exact rfl)) | (apply r_eqWT; (iterate 4 exact rfl); (first | exact rfl | assumption))))
  refine r_call0 (by first | trivial | exact ⟨rfl, rfl⟩) rfl (by first | rfl | exact ⟨rfl, rfl⟩) rfl (fun w hk hs => c_Mul w _ _ (det ma.r ma.at) (det mb.r mb.at) 63 (IsZ.can (det_bd2 (K := 8) (by omega) bda)) (IsZ.can (det_bd2 (K := 8) (by omega) bdb)) (by omega)) fun w v w' _ _ _ hR => ?_
  subst hR
  (repeat' (first | refine JO.nil ?_ | (apply r_assign; (iterate 3 exact rfl)) | (apply r_pickT; (iterate 4 exact rfl)) | (apply r_eqWT; (iterate 4 exact rfl); (first | exact rfl | assumption))))
  refine JX.thenN ?_
  (repeat' (first | refine JC.ret ?_))
  exact JX.ret1 rfl (fun a w' st => ⟨st.kp, rfl⟩)

end Go.Proofs.YtdlmnloikakjpaaDoor

/-
  LawMatrixDets: for every input the call of 'cocycle/cocyclelaw02.MatrixDets' returns true, and every argument reads afterwards as it read before. Conditions: none. The card.
-/
namespace Go.Proofs.YtdlmnloikakjpaaDoor.matrixDets
open Go Go.RowKit Go.ChangeShapes Go.WideShapes Go.ChangeAt
set_option linter.unusedSimpArgs false
set_option linter.unusedVariables false
set_option linter.unusedSectionVars false

set_option maxRecDepth 100000 in
theorem lifted (os : Os) (started : os.Started) (H : Type) (enc : TypeId × Value → H) :
    ReturnsInHanded {} Tryd.checked os 8 .any (fun w args => (Rows.matrixDetsSpec.pre enc Tryd.prog Tryd.f8 [] false w args ∧ laidMetH Tryd.prog Rows.matrixDetsRow.laid w) ∧ sizedMet enc Tryd.prog Tryd.f8 (OpenSpec.ofChange Rows.matrixDetsSpec) false w args)
      (Rows.matrixDetsSpec.post enc Tryd.prog Tryd.f8 false true false false) := by
  refine returnsInHanded_of_change_and (C := Tryd.checked) (X := fun w _ => laidMetH Tryd.prog Rows.matrixDetsRow.laid w) (fun _ _ _ hh h => h.of_heap hh) own started (by kernel_rfl) Tryd.func8
    (ChangeSpec.witness_shaped (enc := enc) (C := Tryd.checked) (os := os) (X := fun w _ => laidMetH Tryd.prog Rows.matrixDetsRow.laid w) false (World.laidAll Tryd.prog os Rows.matrixDetsRow.laid) #[.agg #[.int .u8 0, .int .u8 0, .slice none 0 0], .agg #[.int .u8 0, .int .u8 0, .slice none 0 0]] 8 (World.laidAll_os _ _ _)
      (World.shaped_of_ZipB (by kernel_rfl) (by kernel_rfl)) (by kernel_rfl) (by kernel_rfl) (by kernel_rfl)
      (by rw [MakeChecks.laidMetH_plain _ _ _ (by kernel_rfl)]; exact laidMet_laidAll _ (by kernel_rfl) (by kernel_rfl))) ?_
  intro W base args ds gs before hval0 hW _ hwt0 hL _
  have hval : ∀ (j : Nat) t v, Tryd.f8.params[j]? = some t → args[j]? = some v → Value.okWide Tryd.prog W .any base t v := hval0
  have hW' := hW
  obtain ⟨p, q, hA0, hV, rfl, hfz, hnd⟩ := hW
  have hA : DataW.TrodAll enc Tryd.prog W 0 (fun _ => true) true Tryd.f8.params.toList args.toList ds p := hA0
  have hwt : (DataW.weightsEach Tryd.prog (Tryd.f8.params.toList ++ Rows.matrixDetsSpec.plain.varTypes Tryd.prog) (ds ++ gs)).all (· ≤ reachBytes) = true := hwt0
  have hwt1 := fun n hn => of_decide_eq_true (List.all_eq_true.1 hwt n hn)
  rw [Tryd.params8] at hA hval hwt1
  obtain ⟨v0, vs0, d0, ds0, p0, q0, hargs, rfl, rfl, h0, r0⟩ := trodAll_cons hA
  obtain ⟨v1, vs1, d1, ds1, p1, q1, rfl, rfl, rfl, h1, r1⟩ := trodAll_cons r0
  obtain ⟨rfl, rfl, rfl⟩ := trodAll_nil r1
  obtain rfl : args = #[v0, v1] := by cases args; simp_all
  obtain ⟨rfl, rfl⟩ := trodVars_none hV
  have k0 := h0
  have lt0 : ∀ x ∈ p0, x.block < W.heap.size := by obtain ⟨m, hm⟩ := k0; exact DataW.trod_lt m _ _ _ hm
  obtain ⟨R0, C0, L0, s0⟩ := open_shape (hval 0 24 v0 rfl rfl) h0
  have k1 := h1
  have lt1 : ∀ x ∈ p1, x.block < W.heap.size := by obtain ⟨m, hm⟩ := k1; exact DataW.trod_lt m _ _ _ hm
  obtain ⟨R1, C1, L1, s1⟩ := open_shape (hval 1 24 v1 rfl rfl) h1
  clear hA0 hval0
  refine (c_MatrixDets W v0 v1 R0 C0 L0 R1 C1 L1 s0 s1).mono fun e W' he => ?_
  cases e with
  | panicked _ => exact he.elim
  | outgrown => exact he.elim
  | returned u =>
    obtain ⟨hk, rfl⟩ := he
    have bel := hk.below
    exact ⟨_, rfl, _, _, _, [], _, [], hW', trodAll_mk1 (shut_bool Tryd.underlying4 _), (trodAll_cons_mk (Below.trod laidOut (by kernel_rfl) (of_decide_eq_true (by kernel_rfl)) k0 bel lt0) (trodAll_cons_mk (Below.trod laidOut (by kernel_rfl) (of_decide_eq_true (by kernel_rfl)) k1 bel lt1) trodAll_mk0)), rfl, bel.frame _, fun h => by cases h⟩

theorem holds : Rows.MatrixDetsSaid :=
  OpenClaim.holds_of_wide 8 Tryd.f8 rfl rfl rfl rfl rfl rfl rfl ⟨rfl, rfl, rfl, rfl, rfl⟩ rfl rfl rfl rfl rfl (by kernel_rfl) Tryd.func8 (by kernel_rfl)
    (of_decide_eq_true (by kernel_rfl)) (by unfold Func.isWrapper; first | (rw [if_pos (by decide +kernel)]; kernel_rfl) | (rw [if_neg (by decide +kernel)]; exact ⟨rfl, rfl⟩))
    (fun os started H enc _ => lifted os started H enc)

theorem proved : Rows.MatrixDetsCardSaid :=
  Claim7.holds_tied_plain_at .later [] [.data, .pinned] true (true, "1e720b878859d18141ea40e2dc597df34bde83979d72dc5a8b5bc54d7198a929") false holds (fun _ h => by cases h) (by kernel_rfl) (fun _ h => by cases h) matrixDets_row_tie rfl ⟨rfl, rfl⟩ (by kernel_rfl) rfl
    (fun f fn hf hfn => by
      obtain rfl : f = 8 := Option.some.inj ((show Tryd.prog.funcNamed "cocycle/cocyclelaw02.MatrixDets" = some 8 by kernel_rfl).symm.trans hf) |>.symm
      obtain rfl : fn = Tryd.f8 := (Option.some.inj (Tryd.func8.symm.trans hfn)).symm
      exact ⟨by kernel_rfl, fun j t ht => by
        rw [Tryd.params8] at ht
        have hm : t ∈ [24] := by simpa using Array.mem_of_getElem? ht
        have hall : ([24].all fun u => !Tryd.prog.wantsStandIn u) = true := by kernel_rfl
        exact (show Tryd.prog.wantsStandIn t = false by simpa using List.all_eq_true.1 hall t hm)⟩)
    (by kernel_rfl)

end Go.Proofs.YtdlmnloikakjpaaDoor.matrixDets

