import Derived.Test.YtdlmnloikakjpaaDoorMh
import Derived.Test.YtdlmnloikakjpaaDoorMj
import Derived.Test.YtdlmnloikakjpaaDoorTie
import Derived.Test.YtdlmnloikakjpaaDoorCards
import Derived.Shelf.Lay
import Derived.Lay
import Derived.LaidOnce
import Derived.SevenTiedAt
/- The law MatrixTurns. ROWZ -/
namespace Go.Proofs.YtdlmnloikakjpaaDoor
open Go Go.RowKit
set_option linter.unusedSimpArgs false
set_option linter.unusedVariables false
set_option linter.unusedSectionVars false

theorem shc (C : Nat) : C % 7 ≤ 6 := by have := Nat.mod_lt C (show 0 < 7 by omega); omega
theorem at_trZ {m : ZM} {i j : Nat} (hi : i < m.r) (hj : j < m.c) : atZ (trZ m) j i = atZ m i j := by
  unfold atZ
  rw [if_pos ⟨by omega, by show (j : Int) < (m.c : Int); omega, by omega, by show (i : Int) < (m.r : Int); omega⟩, if_pos ⟨by omega, by omega, by omega, by omega⟩]
  simp only [Int.toNat_natCast]
  exact zof_at hj hi

set_option maxHeartbeats 16000000 in
theorem c_MatrixTurns (w : World) (v0 v1 : Value) (R0 C0 : Nat) (L0 : List Int) (R1 C1 : Nat) (L1 : List Int) (hv0 : IsS w v0 R0 C0 L0) (hv1 : IsS w v1 R1 C1 L1) :
    Calls Tryd.prog 12 #[v0, v1] w (Ret fun v w' => Kp [] w w' ∧ v = .bool true) := by
  have hs0 := hv0
  have hc0 := shc C0
  have hr0 := shc R0
  have hL0 := hv0.2.2.1
  obtain ⟨_, _, _, E0, rfl, _⟩ := hv0
  have hs1 := hv1
  have hc1 := shc C1
  have hr1 := shc R1
  have hL1 := hv1.2.2.1
  obtain ⟨_, _, _, E1, rfl, _⟩ := hv1
  refine calls_of_S [⟨6, 2, [0, 2, 1, 3, 4, 5, 6, 7, 8, 9, 10], []⟩, ⟨8, 2, [0, 2, 1, 3, 4, 5, 6, 7, 8, 9, 10], []⟩, ⟨15, 0, [0, 1, 2, 4, 6, 7, 3, 5, 8, 9], []⟩, ⟨17, 1, [0, 1, 2, 3, 4, 5, 6, 7, 8, 11, 9, 10, 12, 13, 14, 15, 17, 16, 18, 19, 20, 21, 23, 22, 24, 25, 26], []⟩] [] (by simp) [] Tryd.func12 rfl mixed (by kernel_rfl) Tryd.ntmps12 Tryd.results12 rfl ⟨by simp, by simp⟩ (by simp) ?_
  simp only [toS, textOps, toSOp, kindAt, kindOf, odAt, sopsAt, ordOf, zipF]
  (repeat' (first | refine JC.seq ?_ | refine JC.ops ?_ | refine JO.nil ?_ | (apply r_assign; exact rfl; exact rfl; exact rfl) | (apply r_boxA; exact rfl; exact rfl; exact rfl; exact rfl; intro _)))
  rename_i bs0 bs1
  refine JX.thenN ?_
  (repeat' (first | refine JC.seq ?_ | refine JC.ops ?_))
  refine r_call0 trivial rfl rfl rfl (fun w _ _ => c_sanity w) fun w v w' _ _ _ hR => ?_
  subst hR
  (repeat' (first | refine JO.nil ?_ | (apply r_assign; exact rfl; exact rfl; exact rfl)))
  refine JX.part (F' := [(5, .bool true), (3, .pointer (some ⟨bs1, 0, none⟩)), (2, .pointer (some ⟨bs0, 0, none⟩))]) (H' := [(bs1, .cells #[.int .u8 (R1 : Int), .int .u8 (C1 : Int), E1] 24), (bs0, .cells #[.int .u8 (R0 : Int), .int .u8 (C0 : Int), E0] 24)] ++ ([])) (by repeat first | exact trivial | refine ⟨rfl, ?_⟩) (by (repeat' first | exact HSub.refl _ | exact HSub.nil _ | refine HSub.at 0 rfl ?_ | refine HSub.at 1 rfl ?_ | refine HSub.at 2 rfl ?_ | refine HSub.at 3 rfl ?_ | refine HSub.at 4 rfl ?_ | refine HSub.at 5 rfl ?_ | refine HSub.at 6 rfl ?_ | refine HSub.at 7 rfl ?_ | refine HSub.at 8 rfl ?_ | refine HSub.at 9 rfl ?_ | refine HSub.at 10 rfl ?_ | refine HSub.at 11 rfl ?_ | refine HSub.at 12 rfl ?_ | refine HSub.at 13 rfl ?_ | refine HSub.at 14 rfl ?_ | refine HSub.at 15 rfl ?_ | refine HSub.at 16 rfl ?_ | refine HSub.at 17 rfl ?_ | refine HSub.at 18 rfl ?_ | refine HSub.at 19 rfl ?_ | refine HSub.segH ?_ | refine HSub.skip ?_ | refine HSub.skipN ?_)) ?_
  refine JX.thenN ?_
  (repeat' (first | refine JC.seq ?_ | refine JC.ops ?_ | (apply r_loadN; exact rfl; exact rfl; exact rfl; exact rfl; (first | exact at0 | exact at1 | exact at2 | exact at3 | exact at4 | exact at5 | exact at6 | exact at7 | exact at8 | exact at9); exact rfl)))
  refine r_callA (A := [_, _]) (B := []) rfl (by first | trivial | exact ⟨rfl, rfl⟩) rfl (by first | rfl | exact ⟨rfl, rfl⟩) rfl (fun w hk hs => c_Mat w _ R0 C0 L0 (hs0.mono hk)) fun w v w' _ _ _ hR => ?_
  obtain ⟨ma, hma⟩ : ∃ m, m = shMat R0 C0 L0 := ⟨_, rfl⟩
  have rta : RtZ ma := by rw [hma]; exact RtZ.shMat _ _ _
  have bda : BdZ 8 ma := by rw [hma]; exact BdZ.sh hL0 _ _
  rw [← hma] at hR
  obtain ⟨Na, hNa, Ea, rfl, hOa⟩ := hR
  obtain ⟨Aa, ca, rfl⟩ := hOa.form
  refine ⟨Na, hNa, ?_⟩
  (repeat' (first | refine JO.nil ?_ | (apply r_storeN; exact rfl; (first | exact trivial | exact ⟨rfl, rfl⟩); exact rfl; exact rfl; (first | exact at0 | exact at1 | exact at2 | exact at3 | exact at4 | exact at5 | exact at6 | exact at7 | exact at8 | exact at9); exact rfl; exact rfl; exact rfl) | (apply r_allocZ; exact rfl; exact rfl; exact rfl; intro _) | (apply r_storeN; exact rfl; (first | exact trivial | exact ⟨rfl, rfl⟩); exact rfl; exact rfl; (first | exact at0 | exact at1 | exact at2 | exact at3 | exact at4 | exact at5 | exact at6 | exact at7 | exact at8 | exact at9); exact rfl; exact rfl; exact rfl)))
  rename_i ba
  refine JX.part (F' := [(6, .pointer (some ⟨ba, 0, none⟩)), (5, .bool true), (3, .pointer (some ⟨bs1, 0, none⟩))]) (H' := [(ba, .cells #[nv ma.r, nv ma.c, .slice Aa ma.e.length ca] 29), (bs1, .cells #[.int .u8 (R1 : Int), .int .u8 (C1 : Int), E1] 24)] ++ (Na ++ ([]))) (by repeat first | exact trivial | refine ⟨rfl, ?_⟩) (by (repeat' first | exact HSub.refl _ | exact HSub.nil _ | refine HSub.at 0 rfl ?_ | refine HSub.at 1 rfl ?_ | refine HSub.at 2 rfl ?_ | refine HSub.at 3 rfl ?_ | refine HSub.at 4 rfl ?_ | refine HSub.at 5 rfl ?_ | refine HSub.at 6 rfl ?_ | refine HSub.at 7 rfl ?_ | refine HSub.at 8 rfl ?_ | refine HSub.at 9 rfl ?_ | refine HSub.at 10 rfl ?_ | refine HSub.at 11 rfl ?_ | refine HSub.at 12 rfl ?_ | refine HSub.at 13 rfl ?_ | refine HSub.at 14 rfl ?_ | refine HSub.at 15 rfl ?_ | refine HSub.at 16 rfl ?_ | refine HSub.at 17 rfl ?_ | refine HSub.at 18 rfl ?_ | refine HSub.at 19 rfl ?_ | refine HSub.segH ?_ | refine HSub.skip ?_ | refine HSub.skipN ?_)) ?_
  refine JX.thenN ?_
  (repeat' (first | refine JC.seq ?_ | refine JC.ops ?_ | (apply r_fieldAddr; exact rfl; exact rfl; exact rfl) | (apply r_load; exact rfl; exact rfl; exact rfl; exact rfl; (first | exact at0 | exact at1 | exact at2 | exact at3 | exact at4 | exact at5 | exact at6 | exact at7 | exact at8 | exact at9); exact rfl) | (apply r_loadN; exact rfl; exact rfl; exact rfl; exact rfl; (first | exact at0 | exact at1 | exact at2 | exact at3 | exact at4 | exact at5 | exact at6 | exact at7 | exact at8 | exact at9); exact rfl)))
  have car : ma.r = R0 % 7 := by rw [hma]; rfl
  have cac : ma.c = C0 % 7 := by rw [hma]; rfl
  refine r_modK (i := C1) 7 rfl rfl rfl rfl (by omega) ?_
  (repeat' (first | (apply r_convN; exact rfl; exact rfl; exact rfl; omega)))
  refine r_callA (A := [_, _]) (B := Na ++ ([])) rfl (by first | trivial | exact ⟨rfl, rfl⟩) rfl (by first | rfl | exact ⟨rfl, rfl⟩) rfl (fun w hk hs => c_With w _ R1 C1 (ma.c) (C1 % 7) L1 (hs1.mono hk) (by omega) (by omega)) fun w v w' _ _ _ hR => ?_
  obtain ⟨mb, hmb⟩ : ∃ m, m = shZ L1 (ma.c) (C1 % 7) := ⟨_, rfl⟩
  have rtb : RtZ mb := by rw [hmb]; exact RtZ.sh _ (by omega) (by omega)
  have bdb : BdZ 8 mb := by rw [hmb]; exact BdZ.sh hL1 _ _
  rw [← hmb] at hR
  obtain ⟨Nb, hNb, Eb, rfl, hOb⟩ := hR
  obtain ⟨Ab, cb, rfl⟩ := hOb.form
  refine ⟨Nb, hNb, ?_⟩
  (repeat' (first | refine JO.nil ?_ | (apply r_storeN; exact rfl; (first | exact trivial | exact ⟨rfl, rfl⟩); exact rfl; exact rfl; (first | exact at0 | exact at1 | exact at2 | exact at3 | exact at4 | exact at5 | exact at6 | exact at7 | exact at8 | exact at9); exact rfl; exact rfl; exact rfl) | (apply r_allocZ; exact rfl; exact rfl; exact rfl; intro _) | (apply r_storeN; exact rfl; (first | exact trivial | exact ⟨rfl, rfl⟩); exact rfl; exact rfl; (first | exact at0 | exact at1 | exact at2 | exact at3 | exact at4 | exact at5 | exact at6 | exact at7 | exact at8 | exact at9); exact rfl; exact rfl; exact rfl)))
  rename_i bb
  refine JX.part (F' := [(7, .pointer (some ⟨bb, 0, none⟩)), (6, .pointer (some ⟨ba, 0, none⟩)), (5, .bool true), (3, .pointer (some ⟨bs1, 0, none⟩))]) (H' := [(bb, .cells #[nv mb.r, nv mb.c, .slice Ab mb.e.length cb] 29), (ba, .cells #[nv ma.r, nv ma.c, .slice Aa ma.e.length ca] 29), (bs1, .cells #[.int .u8 (R1 : Int), .int .u8 (C1 : Int), E1] 24)] ++ (Nb ++ (Na ++ ([])))) (by repeat first | exact trivial | refine ⟨rfl, ?_⟩) (by (repeat' first | exact HSub.refl _ | exact HSub.nil _ | refine HSub.at 0 rfl ?_ | refine HSub.at 1 rfl ?_ | refine HSub.at 2 rfl ?_ | refine HSub.at 3 rfl ?_ | refine HSub.at 4 rfl ?_ | refine HSub.at 5 rfl ?_ | refine HSub.at 6 rfl ?_ | refine HSub.at 7 rfl ?_ | refine HSub.at 8 rfl ?_ | refine HSub.at 9 rfl ?_ | refine HSub.at 10 rfl ?_ | refine HSub.at 11 rfl ?_ | refine HSub.at 12 rfl ?_ | refine HSub.at 13 rfl ?_ | refine HSub.at 14 rfl ?_ | refine HSub.at 15 rfl ?_ | refine HSub.at 16 rfl ?_ | refine HSub.at 17 rfl ?_ | refine HSub.at 18 rfl ?_ | refine HSub.at 19 rfl ?_ | refine HSub.segH ?_ | refine HSub.skip ?_ | refine HSub.skipN ?_)) ?_
  refine JX.thenN ?_
  (repeat' (first | refine JC.seq ?_ | refine JC.ops ?_ | (apply r_fieldAddr; exact rfl; exact rfl; exact rfl) | (apply r_load; exact rfl; exact rfl; exact rfl; exact rfl; (first | exact at0 | exact at1 | exact at2 | exact at3 | exact at4 | exact at5 | exact at6 | exact at7 | exact at8 | exact at9); exact rfl) | (apply r_loadN; exact rfl; exact rfl; exact rfl; exact rfl; (first | exact at0 | exact at1 | exact at2 | exact at3 | exact at4 | exact at5 | exact at6 | exact at7 | exact at8 | exact at9); exact rfl)))
  have cbr : mb.r = ma.c := by rw [hmb]; rfl
  have cbc : mb.c = C1 % 7 := by rw [hmb]; rfl
  refine r_callA (A := [_, _, _]) (B := Nb ++ (Na ++ ([]))) rfl (by first | trivial | exact ⟨rfl, rfl⟩) rfl (by first | rfl | exact ⟨rfl, rfl⟩) rfl (fun w hk hs => c_With w _ R1 C1 (ma.r) (ma.c) L1 (hs1.mono hk) (by omega) (by omega)) fun w v w' _ _ _ hR => ?_
  obtain ⟨mc, hmc⟩ : ∃ m, m = shZ L1 (ma.r) (ma.c) := ⟨_, rfl⟩
  have rtc : RtZ mc := by rw [hmc]; exact RtZ.sh _ (by omega) (by omega)
  have bdc : BdZ 8 mc := by rw [hmc]; exact BdZ.sh hL1 _ _
  rw [← hmc] at hR
  obtain ⟨Nc, hNc, Ec, rfl, hOc⟩ := hR
  obtain ⟨Ac, cc, rfl⟩ := hOc.form
  refine ⟨Nc, hNc, ?_⟩
  (repeat' (first | refine JO.nil ?_ | (apply r_storeN; exact rfl; (first | exact trivial | exact ⟨rfl, rfl⟩); exact rfl; exact rfl; (first | exact at0 | exact at1 | exact at2 | exact at3 | exact at4 | exact at5 | exact at6 | exact at7 | exact at8 | exact at9); exact rfl; exact rfl; exact rfl) | (apply r_allocZ; exact rfl; exact rfl; exact rfl; intro _) | (apply r_storeN; exact rfl; (first | exact trivial | exact ⟨rfl, rfl⟩); exact rfl; exact rfl; (first | exact at0 | exact at1 | exact at2 | exact at3 | exact at4 | exact at5 | exact at6 | exact at7 | exact at8 | exact at9); exact rfl; exact rfl; exact rfl)))
  rename_i bc
  refine JX.part (F' := [(8, .pointer (some ⟨bc, 0, none⟩)), (7, .pointer (some ⟨bb, 0, none⟩)), (6, .pointer (some ⟨ba, 0, none⟩)), (5, .bool true)]) (H' := [(bc, .cells #[nv mc.r, nv mc.c, .slice Ac mc.e.length cc] 29), (bb, .cells #[nv mb.r, nv mb.c, .slice Ab mb.e.length cb] 29), (ba, .cells #[nv ma.r, nv ma.c, .slice Aa ma.e.length ca] 29)] ++ (Nc ++ (Nb ++ (Na ++ ([]))))) (by repeat first | exact trivial | refine ⟨rfl, ?_⟩) (by (repeat' first | exact HSub.refl _ | exact HSub.nil _ | refine HSub.at 0 rfl ?_ | refine HSub.at 1 rfl ?_ | refine HSub.at 2 rfl ?_ | refine HSub.at 3 rfl ?_ | refine HSub.at 4 rfl ?_ | refine HSub.at 5 rfl ?_ | refine HSub.at 6 rfl ?_ | refine HSub.at 7 rfl ?_ | refine HSub.at 8 rfl ?_ | refine HSub.at 9 rfl ?_ | refine HSub.at 10 rfl ?_ | refine HSub.at 11 rfl ?_ | refine HSub.at 12 rfl ?_ | refine HSub.at 13 rfl ?_ | refine HSub.at 14 rfl ?_ | refine HSub.at 15 rfl ?_ | refine HSub.at 16 rfl ?_ | refine HSub.at 17 rfl ?_ | refine HSub.at 18 rfl ?_ | refine HSub.at 19 rfl ?_ | refine HSub.segH ?_ | refine HSub.skip ?_ | refine HSub.skipN ?_)) ?_
  refine JX.thenN ?_
  (repeat' (first | refine JC.seq ?_ | refine JC.ops ?_ | (apply r_loadN; exact rfl; exact rfl; exact rfl; exact rfl; (first | exact at0 | exact at1 | exact at2 | exact at3 | exact at4 | exact at5 | exact at6 | exact at7 | exact at8 | exact at9); exact rfl)))
  have ccr : mc.r = ma.r := by rw [hmc]; rfl
  have ccc : mc.c = ma.c := by rw [hmc]; rfl
  refine r_callA (A := [_, _, _]) (B := Nc ++ (Nb ++ (Na ++ ([])))) rfl (by first | trivial | exact ⟨rfl, rfl⟩) rfl (by first | rfl | exact ⟨rfl, rfl⟩) rfl (fun w hk hs => c_MMul 8 8 w _ _ ma mb rta rtb (by omega) (by omega) bda bdb ⟨_, rfl, hOa.rd.at hk hs (by (repeat' first | exact HSub.nil _ | exact HSub.hd | exact HSub.in0 | exact HSub.refl _ | refine HSub.skip ?_ | refine HSub.skipN ?_))⟩ ⟨_, rfl, hOb.rd.at hk hs (by (repeat' first | exact HSub.nil _ | exact HSub.hd | exact HSub.in0 | exact HSub.refl _ | refine HSub.skip ?_ | refine HSub.skipN ?_))⟩) fun w v w' _ _ _ hR => ?_
  obtain ⟨me, hme⟩ : ∃ m, m = mulZ ma mb := ⟨_, rfl⟩
  have rte : RtZ me := by rw [hme]; exact zof_rt rta.r rtb.c
  have bde : BdZ 17 me := by rw [hme]; exact (BdZ.mul rta.c bda bdb).mono (by decide)
  rw [← hme] at hR
  obtain ⟨Ne, ue, rfl, hNe, Ee, rfl, hOe⟩ := hR
  obtain ⟨Ae, ce, rfl⟩ := hOe.form
  refine ⟨Ne, hNe, ?_⟩
  (repeat' (first | refine JO.nil ?_ | (apply r_move; exact rfl; exact rfl; exact rfl) | (apply r_assign; exact rfl; exact rfl; exact rfl) | (apply r_extract; exact rfl; exact rfl; exact rfl; exact rfl) | (apply r_storeN; exact rfl; (first | exact trivial | exact ⟨rfl, rfl⟩); exact rfl; exact rfl; (first | exact at0 | exact at1 | exact at2 | exact at3 | exact at4 | exact at5 | exact at6 | exact at7 | exact at8 | exact at9); exact rfl; exact rfl; exact rfl) | (apply r_allocZ; exact rfl; exact rfl; exact rfl; intro _) | (apply r_storeN; exact rfl; (first | exact trivial | exact ⟨rfl, rfl⟩); exact rfl; exact rfl; (first | exact at0 | exact at1 | exact at2 | exact at3 | exact at4 | exact at5 | exact at6 | exact at7 | exact at8 | exact at9); exact rfl; exact rfl; exact rfl)))
  rename_i be
  refine JX.part (F' := [(10, .bool true), (9, .pointer (some ⟨be, 0, none⟩)), (8, .pointer (some ⟨bc, 0, none⟩)), (7, .pointer (some ⟨bb, 0, none⟩)), (6, .pointer (some ⟨ba, 0, none⟩)), (5, .bool true)]) (H' := [(be, .cells #[nv me.r, nv me.c, .slice Ae me.e.length ce] 29), (bc, .cells #[nv mc.r, nv mc.c, .slice Ac mc.e.length cc] 29), (bb, .cells #[nv mb.r, nv mb.c, .slice Ab mb.e.length cb] 29), (ba, .cells #[nv ma.r, nv ma.c, .slice Aa ma.e.length ca] 29)] ++ (Ne ++ (Nc ++ (Nb ++ (Na ++ ([])))))) (by repeat first | exact trivial | refine ⟨rfl, ?_⟩) (by (repeat' first | exact HSub.refl _ | exact HSub.nil _ | refine HSub.at 0 rfl ?_ | refine HSub.at 1 rfl ?_ | refine HSub.at 2 rfl ?_ | refine HSub.at 3 rfl ?_ | refine HSub.at 4 rfl ?_ | refine HSub.at 5 rfl ?_ | refine HSub.at 6 rfl ?_ | refine HSub.at 7 rfl ?_ | refine HSub.at 8 rfl ?_ | refine HSub.at 9 rfl ?_ | refine HSub.at 10 rfl ?_ | refine HSub.at 11 rfl ?_ | refine HSub.at 12 rfl ?_ | refine HSub.at 13 rfl ?_ | refine HSub.at 14 rfl ?_ | refine HSub.at 15 rfl ?_ | refine HSub.at 16 rfl ?_ | refine HSub.at 17 rfl ?_ | refine HSub.at 18 rfl ?_ | refine HSub.at 19 rfl ?_ | refine HSub.segH ?_ | refine HSub.skip ?_ | refine HSub.skipN ?_)) ?_
  refine JX.thenN ?_
  (repeat' (first | refine JC.seq ?_ | refine JC.opsD ?_ | (apply r_loadN; exact rfl; exact rfl; exact rfl; exact rfl; (first | exact at0 | exact at1 | exact at2 | exact at3 | exact at4 | exact at5 | exact at6 | exact at7 | exact at8 | exact at9); exact rfl)))
  have cer : me.r = ma.r := by rw [hme]; rfl
  have cec : me.c = mb.c := by rw [hme]; rfl
  refine r_callA (A := [_, _, _, _]) (B := Ne ++ (Nc ++ (Nb ++ (Na ++ ([]))))) rfl (by first | trivial | exact ⟨rfl, rfl⟩) rfl (by first | rfl | exact ⟨rfl, rfl⟩) rfl (fun w hk hs => c_Transpose w _ mb rtb ⟨_, rfl, hOb.rd.at hk hs (by (repeat' first | exact HSub.nil _ | exact HSub.hd | exact HSub.in0 | exact HSub.refl _ | refine HSub.skip ?_ | refine HSub.skipN ?_))⟩) fun w v w' _ _ _ hR => ?_
  obtain ⟨mp, hmp⟩ : ∃ m, m = trZ mb := ⟨_, rfl⟩
  have rtp : RtZ mp := by rw [hmp]; exact zof_rt rtb.c rtb.r
  have bdp : BdZ 8 mp := by rw [hmp]; exact BdZ.tr bdb
  rw [← hmp] at hR
  obtain ⟨Np, hNp, Ep, rfl, hOp⟩ := hR
  obtain ⟨Ap, cp, rfl⟩ := hOp.form
  refine ⟨Np, hNp, ?_⟩
  skip
  have cpr : mp.r = mb.c := by rw [hmp]; rfl
  have cpc : mp.c = mb.r := by rw [hmp]; rfl
  refine r_callA (A := [_, _, _, _]) (B := Np ++ (Ne ++ (Nc ++ (Nb ++ (Na ++ ([])))))) rfl (by first | trivial | exact ⟨rfl, rfl⟩) rfl (by first | rfl | exact ⟨rfl, rfl⟩) rfl (fun w hk hs => c_Transpose w _ ma rta ⟨_, rfl, hOa.rd.at hk hs (by (repeat' first | exact HSub.nil _ | exact HSub.hd | exact HSub.in0 | exact HSub.refl _ | refine HSub.skip ?_ | refine HSub.skipN ?_))⟩) fun w v w' _ _ _ hR => ?_
  obtain ⟨mq, hmq⟩ : ∃ m, m = trZ ma := ⟨_, rfl⟩
  have rtq : RtZ mq := by rw [hmq]; exact zof_rt rta.c rta.r
  have bdq : BdZ 8 mq := by rw [hmq]; exact BdZ.tr bda
  rw [← hmq] at hR
  obtain ⟨Nq, hNq, Eq, rfl, hOq⟩ := hR
  obtain ⟨Aq, cq, rfl⟩ := hOq.form
  refine ⟨Nq, hNq, ?_⟩
  skip
  have cqr : mq.r = ma.c := by rw [hmq]; rfl
  have cqc : mq.c = ma.r := by rw [hmq]; rfl
  refine r_callA (A := [_, _, _, _]) (B := Nq ++ (Np ++ (Ne ++ (Nc ++ (Nb ++ (Na ++ ([]))))))) rfl (by first | trivial | exact ⟨rfl, rfl⟩) rfl (by first | rfl | exact ⟨rfl, rfl⟩) rfl (fun w hk hs => c_MMul 8 8 w _ _ mp mq rtp rtq (by omega) (by omega) bdp bdq ⟨_, rfl, hOp.rd.at hk hs (by (repeat' first | exact HSub.nil _ | exact HSub.hd | exact HSub.in0 | exact HSub.refl _ | refine HSub.skip ?_ | refine HSub.skipN ?_))⟩ ⟨_, rfl, hOq.rd.at hk hs (by (repeat' first | exact HSub.nil _ | exact HSub.hd | exact HSub.in0 | exact HSub.refl _ | refine HSub.skip ?_ | refine HSub.skipN ?_))⟩) fun w v w' _ _ _ hR => ?_
  obtain ⟨mf, hmf⟩ : ∃ m, m = mulZ mp mq := ⟨_, rfl⟩
  have rtf : RtZ mf := by rw [hmf]; exact zof_rt rtp.r rtq.c
  have bdf : BdZ 17 mf := by rw [hmf]; exact (BdZ.mul rtp.c bdp bdq).mono (by decide)
  rw [← hmf] at hR
  obtain ⟨Nf, uf, rfl, hNf, Ef, rfl, hOf⟩ := hR
  obtain ⟨Af, cf, rfl⟩ := hOf.form
  refine ⟨Nf, hNf, ?_⟩
  (repeat' (first | refine JO.nil ?_ | (apply r_move; exact rfl; exact rfl; exact rfl) | (apply r_assign; exact rfl; exact rfl; exact rfl) | (apply r_extract; exact rfl; exact rfl; exact rfl; exact rfl) | (apply r_storeN; exact rfl; (first | exact trivial | exact ⟨rfl, rfl⟩); exact rfl; exact rfl; (first | exact at0 | exact at1 | exact at2 | exact at3 | exact at4 | exact at5 | exact at6 | exact at7 | exact at8 | exact at9); exact rfl; exact rfl; exact rfl) | (apply r_allocZ; exact rfl; exact rfl; exact rfl; intro _) | (apply r_storeN; exact rfl; (first | exact trivial | exact ⟨rfl, rfl⟩); exact rfl; exact rfl; (first | exact at0 | exact at1 | exact at2 | exact at3 | exact at4 | exact at5 | exact at6 | exact at7 | exact at8 | exact at9); exact rfl; exact rfl; exact rfl)))
  rename_i bf
  refine JX.part (F' := [(12, .bool true), (11, .pointer (some ⟨bf, 0, none⟩)), (10, .bool true), (9, .pointer (some ⟨be, 0, none⟩)), (8, .pointer (some ⟨bc, 0, none⟩)), (6, .pointer (some ⟨ba, 0, none⟩)), (5, .bool true)]) (H' := [(bf, .cells #[nv mf.r, nv mf.c, .slice Af mf.e.length cf] 29), (be, .cells #[nv me.r, nv me.c, .slice Ae me.e.length ce] 29), (bc, .cells #[nv mc.r, nv mc.c, .slice Ac mc.e.length cc] 29), (ba, .cells #[nv ma.r, nv ma.c, .slice Aa ma.e.length ca] 29)] ++ (Nf ++ (Ne ++ (Nc ++ (Na ++ ([])))))) (by repeat first | exact trivial | refine ⟨rfl, ?_⟩) (by (repeat' first | exact HSub.refl _ | exact HSub.nil _ | refine HSub.at 0 rfl ?_ | refine HSub.at 1 rfl ?_ | refine HSub.at 2 rfl ?_ | refine HSub.at 3 rfl ?_ | refine HSub.at 4 rfl ?_ | refine HSub.at 5 rfl ?_ | refine HSub.at 6 rfl ?_ | refine HSub.at 7 rfl ?_ | refine HSub.at 8 rfl ?_ | refine HSub.at 9 rfl ?_ | refine HSub.at 10 rfl ?_ | refine HSub.at 11 rfl ?_ | refine HSub.at 12 rfl ?_ | refine HSub.at 13 rfl ?_ | refine HSub.at 14 rfl ?_ | refine HSub.at 15 rfl ?_ | refine HSub.at 16 rfl ?_ | refine HSub.at 17 rfl ?_ | refine HSub.at 18 rfl ?_ | refine HSub.at 19 rfl ?_ | refine HSub.segH ?_ | refine HSub.skip ?_ | refine HSub.skipN ?_)) ?_
  refine JX.thenN ?_
  (repeat' (first | refine JC.seq ?_ | refine JC.ops ?_ | (apply r_loadN; exact rfl; exact rfl; exact rfl; exact rfl; (first | exact at0 | exact at1 | exact at2 | exact at3 | exact at4 | exact at5 | exact at6 | exact at7 | exact at8 | exact at9); exact rfl)))
  have cfr : mf.r = mp.r := by rw [hmf]; rfl
  have cfc : mf.c = mq.c := by rw [hmf]; rfl
  refine r_callA (A := [_, _, _, _]) (B := Nf ++ (Ne ++ (Nc ++ (Na ++ ([]))))) rfl (by first | trivial | exact ⟨rfl, rfl⟩) rfl (by first | rfl | exact ⟨rfl, rfl⟩) rfl (fun w hk hs => c_MAdd 8 w _ _ ma mc rta rtc (by omega) (by omega) (by omega) (bda.mono (by decide)) (bdc.mono (by decide)) ⟨_, rfl, hOa.rd.at hk hs (by (repeat' first | exact HSub.nil _ | exact HSub.hd | exact HSub.in0 | exact HSub.refl _ | refine HSub.skip ?_ | refine HSub.skipN ?_))⟩ ⟨_, rfl, hOc.rd.at hk hs (by (repeat' first | exact HSub.nil _ | exact HSub.hd | exact HSub.in0 | exact HSub.refl _ | refine HSub.skip ?_ | refine HSub.skipN ?_))⟩) fun w v w' _ _ _ hR => ?_
  obtain ⟨mg, hmg⟩ : ∃ m, m = addZ ma mc := ⟨_, rfl⟩
  have rtg : RtZ mg := by rw [hmg]; exact zof_rt rta.r rta.c
  have bdg : BdZ 9 mg := by rw [hmg]; exact (BdZ.add (K := 8) (bda.mono (by decide)) (bdc.mono (by decide))).mono (by decide)
  rw [← hmg] at hR
  obtain ⟨Ng, ug, rfl, hNg, Eg, rfl, hOg⟩ := hR
  obtain ⟨Ag, cg, rfl⟩ := hOg.form
  refine ⟨Ng, hNg, ?_⟩
  (repeat' (first | refine JO.nil ?_ | (apply r_move; exact rfl; exact rfl; exact rfl) | (apply r_assign; exact rfl; exact rfl; exact rfl) | (apply r_extract; exact rfl; exact rfl; exact rfl; exact rfl) | (apply r_storeN; exact rfl; (first | exact trivial | exact ⟨rfl, rfl⟩); exact rfl; exact rfl; (first | exact at0 | exact at1 | exact at2 | exact at3 | exact at4 | exact at5 | exact at6 | exact at7 | exact at8 | exact at9); exact rfl; exact rfl; exact rfl) | (apply r_allocZ; exact rfl; exact rfl; exact rfl; intro _) | (apply r_storeN; exact rfl; (first | exact trivial | exact ⟨rfl, rfl⟩); exact rfl; exact rfl; (first | exact at0 | exact at1 | exact at2 | exact at3 | exact at4 | exact at5 | exact at6 | exact at7 | exact at8 | exact at9); exact rfl; exact rfl; exact rfl)))
  rename_i bg
  refine JX.part (F' := [(14, .bool true), (13, .pointer (some ⟨bg, 0, none⟩)), (12, .bool true), (11, .pointer (some ⟨bf, 0, none⟩)), (10, .bool true), (9, .pointer (some ⟨be, 0, none⟩)), (8, .pointer (some ⟨bc, 0, none⟩)), (6, .pointer (some ⟨ba, 0, none⟩)), (5, .bool true)]) (H' := [(bg, .cells #[nv mg.r, nv mg.c, .slice Ag mg.e.length cg] 29), (bf, .cells #[nv mf.r, nv mf.c, .slice Af mf.e.length cf] 29), (be, .cells #[nv me.r, nv me.c, .slice Ae me.e.length ce] 29), (bc, .cells #[nv mc.r, nv mc.c, .slice Ac mc.e.length cc] 29), (ba, .cells #[nv ma.r, nv ma.c, .slice Aa ma.e.length ca] 29)] ++ (Ng ++ (Nf ++ (Ne ++ (Nc ++ (Na ++ ([]))))))) (by repeat first | exact trivial | refine ⟨rfl, ?_⟩) (by (repeat' first | exact HSub.refl _ | exact HSub.nil _ | refine HSub.at 0 rfl ?_ | refine HSub.at 1 rfl ?_ | refine HSub.at 2 rfl ?_ | refine HSub.at 3 rfl ?_ | refine HSub.at 4 rfl ?_ | refine HSub.at 5 rfl ?_ | refine HSub.at 6 rfl ?_ | refine HSub.at 7 rfl ?_ | refine HSub.at 8 rfl ?_ | refine HSub.at 9 rfl ?_ | refine HSub.at 10 rfl ?_ | refine HSub.at 11 rfl ?_ | refine HSub.at 12 rfl ?_ | refine HSub.at 13 rfl ?_ | refine HSub.at 14 rfl ?_ | refine HSub.at 15 rfl ?_ | refine HSub.at 16 rfl ?_ | refine HSub.at 17 rfl ?_ | refine HSub.at 18 rfl ?_ | refine HSub.at 19 rfl ?_ | refine HSub.segH ?_ | refine HSub.skip ?_ | refine HSub.skipN ?_)) ?_
  refine JX.thenN ?_
  (repeat' (first | refine JC.seq ?_ | refine JC.opsD ?_ | (apply r_loadN; exact rfl; exact rfl; exact rfl; exact rfl; (first | exact at0 | exact at1 | exact at2 | exact at3 | exact at4 | exact at5 | exact at6 | exact at7 | exact at8 | exact at9); exact rfl)))
  have cgr : mg.r = ma.r := by rw [hmg]; rfl
  have cgc : mg.c = ma.c := by rw [hmg]; rfl
  refine r_callA (A := [_, _, _, _, _]) (B := Ng ++ (Nf ++ (Ne ++ (Nc ++ (Na ++ ([])))))) rfl (by first | trivial | exact ⟨rfl, rfl⟩) rfl (by first | rfl | exact ⟨rfl, rfl⟩) rfl (fun w hk hs => c_Transpose w _ ma rta ⟨_, rfl, hOa.rd.at hk hs (by (repeat' first | exact HSub.nil _ | exact HSub.hd | exact HSub.in0 | exact HSub.refl _ | refine HSub.skip ?_ | refine HSub.skipN ?_))⟩) fun w v w' _ _ _ hR => ?_
  obtain ⟨mu, hmu⟩ : ∃ m, m = trZ ma := ⟨_, rfl⟩
  have rtu : RtZ mu := by rw [hmu]; exact zof_rt rta.c rta.r
  have bdu : BdZ 8 mu := by rw [hmu]; exact BdZ.tr bda
  rw [← hmu] at hR
  obtain ⟨Nu, hNu, Eu, rfl, hOu⟩ := hR
  obtain ⟨Au, cu, rfl⟩ := hOu.form
  refine ⟨Nu, hNu, ?_⟩
  skip
  have cur : mu.r = ma.c := by rw [hmu]; rfl
  have cuc : mu.c = ma.r := by rw [hmu]; rfl
  refine r_callA (A := [_, _, _, _, _]) (B := Nu ++ (Ng ++ (Nf ++ (Ne ++ (Nc ++ (Na ++ ([]))))))) rfl (by first | trivial | exact ⟨rfl, rfl⟩) rfl (by first | rfl | exact ⟨rfl, rfl⟩) rfl (fun w hk hs => c_Transpose w _ mc rtc ⟨_, rfl, hOc.rd.at hk hs (by (repeat' first | exact HSub.nil _ | exact HSub.hd | exact HSub.in0 | exact HSub.refl _ | refine HSub.skip ?_ | refine HSub.skipN ?_))⟩) fun w v w' _ _ _ hR => ?_
  obtain ⟨mv, hmv⟩ : ∃ m, m = trZ mc := ⟨_, rfl⟩
  have rtv : RtZ mv := by rw [hmv]; exact zof_rt rtc.c rtc.r
  have bdv : BdZ 8 mv := by rw [hmv]; exact BdZ.tr bdc
  rw [← hmv] at hR
  obtain ⟨Nv, hNv, Ev, rfl, hOv⟩ := hR
  obtain ⟨Av, cv, rfl⟩ := hOv.form
  refine ⟨Nv, hNv, ?_⟩
  skip
  have cvr : mv.r = mc.c := by rw [hmv]; rfl
  have cvc : mv.c = mc.r := by rw [hmv]; rfl
  refine r_callA (A := [_, _, _, _, _]) (B := Nv ++ (Nu ++ (Ng ++ (Nf ++ (Ne ++ (Nc ++ (Na ++ ([])))))))) rfl (by first | trivial | exact ⟨rfl, rfl⟩) rfl (by first | rfl | exact ⟨rfl, rfl⟩) rfl (fun w hk hs => c_MAdd 8 w _ _ mu mv rtu rtv (by omega) (by omega) (by omega) (bdu.mono (by decide)) (bdv.mono (by decide)) ⟨_, rfl, hOu.rd.at hk hs (by (repeat' first | exact HSub.nil _ | exact HSub.hd | exact HSub.in0 | exact HSub.refl _ | refine HSub.skip ?_ | refine HSub.skipN ?_))⟩ ⟨_, rfl, hOv.rd.at hk hs (by (repeat' first | exact HSub.nil _ | exact HSub.hd | exact HSub.in0 | exact HSub.refl _ | refine HSub.skip ?_ | refine HSub.skipN ?_))⟩) fun w v w' _ _ _ hR => ?_
  obtain ⟨mh, hmh⟩ : ∃ m, m = addZ mu mv := ⟨_, rfl⟩
  have rth : RtZ mh := by rw [hmh]; exact zof_rt rtu.r rtu.c
  have bdh : BdZ 9 mh := by rw [hmh]; exact (BdZ.add (K := 8) (bdu.mono (by decide)) (bdv.mono (by decide))).mono (by decide)
  rw [← hmh] at hR
  obtain ⟨Nh, uh, rfl, hNh, Eh, rfl, hOh⟩ := hR
  obtain ⟨Ah, ch, rfl⟩ := hOh.form
  refine ⟨Nh, hNh, ?_⟩
  (repeat' (first | refine JO.nil ?_ | (apply r_move; exact rfl; exact rfl; exact rfl) | (apply r_assign; exact rfl; exact rfl; exact rfl) | (apply r_extract; exact rfl; exact rfl; exact rfl; exact rfl) | (apply r_storeN; exact rfl; (first | exact trivial | exact ⟨rfl, rfl⟩); exact rfl; exact rfl; (first | exact at0 | exact at1 | exact at2 | exact at3 | exact at4 | exact at5 | exact at6 | exact at7 | exact at8 | exact at9); exact rfl; exact rfl; exact rfl) | (apply r_allocZ; exact rfl; exact rfl; exact rfl; intro _) | (apply r_storeN; exact rfl; (first | exact trivial | exact ⟨rfl, rfl⟩); exact rfl; exact rfl; (first | exact at0 | exact at1 | exact at2 | exact at3 | exact at4 | exact at5 | exact at6 | exact at7 | exact at8 | exact at9); exact rfl; exact rfl; exact rfl)))
  rename_i bh
  refine JX.part (F' := [(16, .bool true), (15, .pointer (some ⟨bh, 0, none⟩)), (14, .bool true), (13, .pointer (some ⟨bg, 0, none⟩)), (12, .bool true), (11, .pointer (some ⟨bf, 0, none⟩)), (10, .bool true), (9, .pointer (some ⟨be, 0, none⟩)), (6, .pointer (some ⟨ba, 0, none⟩)), (5, .bool true)]) (H' := [(bh, .cells #[nv mh.r, nv mh.c, .slice Ah mh.e.length ch] 29), (bg, .cells #[nv mg.r, nv mg.c, .slice Ag mg.e.length cg] 29), (bf, .cells #[nv mf.r, nv mf.c, .slice Af mf.e.length cf] 29), (be, .cells #[nv me.r, nv me.c, .slice Ae me.e.length ce] 29), (ba, .cells #[nv ma.r, nv ma.c, .slice Aa ma.e.length ca] 29)] ++ (Nh ++ (Ng ++ (Nf ++ (Ne ++ (Na ++ ([]))))))) (by repeat first | exact trivial | refine ⟨rfl, ?_⟩) (by (repeat' first | exact HSub.refl _ | exact HSub.nil _ | refine HSub.at 0 rfl ?_ | refine HSub.at 1 rfl ?_ | refine HSub.at 2 rfl ?_ | refine HSub.at 3 rfl ?_ | refine HSub.at 4 rfl ?_ | refine HSub.at 5 rfl ?_ | refine HSub.at 6 rfl ?_ | refine HSub.at 7 rfl ?_ | refine HSub.at 8 rfl ?_ | refine HSub.at 9 rfl ?_ | refine HSub.at 10 rfl ?_ | refine HSub.at 11 rfl ?_ | refine HSub.at 12 rfl ?_ | refine HSub.at 13 rfl ?_ | refine HSub.at 14 rfl ?_ | refine HSub.at 15 rfl ?_ | refine HSub.at 16 rfl ?_ | refine HSub.at 17 rfl ?_ | refine HSub.at 18 rfl ?_ | refine HSub.at 19 rfl ?_ | refine HSub.segH ?_ | refine HSub.skip ?_ | refine HSub.skipN ?_)) ?_
  refine JX.thenN ?_
  (repeat' (first | refine JC.seq ?_ | refine JC.ops ?_ | refine JO.nil ?_ | (apply r_assign; exact rfl; exact rfl; exact rfl)))
  have chr : mh.r = mu.r := by rw [hmh]; rfl
  have chc : mh.c = mu.c := by rw [hmh]; rfl
  (repeat' (first | refine JX.thenN ?_ | refine JC.block ?_))
  refine JC.loopH (ι := Nat) ⟨fun i => [(17, nv i), (16, .bool true), (15, .pointer (some ⟨bh, 0, none⟩)), (14, .bool true), (13, .pointer (some ⟨bg, 0, none⟩)), (12, .bool true), (11, .pointer (some ⟨bf, 0, none⟩)), (10, .bool true), (9, .pointer (some ⟨be, 0, none⟩)), (6, .pointer (some ⟨ba, 0, none⟩)), (5, .bool true)], fun _ => [(bh, .cells #[nv mh.r, nv mh.c, .slice Ah mh.e.length ch] 29), (bg, .cells #[nv mg.r, nv mg.c, .slice Ag mg.e.length cg] 29), (bf, .cells #[nv mf.r, nv mf.c, .slice Af mf.e.length cf] 29), (be, .cells #[nv me.r, nv me.c, .slice Ae me.e.length ce] 29), (ba, .cells #[nv ma.r, nv ma.c, .slice Aa ma.e.length ca] 29)] ++ (Nh ++ (Ng ++ (Nf ++ (Ne ++ (Na ++ ([])))))), fun i => i ≤ ma.r, fun i => ma.r - i⟩ 0 (Nat.zero_le _) (by repeat first | exact trivial | refine ⟨rfl, ?_⟩) (HSub.refl _) (fun i hi => ?_)
  dsimp only at hi ⊢
  by_cases hi2 : i < ma.r
  · (repeat' (first | refine JC.seq ?_ | refine JC.ops ?_ | refine JO.nil ?_ | refine JX.thenN ?_ | (apply r_move; exact rfl; exact rfl; exact rfl) | (apply r_fieldAddr; exact rfl; exact rfl; exact rfl) | (apply r_assign; exact rfl; exact rfl; exact rfl) | (apply r_load; exact rfl; exact rfl; exact rfl; exact rfl; (first | exact at0 | exact at1 | exact at2 | exact at3 | exact at4 | exact at5 | exact at6 | exact at7 | exact at8 | exact at9); exact rfl) | (apply r_lss; exact rfl; exact rfl; exact rfl; exact rfl; all_goals intro hc; all_goals try (exfalso; omega)) | refine JC.skip ?_ | refine JC.condT rfl ?_ | refine JC.block ?_))
    refine JC.loopH (ι := Nat) ⟨fun j => [(18, nv j), (17, nv i), (16, .bool true), (15, .pointer (some ⟨bh, 0, none⟩)), (14, .bool true), (13, .pointer (some ⟨bg, 0, none⟩)), (12, .bool true), (11, .pointer (some ⟨bf, 0, none⟩)), (10, .bool true), (9, .pointer (some ⟨be, 0, none⟩)), (6, .pointer (some ⟨ba, 0, none⟩)), (5, .bool true)], fun _ => [(bh, .cells #[nv mh.r, nv mh.c, .slice Ah mh.e.length ch] 29), (bg, .cells #[nv mg.r, nv mg.c, .slice Ag mg.e.length cg] 29), (bf, .cells #[nv mf.r, nv mf.c, .slice Af mf.e.length cf] 29), (be, .cells #[nv me.r, nv me.c, .slice Ae me.e.length ce] 29), (ba, .cells #[nv ma.r, nv ma.c, .slice Aa ma.e.length ca] 29)] ++ (Nh ++ (Ng ++ (Nf ++ (Ne ++ (Na ++ ([])))))), fun j => j ≤ ma.c, fun j => ma.c - j⟩ 0 (Nat.zero_le _) (by repeat first | exact trivial | refine ⟨rfl, ?_⟩) (HSub.refl _) (fun j hj => ?_)
    dsimp only at hj ⊢
    by_cases hj2 : j < ma.c
    · (repeat' (first | refine JC.seq ?_ | refine JC.ops ?_ | refine JC.opsD ?_ | refine JO.nil ?_ | refine JX.thenN ?_ | (apply r_move; exact rfl; exact rfl; exact rfl) | (apply r_fieldAddr; exact rfl; exact rfl; exact rfl) | (apply r_load; exact rfl; exact rfl; exact rfl; exact rfl; (first | exact at0 | exact at1 | exact at2 | exact at3 | exact at4 | exact at5 | exact at6 | exact at7 | exact at8 | exact at9); exact rfl) | (apply r_loadN; exact rfl; exact rfl; exact rfl; exact rfl; (first | exact at0 | exact at1 | exact at2 | exact at3 | exact at4 | exact at5 | exact at6 | exact at7 | exact at8 | exact at9); exact rfl) | (apply r_lss; exact rfl; exact rfl; exact rfl; exact rfl; all_goals intro hc; all_goals try (exfalso; omega)) | refine JC.skip ?_ | refine JC.condT rfl ?_ | refine JC.block ?_))
      refine r_call0 (by first | trivial | exact ⟨rfl, rfl⟩) rfl (by first | rfl | exact ⟨rfl, rfl⟩) rfl (fun w hk hs => c_At w _ ma i j rta ⟨_, rfl, hOa.rd.at hk hs (by (repeat' first | exact HSub.nil _ | exact HSub.hd | exact HSub.in0 | exact HSub.refl _ | refine HSub.skip ?_ | refine HSub.skipN ?_))⟩) fun w v w' _ _ _ hR => ?_
      subst hR
      skip
      refine r_callA (A := [_, _, _, _, _]) (B := Nh ++ (Ng ++ (Nf ++ (Ne ++ (Na ++ ([])))))) rfl (by first | trivial | exact ⟨rfl, rfl⟩) rfl (by first | rfl | exact ⟨rfl, rfl⟩) rfl (fun w hk hs => c_Transpose w _ ma rta ⟨_, rfl, hOa.rd.at hk hs (by (repeat' first | exact HSub.nil _ | exact HSub.hd | exact HSub.in0 | exact HSub.refl _ | refine HSub.skip ?_ | refine HSub.skipN ?_))⟩) fun w v w' _ _ _ hR => ?_
      obtain ⟨mx, hmx⟩ : ∃ m, m = trZ ma := ⟨_, rfl⟩
      have rtx : RtZ mx := by rw [hmx]; exact zof_rt rta.c rta.r
      have bdx : BdZ 8 mx := by rw [hmx]; exact BdZ.tr bda
      rw [← hmx] at hR
      obtain ⟨Nx, hNx, Ex, rfl, hOx⟩ := hR
      obtain ⟨Ax, cx, rfl⟩ := hOx.form
      refine ⟨Nx, hNx, ?_⟩
      skip
      have cxr : mx.r = ma.c := by rw [hmx]; rfl
      have cxc : mx.c = ma.r := by rw [hmx]; rfl
      refine r_call0 (by first | trivial | exact ⟨rfl, rfl⟩) rfl (by first | rfl | exact ⟨rfl, rfl⟩) rfl (fun w hk hs => c_At w _ mx j i rtx ⟨_, rfl, hOx.rd.at hk hs (by (repeat' first | exact HSub.nil _ | exact HSub.hd | exact HSub.in0 | exact HSub.refl _ | refine HSub.skip ?_ | refine HSub.skipN ?_))⟩) fun w v w' _ _ _ hR => ?_
      rw [show atZ mx j i = atZ ma i j by rw [hmx]; exact at_trZ hi2 hj2] at hR
      subst hR
      (repeat' (first | refine JC.ops ?_ | refine JO.nil ?_ | refine JX.thenN ?_ | (apply r_move; exact rfl; exact rfl; exact rfl) | (apply r_assign; exact rfl; exact rfl; exact rfl) | (apply r_add1; exact rfl; exact rfl; exact rfl; exact rfl; omega) | (apply r_neWF; exact rfl; exact rfl; exact rfl; exact rfl; (first | exact rfl | assumption)) | refine JC.skip ?_ | refine JC.condF rfl ?_ | refine JX.blockN ?_))
      refine JX.roundH (j + 1) (by dsimp only; omega) (by dsimp only; omega) (by repeat first | exact trivial | refine ⟨rfl, ?_⟩) (by (repeat' first | exact HSub.refl _ | exact HSub.nil _ | refine HSub.at 0 rfl ?_ | refine HSub.at 1 rfl ?_ | refine HSub.at 2 rfl ?_ | refine HSub.at 3 rfl ?_ | refine HSub.at 4 rfl ?_ | refine HSub.at 5 rfl ?_ | refine HSub.at 6 rfl ?_ | refine HSub.at 7 rfl ?_ | refine HSub.at 8 rfl ?_ | refine HSub.at 9 rfl ?_ | refine HSub.at 10 rfl ?_ | refine HSub.at 11 rfl ?_ | refine HSub.at 12 rfl ?_ | refine HSub.at 13 rfl ?_ | refine HSub.at 14 rfl ?_ | refine HSub.at 15 rfl ?_ | refine HSub.at 16 rfl ?_ | refine HSub.at 17 rfl ?_ | refine HSub.at 18 rfl ?_ | refine HSub.at 19 rfl ?_ | refine HSub.segH ?_ | refine HSub.skip ?_ | refine HSub.skipN ?_))
    · (repeat' (first | refine JC.seq ?_ | refine JC.ops ?_ | refine JO.nil ?_ | refine JX.thenN ?_ | (apply r_move; exact rfl; exact rfl; exact rfl) | (apply r_fieldAddr; exact rfl; exact rfl; exact rfl) | (apply r_assign; exact rfl; exact rfl; exact rfl) | (apply r_load; exact rfl; exact rfl; exact rfl; exact rfl; (first | exact at0 | exact at1 | exact at2 | exact at3 | exact at4 | exact at5 | exact at6 | exact at7 | exact at8 | exact at9); exact rfl) | (apply r_add1; exact rfl; exact rfl; exact rfl; exact rfl; omega) | (apply r_lss; exact rfl; exact rfl; exact rfl; exact rfl; all_goals intro hc; all_goals try (exfalso; omega)) | refine JX.thenE ?_ | refine JC.exit ?_ | refine JC.condF rfl ?_ | refine JX.blockN ?_ | refine JX.blockE ?_))
      exact JX.roundH (i + 1) (by dsimp only; omega) (by dsimp only; omega) (by repeat first | exact trivial | refine ⟨rfl, ?_⟩) (HSub.refl _)
  · (repeat' (first | refine JC.seq ?_ | refine JC.ops ?_ | refine JC.opsD ?_ | refine JO.nil ?_ | refine JX.thenN ?_ | (apply r_move; exact rfl; exact rfl; exact rfl) | (apply r_fieldAddr; exact rfl; exact rfl; exact rfl) | (apply r_load; exact rfl; exact rfl; exact rfl; exact rfl; (first | exact at0 | exact at1 | exact at2 | exact at3 | exact at4 | exact at5 | exact at6 | exact at7 | exact at8 | exact at9); exact rfl) | (apply r_loadN; exact rfl; exact rfl; exact rfl; exact rfl; (first | exact at0 | exact at1 | exact at2 | exact at3 | exact at4 | exact at5 | exact at6 | exact at7 | exact at8 | exact at9); exact rfl) | (apply r_pickT; exact rfl; exact rfl; exact rfl; exact rfl) | (apply r_lss; exact rfl; exact rfl; exact rfl; exact rfl; all_goals intro hc; all_goals try (exfalso; omega)) | refine JX.thenE ?_ | refine JC.exit ?_ | refine JC.condF rfl ?_ | refine JX.blockE ?_))
    refine r_callA (A := [_, _, _, _, _]) (B := Nh ++ (Ng ++ (Nf ++ (Ne ++ (Na ++ ([])))))) rfl (by first | trivial | exact ⟨rfl, rfl⟩) rfl (by first | rfl | exact ⟨rfl, rfl⟩) rfl (fun w hk hs => c_Transpose w _ ma rta ⟨_, rfl, hOa.rd.at hk hs (by (repeat' first | exact HSub.nil _ | exact HSub.hd | exact HSub.in0 | exact HSub.refl _ | refine HSub.skip ?_ | refine HSub.skipN ?_))⟩) fun w v w' _ _ _ hR => ?_
    obtain ⟨mx, hmx⟩ : ∃ m, m = trZ ma := ⟨_, rfl⟩
    have rtx : RtZ mx := by rw [hmx]; exact zof_rt rta.c rta.r
    have bdx : BdZ 8 mx := by rw [hmx]; exact BdZ.tr bda
    rw [← hmx] at hR
    obtain ⟨Nx, hNx, Ex, rfl, hOx⟩ := hR
    obtain ⟨Ax, cx, rfl⟩ := hOx.form
    refine ⟨Nx, hNx, ?_⟩
    skip
    have cxr : mx.r = ma.c := by rw [hmx]; rfl
    have cxc : mx.c = ma.r := by rw [hmx]; rfl
    refine r_callA (A := [_, _, _, _, _]) (B := Nx ++ (Nh ++ (Ng ++ (Nf ++ (Ne ++ (Na ++ ([]))))))) rfl (by first | trivial | exact ⟨rfl, rfl⟩) rfl (by first | rfl | exact ⟨rfl, rfl⟩) rfl (fun w hk hs => c_Transpose w _ mx rtx ⟨_, rfl, hOx.rd.at hk hs (by (repeat' first | exact HSub.nil _ | exact HSub.hd | exact HSub.in0 | exact HSub.refl _ | refine HSub.skip ?_ | refine HSub.skipN ?_))⟩) fun w v w' _ _ _ hR => ?_
    obtain ⟨my, hmy⟩ : ∃ m, m = trZ mx := ⟨_, rfl⟩
    have rty : RtZ my := by rw [hmy]; exact zof_rt rtx.c rtx.r
    have bdy : BdZ 8 my := by rw [hmy]; exact BdZ.tr bdx
    rw [← hmy] at hR
    obtain ⟨Ny, hNy, Ey, rfl, hOy⟩ := hR
    obtain ⟨Ay, cy, rfl⟩ := hOy.form
    refine ⟨Ny, hNy, ?_⟩
    skip
    have cyr : my.r = mx.c := by rw [hmy]; rfl
    have cyc : my.c = mx.r := by rw [hmy]; rfl
    have eya : my = ma := by rw [hmy, hmx]; exact tr_trZ rta
    refine r_call0 (by first | trivial | exact ⟨rfl, rfl⟩) rfl (by first | rfl | exact ⟨rfl, rfl⟩) rfl (fun w hk hs => c_EqualT w _ _ my rty ⟨_, rfl, hOy.rd.at hk hs (by (repeat' first | exact HSub.nil _ | exact HSub.hd | exact HSub.in0 | exact HSub.refl _ | refine HSub.skip ?_ | refine HSub.skipN ?_))⟩ (by rw [eya]; exact ⟨_, rfl, hOa.rd.at hk hs (by (repeat' first | exact HSub.nil _ | exact HSub.hd | exact HSub.in0 | exact HSub.refl _ | refine HSub.skip ?_ | refine HSub.skipN ?_))⟩)) fun w v w' _ _ _ hR => ?_
    subst hR
    (repeat' (first | (apply r_move; exact rfl; exact rfl; exact rfl) | (apply r_loadN; exact rfl; exact rfl; exact rfl; exact rfl; (first | exact at0 | exact at1 | exact at2 | exact at3 | exact at4 | exact at5 | exact at6 | exact at7 | exact at8 | exact at9); exact rfl) | (apply r_pickT; exact rfl; exact rfl; exact rfl; exact rfl)))
    refine r_callA (A := [_, _, _, _, _]) (B := Ny ++ (Nx ++ (Nh ++ (Ng ++ (Nf ++ (Ne ++ (Na ++ ([])))))))) rfl (by first | trivial | exact ⟨rfl, rfl⟩) rfl (by first | rfl | exact ⟨rfl, rfl⟩) rfl (fun w hk hs => c_Transpose w _ me rte ⟨_, rfl, hOe.rd.at hk hs (by (repeat' first | exact HSub.nil _ | exact HSub.hd | exact HSub.in0 | exact HSub.refl _ | refine HSub.skip ?_ | refine HSub.skipN ?_))⟩) fun w v w' _ _ _ hR => ?_
    obtain ⟨mz, hmz⟩ : ∃ m, m = trZ me := ⟨_, rfl⟩
    have rtz : RtZ mz := by rw [hmz]; exact zof_rt rte.c rte.r
    have bdz : BdZ 17 mz := by rw [hmz]; exact BdZ.tr bde
    rw [← hmz] at hR
    obtain ⟨Nz, hNz, Ez, rfl, hOz⟩ := hR
    obtain ⟨Az, cz, rfl⟩ := hOz.form
    refine ⟨Nz, hNz, ?_⟩
    skip
    have czr : mz.r = me.c := by rw [hmz]; rfl
    have czc : mz.c = me.r := by rw [hmz]; rfl
    have ezf : mz = mf := by rw [hmz, hme, hmf, hmp, hmq]; exact tr_mulZ (by omega)
    refine r_call0 (by first | trivial | exact ⟨rfl, rfl⟩) rfl (by first | rfl | exact ⟨rfl, rfl⟩) rfl (fun w hk hs => c_EqualT w _ _ mz rtz ⟨_, rfl, hOz.rd.at hk hs (by (repeat' first | exact HSub.nil _ | exact HSub.hd | exact HSub.in0 | exact HSub.refl _ | refine HSub.skip ?_ | refine HSub.skipN ?_))⟩ (by rw [ezf]; exact ⟨_, rfl, hOf.rd.at hk hs (by (repeat' first | exact HSub.nil _ | exact HSub.hd | exact HSub.in0 | exact HSub.refl _ | refine HSub.skip ?_ | refine HSub.skipN ?_))⟩)) fun w v w' _ _ _ hR => ?_
    subst hR
    (repeat' (first | (apply r_move; exact rfl; exact rfl; exact rfl) | (apply r_loadN; exact rfl; exact rfl; exact rfl; exact rfl; (first | exact at0 | exact at1 | exact at2 | exact at3 | exact at4 | exact at5 | exact at6 | exact at7 | exact at8 | exact at9); exact rfl) | (apply r_pickT; exact rfl; exact rfl; exact rfl; exact rfl)))
    refine r_callA (A := [_, _, _, _, _]) (B := Nz ++ (Ny ++ (Nx ++ (Nh ++ (Ng ++ (Nf ++ (Ne ++ (Na ++ ([]))))))))) rfl (by first | trivial | exact ⟨rfl, rfl⟩) rfl (by first | rfl | exact ⟨rfl, rfl⟩) rfl (fun w hk hs => c_Transpose w _ mg rtg ⟨_, rfl, hOg.rd.at hk hs (by (repeat' first | exact HSub.nil _ | exact HSub.hd | exact HSub.in0 | exact HSub.refl _ | refine HSub.skip ?_ | refine HSub.skipN ?_))⟩) fun w v w' _ _ _ hR => ?_
    obtain ⟨mt, hmt⟩ : ∃ m, m = trZ mg := ⟨_, rfl⟩
    have rtt : RtZ mt := by rw [hmt]; exact zof_rt rtg.c rtg.r
    have bdt : BdZ 9 mt := by rw [hmt]; exact BdZ.tr bdg
    rw [← hmt] at hR
    obtain ⟨Nt, hNt, Et, rfl, hOt⟩ := hR
    obtain ⟨At, ct, rfl⟩ := hOt.form
    refine ⟨Nt, hNt, ?_⟩
    skip
    have ctr : mt.r = mg.c := by rw [hmt]; rfl
    have ctc : mt.c = mg.r := by rw [hmt]; rfl
    have eth : mt = mh := by rw [hmt, hmg, hmh, hmu, hmv]; exact tr_addZ (by omega) (by omega)
    refine r_call0 (by first | trivial | exact ⟨rfl, rfl⟩) rfl (by first | rfl | exact ⟨rfl, rfl⟩) rfl (fun w hk hs => c_EqualT w _ _ mt rtt ⟨_, rfl, hOt.rd.at hk hs (by (repeat' first | exact HSub.nil _ | exact HSub.hd | exact HSub.in0 | exact HSub.refl _ | refine HSub.skip ?_ | refine HSub.skipN ?_))⟩ (by rw [eth]; exact ⟨_, rfl, hOh.rd.at hk hs (by (repeat' first | exact HSub.nil _ | exact HSub.hd | exact HSub.in0 | exact HSub.refl _ | refine HSub.skip ?_ | refine HSub.skipN ?_))⟩)) fun w v w' _ _ _ hR => ?_
    subst hR
    (repeat' (first | refine JO.nil ?_ | (apply r_assign; exact rfl; exact rfl; exact rfl) | (apply r_pickT; exact rfl; exact rfl; exact rfl; exact rfl)))
    refine JX.thenN ?_
    (repeat' (first | refine JC.ret ?_))
    exact JX.ret1 rfl (fun a w' st => ⟨st.kp, rfl⟩)

end Go.Proofs.YtdlmnloikakjpaaDoor

/-
  LawMatrixTurns: for every input the call of 'cocycle/cocyclelaw02.MatrixTurns' returns true, and every argument reads afterwards as it read before. Conditions: none. The card.
-/
namespace Go.Proofs.YtdlmnloikakjpaaDoor.matrixTurns
open Go Go.RowKit Go.ChangeShapes Go.WideShapes Go.ChangeAt
set_option linter.unusedSimpArgs false
set_option linter.unusedVariables false
set_option linter.unusedSectionVars false

set_option maxRecDepth 100000 in
theorem lifted (os : Os) (started : os.Started) (H : Type) (enc : TypeId × Value → H) :
    ReturnsInHanded {} Tryd.checked os 12 .any (fun w args => (Rows.matrixTurnsSpec.pre enc Tryd.prog Tryd.f12 [] false w args ∧ laidMetH Tryd.prog Rows.matrixTurnsRow.laid w) ∧ sizedMet enc Tryd.prog Tryd.f12 (OpenSpec.ofChange Rows.matrixTurnsSpec) false w args)
      (Rows.matrixTurnsSpec.post enc Tryd.prog Tryd.f12 false true false false) := by
  refine returnsInHanded_of_change_and (C := Tryd.checked) (X := fun w _ => laidMetH Tryd.prog Rows.matrixTurnsRow.laid w) (fun _ _ _ hh h => h.of_heap hh) own started (by kernel_rfl) Tryd.func12
    (ChangeSpec.witness_shaped (enc := enc) (C := Tryd.checked) (os := os) (X := fun w _ => laidMetH Tryd.prog Rows.matrixTurnsRow.laid w) false (World.laidAll Tryd.prog os Rows.matrixTurnsRow.laid) #[.agg #[.int .u8 0, .int .u8 0, .slice none 0 0], .agg #[.int .u8 0, .int .u8 0, .slice none 0 0]] 8 (World.laidAll_os _ _ _)
      (World.shaped_of_ZipB (by kernel_rfl) (by kernel_rfl)) (by kernel_rfl) (by kernel_rfl) (by kernel_rfl)
      (by rw [MakeChecks.laidMetH_plain _ _ _ (by kernel_rfl)]; exact laidMet_laidAll _ (by kernel_rfl) (by kernel_rfl))) ?_
  intro W base args ds gs before hval0 hW _ hwt0 hL _
  have hval : ∀ (j : Nat) t v, Tryd.f12.params[j]? = some t → args[j]? = some v → Value.okWide Tryd.prog W .any base t v := hval0
  have hW' := hW
  obtain ⟨p, q, hA0, hV, rfl, hfz, hnd⟩ := hW
  have hA : DataW.TrodAll enc Tryd.prog W 0 (fun _ => true) true Tryd.f12.params.toList args.toList ds p := hA0
  have hwt : (DataW.weightsEach Tryd.prog (Tryd.f12.params.toList ++ Rows.matrixTurnsSpec.plain.varTypes Tryd.prog) (ds ++ gs)).all (· ≤ reachBytes) = true := hwt0
  have hwt1 := fun n hn => of_decide_eq_true (List.all_eq_true.1 hwt n hn)
  rw [Tryd.params12] at hA hval hwt1
  obtain ⟨v0, vs0, d0, ds0, p0, q0, hargs, rfl, rfl, h0, r0⟩ := trodAll_cons hA
  obtain ⟨v1, vs1, d1, ds1, p1, q1, rfl, rfl, rfl, h1, r1⟩ := trodAll_cons r0
  obtain ⟨rfl, rfl, rfl⟩ := trodAll_nil r1
  obtain rfl : args = #[v0, v1] := by cases args; simp_all
  obtain ⟨rfl, rfl⟩ := trodVars_none hV
  have k0 := h0
  have lt0 : ∀ x ∈ p0, x.block < W.heap.size := by obtain ⟨m, hm⟩ := k0; exact DataW.trod_lt m _ _ _ hm
  obtain ⟨R0, C0, L0, s0⟩ := open_shape (hval 0 24 v0 rfl rfl) h0
  have k1 := h1
  have lt1 : ∀ x ∈ p1, x.block < W.heap.size := by obtain ⟨m, hm⟩ := k1; exact DataW.trod_lt m _ _ _ hm
  obtain ⟨R1, C1, L1, s1⟩ := open_shape (hval 1 24 v1 rfl rfl) h1
  clear hA0 hval0
  refine (c_MatrixTurns W v0 v1 R0 C0 L0 R1 C1 L1 s0 s1).mono fun e W' he => ?_
  cases e with
  | panicked _ => exact he.elim
  | outgrown => exact he.elim
  | returned u =>
    obtain ⟨hk, rfl⟩ := he
    have bel := hk.below
    exact ⟨_, rfl, _, _, _, [], _, [], hW', trodAll_mk1 (shut_bool Tryd.underlying4 _), (trodAll_cons_mk (Below.trod laidOut (by kernel_rfl) (of_decide_eq_true (by kernel_rfl)) k0 bel lt0) (trodAll_cons_mk (Below.trod laidOut (by kernel_rfl) (of_decide_eq_true (by kernel_rfl)) k1 bel lt1) trodAll_mk0)), rfl, bel.frame _, fun h => by cases h⟩

theorem holds : Rows.MatrixTurnsSaid :=
  OpenClaim.holds_of_wide 12 Tryd.f12 rfl rfl rfl rfl rfl rfl rfl ⟨rfl, rfl, rfl, rfl, rfl⟩ rfl rfl rfl rfl rfl (by kernel_rfl) Tryd.func12 (by kernel_rfl)
    (of_decide_eq_true (by kernel_rfl)) (by unfold Func.isWrapper; first | (rw [if_pos (by decide +kernel)]; kernel_rfl) | (rw [if_neg (by decide +kernel)]; exact ⟨rfl, rfl⟩))
    (fun os started H enc _ => lifted os started H enc)

theorem proved : Rows.MatrixTurnsCardSaid :=
  Claim7.holds_tied_plain_at .later [] [.data, .pinned] true (true, "1e720b878859d18141ea40e2dc597df34bde83979d72dc5a8b5bc54d7198a929") false holds (fun _ h => by cases h) (by kernel_rfl) (fun _ h => by cases h) matrixTurns_row_tie rfl ⟨rfl, rfl⟩ (by kernel_rfl) rfl
    (fun f fn hf hfn => by
      obtain rfl : f = 12 := Option.some.inj ((show Tryd.prog.funcNamed "cocycle/cocyclelaw02.MatrixTurns" = some 12 by kernel_rfl).symm.trans hf) |>.symm
      obtain rfl : fn = Tryd.f12 := (Option.some.inj (Tryd.func12.symm.trans hfn)).symm
      exact ⟨by kernel_rfl, fun j t ht => by
        rw [Tryd.params12] at ht
        have hm : t ∈ [24] := by simpa using Array.mem_of_getElem? ht
        have hall : ([24].all fun u => !Tryd.prog.wantsStandIn u) = true := by kernel_rfl
        exact (show Tryd.prog.wantsStandIn t = false by simpa using List.all_eq_true.1 hall t hm)⟩)
    (by kernel_rfl)

end Go.Proofs.YtdlmnloikakjpaaDoor.matrixTurns

