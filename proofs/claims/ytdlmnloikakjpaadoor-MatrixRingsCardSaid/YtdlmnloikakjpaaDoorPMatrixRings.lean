import Derived.Test.YtdlmnloikakjpaaDoorMh
import Derived.Test.YtdlmnloikakjpaaDoorMj
import Derived.Test.YtdlmnloikakjpaaDoorTie
import Derived.Test.YtdlmnloikakjpaaDoorCards
import Derived.Shelf.Lay
import Derived.Lay
import Derived.LaidOnce
import Derived.SevenTiedAt
/- The law MatrixRings. ROWZ -/
namespace Go.Proofs.YtdlmnloikakjpaaDoor
open Go Go.RowKit
set_option linter.unusedSimpArgs false
set_option linter.unusedVariables false
set_option linter.unusedSectionVars false

theorem shc (C : Nat) : C % 7 ≤ 6 := by have := Nat.mod_lt C (show 0 < 7 by omega); omega

set_option maxHeartbeats 16000000 in
theorem c_MatrixRings (w : World) (v0 v1 v2 : Value) (R0 C0 : Nat) (L0 : List Int) (R1 C1 : Nat) (L1 : List Int) (R2 C2 : Nat) (L2 : List Int) (hv0 : IsS w v0 R0 C0 L0) (hv1 : IsS w v1 R1 C1 L1) (hv2 : IsS w v2 R2 C2 L2) :
    Calls Tryd.prog 10 #[v0, v1, v2] w (Ret fun v w' => Kp [] w w' ∧ v = .bool true) := by
  have hs0 := hv0
  have hc0 := shc C0
  have hr0 := shc R0
  have hL0 := hv0.2.2.1
  obtain ⟨_, _, _, E0, rfl, _⟩ := hv0
  have hs1 := hv1
  have hc1 := shc C1
  have hr1 := shc R1
  have hL1 := hv1.2.2.1
  obtain ⟨_, _, _, E1, rfl, _⟩ := hv1
  have hs2 := hv2
  have hc2 := shc C2
  have hr2 := shc R2
  have hL2 := hv2.2.2.1
  obtain ⟨_, _, _, E2, rfl, _⟩ := hv2
  refine calls_of_S [⟨15, 2, [0, 1, 3, 2, 4, 5, 6, 7, 8, 9, 10], []⟩, ⟨16, 2, [], []⟩] [] (by simp) [] Tryd.func10 rfl mixed (by kernel_rfl) Tryd.ntmps10 Tryd.results10 rfl ⟨by simp, by simp⟩ (by simp) ?_
  simp only [toS, textOps, toSOp, kindAt, kindOf, odAt, sopsAt, ordOf, zipF]
  (repeat' (first | refine JC.seq ?_ | refine JC.ops ?_ | refine JO.nil ?_ | (apply r_assign; exact rfl; exact rfl; exact rfl) | (apply r_boxA; exact rfl; exact rfl; exact rfl; exact rfl; intro _)))
  rename_i bs0 bs1 bs2
  refine JX.thenN ?_
  (repeat' (first | refine JC.seq ?_ | refine JC.ops ?_))
  refine r_call0 trivial rfl rfl rfl (fun w _ _ => c_sanity w) fun w v w' _ _ _ hR => ?_
  subst hR
  (repeat' (first | refine JO.nil ?_ | (apply r_assign; exact rfl; exact rfl; exact rfl)))
  refine JX.part (F' := [(7, .bool true), (5, .pointer (some ⟨bs2, 0, none⟩)), (4, .pointer (some ⟨bs1, 0, none⟩)), (3, .pointer (some ⟨bs0, 0, none⟩))]) (H' := [(bs2, .cells #[.int .u8 (R2 : Int), .int .u8 (C2 : Int), E2] 24), (bs1, .cells #[.int .u8 (R1 : Int), .int .u8 (C1 : Int), E1] 24), (bs0, .cells #[.int .u8 (R0 : Int), .int .u8 (C0 : Int), E0] 24)] ++ ([])) (by repeat first | exact trivial | refine ⟨rfl, ?_⟩) (by (repeat' first | exact HSub.refl _ | exact HSub.nil _ | refine HSub.at 0 rfl ?_ | refine HSub.at 1 rfl ?_ | refine HSub.at 2 rfl ?_ | refine HSub.at 3 rfl ?_ | refine HSub.at 4 rfl ?_ | refine HSub.at 5 rfl ?_ | refine HSub.at 6 rfl ?_ | refine HSub.at 7 rfl ?_ | refine HSub.at 8 rfl ?_ | refine HSub.at 9 rfl ?_ | refine HSub.at 10 rfl ?_ | refine HSub.at 11 rfl ?_ | refine HSub.at 12 rfl ?_ | refine HSub.at 13 rfl ?_ | refine HSub.at 14 rfl ?_ | refine HSub.at 15 rfl ?_ | refine HSub.at 16 rfl ?_ | refine HSub.at 17 rfl ?_ | refine HSub.at 18 rfl ?_ | refine HSub.at 19 rfl ?_ | refine HSub.segH ?_ | refine HSub.skip ?_ | refine HSub.skipN ?_)) ?_
  refine JX.thenN ?_
  (repeat' (first | refine JC.seq ?_ | refine JC.ops ?_ | (apply r_loadN; exact rfl; exact rfl; exact rfl; exact rfl; (first | exact at0 | exact at1 | exact at2 | exact at3 | exact at4 | exact at5 | exact at6 | exact at7 | exact at8 | exact at9); exact rfl)))
  refine r_callA (A := [_, _, _]) (B := []) rfl (by first | trivial | exact ⟨rfl, rfl⟩) rfl rfl rfl (fun w hk hs => c_Mat w _ R0 C0 L0 (hs0.mono hk)) fun w v w' _ _ _ hR => ?_
  obtain ⟨ma, hma⟩ : ∃ m, m = shMat R0 C0 L0 := ⟨_, rfl⟩
  have rta : RtZ ma := by rw [hma]; exact RtZ.shMat _ _ _
  have bda : BdZ 8 ma := by rw [hma]; exact BdZ.sh hL0 _ _
  rw [← hma] at hR
  obtain ⟨Na, hNa, Ea, rfl, hOa⟩ := hR
  obtain ⟨Aa, ca, rfl⟩ := hOa.form
  refine ⟨Na, hNa, ?_⟩
  (repeat' (first | refine JO.nil ?_ | (apply r_storeN; exact rfl; (first | exact trivial | exact ⟨rfl, rfl⟩); exact rfl; exact rfl; (first | exact at0 | exact at1 | exact at2 | exact at3 | exact at4 | exact at5 | exact at6 | exact at7 | exact at8 | exact at9); exact rfl; exact rfl; exact rfl) | (apply r_allocZ; exact rfl; exact rfl; exact rfl; intro _) | (apply r_storeN; exact rfl; (first | exact trivial | exact ⟨rfl, rfl⟩); exact rfl; exact rfl; (first | exact at0 | exact at1 | exact at2 | exact at3 | exact at4 | exact at5 | exact at6 | exact at7 | exact at8 | exact at9); exact rfl; exact rfl; exact rfl)))
  rename_i ba
  refine JX.part (F' := [(8, .pointer (some ⟨ba, 0, none⟩)), (7, .bool true), (5, .pointer (some ⟨bs2, 0, none⟩)), (4, .pointer (some ⟨bs1, 0, none⟩))]) (H' := [(ba, .cells #[nv ma.r, nv ma.c, .slice Aa ma.e.length ca] 29), (bs2, .cells #[.int .u8 (R2 : Int), .int .u8 (C2 : Int), E2] 24), (bs1, .cells #[.int .u8 (R1 : Int), .int .u8 (C1 : Int), E1] 24)] ++ (Na ++ ([]))) (by repeat first | exact trivial | refine ⟨rfl, ?_⟩) (by (repeat' first | exact HSub.refl _ | exact HSub.nil _ | refine HSub.at 0 rfl ?_ | refine HSub.at 1 rfl ?_ | refine HSub.at 2 rfl ?_ | refine HSub.at 3 rfl ?_ | refine HSub.at 4 rfl ?_ | refine HSub.at 5 rfl ?_ | refine HSub.at 6 rfl ?_ | refine HSub.at 7 rfl ?_ | refine HSub.at 8 rfl ?_ | refine HSub.at 9 rfl ?_ | refine HSub.at 10 rfl ?_ | refine HSub.at 11 rfl ?_ | refine HSub.at 12 rfl ?_ | refine HSub.at 13 rfl ?_ | refine HSub.at 14 rfl ?_ | refine HSub.at 15 rfl ?_ | refine HSub.at 16 rfl ?_ | refine HSub.at 17 rfl ?_ | refine HSub.at 18 rfl ?_ | refine HSub.at 19 rfl ?_ | refine HSub.segH ?_ | refine HSub.skip ?_ | refine HSub.skipN ?_)) ?_
  refine JX.thenN ?_
  (repeat' (first | refine JC.seq ?_ | refine JC.ops ?_ | (apply r_fieldAddr; exact rfl; exact rfl; exact rfl) | (apply r_load; exact rfl; exact rfl; exact rfl; exact rfl; (first | exact at0 | exact at1 | exact at2 | exact at3 | exact at4 | exact at5 | exact at6 | exact at7 | exact at8 | exact at9); exact rfl) | (apply r_loadN; exact rfl; exact rfl; exact rfl; exact rfl; (first | exact at0 | exact at1 | exact at2 | exact at3 | exact at4 | exact at5 | exact at6 | exact at7 | exact at8 | exact at9); exact rfl)))
  have car : ma.r ≤ 6 := by rw [hma]; exact hr0
  have cac : ma.c ≤ 6 := by rw [hma]; exact hc0
  refine r_modK (i := C1) 7 rfl rfl rfl rfl (by omega) ?_
  (repeat' (first | (apply r_convN; exact rfl; exact rfl; exact rfl; omega)))
  refine r_callA (A := [_, _, _]) (B := Na ++ ([])) rfl (by first | trivial | exact ⟨rfl, rfl⟩) rfl rfl rfl (fun w hk hs => c_With w _ R1 C1 (ma.c) (C1 % 7) L1 (hs1.mono hk) (by omega) (by omega)) fun w v w' _ _ _ hR => ?_
  obtain ⟨mb, hmb⟩ : ∃ m, m = shZ L1 (ma.c) (C1 % 7) := ⟨_, rfl⟩
  have rtb : RtZ mb := by rw [hmb]; exact RtZ.sh _ (by omega) (by omega)
  have bdb : BdZ 8 mb := by rw [hmb]; exact BdZ.sh hL1 _ _
  rw [← hmb] at hR
  obtain ⟨Nb, hNb, Eb, rfl, hOb⟩ := hR
  obtain ⟨Ab, cb, rfl⟩ := hOb.form
  refine ⟨Nb, hNb, ?_⟩
  (repeat' (first | refine JO.nil ?_ | (apply r_storeN; exact rfl; (first | exact trivial | exact ⟨rfl, rfl⟩); exact rfl; exact rfl; (first | exact at0 | exact at1 | exact at2 | exact at3 | exact at4 | exact at5 | exact at6 | exact at7 | exact at8 | exact at9); exact rfl; exact rfl; exact rfl) | (apply r_allocZ; exact rfl; exact rfl; exact rfl; intro _) | (apply r_storeN; exact rfl; (first | exact trivial | exact ⟨rfl, rfl⟩); exact rfl; exact rfl; (first | exact at0 | exact at1 | exact at2 | exact at3 | exact at4 | exact at5 | exact at6 | exact at7 | exact at8 | exact at9); exact rfl; exact rfl; exact rfl)))
  rename_i bb
  refine JX.part (F' := [(9, .pointer (some ⟨bb, 0, none⟩)), (8, .pointer (some ⟨ba, 0, none⟩)), (7, .bool true), (5, .pointer (some ⟨bs2, 0, none⟩))]) (H' := [(bb, .cells #[nv mb.r, nv mb.c, .slice Ab mb.e.length cb] 29), (ba, .cells #[nv ma.r, nv ma.c, .slice Aa ma.e.length ca] 29), (bs2, .cells #[.int .u8 (R2 : Int), .int .u8 (C2 : Int), E2] 24)] ++ (Nb ++ (Na ++ ([])))) (by repeat first | exact trivial | refine ⟨rfl, ?_⟩) (by (repeat' first | exact HSub.refl _ | exact HSub.nil _ | refine HSub.at 0 rfl ?_ | refine HSub.at 1 rfl ?_ | refine HSub.at 2 rfl ?_ | refine HSub.at 3 rfl ?_ | refine HSub.at 4 rfl ?_ | refine HSub.at 5 rfl ?_ | refine HSub.at 6 rfl ?_ | refine HSub.at 7 rfl ?_ | refine HSub.at 8 rfl ?_ | refine HSub.at 9 rfl ?_ | refine HSub.at 10 rfl ?_ | refine HSub.at 11 rfl ?_ | refine HSub.at 12 rfl ?_ | refine HSub.at 13 rfl ?_ | refine HSub.at 14 rfl ?_ | refine HSub.at 15 rfl ?_ | refine HSub.at 16 rfl ?_ | refine HSub.at 17 rfl ?_ | refine HSub.at 18 rfl ?_ | refine HSub.at 19 rfl ?_ | refine HSub.segH ?_ | refine HSub.skip ?_ | refine HSub.skipN ?_)) ?_
  refine JX.thenN ?_
  (repeat' (first | refine JC.seq ?_ | refine JC.ops ?_ | (apply r_fieldAddr; exact rfl; exact rfl; exact rfl) | (apply r_load; exact rfl; exact rfl; exact rfl; exact rfl; (first | exact at0 | exact at1 | exact at2 | exact at3 | exact at4 | exact at5 | exact at6 | exact at7 | exact at8 | exact at9); exact rfl) | (apply r_loadN; exact rfl; exact rfl; exact rfl; exact rfl; (first | exact at0 | exact at1 | exact at2 | exact at3 | exact at4 | exact at5 | exact at6 | exact at7 | exact at8 | exact at9); exact rfl)))
  have cbr : mb.r = ma.c := by rw [hmb]; rfl
  have cbc : mb.c = C1 % 7 := by rw [hmb]; rfl
  refine r_modK (i := C2) 7 rfl rfl rfl rfl (by omega) ?_
  (repeat' (first | (apply r_convN; exact rfl; exact rfl; exact rfl; omega)))
  refine r_callA (A := [_, _, _]) (B := Nb ++ (Na ++ ([]))) rfl (by first | trivial | exact ⟨rfl, rfl⟩) rfl rfl rfl (fun w hk hs => c_With w _ R2 C2 (mb.c) (C2 % 7) L2 (hs2.mono hk) (by omega) (by omega)) fun w v w' _ _ _ hR => ?_
  obtain ⟨mc, hmc⟩ : ∃ m, m = shZ L2 (mb.c) (C2 % 7) := ⟨_, rfl⟩
  have rtc : RtZ mc := by rw [hmc]; exact RtZ.sh _ (by omega) (by omega)
  have bdc : BdZ 8 mc := by rw [hmc]; exact BdZ.sh hL2 _ _
  rw [← hmc] at hR
  obtain ⟨Nc, hNc, Ec, rfl, hOc⟩ := hR
  obtain ⟨Ac, cc, rfl⟩ := hOc.form
  refine ⟨Nc, hNc, ?_⟩
  (repeat' (first | refine JO.nil ?_ | (apply r_storeN; exact rfl; (first | exact trivial | exact ⟨rfl, rfl⟩); exact rfl; exact rfl; (first | exact at0 | exact at1 | exact at2 | exact at3 | exact at4 | exact at5 | exact at6 | exact at7 | exact at8 | exact at9); exact rfl; exact rfl; exact rfl) | (apply r_allocZ; exact rfl; exact rfl; exact rfl; intro _) | (apply r_storeN; exact rfl; (first | exact trivial | exact ⟨rfl, rfl⟩); exact rfl; exact rfl; (first | exact at0 | exact at1 | exact at2 | exact at3 | exact at4 | exact at5 | exact at6 | exact at7 | exact at8 | exact at9); exact rfl; exact rfl; exact rfl)))
  rename_i bc
  refine JX.part (F' := [(10, .pointer (some ⟨bc, 0, none⟩)), (9, .pointer (some ⟨bb, 0, none⟩)), (8, .pointer (some ⟨ba, 0, none⟩)), (7, .bool true), (5, .pointer (some ⟨bs2, 0, none⟩))]) (H' := [(bc, .cells #[nv mc.r, nv mc.c, .slice Ac mc.e.length cc] 29), (bb, .cells #[nv mb.r, nv mb.c, .slice Ab mb.e.length cb] 29), (ba, .cells #[nv ma.r, nv ma.c, .slice Aa ma.e.length ca] 29), (bs2, .cells #[.int .u8 (R2 : Int), .int .u8 (C2 : Int), E2] 24)] ++ (Nc ++ (Nb ++ (Na ++ ([]))))) (by repeat first | exact trivial | refine ⟨rfl, ?_⟩) (by (repeat' first | exact HSub.refl _ | exact HSub.nil _ | refine HSub.at 0 rfl ?_ | refine HSub.at 1 rfl ?_ | refine HSub.at 2 rfl ?_ | refine HSub.at 3 rfl ?_ | refine HSub.at 4 rfl ?_ | refine HSub.at 5 rfl ?_ | refine HSub.at 6 rfl ?_ | refine HSub.at 7 rfl ?_ | refine HSub.at 8 rfl ?_ | refine HSub.at 9 rfl ?_ | refine HSub.at 10 rfl ?_ | refine HSub.at 11 rfl ?_ | refine HSub.at 12 rfl ?_ | refine HSub.at 13 rfl ?_ | refine HSub.at 14 rfl ?_ | refine HSub.at 15 rfl ?_ | refine HSub.at 16 rfl ?_ | refine HSub.at 17 rfl ?_ | refine HSub.at 18 rfl ?_ | refine HSub.at 19 rfl ?_ | refine HSub.segH ?_ | refine HSub.skip ?_ | refine HSub.skipN ?_)) ?_
  refine JX.thenN ?_
  (repeat' (first | refine JC.seq ?_ | refine JC.ops ?_ | (apply r_fieldAddr; exact rfl; exact rfl; exact rfl) | (apply r_load; exact rfl; exact rfl; exact rfl; exact rfl; (first | exact at0 | exact at1 | exact at2 | exact at3 | exact at4 | exact at5 | exact at6 | exact at7 | exact at8 | exact at9); exact rfl) | (apply r_loadN; exact rfl; exact rfl; exact rfl; exact rfl; (first | exact at0 | exact at1 | exact at2 | exact at3 | exact at4 | exact at5 | exact at6 | exact at7 | exact at8 | exact at9); exact rfl)))
  have ccr : mc.r = mb.c := by rw [hmc]; rfl
  have ccc : mc.c = C2 % 7 := by rw [hmc]; rfl
  refine r_callA (A := [_, _, _, _]) (B := Nc ++ (Nb ++ (Na ++ ([])))) rfl (by first | trivial | exact ⟨rfl, rfl⟩) rfl rfl rfl (fun w hk hs => c_With w _ R2 C2 (ma.c) (mb.c) L2 (hs2.mono hk) (by omega) (by omega)) fun w v w' _ _ _ hR => ?_
  obtain ⟨md, hmd⟩ : ∃ m, m = shZ L2 (ma.c) (mb.c) := ⟨_, rfl⟩
  have rtd : RtZ md := by rw [hmd]; exact RtZ.sh _ (by omega) (by omega)
  have bdd : BdZ 8 md := by rw [hmd]; exact BdZ.sh hL2 _ _
  rw [← hmd] at hR
  obtain ⟨Nd, hNd, Ed, rfl, hOd⟩ := hR
  obtain ⟨Ad, cd, rfl⟩ := hOd.form
  refine ⟨Nd, hNd, ?_⟩
  (repeat' (first | refine JO.nil ?_ | (apply r_storeN; exact rfl; (first | exact trivial | exact ⟨rfl, rfl⟩); exact rfl; exact rfl; (first | exact at0 | exact at1 | exact at2 | exact at3 | exact at4 | exact at5 | exact at6 | exact at7 | exact at8 | exact at9); exact rfl; exact rfl; exact rfl) | (apply r_allocZ; exact rfl; exact rfl; exact rfl; intro _) | (apply r_storeN; exact rfl; (first | exact trivial | exact ⟨rfl, rfl⟩); exact rfl; exact rfl; (first | exact at0 | exact at1 | exact at2 | exact at3 | exact at4 | exact at5 | exact at6 | exact at7 | exact at8 | exact at9); exact rfl; exact rfl; exact rfl)))
  rename_i bd
  refine JX.part (F' := [(11, .pointer (some ⟨bd, 0, none⟩)), (10, .pointer (some ⟨bc, 0, none⟩)), (9, .pointer (some ⟨bb, 0, none⟩)), (8, .pointer (some ⟨ba, 0, none⟩)), (7, .bool true)]) (H' := [(bd, .cells #[nv md.r, nv md.c, .slice Ad md.e.length cd] 29), (bc, .cells #[nv mc.r, nv mc.c, .slice Ac mc.e.length cc] 29), (bb, .cells #[nv mb.r, nv mb.c, .slice Ab mb.e.length cb] 29), (ba, .cells #[nv ma.r, nv ma.c, .slice Aa ma.e.length ca] 29)] ++ (Nd ++ (Nc ++ (Nb ++ (Na ++ ([])))))) (by repeat first | exact trivial | refine ⟨rfl, ?_⟩) (by (repeat' first | exact HSub.refl _ | exact HSub.nil _ | refine HSub.at 0 rfl ?_ | refine HSub.at 1 rfl ?_ | refine HSub.at 2 rfl ?_ | refine HSub.at 3 rfl ?_ | refine HSub.at 4 rfl ?_ | refine HSub.at 5 rfl ?_ | refine HSub.at 6 rfl ?_ | refine HSub.at 7 rfl ?_ | refine HSub.at 8 rfl ?_ | refine HSub.at 9 rfl ?_ | refine HSub.at 10 rfl ?_ | refine HSub.at 11 rfl ?_ | refine HSub.at 12 rfl ?_ | refine HSub.at 13 rfl ?_ | refine HSub.at 14 rfl ?_ | refine HSub.at 15 rfl ?_ | refine HSub.at 16 rfl ?_ | refine HSub.at 17 rfl ?_ | refine HSub.at 18 rfl ?_ | refine HSub.at 19 rfl ?_ | refine HSub.segH ?_ | refine HSub.skip ?_ | refine HSub.skipN ?_)) ?_
  refine JX.thenN ?_
  (repeat' (first | refine JC.seq ?_ | refine JC.ops ?_ | (apply r_loadN; exact rfl; exact rfl; exact rfl; exact rfl; (first | exact at0 | exact at1 | exact at2 | exact at3 | exact at4 | exact at5 | exact at6 | exact at7 | exact at8 | exact at9); exact rfl)))
  have cdr : md.r = ma.c := by rw [hmd]; rfl
  have cdc : md.c = mb.c := by rw [hmd]; rfl
  refine r_callA (A := [_, _, _, _]) (B := Nd ++ (Nc ++ (Nb ++ (Na ++ ([]))))) rfl (by first | trivial | exact ⟨rfl, rfl⟩) rfl rfl rfl (fun w hk hs => c_MMul 8 8 w _ _ ma mb rta rtb (by omega) (by omega) bda bdb ⟨_, rfl, hOa.rd.at hk hs (by (repeat' first | exact HSub.nil _ | exact HSub.hd | exact HSub.in0 | exact HSub.refl _ | refine HSub.skip ?_ | refine HSub.skipN ?_))⟩ ⟨_, rfl, hOb.rd.at hk hs (by (repeat' first | exact HSub.nil _ | exact HSub.hd | exact HSub.in0 | exact HSub.refl _ | refine HSub.skip ?_ | refine HSub.skipN ?_))⟩) fun w v w' _ _ _ hR => ?_
  obtain ⟨me, hme⟩ : ∃ m, m = mulZ ma mb := ⟨_, rfl⟩
  have rte : RtZ me := by rw [hme]; exact zof_rt rta.r rtb.c
  have bde : BdZ 17 me := by rw [hme]; exact (BdZ.mul rta.c bda bdb).mono (by decide)
  rw [← hme] at hR
  obtain ⟨Ne, ue, rfl, hNe, Ee, rfl, hOe⟩ := hR
  obtain ⟨Ae, ce, rfl⟩ := hOe.form
  refine ⟨Ne, hNe, ?_⟩
  (repeat' (first | refine JO.nil ?_ | (apply r_move; exact rfl; exact rfl; exact rfl) | (apply r_assign; exact rfl; exact rfl; exact rfl) | (apply r_extract; exact rfl; exact rfl; exact rfl; exact rfl) | (apply r_storeN; exact rfl; (first | exact trivial | exact ⟨rfl, rfl⟩); exact rfl; exact rfl; (first | exact at0 | exact at1 | exact at2 | exact at3 | exact at4 | exact at5 | exact at6 | exact at7 | exact at8 | exact at9); exact rfl; exact rfl; exact rfl) | (apply r_allocZ; exact rfl; exact rfl; exact rfl; intro _) | (apply r_storeN; exact rfl; (first | exact trivial | exact ⟨rfl, rfl⟩); exact rfl; exact rfl; (first | exact at0 | exact at1 | exact at2 | exact at3 | exact at4 | exact at5 | exact at6 | exact at7 | exact at8 | exact at9); exact rfl; exact rfl; exact rfl)))
  rename_i be
  refine JX.part (F' := [(13, .bool true), (12, .pointer (some ⟨be, 0, none⟩)), (11, .pointer (some ⟨bd, 0, none⟩)), (10, .pointer (some ⟨bc, 0, none⟩)), (9, .pointer (some ⟨bb, 0, none⟩)), (8, .pointer (some ⟨ba, 0, none⟩)), (7, .bool true)]) (H' := [(be, .cells #[nv me.r, nv me.c, .slice Ae me.e.length ce] 29), (bd, .cells #[nv md.r, nv md.c, .slice Ad md.e.length cd] 29), (bc, .cells #[nv mc.r, nv mc.c, .slice Ac mc.e.length cc] 29), (bb, .cells #[nv mb.r, nv mb.c, .slice Ab mb.e.length cb] 29), (ba, .cells #[nv ma.r, nv ma.c, .slice Aa ma.e.length ca] 29)] ++ (Ne ++ (Nd ++ (Nc ++ (Nb ++ (Na ++ ([]))))))) (by repeat first | exact trivial | refine ⟨rfl, ?_⟩) (by (repeat' first | exact HSub.refl _ | exact HSub.nil _ | refine HSub.at 0 rfl ?_ | refine HSub.at 1 rfl ?_ | refine HSub.at 2 rfl ?_ | refine HSub.at 3 rfl ?_ | refine HSub.at 4 rfl ?_ | refine HSub.at 5 rfl ?_ | refine HSub.at 6 rfl ?_ | refine HSub.at 7 rfl ?_ | refine HSub.at 8 rfl ?_ | refine HSub.at 9 rfl ?_ | refine HSub.at 10 rfl ?_ | refine HSub.at 11 rfl ?_ | refine HSub.at 12 rfl ?_ | refine HSub.at 13 rfl ?_ | refine HSub.at 14 rfl ?_ | refine HSub.at 15 rfl ?_ | refine HSub.at 16 rfl ?_ | refine HSub.at 17 rfl ?_ | refine HSub.at 18 rfl ?_ | refine HSub.at 19 rfl ?_ | refine HSub.segH ?_ | refine HSub.skip ?_ | refine HSub.skipN ?_)) ?_
  refine JX.thenN ?_
  (repeat' (first | refine JC.seq ?_ | refine JC.ops ?_ | (apply r_loadN; exact rfl; exact rfl; exact rfl; exact rfl; (first | exact at0 | exact at1 | exact at2 | exact at3 | exact at4 | exact at5 | exact at6 | exact at7 | exact at8 | exact at9); exact rfl)))
  have cer : me.r = ma.r := by rw [hme]; rfl
  have cec : me.c = mb.c := by rw [hme]; rfl
  refine r_callA (A := [_, _, _, _, _]) (B := Ne ++ (Nd ++ (Nc ++ (Nb ++ (Na ++ ([])))))) rfl (by first | trivial | exact ⟨rfl, rfl⟩) rfl rfl rfl (fun w hk hs => c_MMul 8 8 w _ _ mb mc rtb rtc (by omega) (by omega) bdb bdc ⟨_, rfl, hOb.rd.at hk hs (by (repeat' first | exact HSub.nil _ | exact HSub.hd | exact HSub.in0 | exact HSub.refl _ | refine HSub.skip ?_ | refine HSub.skipN ?_))⟩ ⟨_, rfl, hOc.rd.at hk hs (by (repeat' first | exact HSub.nil _ | exact HSub.hd | exact HSub.in0 | exact HSub.refl _ | refine HSub.skip ?_ | refine HSub.skipN ?_))⟩) fun w v w' _ _ _ hR => ?_
  obtain ⟨mf, hmf⟩ : ∃ m, m = mulZ mb mc := ⟨_, rfl⟩
  have rtf : RtZ mf := by rw [hmf]; exact zof_rt rtb.r rtc.c
  have bdf : BdZ 17 mf := by rw [hmf]; exact (BdZ.mul rtb.c bdb bdc).mono (by decide)
  rw [← hmf] at hR
  obtain ⟨Nf, uf, rfl, hNf, Ef, rfl, hOf⟩ := hR
  obtain ⟨Af, cf, rfl⟩ := hOf.form
  refine ⟨Nf, hNf, ?_⟩
  (repeat' (first | refine JO.nil ?_ | (apply r_move; exact rfl; exact rfl; exact rfl) | (apply r_assign; exact rfl; exact rfl; exact rfl) | (apply r_extract; exact rfl; exact rfl; exact rfl; exact rfl) | (apply r_storeN; exact rfl; (first | exact trivial | exact ⟨rfl, rfl⟩); exact rfl; exact rfl; (first | exact at0 | exact at1 | exact at2 | exact at3 | exact at4 | exact at5 | exact at6 | exact at7 | exact at8 | exact at9); exact rfl; exact rfl; exact rfl) | (apply r_allocZ; exact rfl; exact rfl; exact rfl; intro _) | (apply r_storeN; exact rfl; (first | exact trivial | exact ⟨rfl, rfl⟩); exact rfl; exact rfl; (first | exact at0 | exact at1 | exact at2 | exact at3 | exact at4 | exact at5 | exact at6 | exact at7 | exact at8 | exact at9); exact rfl; exact rfl; exact rfl)))
  rename_i bf
  refine JX.part (F' := [(15, .bool true), (14, .pointer (some ⟨bf, 0, none⟩)), (13, .bool true), (12, .pointer (some ⟨be, 0, none⟩)), (11, .pointer (some ⟨bd, 0, none⟩)), (10, .pointer (some ⟨bc, 0, none⟩)), (9, .pointer (some ⟨bb, 0, none⟩)), (8, .pointer (some ⟨ba, 0, none⟩)), (7, .bool true)]) (H' := [(bf, .cells #[nv mf.r, nv mf.c, .slice Af mf.e.length cf] 29), (be, .cells #[nv me.r, nv me.c, .slice Ae me.e.length ce] 29), (bd, .cells #[nv md.r, nv md.c, .slice Ad md.e.length cd] 29), (bc, .cells #[nv mc.r, nv mc.c, .slice Ac mc.e.length cc] 29), (bb, .cells #[nv mb.r, nv mb.c, .slice Ab mb.e.length cb] 29), (ba, .cells #[nv ma.r, nv ma.c, .slice Aa ma.e.length ca] 29)] ++ (Nf ++ (Ne ++ (Nd ++ (Nc ++ (Nb ++ (Na ++ ([])))))))) (by repeat first | exact trivial | refine ⟨rfl, ?_⟩) (by (repeat' first | exact HSub.refl _ | exact HSub.nil _ | refine HSub.at 0 rfl ?_ | refine HSub.at 1 rfl ?_ | refine HSub.at 2 rfl ?_ | refine HSub.at 3 rfl ?_ | refine HSub.at 4 rfl ?_ | refine HSub.at 5 rfl ?_ | refine HSub.at 6 rfl ?_ | refine HSub.at 7 rfl ?_ | refine HSub.at 8 rfl ?_ | refine HSub.at 9 rfl ?_ | refine HSub.at 10 rfl ?_ | refine HSub.at 11 rfl ?_ | refine HSub.at 12 rfl ?_ | refine HSub.at 13 rfl ?_ | refine HSub.at 14 rfl ?_ | refine HSub.at 15 rfl ?_ | refine HSub.at 16 rfl ?_ | refine HSub.at 17 rfl ?_ | refine HSub.at 18 rfl ?_ | refine HSub.at 19 rfl ?_ | refine HSub.segH ?_ | refine HSub.skip ?_ | refine HSub.skipN ?_)) ?_
  refine JX.thenN ?_
  (repeat' (first | refine JC.seq ?_ | refine JC.ops ?_ | (apply r_loadN; exact rfl; exact rfl; exact rfl; exact rfl; (first | exact at0 | exact at1 | exact at2 | exact at3 | exact at4 | exact at5 | exact at6 | exact at7 | exact at8 | exact at9); exact rfl)))
  have cfr : mf.r = mb.r := by rw [hmf]; rfl
  have cfc : mf.c = mc.c := by rw [hmf]; rfl
  refine r_callA (A := [_, _, _, _, _, _]) (B := Nf ++ (Ne ++ (Nd ++ (Nc ++ (Nb ++ (Na ++ ([]))))))) rfl (by first | trivial | exact ⟨rfl, rfl⟩) rfl rfl rfl (fun w hk hs => c_MMul 17 8 w _ _ me mc rte rtc (by omega) (by omega) bde bdc ⟨_, rfl, hOe.rd.at hk hs (by (repeat' first | exact HSub.nil _ | exact HSub.hd | exact HSub.in0 | exact HSub.refl _ | refine HSub.skip ?_ | refine HSub.skipN ?_))⟩ ⟨_, rfl, hOc.rd.at hk hs (by (repeat' first | exact HSub.nil _ | exact HSub.hd | exact HSub.in0 | exact HSub.refl _ | refine HSub.skip ?_ | refine HSub.skipN ?_))⟩) fun w v w' _ _ _ hR => ?_
  obtain ⟨ml, hml⟩ : ∃ m, m = mulZ me mc := ⟨_, rfl⟩
  have rtl : RtZ ml := by rw [hml]; exact zof_rt rte.r rtc.c
  have bdl : BdZ 26 ml := by rw [hml]; exact (BdZ.mul rte.c bde bdc).mono (by decide)
  rw [← hml] at hR
  obtain ⟨Nl, ul, rfl, hNl, El, rfl, hOl⟩ := hR
  obtain ⟨Al, cl, rfl⟩ := hOl.form
  refine ⟨Nl, hNl, ?_⟩
  (repeat' (first | refine JO.nil ?_ | (apply r_move; exact rfl; exact rfl; exact rfl) | (apply r_assign; exact rfl; exact rfl; exact rfl) | (apply r_extract; exact rfl; exact rfl; exact rfl; exact rfl) | (apply r_storeN; exact rfl; (first | exact trivial | exact ⟨rfl, rfl⟩); exact rfl; exact rfl; (first | exact at0 | exact at1 | exact at2 | exact at3 | exact at4 | exact at5 | exact at6 | exact at7 | exact at8 | exact at9); exact rfl; exact rfl; exact rfl) | (apply r_allocZ; exact rfl; exact rfl; exact rfl; intro _) | (apply r_storeN; exact rfl; (first | exact trivial | exact ⟨rfl, rfl⟩); exact rfl; exact rfl; (first | exact at0 | exact at1 | exact at2 | exact at3 | exact at4 | exact at5 | exact at6 | exact at7 | exact at8 | exact at9); exact rfl; exact rfl; exact rfl)))
  rename_i bl
  refine JX.part (F' := [(17, .bool true), (16, .pointer (some ⟨bl, 0, none⟩)), (15, .bool true), (14, .pointer (some ⟨bf, 0, none⟩)), (13, .bool true), (12, .pointer (some ⟨be, 0, none⟩)), (11, .pointer (some ⟨bd, 0, none⟩)), (9, .pointer (some ⟨bb, 0, none⟩)), (8, .pointer (some ⟨ba, 0, none⟩)), (7, .bool true)]) (H' := [(bl, .cells #[nv ml.r, nv ml.c, .slice Al ml.e.length cl] 29), (bf, .cells #[nv mf.r, nv mf.c, .slice Af mf.e.length cf] 29), (be, .cells #[nv me.r, nv me.c, .slice Ae me.e.length ce] 29), (bd, .cells #[nv md.r, nv md.c, .slice Ad md.e.length cd] 29), (bb, .cells #[nv mb.r, nv mb.c, .slice Ab mb.e.length cb] 29), (ba, .cells #[nv ma.r, nv ma.c, .slice Aa ma.e.length ca] 29)] ++ (Nl ++ (Nf ++ (Ne ++ (Nd ++ (Nb ++ (Na ++ ([])))))))) (by repeat first | exact trivial | refine ⟨rfl, ?_⟩) (by (repeat' first | exact HSub.refl _ | exact HSub.nil _ | refine HSub.at 0 rfl ?_ | refine HSub.at 1 rfl ?_ | refine HSub.at 2 rfl ?_ | refine HSub.at 3 rfl ?_ | refine HSub.at 4 rfl ?_ | refine HSub.at 5 rfl ?_ | refine HSub.at 6 rfl ?_ | refine HSub.at 7 rfl ?_ | refine HSub.at 8 rfl ?_ | refine HSub.at 9 rfl ?_ | refine HSub.at 10 rfl ?_ | refine HSub.at 11 rfl ?_ | refine HSub.at 12 rfl ?_ | refine HSub.at 13 rfl ?_ | refine HSub.at 14 rfl ?_ | refine HSub.at 15 rfl ?_ | refine HSub.at 16 rfl ?_ | refine HSub.at 17 rfl ?_ | refine HSub.at 18 rfl ?_ | refine HSub.at 19 rfl ?_ | refine HSub.segH ?_ | refine HSub.skip ?_ | refine HSub.skipN ?_)) ?_
  refine JX.thenN ?_
  (repeat' (first | refine JC.seq ?_ | refine JC.ops ?_ | (apply r_loadN; exact rfl; exact rfl; exact rfl; exact rfl; (first | exact at0 | exact at1 | exact at2 | exact at3 | exact at4 | exact at5 | exact at6 | exact at7 | exact at8 | exact at9); exact rfl)))
  have clr : ml.r = me.r := by rw [hml]; rfl
  have clc : ml.c = mc.c := by rw [hml]; rfl
  refine r_callA (A := [_, _, _, _, _, _]) (B := Nl ++ (Nf ++ (Ne ++ (Nd ++ (Nb ++ (Na ++ ([]))))))) rfl (by first | trivial | exact ⟨rfl, rfl⟩) rfl rfl rfl (fun w hk hs => c_MMul 8 17 w _ _ ma mf rta rtf (by omega) (by omega) bda bdf ⟨_, rfl, hOa.rd.at hk hs (by (repeat' first | exact HSub.nil _ | exact HSub.hd | exact HSub.in0 | exact HSub.refl _ | refine HSub.skip ?_ | refine HSub.skipN ?_))⟩ ⟨_, rfl, hOf.rd.at hk hs (by (repeat' first | exact HSub.nil _ | exact HSub.hd | exact HSub.in0 | exact HSub.refl _ | refine HSub.skip ?_ | refine HSub.skipN ?_))⟩) fun w v w' _ _ _ hR => ?_
  obtain ⟨mr, hmr⟩ : ∃ m, m = mulZ ma mf := ⟨_, rfl⟩
  have rtr : RtZ mr := by rw [hmr]; exact zof_rt rta.r rtf.c
  have bdr : BdZ 26 mr := by rw [hmr]; exact (BdZ.mul rta.c bda bdf).mono (by decide)
  rw [← hmr] at hR
  obtain ⟨Nr, ur, rfl, hNr, Er, rfl, hOr⟩ := hR
  obtain ⟨Ar, cr, rfl⟩ := hOr.form
  refine ⟨Nr, hNr, ?_⟩
  (repeat' (first | refine JO.nil ?_ | (apply r_move; exact rfl; exact rfl; exact rfl) | (apply r_assign; exact rfl; exact rfl; exact rfl) | (apply r_extract; exact rfl; exact rfl; exact rfl; exact rfl) | (apply r_storeN; exact rfl; (first | exact trivial | exact ⟨rfl, rfl⟩); exact rfl; exact rfl; (first | exact at0 | exact at1 | exact at2 | exact at3 | exact at4 | exact at5 | exact at6 | exact at7 | exact at8 | exact at9); exact rfl; exact rfl; exact rfl) | (apply r_allocZ; exact rfl; exact rfl; exact rfl; intro _) | (apply r_storeN; exact rfl; (first | exact trivial | exact ⟨rfl, rfl⟩); exact rfl; exact rfl; (first | exact at0 | exact at1 | exact at2 | exact at3 | exact at4 | exact at5 | exact at6 | exact at7 | exact at8 | exact at9); exact rfl; exact rfl; exact rfl)))
  rename_i br
  refine JX.part (F' := [(19, .bool true), (18, .pointer (some ⟨br, 0, none⟩)), (17, .bool true), (16, .pointer (some ⟨bl, 0, none⟩)), (15, .bool true), (13, .bool true), (12, .pointer (some ⟨be, 0, none⟩)), (11, .pointer (some ⟨bd, 0, none⟩)), (9, .pointer (some ⟨bb, 0, none⟩)), (8, .pointer (some ⟨ba, 0, none⟩)), (7, .bool true)]) (H' := [(br, .cells #[nv mr.r, nv mr.c, .slice Ar mr.e.length cr] 29), (bl, .cells #[nv ml.r, nv ml.c, .slice Al ml.e.length cl] 29), (be, .cells #[nv me.r, nv me.c, .slice Ae me.e.length ce] 29), (bd, .cells #[nv md.r, nv md.c, .slice Ad md.e.length cd] 29), (bb, .cells #[nv mb.r, nv mb.c, .slice Ab mb.e.length cb] 29), (ba, .cells #[nv ma.r, nv ma.c, .slice Aa ma.e.length ca] 29)] ++ (Nr ++ (Nl ++ (Ne ++ (Nd ++ (Nb ++ (Na ++ ([])))))))) (by repeat first | exact trivial | refine ⟨rfl, ?_⟩) (by (repeat' first | exact HSub.refl _ | exact HSub.nil _ | refine HSub.at 0 rfl ?_ | refine HSub.at 1 rfl ?_ | refine HSub.at 2 rfl ?_ | refine HSub.at 3 rfl ?_ | refine HSub.at 4 rfl ?_ | refine HSub.at 5 rfl ?_ | refine HSub.at 6 rfl ?_ | refine HSub.at 7 rfl ?_ | refine HSub.at 8 rfl ?_ | refine HSub.at 9 rfl ?_ | refine HSub.at 10 rfl ?_ | refine HSub.at 11 rfl ?_ | refine HSub.at 12 rfl ?_ | refine HSub.at 13 rfl ?_ | refine HSub.at 14 rfl ?_ | refine HSub.at 15 rfl ?_ | refine HSub.at 16 rfl ?_ | refine HSub.at 17 rfl ?_ | refine HSub.at 18 rfl ?_ | refine HSub.at 19 rfl ?_ | refine HSub.segH ?_ | refine HSub.skip ?_ | refine HSub.skipN ?_)) ?_
  refine JX.thenN ?_
  (repeat' (first | refine JC.seq ?_ | refine JC.ops ?_ | (apply r_loadN; exact rfl; exact rfl; exact rfl; exact rfl; (first | exact at0 | exact at1 | exact at2 | exact at3 | exact at4 | exact at5 | exact at6 | exact at7 | exact at8 | exact at9); exact rfl)))
  have crr : mr.r = ma.r := by rw [hmr]; rfl
  have crc : mr.c = mf.c := by rw [hmr]; rfl
  refine r_callA (A := [_, _, _, _, _, _]) (B := Nr ++ (Nl ++ (Ne ++ (Nd ++ (Nb ++ (Na ++ ([]))))))) rfl (by first | trivial | exact ⟨rfl, rfl⟩) rfl rfl rfl (fun w hk hs => c_MAdd 8 w _ _ mb md rtb rtd (by omega) (by omega) (by omega) (bdb.mono (by decide)) (bdd.mono (by decide)) ⟨_, rfl, hOb.rd.at hk hs (by (repeat' first | exact HSub.nil _ | exact HSub.hd | exact HSub.in0 | exact HSub.refl _ | refine HSub.skip ?_ | refine HSub.skipN ?_))⟩ ⟨_, rfl, hOd.rd.at hk hs (by (repeat' first | exact HSub.nil _ | exact HSub.hd | exact HSub.in0 | exact HSub.refl _ | refine HSub.skip ?_ | refine HSub.skipN ?_))⟩) fun w v w' _ _ _ hR => ?_
  obtain ⟨mg, hmg⟩ : ∃ m, m = addZ mb md := ⟨_, rfl⟩
  have rtg : RtZ mg := by rw [hmg]; exact zof_rt rtb.r rtb.c
  have bdg : BdZ 9 mg := by rw [hmg]; exact (BdZ.add (K := 8) (bdb.mono (by decide)) (bdd.mono (by decide))).mono (by decide)
  rw [← hmg] at hR
  obtain ⟨Ng, ug, rfl, hNg, Eg, rfl, hOg⟩ := hR
  obtain ⟨Ag, cg, rfl⟩ := hOg.form
  refine ⟨Ng, hNg, ?_⟩
  (repeat' (first | refine JO.nil ?_ | (apply r_move; exact rfl; exact rfl; exact rfl) | (apply r_assign; exact rfl; exact rfl; exact rfl) | (apply r_extract; exact rfl; exact rfl; exact rfl; exact rfl) | (apply r_storeN; exact rfl; (first | exact trivial | exact ⟨rfl, rfl⟩); exact rfl; exact rfl; (first | exact at0 | exact at1 | exact at2 | exact at3 | exact at4 | exact at5 | exact at6 | exact at7 | exact at8 | exact at9); exact rfl; exact rfl; exact rfl) | (apply r_allocZ; exact rfl; exact rfl; exact rfl; intro _) | (apply r_storeN; exact rfl; (first | exact trivial | exact ⟨rfl, rfl⟩); exact rfl; exact rfl; (first | exact at0 | exact at1 | exact at2 | exact at3 | exact at4 | exact at5 | exact at6 | exact at7 | exact at8 | exact at9); exact rfl; exact rfl; exact rfl)))
  rename_i bg
  refine JX.part (F' := [(21, .bool true), (20, .pointer (some ⟨bg, 0, none⟩)), (19, .bool true), (18, .pointer (some ⟨br, 0, none⟩)), (17, .bool true), (16, .pointer (some ⟨bl, 0, none⟩)), (15, .bool true), (13, .bool true), (12, .pointer (some ⟨be, 0, none⟩)), (11, .pointer (some ⟨bd, 0, none⟩)), (9, .pointer (some ⟨bb, 0, none⟩)), (8, .pointer (some ⟨ba, 0, none⟩)), (7, .bool true)]) (H' := [(bg, .cells #[nv mg.r, nv mg.c, .slice Ag mg.e.length cg] 29), (br, .cells #[nv mr.r, nv mr.c, .slice Ar mr.e.length cr] 29), (bl, .cells #[nv ml.r, nv ml.c, .slice Al ml.e.length cl] 29), (be, .cells #[nv me.r, nv me.c, .slice Ae me.e.length ce] 29), (bd, .cells #[nv md.r, nv md.c, .slice Ad md.e.length cd] 29), (bb, .cells #[nv mb.r, nv mb.c, .slice Ab mb.e.length cb] 29), (ba, .cells #[nv ma.r, nv ma.c, .slice Aa ma.e.length ca] 29)] ++ (Ng ++ (Nr ++ (Nl ++ (Ne ++ (Nd ++ (Nb ++ (Na ++ ([]))))))))) (by repeat first | exact trivial | refine ⟨rfl, ?_⟩) (by (repeat' first | exact HSub.refl _ | exact HSub.nil _ | refine HSub.at 0 rfl ?_ | refine HSub.at 1 rfl ?_ | refine HSub.at 2 rfl ?_ | refine HSub.at 3 rfl ?_ | refine HSub.at 4 rfl ?_ | refine HSub.at 5 rfl ?_ | refine HSub.at 6 rfl ?_ | refine HSub.at 7 rfl ?_ | refine HSub.at 8 rfl ?_ | refine HSub.at 9 rfl ?_ | refine HSub.at 10 rfl ?_ | refine HSub.at 11 rfl ?_ | refine HSub.at 12 rfl ?_ | refine HSub.at 13 rfl ?_ | refine HSub.at 14 rfl ?_ | refine HSub.at 15 rfl ?_ | refine HSub.at 16 rfl ?_ | refine HSub.at 17 rfl ?_ | refine HSub.at 18 rfl ?_ | refine HSub.at 19 rfl ?_ | refine HSub.segH ?_ | refine HSub.skip ?_ | refine HSub.skipN ?_)) ?_
  refine JX.thenN ?_
  (repeat' (first | refine JC.seq ?_ | refine JC.ops ?_ | (apply r_loadN; exact rfl; exact rfl; exact rfl; exact rfl; (first | exact at0 | exact at1 | exact at2 | exact at3 | exact at4 | exact at5 | exact at6 | exact at7 | exact at8 | exact at9); exact rfl)))
  have cgr : mg.r = mb.r := by rw [hmg]; rfl
  have cgc : mg.c = mb.c := by rw [hmg]; rfl
  refine r_callA (A := [_, _, _, _, _, _, _]) (B := Ng ++ (Nr ++ (Nl ++ (Ne ++ (Nd ++ (Nb ++ (Na ++ ([])))))))) rfl (by first | trivial | exact ⟨rfl, rfl⟩) rfl rfl rfl (fun w hk hs => c_MMul 8 8 w _ _ ma md rta rtd (by omega) (by omega) bda bdd ⟨_, rfl, hOa.rd.at hk hs (by (repeat' first | exact HSub.nil _ | exact HSub.hd | exact HSub.in0 | exact HSub.refl _ | refine HSub.skip ?_ | refine HSub.skipN ?_))⟩ ⟨_, rfl, hOd.rd.at hk hs (by (repeat' first | exact HSub.nil _ | exact HSub.hd | exact HSub.in0 | exact HSub.refl _ | refine HSub.skip ?_ | refine HSub.skipN ?_))⟩) fun w v w' _ _ _ hR => ?_
  obtain ⟨mh, hmh⟩ : ∃ m, m = mulZ ma md := ⟨_, rfl⟩
  have rth : RtZ mh := by rw [hmh]; exact zof_rt rta.r rtd.c
  have bdh : BdZ 17 mh := by rw [hmh]; exact (BdZ.mul rta.c bda bdd).mono (by decide)
  rw [← hmh] at hR
  obtain ⟨Nh, uh, rfl, hNh, Eh, rfl, hOh⟩ := hR
  obtain ⟨Ah, ch, rfl⟩ := hOh.form
  refine ⟨Nh, hNh, ?_⟩
  (repeat' (first | refine JO.nil ?_ | (apply r_move; exact rfl; exact rfl; exact rfl) | (apply r_assign; exact rfl; exact rfl; exact rfl) | (apply r_extract; exact rfl; exact rfl; exact rfl; exact rfl) | (apply r_storeN; exact rfl; (first | exact trivial | exact ⟨rfl, rfl⟩); exact rfl; exact rfl; (first | exact at0 | exact at1 | exact at2 | exact at3 | exact at4 | exact at5 | exact at6 | exact at7 | exact at8 | exact at9); exact rfl; exact rfl; exact rfl) | (apply r_allocZ; exact rfl; exact rfl; exact rfl; intro _) | (apply r_storeN; exact rfl; (first | exact trivial | exact ⟨rfl, rfl⟩); exact rfl; exact rfl; (first | exact at0 | exact at1 | exact at2 | exact at3 | exact at4 | exact at5 | exact at6 | exact at7 | exact at8 | exact at9); exact rfl; exact rfl; exact rfl)))
  rename_i bh
  refine JX.part (F' := [(23, .bool true), (22, .pointer (some ⟨bh, 0, none⟩)), (21, .bool true), (20, .pointer (some ⟨bg, 0, none⟩)), (19, .bool true), (18, .pointer (some ⟨br, 0, none⟩)), (17, .bool true), (16, .pointer (some ⟨bl, 0, none⟩)), (15, .bool true), (13, .bool true), (12, .pointer (some ⟨be, 0, none⟩)), (11, .pointer (some ⟨bd, 0, none⟩)), (9, .pointer (some ⟨bb, 0, none⟩)), (8, .pointer (some ⟨ba, 0, none⟩)), (7, .bool true)]) (H' := [(bh, .cells #[nv mh.r, nv mh.c, .slice Ah mh.e.length ch] 29), (bg, .cells #[nv mg.r, nv mg.c, .slice Ag mg.e.length cg] 29), (br, .cells #[nv mr.r, nv mr.c, .slice Ar mr.e.length cr] 29), (bl, .cells #[nv ml.r, nv ml.c, .slice Al ml.e.length cl] 29), (be, .cells #[nv me.r, nv me.c, .slice Ae me.e.length ce] 29), (bd, .cells #[nv md.r, nv md.c, .slice Ad md.e.length cd] 29), (bb, .cells #[nv mb.r, nv mb.c, .slice Ab mb.e.length cb] 29), (ba, .cells #[nv ma.r, nv ma.c, .slice Aa ma.e.length ca] 29)] ++ (Nh ++ (Ng ++ (Nr ++ (Nl ++ (Ne ++ (Nd ++ (Nb ++ (Na ++ ([])))))))))) (by repeat first | exact trivial | refine ⟨rfl, ?_⟩) (by (repeat' first | exact HSub.refl _ | exact HSub.nil _ | refine HSub.at 0 rfl ?_ | refine HSub.at 1 rfl ?_ | refine HSub.at 2 rfl ?_ | refine HSub.at 3 rfl ?_ | refine HSub.at 4 rfl ?_ | refine HSub.at 5 rfl ?_ | refine HSub.at 6 rfl ?_ | refine HSub.at 7 rfl ?_ | refine HSub.at 8 rfl ?_ | refine HSub.at 9 rfl ?_ | refine HSub.at 10 rfl ?_ | refine HSub.at 11 rfl ?_ | refine HSub.at 12 rfl ?_ | refine HSub.at 13 rfl ?_ | refine HSub.at 14 rfl ?_ | refine HSub.at 15 rfl ?_ | refine HSub.at 16 rfl ?_ | refine HSub.at 17 rfl ?_ | refine HSub.at 18 rfl ?_ | refine HSub.at 19 rfl ?_ | refine HSub.segH ?_ | refine HSub.skip ?_ | refine HSub.skipN ?_)) ?_
  refine JX.thenN ?_
  (repeat' (first | refine JC.seq ?_ | refine JC.ops ?_ | (apply r_loadN; exact rfl; exact rfl; exact rfl; exact rfl; (first | exact at0 | exact at1 | exact at2 | exact at3 | exact at4 | exact at5 | exact at6 | exact at7 | exact at8 | exact at9); exact rfl)))
  have chr : mh.r = ma.r := by rw [hmh]; rfl
  have chc : mh.c = md.c := by rw [hmh]; rfl
  refine r_callA (A := [_, _, _, _, _, _, _, _]) (B := Nh ++ (Ng ++ (Nr ++ (Nl ++ (Ne ++ (Nd ++ (Nb ++ (Na ++ ([]))))))))) rfl (by first | trivial | exact ⟨rfl, rfl⟩) rfl rfl rfl (fun w hk hs => c_MMul 8 9 w _ _ ma mg rta rtg (by omega) (by omega) bda bdg ⟨_, rfl, hOa.rd.at hk hs (by (repeat' first | exact HSub.nil _ | exact HSub.hd | exact HSub.in0 | exact HSub.refl _ | refine HSub.skip ?_ | refine HSub.skipN ?_))⟩ ⟨_, rfl, hOg.rd.at hk hs (by (repeat' first | exact HSub.nil _ | exact HSub.hd | exact HSub.in0 | exact HSub.refl _ | refine HSub.skip ?_ | refine HSub.skipN ?_))⟩) fun w v w' _ _ _ hR => ?_
  obtain ⟨mm, hmm⟩ : ∃ m, m = mulZ ma mg := ⟨_, rfl⟩
  have rtm : RtZ mm := by rw [hmm]; exact zof_rt rta.r rtg.c
  have bdm : BdZ 18 mm := by rw [hmm]; exact (BdZ.mul rta.c bda bdg).mono (by decide)
  rw [← hmm] at hR
  obtain ⟨Nm, um, rfl, hNm, Em, rfl, hOm⟩ := hR
  obtain ⟨Am, cm, rfl⟩ := hOm.form
  refine ⟨Nm, hNm, ?_⟩
  (repeat' (first | refine JO.nil ?_ | (apply r_move; exact rfl; exact rfl; exact rfl) | (apply r_assign; exact rfl; exact rfl; exact rfl) | (apply r_extract; exact rfl; exact rfl; exact rfl; exact rfl) | (apply r_storeN; exact rfl; (first | exact trivial | exact ⟨rfl, rfl⟩); exact rfl; exact rfl; (first | exact at0 | exact at1 | exact at2 | exact at3 | exact at4 | exact at5 | exact at6 | exact at7 | exact at8 | exact at9); exact rfl; exact rfl; exact rfl) | (apply r_allocZ; exact rfl; exact rfl; exact rfl; intro _) | (apply r_storeN; exact rfl; (first | exact trivial | exact ⟨rfl, rfl⟩); exact rfl; exact rfl; (first | exact at0 | exact at1 | exact at2 | exact at3 | exact at4 | exact at5 | exact at6 | exact at7 | exact at8 | exact at9); exact rfl; exact rfl; exact rfl)))
  rename_i bm
  refine JX.part (F' := [(25, .bool true), (24, .pointer (some ⟨bm, 0, none⟩)), (23, .bool true), (22, .pointer (some ⟨bh, 0, none⟩)), (21, .bool true), (20, .pointer (some ⟨bg, 0, none⟩)), (19, .bool true), (18, .pointer (some ⟨br, 0, none⟩)), (17, .bool true), (16, .pointer (some ⟨bl, 0, none⟩)), (15, .bool true), (13, .bool true), (12, .pointer (some ⟨be, 0, none⟩)), (11, .pointer (some ⟨bd, 0, none⟩)), (9, .pointer (some ⟨bb, 0, none⟩)), (8, .pointer (some ⟨ba, 0, none⟩)), (7, .bool true)]) (H' := [(bm, .cells #[nv mm.r, nv mm.c, .slice Am mm.e.length cm] 29), (bh, .cells #[nv mh.r, nv mh.c, .slice Ah mh.e.length ch] 29), (bg, .cells #[nv mg.r, nv mg.c, .slice Ag mg.e.length cg] 29), (br, .cells #[nv mr.r, nv mr.c, .slice Ar mr.e.length cr] 29), (bl, .cells #[nv ml.r, nv ml.c, .slice Al ml.e.length cl] 29), (be, .cells #[nv me.r, nv me.c, .slice Ae me.e.length ce] 29), (bd, .cells #[nv md.r, nv md.c, .slice Ad md.e.length cd] 29), (bb, .cells #[nv mb.r, nv mb.c, .slice Ab mb.e.length cb] 29), (ba, .cells #[nv ma.r, nv ma.c, .slice Aa ma.e.length ca] 29)] ++ (Nm ++ (Nh ++ (Ng ++ (Nr ++ (Nl ++ (Ne ++ (Nd ++ (Nb ++ (Na ++ ([]))))))))))) (by repeat first | exact trivial | refine ⟨rfl, ?_⟩) (by (repeat' first | exact HSub.refl _ | exact HSub.nil _ | refine HSub.at 0 rfl ?_ | refine HSub.at 1 rfl ?_ | refine HSub.at 2 rfl ?_ | refine HSub.at 3 rfl ?_ | refine HSub.at 4 rfl ?_ | refine HSub.at 5 rfl ?_ | refine HSub.at 6 rfl ?_ | refine HSub.at 7 rfl ?_ | refine HSub.at 8 rfl ?_ | refine HSub.at 9 rfl ?_ | refine HSub.at 10 rfl ?_ | refine HSub.at 11 rfl ?_ | refine HSub.at 12 rfl ?_ | refine HSub.at 13 rfl ?_ | refine HSub.at 14 rfl ?_ | refine HSub.at 15 rfl ?_ | refine HSub.at 16 rfl ?_ | refine HSub.at 17 rfl ?_ | refine HSub.at 18 rfl ?_ | refine HSub.at 19 rfl ?_ | refine HSub.segH ?_ | refine HSub.skip ?_ | refine HSub.skipN ?_)) ?_
  refine JX.thenN ?_
  (repeat' (first | refine JC.seq ?_ | refine JC.ops ?_ | (apply r_loadN; exact rfl; exact rfl; exact rfl; exact rfl; (first | exact at0 | exact at1 | exact at2 | exact at3 | exact at4 | exact at5 | exact at6 | exact at7 | exact at8 | exact at9); exact rfl)))
  have cmr : mm.r = ma.r := by rw [hmm]; rfl
  have cmc : mm.c = mg.c := by rw [hmm]; rfl
  refine r_callA (A := [_, _, _, _, _, _, _, _, _]) (B := Nm ++ (Nh ++ (Ng ++ (Nr ++ (Nl ++ (Ne ++ (Nd ++ (Nb ++ (Na ++ ([])))))))))) rfl (by first | trivial | exact ⟨rfl, rfl⟩) rfl rfl rfl (fun w hk hs => c_MAdd 17 w _ _ me mh rte rth (by omega) (by omega) (by omega) (bde.mono (by decide)) (bdh.mono (by decide)) ⟨_, rfl, hOe.rd.at hk hs (by (repeat' first | exact HSub.nil _ | exact HSub.hd | exact HSub.in0 | exact HSub.refl _ | refine HSub.skip ?_ | refine HSub.skipN ?_))⟩ ⟨_, rfl, hOh.rd.at hk hs (by (repeat' first | exact HSub.nil _ | exact HSub.hd | exact HSub.in0 | exact HSub.refl _ | refine HSub.skip ?_ | refine HSub.skipN ?_))⟩) fun w v w' _ _ _ hR => ?_
  obtain ⟨mn, hmn⟩ : ∃ m, m = addZ me mh := ⟨_, rfl⟩
  have rtn : RtZ mn := by rw [hmn]; exact zof_rt rte.r rte.c
  have bdn : BdZ 18 mn := by rw [hmn]; exact (BdZ.add (K := 17) (bde.mono (by decide)) (bdh.mono (by decide))).mono (by decide)
  rw [← hmn] at hR
  obtain ⟨Nn, un, rfl, hNn, En, rfl, hOn⟩ := hR
  obtain ⟨An, cn, rfl⟩ := hOn.form
  refine ⟨Nn, hNn, ?_⟩
  (repeat' (first | refine JO.nil ?_ | (apply r_move; exact rfl; exact rfl; exact rfl) | (apply r_assign; exact rfl; exact rfl; exact rfl) | (apply r_extract; exact rfl; exact rfl; exact rfl; exact rfl) | (apply r_storeN; exact rfl; (first | exact trivial | exact ⟨rfl, rfl⟩); exact rfl; exact rfl; (first | exact at0 | exact at1 | exact at2 | exact at3 | exact at4 | exact at5 | exact at6 | exact at7 | exact at8 | exact at9); exact rfl; exact rfl; exact rfl) | (apply r_allocZ; exact rfl; exact rfl; exact rfl; intro _) | (apply r_storeN; exact rfl; (first | exact trivial | exact ⟨rfl, rfl⟩); exact rfl; exact rfl; (first | exact at0 | exact at1 | exact at2 | exact at3 | exact at4 | exact at5 | exact at6 | exact at7 | exact at8 | exact at9); exact rfl; exact rfl; exact rfl)))
  rename_i bn
  refine JX.part (F' := [(27, .bool true), (26, .pointer (some ⟨bn, 0, none⟩)), (25, .bool true), (24, .pointer (some ⟨bm, 0, none⟩)), (23, .bool true), (21, .bool true), (20, .pointer (some ⟨bg, 0, none⟩)), (19, .bool true), (18, .pointer (some ⟨br, 0, none⟩)), (17, .bool true), (16, .pointer (some ⟨bl, 0, none⟩)), (15, .bool true), (13, .bool true), (11, .pointer (some ⟨bd, 0, none⟩)), (9, .pointer (some ⟨bb, 0, none⟩)), (8, .pointer (some ⟨ba, 0, none⟩)), (7, .bool true)]) (H' := [(bn, .cells #[nv mn.r, nv mn.c, .slice An mn.e.length cn] 29), (bm, .cells #[nv mm.r, nv mm.c, .slice Am mm.e.length cm] 29), (bg, .cells #[nv mg.r, nv mg.c, .slice Ag mg.e.length cg] 29), (br, .cells #[nv mr.r, nv mr.c, .slice Ar mr.e.length cr] 29), (bl, .cells #[nv ml.r, nv ml.c, .slice Al ml.e.length cl] 29), (bd, .cells #[nv md.r, nv md.c, .slice Ad md.e.length cd] 29), (bb, .cells #[nv mb.r, nv mb.c, .slice Ab mb.e.length cb] 29), (ba, .cells #[nv ma.r, nv ma.c, .slice Aa ma.e.length ca] 29)] ++ (Nn ++ (Nm ++ (Ng ++ (Nr ++ (Nl ++ (Nd ++ (Nb ++ (Na ++ ([])))))))))) (by repeat first | exact trivial | refine ⟨rfl, ?_⟩) (by (repeat' first | exact HSub.refl _ | exact HSub.nil _ | refine HSub.at 0 rfl ?_ | refine HSub.at 1 rfl ?_ | refine HSub.at 2 rfl ?_ | refine HSub.at 3 rfl ?_ | refine HSub.at 4 rfl ?_ | refine HSub.at 5 rfl ?_ | refine HSub.at 6 rfl ?_ | refine HSub.at 7 rfl ?_ | refine HSub.at 8 rfl ?_ | refine HSub.at 9 rfl ?_ | refine HSub.at 10 rfl ?_ | refine HSub.at 11 rfl ?_ | refine HSub.at 12 rfl ?_ | refine HSub.at 13 rfl ?_ | refine HSub.at 14 rfl ?_ | refine HSub.at 15 rfl ?_ | refine HSub.at 16 rfl ?_ | refine HSub.at 17 rfl ?_ | refine HSub.at 18 rfl ?_ | refine HSub.at 19 rfl ?_ | refine HSub.segH ?_ | refine HSub.skip ?_ | refine HSub.skipN ?_)) ?_
  refine JX.thenN ?_
  (repeat' (first | refine JC.seq ?_ | refine JC.ops ?_ | (apply r_loadN; exact rfl; exact rfl; exact rfl; exact rfl; (first | exact at0 | exact at1 | exact at2 | exact at3 | exact at4 | exact at5 | exact at6 | exact at7 | exact at8 | exact at9); exact rfl)))
  have cnr : mn.r = me.r := by rw [hmn]; rfl
  have cnc : mn.c = me.c := by rw [hmn]; rfl
  refine r_callA (A := [_, _, _, _, _, _, _, _]) (B := Nn ++ (Nm ++ (Ng ++ (Nr ++ (Nl ++ (Nd ++ (Nb ++ (Na ++ ([]))))))))) rfl (by first | trivial | exact ⟨rfl, rfl⟩) rfl rfl rfl (fun w hk hs => c_MSub 9 w _ _ mg md rtg rtd (by omega) (by omega) (by omega) (bdg.mono (by decide)) (bdd.mono (by decide)) ⟨_, rfl, hOg.rd.at hk hs (by (repeat' first | exact HSub.nil _ | exact HSub.hd | exact HSub.in0 | exact HSub.refl _ | refine HSub.skip ?_ | refine HSub.skipN ?_))⟩ ⟨_, rfl, hOd.rd.at hk hs (by (repeat' first | exact HSub.nil _ | exact HSub.hd | exact HSub.in0 | exact HSub.refl _ | refine HSub.skip ?_ | refine HSub.skipN ?_))⟩) fun w v w' _ _ _ hR => ?_
  obtain ⟨mk, hmk⟩ : ∃ m, m = subZ mg md := ⟨_, rfl⟩
  have rtk : RtZ mk := by rw [hmk]; exact zof_rt rtg.r rtg.c
  have bdk : BdZ 10 mk := by rw [hmk]; exact (BdZ.sub (K := 9) (bdg.mono (by decide)) (bdd.mono (by decide))).mono (by decide)
  rw [← hmk] at hR
  obtain ⟨Nk, uk, rfl, hNk, Ek, rfl, hOk⟩ := hR
  obtain ⟨Ak, ck, rfl⟩ := hOk.form
  refine ⟨Nk, hNk, ?_⟩
  (repeat' (first | refine JO.nil ?_ | (apply r_move; exact rfl; exact rfl; exact rfl) | (apply r_assign; exact rfl; exact rfl; exact rfl) | (apply r_extract; exact rfl; exact rfl; exact rfl; exact rfl) | (apply r_storeN; exact rfl; (first | exact trivial | exact ⟨rfl, rfl⟩); exact rfl; exact rfl; (first | exact at0 | exact at1 | exact at2 | exact at3 | exact at4 | exact at5 | exact at6 | exact at7 | exact at8 | exact at9); exact rfl; exact rfl; exact rfl) | (apply r_allocZ; exact rfl; exact rfl; exact rfl; intro _) | (apply r_storeN; exact rfl; (first | exact trivial | exact ⟨rfl, rfl⟩); exact rfl; exact rfl; (first | exact at0 | exact at1 | exact at2 | exact at3 | exact at4 | exact at5 | exact at6 | exact at7 | exact at8 | exact at9); exact rfl; exact rfl; exact rfl)))
  rename_i bk
  refine JX.part (F' := [(29, .bool true), (28, .pointer (some ⟨bk, 0, none⟩)), (27, .bool true), (26, .pointer (some ⟨bn, 0, none⟩)), (25, .bool true), (24, .pointer (some ⟨bm, 0, none⟩)), (23, .bool true), (21, .bool true), (19, .bool true), (18, .pointer (some ⟨br, 0, none⟩)), (17, .bool true), (16, .pointer (some ⟨bl, 0, none⟩)), (15, .bool true), (13, .bool true), (9, .pointer (some ⟨bb, 0, none⟩)), (8, .pointer (some ⟨ba, 0, none⟩)), (7, .bool true)]) (H' := [(bk, .cells #[nv mk.r, nv mk.c, .slice Ak mk.e.length ck] 29), (bn, .cells #[nv mn.r, nv mn.c, .slice An mn.e.length cn] 29), (bm, .cells #[nv mm.r, nv mm.c, .slice Am mm.e.length cm] 29), (br, .cells #[nv mr.r, nv mr.c, .slice Ar mr.e.length cr] 29), (bl, .cells #[nv ml.r, nv ml.c, .slice Al ml.e.length cl] 29), (bb, .cells #[nv mb.r, nv mb.c, .slice Ab mb.e.length cb] 29), (ba, .cells #[nv ma.r, nv ma.c, .slice Aa ma.e.length ca] 29)] ++ (Nk ++ (Nn ++ (Nm ++ (Nr ++ (Nl ++ (Nb ++ (Na ++ ([]))))))))) (by repeat first | exact trivial | refine ⟨rfl, ?_⟩) (by (repeat' first | exact HSub.refl _ | exact HSub.nil _ | refine HSub.at 0 rfl ?_ | refine HSub.at 1 rfl ?_ | refine HSub.at 2 rfl ?_ | refine HSub.at 3 rfl ?_ | refine HSub.at 4 rfl ?_ | refine HSub.at 5 rfl ?_ | refine HSub.at 6 rfl ?_ | refine HSub.at 7 rfl ?_ | refine HSub.at 8 rfl ?_ | refine HSub.at 9 rfl ?_ | refine HSub.at 10 rfl ?_ | refine HSub.at 11 rfl ?_ | refine HSub.at 12 rfl ?_ | refine HSub.at 13 rfl ?_ | refine HSub.at 14 rfl ?_ | refine HSub.at 15 rfl ?_ | refine HSub.at 16 rfl ?_ | refine HSub.at 17 rfl ?_ | refine HSub.at 18 rfl ?_ | refine HSub.at 19 rfl ?_ | refine HSub.segH ?_ | refine HSub.skip ?_ | refine HSub.skipN ?_)) ?_
  refine JX.thenN ?_
  (repeat' (first | refine JC.seq ?_ | refine JC.opsD ?_ | (apply r_fieldAddr; exact rfl; exact rfl; exact rfl) | (apply r_load; exact rfl; exact rfl; exact rfl; exact rfl; (first | exact at0 | exact at1 | exact at2 | exact at3 | exact at4 | exact at5 | exact at6 | exact at7 | exact at8 | exact at9); exact rfl) | (apply r_loadN; exact rfl; exact rfl; exact rfl; exact rfl; (first | exact at0 | exact at1 | exact at2 | exact at3 | exact at4 | exact at5 | exact at6 | exact at7 | exact at8 | exact at9); exact rfl)))
  have ckr : mk.r = mg.r := by rw [hmk]; rfl
  have ckc : mk.c = mg.c := by rw [hmk]; rfl
  refine r_callA (A := [_, _, _, _, _, _, _]) (B := Nk ++ (Nn ++ (Nm ++ (Nr ++ (Nl ++ (Nb ++ (Na ++ ([])))))))) rfl (by first | trivial | exact ⟨rfl, rfl⟩) rfl rfl rfl (fun w hk hs => c_One ma.r (by omega) w) fun w v w' _ _ _ hR => ?_
  obtain ⟨Nqi, hNqi, Eqi, rfl, hOqi⟩ := hR
  obtain ⟨Aqi, cqi, rfl⟩ := hOqi.form
  refine ⟨Nqi, hNqi, ?_⟩
  skip
  refine r_callA (A := [_, _, _, _, _, _, _]) (B := Nqi ++ (Nk ++ (Nn ++ (Nm ++ (Nr ++ (Nl ++ (Nb ++ (Na ++ ([]))))))))) rfl (by first | trivial | exact ⟨rfl, rfl⟩) rfl rfl rfl (fun w hk hs => c_MMul 1 8 w _ _ (oneZ ma.r) ma (zof_rt (by omega) (by omega)) rta rfl (by omega) (BdZ.one _) bda ⟨_, rfl, hOqi.rd.at hk hs (by (repeat' first | exact HSub.nil _ | exact HSub.hd | exact HSub.in0 | exact HSub.refl _ | refine HSub.skip ?_ | refine HSub.skipN ?_))⟩ ⟨_, rfl, hOa.rd.at hk hs (by (repeat' first | exact HSub.nil _ | exact HSub.hd | exact HSub.in0 | exact HSub.refl _ | refine HSub.skip ?_ | refine HSub.skipN ?_))⟩) fun w v w' _ _ _ hR => ?_
  obtain ⟨mi, hmi⟩ : ∃ m, m = mulZ (oneZ ma.r) ma := ⟨_, rfl⟩
  have rti : RtZ mi := by rw [hmi]; exact zof_rt (by show ma.r ≤ 200; omega) rta.c
  have bdi : BdZ 10 mi := by rw [hmi]; exact (BdZ.mul (by show ma.r ≤ 200; omega) (BdZ.one _) bda).mono (by decide)
  rw [← hmi] at hR
  obtain ⟨Ni, ui, rfl, hNi, Ei, rfl, hOi⟩ := hR
  obtain ⟨Ai, ci, rfl⟩ := hOi.form
  refine ⟨Ni, hNi, ?_⟩
  (repeat' (first | refine JO.nil ?_ | (apply r_move; exact rfl; exact rfl; exact rfl) | (apply r_assign; exact rfl; exact rfl; exact rfl) | (apply r_extract; exact rfl; exact rfl; exact rfl; exact rfl) | (apply r_storeN; exact rfl; (first | exact trivial | exact ⟨rfl, rfl⟩); exact rfl; exact rfl; (first | exact at0 | exact at1 | exact at2 | exact at3 | exact at4 | exact at5 | exact at6 | exact at7 | exact at8 | exact at9); exact rfl; exact rfl; exact rfl) | (apply r_allocZ; exact rfl; exact rfl; exact rfl; intro _) | (apply r_storeN; exact rfl; (first | exact trivial | exact ⟨rfl, rfl⟩); exact rfl; exact rfl; (first | exact at0 | exact at1 | exact at2 | exact at3 | exact at4 | exact at5 | exact at6 | exact at7 | exact at8 | exact at9); exact rfl; exact rfl; exact rfl)))
  rename_i bi
  refine JX.part (F' := [(31, .bool true), (30, .pointer (some ⟨bi, 0, none⟩)), (29, .bool true), (28, .pointer (some ⟨bk, 0, none⟩)), (27, .bool true), (26, .pointer (some ⟨bn, 0, none⟩)), (25, .bool true), (24, .pointer (some ⟨bm, 0, none⟩)), (23, .bool true), (21, .bool true), (19, .bool true), (18, .pointer (some ⟨br, 0, none⟩)), (17, .bool true), (16, .pointer (some ⟨bl, 0, none⟩)), (15, .bool true), (13, .bool true), (9, .pointer (some ⟨bb, 0, none⟩)), (8, .pointer (some ⟨ba, 0, none⟩)), (7, .bool true)]) (H' := [(bi, .cells #[nv mi.r, nv mi.c, .slice Ai mi.e.length ci] 29), (bk, .cells #[nv mk.r, nv mk.c, .slice Ak mk.e.length ck] 29), (bn, .cells #[nv mn.r, nv mn.c, .slice An mn.e.length cn] 29), (bm, .cells #[nv mm.r, nv mm.c, .slice Am mm.e.length cm] 29), (br, .cells #[nv mr.r, nv mr.c, .slice Ar mr.e.length cr] 29), (bl, .cells #[nv ml.r, nv ml.c, .slice Al ml.e.length cl] 29), (bb, .cells #[nv mb.r, nv mb.c, .slice Ab mb.e.length cb] 29), (ba, .cells #[nv ma.r, nv ma.c, .slice Aa ma.e.length ca] 29)] ++ (Ni ++ (Nqi ++ (Nk ++ (Nn ++ (Nm ++ (Nr ++ (Nl ++ (Nb ++ (Na ++ ([]))))))))))) (by repeat first | exact trivial | refine ⟨rfl, ?_⟩) (by (repeat' first | exact HSub.refl _ | exact HSub.nil _ | refine HSub.at 0 rfl ?_ | refine HSub.at 1 rfl ?_ | refine HSub.at 2 rfl ?_ | refine HSub.at 3 rfl ?_ | refine HSub.at 4 rfl ?_ | refine HSub.at 5 rfl ?_ | refine HSub.at 6 rfl ?_ | refine HSub.at 7 rfl ?_ | refine HSub.at 8 rfl ?_ | refine HSub.at 9 rfl ?_ | refine HSub.at 10 rfl ?_ | refine HSub.at 11 rfl ?_ | refine HSub.at 12 rfl ?_ | refine HSub.at 13 rfl ?_ | refine HSub.at 14 rfl ?_ | refine HSub.at 15 rfl ?_ | refine HSub.at 16 rfl ?_ | refine HSub.at 17 rfl ?_ | refine HSub.at 18 rfl ?_ | refine HSub.at 19 rfl ?_ | refine HSub.segH ?_ | refine HSub.skip ?_ | refine HSub.skipN ?_)) ?_
  refine JX.thenN ?_
  (repeat' (first | refine JC.seq ?_ | refine JC.opsD ?_ | (apply r_fieldAddr; exact rfl; exact rfl; exact rfl) | (apply r_load; exact rfl; exact rfl; exact rfl; exact rfl; (first | exact at0 | exact at1 | exact at2 | exact at3 | exact at4 | exact at5 | exact at6 | exact at7 | exact at8 | exact at9); exact rfl) | (apply r_loadN; exact rfl; exact rfl; exact rfl; exact rfl; (first | exact at0 | exact at1 | exact at2 | exact at3 | exact at4 | exact at5 | exact at6 | exact at7 | exact at8 | exact at9); exact rfl)))
  refine r_callA (A := [_, _, _, _, _, _, _, _]) (B := Ni ++ (Nqi ++ (Nk ++ (Nn ++ (Nm ++ (Nr ++ (Nl ++ (Nb ++ (Na ++ ([])))))))))) rfl (by first | trivial | exact ⟨rfl, rfl⟩) rfl rfl rfl (fun w hk hs => c_One ma.c (by omega) w) fun w v w' _ _ _ hR => ?_
  obtain ⟨Nqj, hNqj, Eqj, rfl, hOqj⟩ := hR
  obtain ⟨Aqj, cqj, rfl⟩ := hOqj.form
  refine ⟨Nqj, hNqj, ?_⟩
  skip
  refine r_callA (A := [_, _, _, _, _, _, _, _]) (B := Nqj ++ (Ni ++ (Nqi ++ (Nk ++ (Nn ++ (Nm ++ (Nr ++ (Nl ++ (Nb ++ (Na ++ ([]))))))))))) rfl (by first | trivial | exact ⟨rfl, rfl⟩) rfl rfl rfl (fun w hk hs => c_MMul 8 1 w _ _ ma (oneZ ma.c) rta (zof_rt (by omega) (by omega)) rfl (by omega) bda (BdZ.one _) ⟨_, rfl, hOa.rd.at hk hs (by (repeat' first | exact HSub.nil _ | exact HSub.hd | exact HSub.in0 | exact HSub.refl _ | refine HSub.skip ?_ | refine HSub.skipN ?_))⟩ ⟨_, rfl, hOqj.rd.at hk hs (by (repeat' first | exact HSub.nil _ | exact HSub.hd | exact HSub.in0 | exact HSub.refl _ | refine HSub.skip ?_ | refine HSub.skipN ?_))⟩) fun w v w' _ _ _ hR => ?_
  obtain ⟨mj, hmj⟩ : ∃ m, m = mulZ ma (oneZ ma.c) := ⟨_, rfl⟩
  have rtj : RtZ mj := by rw [hmj]; exact zof_rt rta.r (by show ma.c ≤ 200; omega)
  have bdj : BdZ 10 mj := by rw [hmj]; exact (BdZ.mul rta.c bda (BdZ.one _)).mono (by decide)
  rw [← hmj] at hR
  obtain ⟨Nj, uj, rfl, hNj, Ej, rfl, hOj⟩ := hR
  obtain ⟨Aj, cj, rfl⟩ := hOj.form
  refine ⟨Nj, hNj, ?_⟩
  (repeat' (first | refine JO.nil ?_ | (apply r_move; exact rfl; exact rfl; exact rfl) | (apply r_assign; exact rfl; exact rfl; exact rfl) | (apply r_extract; exact rfl; exact rfl; exact rfl; exact rfl) | (apply r_storeN; exact rfl; (first | exact trivial | exact ⟨rfl, rfl⟩); exact rfl; exact rfl; (first | exact at0 | exact at1 | exact at2 | exact at3 | exact at4 | exact at5 | exact at6 | exact at7 | exact at8 | exact at9); exact rfl; exact rfl; exact rfl) | (apply r_allocZ; exact rfl; exact rfl; exact rfl; intro _) | (apply r_storeN; exact rfl; (first | exact trivial | exact ⟨rfl, rfl⟩); exact rfl; exact rfl; (first | exact at0 | exact at1 | exact at2 | exact at3 | exact at4 | exact at5 | exact at6 | exact at7 | exact at8 | exact at9); exact rfl; exact rfl; exact rfl)))
  rename_i bj
  refine JX.part (F' := [(33, .bool true), (32, .pointer (some ⟨bj, 0, none⟩)), (31, .bool true), (30, .pointer (some ⟨bi, 0, none⟩)), (29, .bool true), (28, .pointer (some ⟨bk, 0, none⟩)), (27, .bool true), (26, .pointer (some ⟨bn, 0, none⟩)), (25, .bool true), (24, .pointer (some ⟨bm, 0, none⟩)), (23, .bool true), (21, .bool true), (19, .bool true), (18, .pointer (some ⟨br, 0, none⟩)), (17, .bool true), (16, .pointer (some ⟨bl, 0, none⟩)), (15, .bool true), (13, .bool true), (9, .pointer (some ⟨bb, 0, none⟩)), (8, .pointer (some ⟨ba, 0, none⟩)), (7, .bool true)]) (H' := [(bj, .cells #[nv mj.r, nv mj.c, .slice Aj mj.e.length cj] 29), (bi, .cells #[nv mi.r, nv mi.c, .slice Ai mi.e.length ci] 29), (bk, .cells #[nv mk.r, nv mk.c, .slice Ak mk.e.length ck] 29), (bn, .cells #[nv mn.r, nv mn.c, .slice An mn.e.length cn] 29), (bm, .cells #[nv mm.r, nv mm.c, .slice Am mm.e.length cm] 29), (br, .cells #[nv mr.r, nv mr.c, .slice Ar mr.e.length cr] 29), (bl, .cells #[nv ml.r, nv ml.c, .slice Al ml.e.length cl] 29), (bb, .cells #[nv mb.r, nv mb.c, .slice Ab mb.e.length cb] 29), (ba, .cells #[nv ma.r, nv ma.c, .slice Aa ma.e.length ca] 29)] ++ (Nj ++ (Nqj ++ (Ni ++ (Nqi ++ (Nk ++ (Nn ++ (Nm ++ (Nr ++ (Nl ++ (Nb ++ (Na ++ ([]))))))))))))) (by repeat first | exact trivial | refine ⟨rfl, ?_⟩) (by (repeat' first | exact HSub.refl _ | exact HSub.nil _ | refine HSub.at 0 rfl ?_ | refine HSub.at 1 rfl ?_ | refine HSub.at 2 rfl ?_ | refine HSub.at 3 rfl ?_ | refine HSub.at 4 rfl ?_ | refine HSub.at 5 rfl ?_ | refine HSub.at 6 rfl ?_ | refine HSub.at 7 rfl ?_ | refine HSub.at 8 rfl ?_ | refine HSub.at 9 rfl ?_ | refine HSub.at 10 rfl ?_ | refine HSub.at 11 rfl ?_ | refine HSub.at 12 rfl ?_ | refine HSub.at 13 rfl ?_ | refine HSub.at 14 rfl ?_ | refine HSub.at 15 rfl ?_ | refine HSub.at 16 rfl ?_ | refine HSub.at 17 rfl ?_ | refine HSub.at 18 rfl ?_ | refine HSub.at 19 rfl ?_ | refine HSub.segH ?_ | refine HSub.skip ?_ | refine HSub.skipN ?_)) ?_
  refine JX.thenN ?_
  (repeat' (first | refine JC.seq ?_ | refine JC.ops ?_ | (apply r_move; exact rfl; exact rfl; exact rfl) | (apply r_loadN; exact rfl; exact rfl; exact rfl; exact rfl; (first | exact at0 | exact at1 | exact at2 | exact at3 | exact at4 | exact at5 | exact at6 | exact at7 | exact at8 | exact at9); exact rfl) | (apply r_pickT; exact rfl; exact rfl; exact rfl; exact rfl)))
  refine r_call0 trivial rfl rfl rfl (fun w hk hs => c_Right w _ ml.xm (IsM.x ⟨_, rfl, hOl.rd.at hk hs (by (repeat' first | exact HSub.nil _ | exact HSub.hd | exact HSub.in0 | exact HSub.refl _ | refine HSub.skip ?_ | refine HSub.skipN ?_))⟩) (by have := rtl.le; simp [ZM.xm]; omega)) fun w v w' _ _ _ hR => ?_
  obtain ⟨b', rfl, hb'⟩ := hR
  obtain rfl := hb'.2 rtl.rx
  (repeat' (first | (apply r_move; exact rfl; exact rfl; exact rfl) | (apply r_loadN; exact rfl; exact rfl; exact rfl; exact rfl; (first | exact at0 | exact at1 | exact at2 | exact at3 | exact at4 | exact at5 | exact at6 | exact at7 | exact at8 | exact at9); exact rfl) | (apply r_pickT; exact rfl; exact rfl; exact rfl; exact rfl)))
  have elr : ml = mr := by rw [hml, hmr, hme, hmf]; exact mul_assocZ (by omega)
  refine r_call0 trivial rfl (by first | rfl | exact ⟨rfl, rfl⟩) rfl (fun w hk hs => c_EqualT w _ _ ml rtl ⟨_, rfl, hOl.rd.at hk hs (by (repeat' first | exact HSub.nil _ | exact HSub.hd | exact HSub.in0 | exact HSub.refl _ | refine HSub.skip ?_ | refine HSub.skipN ?_))⟩ (by rw [elr]; exact ⟨_, rfl, hOr.rd.at hk hs (by (repeat' first | exact HSub.nil _ | exact HSub.hd | exact HSub.in0 | exact HSub.refl _ | refine HSub.skip ?_ | refine HSub.skipN ?_))⟩)) fun w v w' _ _ _ hR => ?_
  subst hR
  (repeat' (first | (apply r_move; exact rfl; exact rfl; exact rfl) | (apply r_loadN; exact rfl; exact rfl; exact rfl; exact rfl; (first | exact at0 | exact at1 | exact at2 | exact at3 | exact at4 | exact at5 | exact at6 | exact at7 | exact at8 | exact at9); exact rfl) | (apply r_pickT; exact rfl; exact rfl; exact rfl; exact rfl)))
  have emn : mm = mn := by rw [hmm, hmn, hmg, hme, hmh]; exact mul_addZ (by omega) (by omega)
  refine r_call0 trivial rfl (by first | rfl | exact ⟨rfl, rfl⟩) rfl (fun w hk hs => c_EqualT w _ _ mm rtm ⟨_, rfl, hOm.rd.at hk hs (by (repeat' first | exact HSub.nil _ | exact HSub.hd | exact HSub.in0 | exact HSub.refl _ | refine HSub.skip ?_ | refine HSub.skipN ?_))⟩ (by rw [emn]; exact ⟨_, rfl, hOn.rd.at hk hs (by (repeat' first | exact HSub.nil _ | exact HSub.hd | exact HSub.in0 | exact HSub.refl _ | refine HSub.skip ?_ | refine HSub.skipN ?_))⟩)) fun w v w' _ _ _ hR => ?_
  subst hR
  (repeat' (first | (apply r_move; exact rfl; exact rfl; exact rfl) | (apply r_loadN; exact rfl; exact rfl; exact rfl; exact rfl; (first | exact at0 | exact at1 | exact at2 | exact at3 | exact at4 | exact at5 | exact at6 | exact at7 | exact at8 | exact at9); exact rfl) | (apply r_pickT; exact rfl; exact rfl; exact rfl; exact rfl)))
  have ekb : mk = mb := by rw [hmk, hmg]; exact sub_addZ rtb
  refine r_call0 trivial rfl (by first | rfl | exact ⟨rfl, rfl⟩) rfl (fun w hk hs => c_EqualT w _ _ mk rtk ⟨_, rfl, hOk.rd.at hk hs (by (repeat' first | exact HSub.nil _ | exact HSub.hd | exact HSub.in0 | exact HSub.refl _ | refine HSub.skip ?_ | refine HSub.skipN ?_))⟩ (by rw [ekb]; exact ⟨_, rfl, hOb.rd.at hk hs (by (repeat' first | exact HSub.nil _ | exact HSub.hd | exact HSub.in0 | exact HSub.refl _ | refine HSub.skip ?_ | refine HSub.skipN ?_))⟩)) fun w v w' _ _ _ hR => ?_
  subst hR
  (repeat' (first | (apply r_move; exact rfl; exact rfl; exact rfl) | (apply r_loadN; exact rfl; exact rfl; exact rfl; exact rfl; (first | exact at0 | exact at1 | exact at2 | exact at3 | exact at4 | exact at5 | exact at6 | exact at7 | exact at8 | exact at9); exact rfl) | (apply r_pickT; exact rfl; exact rfl; exact rfl; exact rfl)))
  have eia : mi = ma := by rw [hmi]; exact one_mulZ rta
  refine r_call0 trivial rfl (by first | rfl | exact ⟨rfl, rfl⟩) rfl (fun w hk hs => c_EqualT w _ _ mi rti ⟨_, rfl, hOi.rd.at hk hs (by (repeat' first | exact HSub.nil _ | exact HSub.hd | exact HSub.in0 | exact HSub.refl _ | refine HSub.skip ?_ | refine HSub.skipN ?_))⟩ (by rw [eia]; exact ⟨_, rfl, hOa.rd.at hk hs (by (repeat' first | exact HSub.nil _ | exact HSub.hd | exact HSub.in0 | exact HSub.refl _ | refine HSub.skip ?_ | refine HSub.skipN ?_))⟩)) fun w v w' _ _ _ hR => ?_
  subst hR
  (repeat' (first | (apply r_move; exact rfl; exact rfl; exact rfl) | (apply r_loadN; exact rfl; exact rfl; exact rfl; exact rfl; (first | exact at0 | exact at1 | exact at2 | exact at3 | exact at4 | exact at5 | exact at6 | exact at7 | exact at8 | exact at9); exact rfl) | (apply r_pickT; exact rfl; exact rfl; exact rfl; exact rfl)))
  have eja : mj = ma := by rw [hmj]; exact mul_oneZ rta
  refine r_call0 trivial rfl (by first | rfl | exact ⟨rfl, rfl⟩) rfl (fun w hk hs => c_EqualT w _ _ mj rtj ⟨_, rfl, hOj.rd.at hk hs (by (repeat' first | exact HSub.nil _ | exact HSub.hd | exact HSub.in0 | exact HSub.refl _ | refine HSub.skip ?_ | refine HSub.skipN ?_))⟩ (by rw [eja]; exact ⟨_, rfl, hOa.rd.at hk hs (by (repeat' first | exact HSub.nil _ | exact HSub.hd | exact HSub.in0 | exact HSub.refl _ | refine HSub.skip ?_ | refine HSub.skipN ?_))⟩)) fun w v w' _ _ _ hR => ?_
  subst hR
  (repeat' (first | refine JO.nil ?_ | (apply r_assign; exact rfl; exact rfl; exact rfl) | (apply r_pickT; exact rfl; exact rfl; exact rfl; exact rfl)))
  refine JX.thenN ?_
  (repeat' (first | refine JC.ret ?_))
  exact JX.ret1 rfl (fun a w' st => ⟨st.kp, rfl⟩)

end Go.Proofs.YtdlmnloikakjpaaDoor

/-
  LawMatrixRings: for every input the call of 'cocycle/cocyclelaw02.MatrixRings' returns true, and every argument reads afterwards as it read before. Conditions: none. The card.
-/
namespace Go.Proofs.YtdlmnloikakjpaaDoor.matrixRings
open Go Go.RowKit Go.ChangeShapes Go.WideShapes Go.ChangeAt
set_option linter.unusedSimpArgs false
set_option linter.unusedVariables false
set_option linter.unusedSectionVars false

set_option maxRecDepth 100000 in
theorem lifted (os : Os) (started : os.Started) (H : Type) (enc : TypeId × Value → H) :
    ReturnsInHanded {} Tryd.checked os 10 .any (fun w args => (Rows.matrixRingsSpec.pre enc Tryd.prog Tryd.f10 [] false w args ∧ laidMetH Tryd.prog Rows.matrixRingsRow.laid w) ∧ sizedMet enc Tryd.prog Tryd.f10 (OpenSpec.ofChange Rows.matrixRingsSpec) false w args)
      (Rows.matrixRingsSpec.post enc Tryd.prog Tryd.f10 false true false false) := by
  refine returnsInHanded_of_change_and (C := Tryd.checked) (X := fun w _ => laidMetH Tryd.prog Rows.matrixRingsRow.laid w) (fun _ _ _ hh h => h.of_heap hh) own started (by kernel_rfl) Tryd.func10
    (ChangeSpec.witness_shaped (enc := enc) (C := Tryd.checked) (os := os) (X := fun w _ => laidMetH Tryd.prog Rows.matrixRingsRow.laid w) false (World.laidAll Tryd.prog os Rows.matrixRingsRow.laid) #[.agg #[.int .u8 0, .int .u8 0, .slice none 0 0], .agg #[.int .u8 0, .int .u8 0, .slice none 0 0], .agg #[.int .u8 0, .int .u8 0, .slice none 0 0]] 8 (World.laidAll_os _ _ _)
      (World.shaped_of_ZipB (by kernel_rfl) (by kernel_rfl)) (by kernel_rfl) (by kernel_rfl) (by kernel_rfl)
      (by rw [MakeChecks.laidMetH_plain _ _ _ (by kernel_rfl)]; exact laidMet_laidAll _ (by kernel_rfl) (by kernel_rfl))) ?_
  intro W base args ds gs before hval0 hW _ hwt0 hL _
  have hval : ∀ (j : Nat) t v, Tryd.f10.params[j]? = some t → args[j]? = some v → Value.okWide Tryd.prog W .any base t v := hval0
  have hW' := hW
  obtain ⟨p, q, hA0, hV, rfl, hfz, hnd⟩ := hW
  have hA : DataW.TrodAll enc Tryd.prog W 0 (fun _ => true) true Tryd.f10.params.toList args.toList ds p := hA0
  have hwt : (DataW.weightsEach Tryd.prog (Tryd.f10.params.toList ++ Rows.matrixRingsSpec.plain.varTypes Tryd.prog) (ds ++ gs)).all (· ≤ reachBytes) = true := hwt0
  have hwt1 := fun n hn => of_decide_eq_true (List.all_eq_true.1 hwt n hn)
  rw [Tryd.params10] at hA hval hwt1
  obtain ⟨v0, vs0, d0, ds0, p0, q0, hargs, rfl, rfl, h0, r0⟩ := trodAll_cons hA
  obtain ⟨v1, vs1, d1, ds1, p1, q1, rfl, rfl, rfl, h1, r1⟩ := trodAll_cons r0
  obtain ⟨v2, vs2, d2, ds2, p2, q2, rfl, rfl, rfl, h2, r2⟩ := trodAll_cons r1
  obtain ⟨rfl, rfl, rfl⟩ := trodAll_nil r2
  obtain rfl : args = #[v0, v1, v2] := by cases args; simp_all
  obtain ⟨rfl, rfl⟩ := trodVars_none hV
  have k0 := h0
  have lt0 : ∀ x ∈ p0, x.block < W.heap.size := by obtain ⟨m, hm⟩ := k0; exact DataW.trod_lt m _ _ _ hm
  obtain ⟨R0, C0, L0, s0⟩ := open_shape (hval 0 24 v0 rfl rfl) h0
  have k1 := h1
  have lt1 : ∀ x ∈ p1, x.block < W.heap.size := by obtain ⟨m, hm⟩ := k1; exact DataW.trod_lt m _ _ _ hm
  obtain ⟨R1, C1, L1, s1⟩ := open_shape (hval 1 24 v1 rfl rfl) h1
  have k2 := h2
  have lt2 : ∀ x ∈ p2, x.block < W.heap.size := by obtain ⟨m, hm⟩ := k2; exact DataW.trod_lt m _ _ _ hm
  obtain ⟨R2, C2, L2, s2⟩ := open_shape (hval 2 24 v2 rfl rfl) h2
  clear hA0 hval0
  refine (c_MatrixRings W v0 v1 v2 R0 C0 L0 R1 C1 L1 R2 C2 L2 s0 s1 s2).mono fun e W' he => ?_
  cases e with
  | panicked _ => exact he.elim
  | outgrown => exact he.elim
  | returned u =>
    obtain ⟨hk, rfl⟩ := he
    have bel := hk.below
    exact ⟨_, rfl, _, _, _, [], _, [], hW', trodAll_mk1 (shut_bool Tryd.underlying4 _), (trodAll_cons_mk (Below.trod laidOut (by kernel_rfl) (of_decide_eq_true (by kernel_rfl)) k0 bel lt0) (trodAll_cons_mk (Below.trod laidOut (by kernel_rfl) (of_decide_eq_true (by kernel_rfl)) k1 bel lt1) (trodAll_cons_mk (Below.trod laidOut (by kernel_rfl) (of_decide_eq_true (by kernel_rfl)) k2 bel lt2) trodAll_mk0))), rfl, bel.frame _, fun h => by cases h⟩

theorem holds : Rows.MatrixRingsSaid :=
  OpenClaim.holds_of_wide 10 Tryd.f10 rfl rfl rfl rfl rfl rfl rfl ⟨rfl, rfl, rfl, rfl, rfl⟩ rfl rfl rfl rfl rfl (by kernel_rfl) Tryd.func10 (by kernel_rfl)
    (of_decide_eq_true (by kernel_rfl)) (by unfold Func.isWrapper; first | (rw [if_pos (by decide +kernel)]; kernel_rfl) | (rw [if_neg (by decide +kernel)]; exact ⟨rfl, rfl⟩))
    (fun os started H enc _ => lifted os started H enc)

theorem proved : Rows.MatrixRingsCardSaid :=
  Claim7.holds_tied_plain_at .later [] [.data, .pinned] true (true, "1e720b878859d18141ea40e2dc597df34bde83979d72dc5a8b5bc54d7198a929") false holds (fun _ h => by cases h) (by kernel_rfl) (fun _ h => by cases h) matrixRings_row_tie rfl ⟨rfl, rfl⟩ (by kernel_rfl) rfl
    (fun f fn hf hfn => by
      obtain rfl : f = 10 := Option.some.inj ((show Tryd.prog.funcNamed "cocycle/cocyclelaw02.MatrixRings" = some 10 by kernel_rfl).symm.trans hf) |>.symm
      obtain rfl : fn = Tryd.f10 := (Option.some.inj (Tryd.func10.symm.trans hfn)).symm
      exact ⟨by kernel_rfl, fun j t ht => by
        rw [Tryd.params10] at ht
        have hm : t ∈ [24] := by simpa using Array.mem_of_getElem? ht
        have hall : ([24].all fun u => !Tryd.prog.wantsStandIn u) = true := by kernel_rfl
        exact (show Tryd.prog.wantsStandIn t = false by simpa using List.all_eq_true.1 hall t hm)⟩)
    (by kernel_rfl)

end Go.Proofs.YtdlmnloikakjpaaDoor.matrixRings

