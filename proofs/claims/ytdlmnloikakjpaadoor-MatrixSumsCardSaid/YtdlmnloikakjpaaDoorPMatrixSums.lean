import Derived.Test.YtdlmnloikakjpaaDoorMh
import Derived.Test.YtdlmnloikakjpaaDoorMi
import Derived.Test.YtdlmnloikakjpaaDoorMj
import Derived.Test.YtdlmnloikakjpaaDoorTie
import Derived.Test.YtdlmnloikakjpaaDoorCards
import Derived.Shelf.Lay
import Derived.Lay
import Derived.LaidOnce
import Derived.SevenTiedAt
/- The law MatrixSums. ROWZ -/
namespace Go.Proofs.YtdlmnloikakjpaaDoor
open Go Go.RowKit
set_option linter.unusedSimpArgs false
set_option linter.unusedVariables false
set_option linter.unusedSectionVars false

theorem shc (C : Nat) : C % 7 ≤ 6 := by have := Nat.mod_lt C (show 0 < 7 by omega); omega
theorem same_t {w : World} {v u : Value} {m : ZM} (hm : RtZ m) (hv : IsM w v m) (hu : IsM w u m) : Calls Tryd.prog 22 #[v, u] w (Ret fun v w' => Kp [] w w' ∧ v = .bool true) :=
  calls_mono (c_same w v u m.xm m.xm hv.x hu.x (xm_len hm) (xm_len hm)) fun v w' h => ⟨h.1, by obtain ⟨b, rfl, hb⟩ := h.2; rw [hb.2 rfl]⟩
theorem addA_rt {m n : ZM} (hm : RtZ m) : RtZ (eachA addZ m n).1 := eachA_rt (zof_rt hm.r hm.c)
theorem subA_rt {m n : ZM} (hm : RtZ m) : RtZ (eachA subZ m n).1 := eachA_rt (zof_rt hm.r hm.c)

set_option maxHeartbeats 16000000 in
theorem c_MatrixSums (w : World) (v0 v1 : Value) (R0 C0 : Nat) (L0 : List Int) (R1 C1 : Nat) (L1 : List Int) (hv0 : IsS w v0 R0 C0 L0) (hv1 : IsS w v1 R1 C1 L1) :
    Calls Tryd.prog 9 #[v0, v1] w (Ret fun v w' => Kp [] w w' ∧ v = .bool true) := by
  have hs0 := hv0
  have hc0 := shc C0
  have hr0 := shc R0
  have hL0 := hv0.2.2.1
  obtain ⟨_, _, _, E0, rfl, _⟩ := hv0
  have hs1 := hv1
  have hc1 := shc C1
  have hr1 := shc R1
  have hL1 := hv1.2.2.1
  obtain ⟨_, _, _, E1, rfl, _⟩ := hv1
  refine calls_of_S [⟨3, 1, [0, 2, 3, 4, 5, 6, 8, 9, 10, 11, 12, 13, 14, 1, 7, 15, 16, 17], []⟩, ⟨7, 2, [], []⟩, ⟨8, 2, [], []⟩, ⟨9, 2, [], []⟩, ⟨10, 2, [], []⟩, ⟨11, 2, [], []⟩, ⟨12, 2, [], []⟩] [] (by simp) [] Tryd.func9 rfl mixed (by kernel_rfl) Tryd.ntmps9 Tryd.results9 rfl ⟨by simp, by simp⟩ (by simp) ?_
  simp only [toS, textOps, toSOp, kindAt, kindOf, odAt, sopsAt, ordOf, zipF]
  (repeat' (first | refine JC.seq ?_ | refine JC.ops ?_ | refine JO.nil ?_ | (apply r_assign; (iterate 3 exact rfl)) | (apply r_boxA; (iterate 4 exact rfl); intro _)))
  rename_i bs0 bs1
  refine JX.thenN ?_
  (repeat' (first | refine JC.seq ?_ | refine JC.ops ?_))
  refine r_call0 trivial rfl rfl rfl (fun w _ _ => c_sanity w) fun w v w' _ _ _ hR => ?_
  subst hR
  (repeat' (first | refine JO.nil ?_ | (apply r_assign; (iterate 3 exact rfl))))
  refine JX.part (F' := [(5, .bool true), (3, .pointer (some ⟨bs1, 0, none⟩)), (2, .pointer (some ⟨bs0, 0, none⟩))]) (H' := [(bs1, .cells #[.int .u8 (R1 : Int), .int .u8 (C1 : Int), E1] 24), (bs0, .cells #[.int .u8 (R0 : Int), .int .u8 (C0 : Int), E0] 24)] ++ ([])) (by repeat first | exact trivial | refine ⟨rfl, ?_⟩) (by (repeat' first | exact HSub.refl _ | exact HSub.nil _ | refine HSub.at 0 rfl ?_ | refine HSub.at 1 rfl ?_ | refine HSub.at 2 rfl ?_ | refine HSub.at 3 rfl ?_ | refine HSub.at 4 rfl ?_ | refine HSub.at 5 rfl ?_ | refine HSub.at 6 rfl ?_ | refine HSub.at 7 rfl ?_ | refine HSub.at 8 rfl ?_ | refine HSub.at 9 rfl ?_ | refine HSub.at 10 rfl ?_ | refine HSub.at 11 rfl ?_ | refine HSub.at 12 rfl ?_ | refine HSub.at 13 rfl ?_ | refine HSub.at 14 rfl ?_ | refine HSub.at 15 rfl ?_ | refine HSub.at 16 rfl ?_ | refine HSub.at 17 rfl ?_ | refine HSub.at 18 rfl ?_ | refine HSub.at 19 rfl ?_ | refine HSub.segH ?_ | refine HSub.skip ?_ | refine HSub.skipN ?_)) ?_
  refine JX.thenN ?_
  (repeat' (first | refine JC.seq ?_ | refine JC.ops ?_ | (apply r_loadN; (iterate 4 exact rfl); exact at1; exact rfl)))
  refine r_callA (A := [_, _]) (B := []) rfl (by first | trivial | exact ⟨rfl, rfl⟩) rfl (by first | rfl | exact ⟨rfl, rfl⟩) rfl (fun w hk hs => c_Mat w _ R0 C0 L0 (hs0.mono hk)) fun w v w' _ _ _ hR => ?_
  obtain ⟨ma, hma⟩ : ∃ m, m = shMat R0 C0 L0 := ⟨_, rfl⟩
  have rta : RtZ ma := by rw [hma]; exact RtZ.shMat _ _ _
  have bda : BdZ 8 ma := by rw [hma]; exact BdZ.sh hL0 _ _
  rw [← hma] at hR
  obtain ⟨Na, hNa, Ea, rfl, hOa⟩ := hR
  obtain ⟨Aa, ca, rfl⟩ := hOa.form
  refine ⟨Na, hNa, ?_⟩
  (repeat' (first | refine JO.nil ?_ | (apply r_storeN; exact rfl; (first | exact trivial | exact ⟨rfl, rfl⟩); exact rfl; exact rfl; exact at0; (iterate 3 exact rfl)) | (apply r_allocZ; (iterate 3 exact rfl); intro _) | (apply r_storeN; exact rfl; (first | exact trivial | exact ⟨rfl, rfl⟩); exact rfl; exact rfl; exact at0; (iterate 3 exact rfl))))
  rename_i ba
  refine JX.part (F' := [(6, .pointer (some ⟨ba, 0, none⟩)), (5, .bool true), (3, .pointer (some ⟨bs1, 0, none⟩))]) (H' := [(ba, .cells #[nv ma.r, nv ma.c, .slice Aa ma.e.length ca] 29), (bs1, .cells #[.int .u8 (R1 : Int), .int .u8 (C1 : Int), E1] 24)] ++ (Na ++ ([]))) (by repeat first | exact trivial | refine ⟨rfl, ?_⟩) (by (repeat' first | exact HSub.refl _ | exact HSub.nil _ | refine HSub.at 0 rfl ?_ | refine HSub.at 1 rfl ?_ | refine HSub.at 2 rfl ?_ | refine HSub.at 3 rfl ?_ | refine HSub.at 4 rfl ?_ | refine HSub.at 5 rfl ?_ | refine HSub.at 6 rfl ?_ | refine HSub.at 7 rfl ?_ | refine HSub.at 8 rfl ?_ | refine HSub.at 9 rfl ?_ | refine HSub.at 10 rfl ?_ | refine HSub.at 11 rfl ?_ | refine HSub.at 12 rfl ?_ | refine HSub.at 13 rfl ?_ | refine HSub.at 14 rfl ?_ | refine HSub.at 15 rfl ?_ | refine HSub.at 16 rfl ?_ | refine HSub.at 17 rfl ?_ | refine HSub.at 18 rfl ?_ | refine HSub.at 19 rfl ?_ | refine HSub.segH ?_ | refine HSub.skip ?_ | refine HSub.skipN ?_)) ?_
  refine JX.thenN ?_
  (repeat' (first | refine JC.seq ?_ | refine JC.opsD ?_ | (apply r_fieldAddr; (iterate 3 exact rfl)) | (apply r_load; (iterate 4 exact rfl); (first | exact at0 | exact at1); exact rfl) | (apply r_loadN; (iterate 4 exact rfl); (first | exact at0 | exact at1); exact rfl)))
  have car : ma.r = R0 % 7 := by rw [hma]; rfl
  have cac : ma.c = C0 % 7 := by rw [hma]; rfl
  refine r_modK (i := C1) 7 rfl rfl rfl rfl (by omega) ?_
  (repeat' (first | (apply r_convN; (iterate 3 exact rfl); omega)))
  refine r_callA (A := [_, _]) (B := Na ++ ([])) rfl (by first | trivial | exact ⟨rfl, rfl⟩) rfl (by first | rfl | exact ⟨rfl, rfl⟩) rfl (fun w hk hs => c_Mat w _ R1 C1 L1 (hs1.mono hk)) fun w v w' _ _ _ hR => ?_
  obtain ⟨mb, hmb⟩ : ∃ m, m = shMat R1 C1 L1 := ⟨_, rfl⟩
  have rtb : RtZ mb := by rw [hmb]; exact RtZ.shMat _ _ _
  have bdb : BdZ 8 mb := by rw [hmb]; exact BdZ.sh hL1 _ _
  rw [← hmb] at hR
  obtain ⟨Nb, hNb, Eb, rfl, hOb⟩ := hR
  obtain ⟨Ab, cb, rfl⟩ := hOb.form
  refine ⟨Nb, hNb, ?_⟩
  skip
  refine r_callA (A := [_, _]) (B := Nb ++ (Na ++ ([]))) rfl (by first | trivial | exact ⟨rfl, rfl⟩) rfl (by first | rfl | exact ⟨rfl, rfl⟩) rfl (fun w hk hs => c_With w _ R1 C1 ma.r ma.c L1 (hs1.mono hk) (by omega) (by omega)) fun w v w' _ _ _ hR => ?_
  obtain ⟨mc, hmc⟩ : ∃ m, m = shZ L1 ma.r ma.c := ⟨_, rfl⟩
  have rtc : RtZ mc := by rw [hmc]; exact RtZ.sh _ (by omega) (by omega)
  have bdc : BdZ 8 mc := by rw [hmc]; exact BdZ.sh hL1 _ _
  rw [← hmc] at hR
  obtain ⟨Nc, hNc, Ec, rfl, hOc⟩ := hR
  obtain ⟨Ac, cc, rfl⟩ := hOc.form
  refine ⟨Nc, hNc, ?_⟩
  skip
  refine r_callA (A := [_, _]) (B := Nc ++ (Nb ++ (Na ++ ([])))) rfl (by first | trivial | exact ⟨rfl, rfl⟩) rfl (by first | rfl | exact ⟨rfl, rfl⟩) rfl (fun w hk hs => c_With w _ R1 C1 ma.c (C1 % 7) L1 (hs1.mono hk) (by omega) (by omega)) fun w v w' _ _ _ hR => ?_
  obtain ⟨md, hmd⟩ : ∃ m, m = shZ L1 ma.c (C1 % 7) := ⟨_, rfl⟩
  have rtd : RtZ md := by rw [hmd]; exact RtZ.sh _ (by omega) (by omega)
  have bdd : BdZ 8 md := by rw [hmd]; exact BdZ.sh hL1 _ _
  rw [← hmd] at hR
  obtain ⟨Nd, hNd, Ed, rfl, hOd⟩ := hR
  obtain ⟨Ad, cd, rfl⟩ := hOd.form
  refine ⟨Nd, hNd, ?_⟩
  skip
  refine r_buildG (sz := 3) (vs := [.agg #[nv mb.r, nv mb.c, .slice Ab mb.e.length cb], .agg #[nv mc.r, nv mc.c, .slice Ac mc.e.length cc], .agg #[nv md.r, nv md.c, .slice Ad md.e.length cd]]) (cl := [nv mb.r, nv mb.c, .slice Ab mb.e.length cb, nv mc.r, nv mc.c, .slice Ac mc.e.length cc, nv md.r, nv md.c, .slice Ad md.e.length cd]) rfl rfl rfl rfl rfl
    (fun v hv => by
      simp only [List.mem_cons, List.not_mem_nil, or_false] at hv
      rcases hv with rfl | rfl | rfl <;> rfl) (by first | rfl | trivial | exact ⟨rfl, rfl⟩) (by decide) (by decide) (fun b7 => ?_)
  (repeat' (first | refine JO.nil ?_ | (apply r_assign; (iterate 3 exact rfl))))
  refine JX.part (F' := [(7, .slice (some ⟨b7, 0, none⟩) 3 3), (6, .pointer (some ⟨ba, 0, none⟩)), (5, .bool true)]) (H' := [(b7, .cells ⟨[nv mb.r, nv mb.c, .slice Ab mb.e.length cb, nv mc.r, nv mc.c, .slice Ac mc.e.length cc, nv md.r, nv md.c, .slice Ad md.e.length cd]⟩ 29), (ba, .cells #[nv ma.r, nv ma.c, .slice Aa ma.e.length ca] 29)] ++ (Nd ++ (Nc ++ (Nb ++ (Na ++ ([])))))) (by repeat first | exact trivial | refine ⟨rfl, ?_⟩) (by (repeat' first | exact HSub.refl _ | exact HSub.nil _ | refine HSub.at 0 rfl ?_ | refine HSub.at 1 rfl ?_ | refine HSub.at 2 rfl ?_ | refine HSub.at 3 rfl ?_ | refine HSub.at 4 rfl ?_ | refine HSub.at 5 rfl ?_ | refine HSub.at 6 rfl ?_ | refine HSub.at 7 rfl ?_ | refine HSub.at 8 rfl ?_ | refine HSub.at 9 rfl ?_ | refine HSub.at 10 rfl ?_ | refine HSub.at 11 rfl ?_ | refine HSub.at 12 rfl ?_ | refine HSub.at 13 rfl ?_ | refine HSub.at 14 rfl ?_ | refine HSub.at 15 rfl ?_ | refine HSub.at 16 rfl ?_ | refine HSub.at 17 rfl ?_ | refine HSub.at 18 rfl ?_ | refine HSub.at 19 rfl ?_ | refine HSub.segH ?_ | refine HSub.skip ?_ | refine HSub.skipN ?_)) ?_
  (repeat' (first | refine JC.seq ?_ | refine JC.ops ?_ | refine JO.nil ?_ | refine JX.thenN ?_ | (apply r_assign; (iterate 3 exact rfl)) | refine JC.block ?_))
  refine JC.loopH (ι := Nat) ⟨fun k => [(8, nv k), (7, .slice (some ⟨b7, 0, none⟩) 3 3), (6, .pointer (some ⟨ba, 0, none⟩)), (5, .bool true)], fun _ => [(b7, .cells ⟨[nv mb.r, nv mb.c, .slice Ab mb.e.length cb, nv mc.r, nv mc.c, .slice Ac mc.e.length cc, nv md.r, nv md.c, .slice Ad md.e.length cd]⟩ 29), (ba, .cells #[nv ma.r, nv ma.c, .slice Aa ma.e.length ca] 29)] ++ (Nd ++ (Nc ++ (Nb ++ (Na ++ ([]))))), fun k => k ≤ 3, fun k => 3 - k⟩ 0 (by dsimp only; omega) (by repeat first | exact trivial | refine ⟨rfl, ?_⟩) (HSub.refl _) (fun k hk => ?_)
  dsimp only at hk ⊢
  rcases (show k = 0 ∨ k = 1 ∨ k = 2 ∨ k = 3 by omega) with rfl | rfl | rfl | rfl
  · (repeat' (first | refine JC.seq ?_ | refine JC.ops ?_ | refine JC.opsD ?_ | refine JO.nil ?_ | refine JX.thenN ?_ | (apply r_move; (iterate 3 exact rfl)) | (apply r_loadN; (iterate 4 exact rfl); (first | exact at0 | exact at1); exact rfl) | (apply r_index; (iterate 3 exact rfl); exact fun _ => rfl; exact rfl; omega) | (apply r_lss; (iterate 4 exact rfl); all_goals intro hc; all_goals try (exfalso; omega)) | refine JC.skip ?_ | refine JC.condT rfl ?_ | refine JC.block ?_))
    refine r_loadM (n := 3) (vs := #[nv mb.r, nv mb.c, .slice Ab mb.e.length cb]) 0 rfl rfl rfl rfl rfl rfl (fun j hj => by
      rcases (show j = 0 ∨ j = 1 ∨ j = 2 by omega) with rfl | rfl | rfl <;> rfl) ?_
    skip
    refine r_callA (A := [_, _]) (B := Nd ++ (Nc ++ (Nb ++ (Na ++ ([]))))) rfl (by first | trivial | exact ⟨rfl, rfl⟩) rfl (by first | rfl | exact ⟨rfl, rfl⟩) rfl (fun w hk hs => c_AddA 8 w _ _ ma mb rta rtb (by omega) bda bdb ⟨_, rfl, hOa.rd.at hk hs (by (repeat' first | exact HSub.nil _ | exact HSub.hd | exact HSub.in0 | exact HSub.refl _ | refine HSub.skip ?_ | refine HSub.skipN ?_))⟩ ⟨_, rfl, hOb.rd.at hk hs (by (repeat' first | exact HSub.nil _ | exact HSub.hd | exact HSub.in0 | exact HSub.refl _ | refine HSub.skip ?_ | refine HSub.skipN ?_))⟩) fun w v w' _ _ _ hR => ?_
    obtain ⟨me, hme⟩ : ∃ m, m = (eachA addZ ma mb).1 := ⟨_, rfl⟩
    obtain ⟨ze, hze⟩ : ∃ z, z = (eachA addZ ma mb).2 := ⟨_, rfl⟩
    have rte : RtZ me := by rw [hme]; exact addA_rt rta
    rw [← hme, ← hze] at hR
    obtain ⟨Ne, ue, rfl, hNe, Ee, rfl, hOe⟩ := hR
    obtain ⟨Ae, ce, rfl⟩ := hOe.form
    refine ⟨Ne, hNe, ?_⟩
    (repeat' (first | refine JO.nil ?_ | (apply r_move; (iterate 3 exact rfl)) | (apply r_assign; (iterate 3 exact rfl)) | (apply r_extract; (iterate 4 exact rfl)) | (apply r_storeN; exact rfl; (first | exact trivial | exact ⟨rfl, rfl⟩); exact rfl; exact rfl; exact at0; (iterate 3 exact rfl)) | (apply r_allocZ; (iterate 3 exact rfl); intro _) | (apply r_storeN; exact rfl; (first | exact trivial | exact ⟨rfl, rfl⟩); exact rfl; exact rfl; exact at0; (iterate 3 exact rfl))))
    rename_i be
    refine JX.part (F' := [(10, .bool ze), (9, .pointer (some ⟨be, 0, none⟩)), (8, nv 0), (7, .slice (some ⟨b7, 0, none⟩) 3 3), (6, .pointer (some ⟨ba, 0, none⟩)), (5, .bool true)]) (H' := [(be, .cells #[nv me.r, nv me.c, .slice Ae me.e.length ce] 29), (b7, .cells ⟨[nv mb.r, nv mb.c, .slice Ab mb.e.length cb, nv mc.r, nv mc.c, .slice Ac mc.e.length cc, nv md.r, nv md.c, .slice Ad md.e.length cd]⟩ 29), (ba, .cells #[nv ma.r, nv ma.c, .slice Aa ma.e.length ca] 29)] ++ (Ne ++ (Nd ++ (Nc ++ (Nb ++ (Na ++ ([]))))))) (by repeat first | exact trivial | refine ⟨rfl, ?_⟩) (by (repeat' first | exact HSub.refl _ | exact HSub.nil _ | refine HSub.at 0 rfl ?_ | refine HSub.at 1 rfl ?_ | refine HSub.at 2 rfl ?_ | refine HSub.at 3 rfl ?_ | refine HSub.at 4 rfl ?_ | refine HSub.at 5 rfl ?_ | refine HSub.at 6 rfl ?_ | refine HSub.at 7 rfl ?_ | refine HSub.at 8 rfl ?_ | refine HSub.at 9 rfl ?_ | refine HSub.at 10 rfl ?_ | refine HSub.at 11 rfl ?_ | refine HSub.at 12 rfl ?_ | refine HSub.at 13 rfl ?_ | refine HSub.at 14 rfl ?_ | refine HSub.at 15 rfl ?_ | refine HSub.at 16 rfl ?_ | refine HSub.at 17 rfl ?_ | refine HSub.at 18 rfl ?_ | refine HSub.at 19 rfl ?_ | refine HSub.segH ?_ | refine HSub.skip ?_ | refine HSub.skipN ?_)) ?_
    refine JX.thenN ?_
    (repeat' (first | refine JC.seq ?_ | refine JC.opsD ?_ | (apply r_move; (iterate 3 exact rfl)) | (apply r_loadN; (iterate 4 exact rfl); (first | exact at1 | exact at2); exact rfl) | (apply r_index; (iterate 3 exact rfl); exact fun _ => rfl; exact rfl; omega)))
    refine r_loadM (n := 3) (vs := #[nv mb.r, nv mb.c, .slice Ab mb.e.length cb]) 1 rfl rfl rfl rfl rfl rfl (fun j hj => by
      rcases (show j = 0 ∨ j = 1 ∨ j = 2 by omega) with rfl | rfl | rfl <;> rfl) ?_
    skip
    refine r_callA (A := [_, _, _]) (B := Ne ++ (Nd ++ (Nc ++ (Nb ++ (Na ++ ([])))))) rfl (by first | trivial | exact ⟨rfl, rfl⟩) rfl (by first | rfl | exact ⟨rfl, rfl⟩) rfl (fun w hk hs => c_refAddA 8 w _ _ ma mb rta rtb (by omega) bda bdb ⟨_, rfl, hOa.rd.at hk hs (by (repeat' first | exact HSub.nil _ | exact HSub.hd | exact HSub.in0 | exact HSub.refl _ | refine HSub.skip ?_ | refine HSub.skipN ?_))⟩ ⟨_, rfl, hOb.rd.at hk hs (by (repeat' first | exact HSub.nil _ | exact HSub.hd | exact HSub.in0 | exact HSub.refl _ | refine HSub.skip ?_ | refine HSub.skipN ?_))⟩) fun w v w' _ _ _ hR => ?_
    obtain ⟨mf, hmf⟩ : ∃ m, m = (eachA addZ ma mb).1 := ⟨_, rfl⟩
    obtain ⟨zf, hzf⟩ : ∃ z, z = (eachA addZ ma mb).2 := ⟨_, rfl⟩
    have rtf : RtZ mf := by rw [hmf]; exact addA_rt rta
    rw [← hmf, ← hzf] at hR
    obtain ⟨Nf, uf, rfl, hNf, Ef, rfl, hOf⟩ := hR
    obtain ⟨Af, cf, rfl⟩ := hOf.form
    refine ⟨Nf, hNf, ?_⟩
    (repeat' (first | refine JO.nil ?_ | (apply r_move; (iterate 3 exact rfl)) | (apply r_assign; (iterate 3 exact rfl)) | (apply r_extract; (iterate 4 exact rfl)) | (apply r_storeN; exact rfl; (first | exact trivial | exact ⟨rfl, rfl⟩); exact rfl; exact rfl; exact at0; (iterate 3 exact rfl)) | (apply r_allocZ; (iterate 3 exact rfl); intro _) | (apply r_storeN; exact rfl; (first | exact trivial | exact ⟨rfl, rfl⟩); exact rfl; exact rfl; exact at0; (iterate 3 exact rfl))))
    rename_i bf
    refine JX.part (F' := [(12, .bool zf), (11, .pointer (some ⟨bf, 0, none⟩)), (10, .bool ze), (9, .pointer (some ⟨be, 0, none⟩)), (8, nv 0), (7, .slice (some ⟨b7, 0, none⟩) 3 3), (6, .pointer (some ⟨ba, 0, none⟩)), (5, .bool true)]) (H' := [(bf, .cells #[nv mf.r, nv mf.c, .slice Af mf.e.length cf] 29), (be, .cells #[nv me.r, nv me.c, .slice Ae me.e.length ce] 29), (b7, .cells ⟨[nv mb.r, nv mb.c, .slice Ab mb.e.length cb, nv mc.r, nv mc.c, .slice Ac mc.e.length cc, nv md.r, nv md.c, .slice Ad md.e.length cd]⟩ 29), (ba, .cells #[nv ma.r, nv ma.c, .slice Aa ma.e.length ca] 29)] ++ (Nf ++ (Ne ++ (Nd ++ (Nc ++ (Nb ++ (Na ++ ([])))))))) (by repeat first | exact trivial | refine ⟨rfl, ?_⟩) (by (repeat' first | exact HSub.refl _ | exact HSub.nil _ | refine HSub.at 0 rfl ?_ | refine HSub.at 1 rfl ?_ | refine HSub.at 2 rfl ?_ | refine HSub.at 3 rfl ?_ | refine HSub.at 4 rfl ?_ | refine HSub.at 5 rfl ?_ | refine HSub.at 6 rfl ?_ | refine HSub.at 7 rfl ?_ | refine HSub.at 8 rfl ?_ | refine HSub.at 9 rfl ?_ | refine HSub.at 10 rfl ?_ | refine HSub.at 11 rfl ?_ | refine HSub.at 12 rfl ?_ | refine HSub.at 13 rfl ?_ | refine HSub.at 14 rfl ?_ | refine HSub.at 15 rfl ?_ | refine HSub.at 16 rfl ?_ | refine HSub.at 17 rfl ?_ | refine HSub.at 18 rfl ?_ | refine HSub.at 19 rfl ?_ | refine HSub.segH ?_ | refine HSub.skip ?_ | refine HSub.skipN ?_)) ?_
    refine JX.thenN ?_
    (repeat' (first | refine JC.seq ?_ | refine JC.opsD ?_ | (apply r_move; (iterate 3 exact rfl)) | (apply r_loadN; (iterate 4 exact rfl); (first | exact at2 | exact at3); exact rfl) | (apply r_index; (iterate 3 exact rfl); exact fun _ => rfl; exact rfl; omega)))
    refine r_loadM (n := 3) (vs := #[nv mb.r, nv mb.c, .slice Ab mb.e.length cb]) 2 rfl rfl rfl rfl rfl rfl (fun j hj => by
      rcases (show j = 0 ∨ j = 1 ∨ j = 2 by omega) with rfl | rfl | rfl <;> rfl) ?_
    skip
    refine r_callA (A := [_, _, _, _]) (B := Nf ++ (Ne ++ (Nd ++ (Nc ++ (Nb ++ (Na ++ ([]))))))) rfl (by first | trivial | exact ⟨rfl, rfl⟩) rfl (by first | rfl | exact ⟨rfl, rfl⟩) rfl (fun w hk hs => c_SubA 8 w _ _ ma mb rta rtb (by omega) bda bdb ⟨_, rfl, hOa.rd.at hk hs (by (repeat' first | exact HSub.nil _ | exact HSub.hd | exact HSub.in0 | exact HSub.refl _ | refine HSub.skip ?_ | refine HSub.skipN ?_))⟩ ⟨_, rfl, hOb.rd.at hk hs (by (repeat' first | exact HSub.nil _ | exact HSub.hd | exact HSub.in0 | exact HSub.refl _ | refine HSub.skip ?_ | refine HSub.skipN ?_))⟩) fun w v w' _ _ _ hR => ?_
    obtain ⟨mg, hmg⟩ : ∃ m, m = (eachA subZ ma mb).1 := ⟨_, rfl⟩
    obtain ⟨zg, hzg⟩ : ∃ z, z = (eachA subZ ma mb).2 := ⟨_, rfl⟩
    have rtg : RtZ mg := by rw [hmg]; exact subA_rt rta
    rw [← hmg, ← hzg] at hR
    obtain ⟨Ng, ug, rfl, hNg, Eg, rfl, hOg⟩ := hR
    obtain ⟨Ag, cg, rfl⟩ := hOg.form
    refine ⟨Ng, hNg, ?_⟩
    (repeat' (first | refine JO.nil ?_ | (apply r_move; (iterate 3 exact rfl)) | (apply r_assign; (iterate 3 exact rfl)) | (apply r_extract; (iterate 4 exact rfl)) | (apply r_storeN; exact rfl; (first | exact trivial | exact ⟨rfl, rfl⟩); exact rfl; exact rfl; exact at0; (iterate 3 exact rfl)) | (apply r_allocZ; (iterate 3 exact rfl); intro _) | (apply r_storeN; exact rfl; (first | exact trivial | exact ⟨rfl, rfl⟩); exact rfl; exact rfl; exact at0; (iterate 3 exact rfl))))
    rename_i bg
    refine JX.part (F' := [(14, .bool zg), (13, .pointer (some ⟨bg, 0, none⟩)), (12, .bool zf), (11, .pointer (some ⟨bf, 0, none⟩)), (10, .bool ze), (9, .pointer (some ⟨be, 0, none⟩)), (8, nv 0), (7, .slice (some ⟨b7, 0, none⟩) 3 3), (6, .pointer (some ⟨ba, 0, none⟩)), (5, .bool true)]) (H' := [(bg, .cells #[nv mg.r, nv mg.c, .slice Ag mg.e.length cg] 29), (bf, .cells #[nv mf.r, nv mf.c, .slice Af mf.e.length cf] 29), (be, .cells #[nv me.r, nv me.c, .slice Ae me.e.length ce] 29), (b7, .cells ⟨[nv mb.r, nv mb.c, .slice Ab mb.e.length cb, nv mc.r, nv mc.c, .slice Ac mc.e.length cc, nv md.r, nv md.c, .slice Ad md.e.length cd]⟩ 29), (ba, .cells #[nv ma.r, nv ma.c, .slice Aa ma.e.length ca] 29)] ++ (Ng ++ (Nf ++ (Ne ++ (Nd ++ (Nc ++ (Nb ++ (Na ++ ([]))))))))) (by repeat first | exact trivial | refine ⟨rfl, ?_⟩) (by (repeat' first | exact HSub.refl _ | exact HSub.nil _ | refine HSub.at 0 rfl ?_ | refine HSub.at 1 rfl ?_ | refine HSub.at 2 rfl ?_ | refine HSub.at 3 rfl ?_ | refine HSub.at 4 rfl ?_ | refine HSub.at 5 rfl ?_ | refine HSub.at 6 rfl ?_ | refine HSub.at 7 rfl ?_ | refine HSub.at 8 rfl ?_ | refine HSub.at 9 rfl ?_ | refine HSub.at 10 rfl ?_ | refine HSub.at 11 rfl ?_ | refine HSub.at 12 rfl ?_ | refine HSub.at 13 rfl ?_ | refine HSub.at 14 rfl ?_ | refine HSub.at 15 rfl ?_ | refine HSub.at 16 rfl ?_ | refine HSub.at 17 rfl ?_ | refine HSub.at 18 rfl ?_ | refine HSub.at 19 rfl ?_ | refine HSub.segH ?_ | refine HSub.skip ?_ | refine HSub.skipN ?_)) ?_
    refine JX.thenN ?_
    (repeat' (first | refine JC.seq ?_ | refine JC.opsD ?_ | (apply r_move; (iterate 3 exact rfl)) | (apply r_loadN; (iterate 4 exact rfl); (first | exact at3 | exact at4); exact rfl) | (apply r_index; (iterate 3 exact rfl); exact fun _ => rfl; exact rfl; omega)))
    refine r_loadM (n := 3) (vs := #[nv mb.r, nv mb.c, .slice Ab mb.e.length cb]) 3 rfl rfl rfl rfl rfl rfl (fun j hj => by
      rcases (show j = 0 ∨ j = 1 ∨ j = 2 by omega) with rfl | rfl | rfl <;> rfl) ?_
    skip
    refine r_callA (A := [_, _, _, _, _]) (B := Ng ++ (Nf ++ (Ne ++ (Nd ++ (Nc ++ (Nb ++ (Na ++ ([])))))))) rfl (by first | trivial | exact ⟨rfl, rfl⟩) rfl (by first | rfl | exact ⟨rfl, rfl⟩) rfl (fun w hk hs => c_refSubA 8 w _ _ ma mb rta rtb (by omega) bda bdb ⟨_, rfl, hOa.rd.at hk hs (by (repeat' first | exact HSub.nil _ | exact HSub.hd | exact HSub.in0 | exact HSub.refl _ | refine HSub.skip ?_ | refine HSub.skipN ?_))⟩ ⟨_, rfl, hOb.rd.at hk hs (by (repeat' first | exact HSub.nil _ | exact HSub.hd | exact HSub.in0 | exact HSub.refl _ | refine HSub.skip ?_ | refine HSub.skipN ?_))⟩) fun w v w' _ _ _ hR => ?_
    obtain ⟨mh, hmh⟩ : ∃ m, m = (eachA subZ ma mb).1 := ⟨_, rfl⟩
    obtain ⟨zh, hzh⟩ : ∃ z, z = (eachA subZ ma mb).2 := ⟨_, rfl⟩
    have rth : RtZ mh := by rw [hmh]; exact subA_rt rta
    rw [← hmh, ← hzh] at hR
    obtain ⟨Nh, uh, rfl, hNh, Eh, rfl, hOh⟩ := hR
    obtain ⟨Ah, ch, rfl⟩ := hOh.form
    refine ⟨Nh, hNh, ?_⟩
    (repeat' (first | refine JO.nil ?_ | (apply r_move; (iterate 3 exact rfl)) | (apply r_assign; (iterate 3 exact rfl)) | (apply r_extract; (iterate 4 exact rfl)) | (apply r_storeN; exact rfl; (first | exact trivial | exact ⟨rfl, rfl⟩); exact rfl; exact rfl; exact at0; (iterate 3 exact rfl)) | (apply r_allocZ; (iterate 3 exact rfl); intro _) | (apply r_storeN; exact rfl; (first | exact trivial | exact ⟨rfl, rfl⟩); exact rfl; exact rfl; exact at0; (iterate 3 exact rfl))))
    rename_i bh
    refine JX.part (F' := [(16, .bool zh), (15, .pointer (some ⟨bh, 0, none⟩)), (14, .bool zg), (13, .pointer (some ⟨bg, 0, none⟩)), (12, .bool zf), (11, .pointer (some ⟨bf, 0, none⟩)), (10, .bool ze), (9, .pointer (some ⟨be, 0, none⟩)), (8, nv 0), (7, .slice (some ⟨b7, 0, none⟩) 3 3), (6, .pointer (some ⟨ba, 0, none⟩)), (5, .bool true)]) (H' := [(bh, .cells #[nv mh.r, nv mh.c, .slice Ah mh.e.length ch] 29), (bg, .cells #[nv mg.r, nv mg.c, .slice Ag mg.e.length cg] 29), (bf, .cells #[nv mf.r, nv mf.c, .slice Af mf.e.length cf] 29), (be, .cells #[nv me.r, nv me.c, .slice Ae me.e.length ce] 29), (b7, .cells ⟨[nv mb.r, nv mb.c, .slice Ab mb.e.length cb, nv mc.r, nv mc.c, .slice Ac mc.e.length cc, nv md.r, nv md.c, .slice Ad md.e.length cd]⟩ 29), (ba, .cells #[nv ma.r, nv ma.c, .slice Aa ma.e.length ca] 29)] ++ (Nh ++ (Ng ++ (Nf ++ (Ne ++ (Nd ++ (Nc ++ (Nb ++ (Na ++ ([])))))))))) (by repeat first | exact trivial | refine ⟨rfl, ?_⟩) (by (repeat' first | exact HSub.refl _ | exact HSub.nil _ | refine HSub.at 0 rfl ?_ | refine HSub.at 1 rfl ?_ | refine HSub.at 2 rfl ?_ | refine HSub.at 3 rfl ?_ | refine HSub.at 4 rfl ?_ | refine HSub.at 5 rfl ?_ | refine HSub.at 6 rfl ?_ | refine HSub.at 7 rfl ?_ | refine HSub.at 8 rfl ?_ | refine HSub.at 9 rfl ?_ | refine HSub.at 10 rfl ?_ | refine HSub.at 11 rfl ?_ | refine HSub.at 12 rfl ?_ | refine HSub.at 13 rfl ?_ | refine HSub.at 14 rfl ?_ | refine HSub.at 15 rfl ?_ | refine HSub.at 16 rfl ?_ | refine HSub.at 17 rfl ?_ | refine HSub.at 18 rfl ?_ | refine HSub.at 19 rfl ?_ | refine HSub.segH ?_ | refine HSub.skip ?_ | refine HSub.skipN ?_)) ?_
    refine JX.thenN ?_
    (repeat' (first | refine JC.seq ?_ | refine JC.opsD ?_ | (apply r_move; (iterate 3 exact rfl)) | (apply r_loadN; (iterate 4 exact rfl); (first | exact at4 | exact at5); exact rfl) | (apply r_index; (iterate 3 exact rfl); exact fun _ => rfl; exact rfl; omega)))
    refine r_loadM (n := 3) (vs := #[nv mb.r, nv mb.c, .slice Ab mb.e.length cb]) 4 rfl rfl rfl rfl rfl rfl (fun j hj => by
      rcases (show j = 0 ∨ j = 1 ∨ j = 2 by omega) with rfl | rfl | rfl <;> rfl) ?_
    skip
    refine r_callA (A := [_, _, _, _, _, _]) (B := Nh ++ (Ng ++ (Nf ++ (Ne ++ (Nd ++ (Nc ++ (Nb ++ (Na ++ ([]))))))))) rfl (by first | trivial | exact ⟨rfl, rfl⟩) rfl (by first | rfl | exact ⟨rfl, rfl⟩) rfl (fun w hk hs => c_MulA 8 8 w _ _ ma mb rta rtb (by omega) bda bdb ⟨_, rfl, hOa.rd.at hk hs (by (repeat' first | exact HSub.nil _ | exact HSub.hd | exact HSub.in0 | exact HSub.refl _ | refine HSub.skip ?_ | refine HSub.skipN ?_))⟩ ⟨_, rfl, hOb.rd.at hk hs (by (repeat' first | exact HSub.nil _ | exact HSub.hd | exact HSub.in0 | exact HSub.refl _ | refine HSub.skip ?_ | refine HSub.skipN ?_))⟩) fun w v w' _ _ _ hR => ?_
    obtain ⟨mi, hmi⟩ : ∃ m, m = (mulA ma mb).1 := ⟨_, rfl⟩
    obtain ⟨zi, hzi⟩ : ∃ z, z = (mulA ma mb).2 := ⟨_, rfl⟩
    have rti : RtZ mi := by rw [hmi]; exact mulA_rt rta rtb
    rw [← hmi, ← hzi] at hR
    obtain ⟨Ni, ui, rfl, hNi, Ei, rfl, hOi⟩ := hR
    obtain ⟨Ai, ci, rfl⟩ := hOi.form
    refine ⟨Ni, hNi, ?_⟩
    (repeat' (first | refine JO.nil ?_ | (apply r_move; (iterate 3 exact rfl)) | (apply r_assign; (iterate 3 exact rfl)) | (apply r_extract; (iterate 4 exact rfl)) | (apply r_storeN; exact rfl; (first | exact trivial | exact ⟨rfl, rfl⟩); exact rfl; exact rfl; exact at0; (iterate 3 exact rfl)) | (apply r_allocZ; (iterate 3 exact rfl); intro _) | (apply r_storeN; exact rfl; (first | exact trivial | exact ⟨rfl, rfl⟩); exact rfl; exact rfl; exact at0; (iterate 3 exact rfl))))
    rename_i bi
    refine JX.part (F' := [(18, .bool zi), (17, .pointer (some ⟨bi, 0, none⟩)), (16, .bool zh), (15, .pointer (some ⟨bh, 0, none⟩)), (14, .bool zg), (13, .pointer (some ⟨bg, 0, none⟩)), (12, .bool zf), (11, .pointer (some ⟨bf, 0, none⟩)), (10, .bool ze), (9, .pointer (some ⟨be, 0, none⟩)), (8, nv 0), (7, .slice (some ⟨b7, 0, none⟩) 3 3), (6, .pointer (some ⟨ba, 0, none⟩)), (5, .bool true)]) (H' := [(bi, .cells #[nv mi.r, nv mi.c, .slice Ai mi.e.length ci] 29), (bh, .cells #[nv mh.r, nv mh.c, .slice Ah mh.e.length ch] 29), (bg, .cells #[nv mg.r, nv mg.c, .slice Ag mg.e.length cg] 29), (bf, .cells #[nv mf.r, nv mf.c, .slice Af mf.e.length cf] 29), (be, .cells #[nv me.r, nv me.c, .slice Ae me.e.length ce] 29), (b7, .cells ⟨[nv mb.r, nv mb.c, .slice Ab mb.e.length cb, nv mc.r, nv mc.c, .slice Ac mc.e.length cc, nv md.r, nv md.c, .slice Ad md.e.length cd]⟩ 29), (ba, .cells #[nv ma.r, nv ma.c, .slice Aa ma.e.length ca] 29)] ++ (Ni ++ (Nh ++ (Ng ++ (Nf ++ (Ne ++ (Nd ++ (Nc ++ (Nb ++ (Na ++ ([]))))))))))) (by repeat first | exact trivial | refine ⟨rfl, ?_⟩) (by (repeat' first | exact HSub.refl _ | exact HSub.nil _ | refine HSub.at 0 rfl ?_ | refine HSub.at 1 rfl ?_ | refine HSub.at 2 rfl ?_ | refine HSub.at 3 rfl ?_ | refine HSub.at 4 rfl ?_ | refine HSub.at 5 rfl ?_ | refine HSub.at 6 rfl ?_ | refine HSub.at 7 rfl ?_ | refine HSub.at 8 rfl ?_ | refine HSub.at 9 rfl ?_ | refine HSub.at 10 rfl ?_ | refine HSub.at 11 rfl ?_ | refine HSub.at 12 rfl ?_ | refine HSub.at 13 rfl ?_ | refine HSub.at 14 rfl ?_ | refine HSub.at 15 rfl ?_ | refine HSub.at 16 rfl ?_ | refine HSub.at 17 rfl ?_ | refine HSub.at 18 rfl ?_ | refine HSub.at 19 rfl ?_ | refine HSub.segH ?_ | refine HSub.skip ?_ | refine HSub.skipN ?_)) ?_
    refine JX.thenN ?_
    (repeat' (first | refine JC.seq ?_ | refine JC.opsD ?_ | (apply r_move; (iterate 3 exact rfl)) | (apply r_loadN; (iterate 4 exact rfl); (first | exact at5 | exact at6); exact rfl) | (apply r_index; (iterate 3 exact rfl); exact fun _ => rfl; exact rfl; omega)))
    refine r_loadM (n := 3) (vs := #[nv mb.r, nv mb.c, .slice Ab mb.e.length cb]) 5 rfl rfl rfl rfl rfl rfl (fun j hj => by
      rcases (show j = 0 ∨ j = 1 ∨ j = 2 by omega) with rfl | rfl | rfl <;> rfl) ?_
    skip
    refine r_callA (A := [_, _, _, _, _, _, _]) (B := Ni ++ (Nh ++ (Ng ++ (Nf ++ (Ne ++ (Nd ++ (Nc ++ (Nb ++ (Na ++ ([])))))))))) rfl (by first | trivial | exact ⟨rfl, rfl⟩) rfl (by first | rfl | exact ⟨rfl, rfl⟩) rfl (fun w hk hs => c_refMulA 8 8 w _ _ ma mb rta rtb (by omega) bda bdb ⟨_, rfl, hOa.rd.at hk hs (by (repeat' first | exact HSub.nil _ | exact HSub.hd | exact HSub.in0 | exact HSub.refl _ | refine HSub.skip ?_ | refine HSub.skipN ?_))⟩ ⟨_, rfl, hOb.rd.at hk hs (by (repeat' first | exact HSub.nil _ | exact HSub.hd | exact HSub.in0 | exact HSub.refl _ | refine HSub.skip ?_ | refine HSub.skipN ?_))⟩) fun w v w' _ _ _ hR => ?_
    obtain ⟨mj, hmj⟩ : ∃ m, m = (mulA ma mb).1 := ⟨_, rfl⟩
    obtain ⟨zj, hzj⟩ : ∃ z, z = (mulA ma mb).2 := ⟨_, rfl⟩
    have rtj : RtZ mj := by rw [hmj]; exact mulA_rt rta rtb
    rw [← hmj, ← hzj] at hR
    obtain ⟨Nj, uj, rfl, hNj, Ej, rfl, hOj⟩ := hR
    obtain ⟨Aj, cj, rfl⟩ := hOj.form
    refine ⟨Nj, hNj, ?_⟩
    (repeat' (first | refine JO.nil ?_ | (apply r_move; (iterate 3 exact rfl)) | (apply r_assign; (iterate 3 exact rfl)) | (apply r_extract; (iterate 4 exact rfl)) | (apply r_storeN; exact rfl; (first | exact trivial | exact ⟨rfl, rfl⟩); exact rfl; exact rfl; exact at0; (iterate 3 exact rfl)) | (apply r_allocZ; (iterate 3 exact rfl); intro _) | (apply r_storeN; exact rfl; (first | exact trivial | exact ⟨rfl, rfl⟩); exact rfl; exact rfl; exact at0; (iterate 3 exact rfl))))
    rename_i bj
    refine JX.part (F' := [(20, .bool zj), (19, .pointer (some ⟨bj, 0, none⟩)), (18, .bool zi), (17, .pointer (some ⟨bi, 0, none⟩)), (16, .bool zh), (15, .pointer (some ⟨bh, 0, none⟩)), (14, .bool zg), (13, .pointer (some ⟨bg, 0, none⟩)), (12, .bool zf), (11, .pointer (some ⟨bf, 0, none⟩)), (10, .bool ze), (9, .pointer (some ⟨be, 0, none⟩)), (8, nv 0), (7, .slice (some ⟨b7, 0, none⟩) 3 3), (6, .pointer (some ⟨ba, 0, none⟩)), (5, .bool true)]) (H' := [(bj, .cells #[nv mj.r, nv mj.c, .slice Aj mj.e.length cj] 29), (bi, .cells #[nv mi.r, nv mi.c, .slice Ai mi.e.length ci] 29), (bh, .cells #[nv mh.r, nv mh.c, .slice Ah mh.e.length ch] 29), (bg, .cells #[nv mg.r, nv mg.c, .slice Ag mg.e.length cg] 29), (bf, .cells #[nv mf.r, nv mf.c, .slice Af mf.e.length cf] 29), (be, .cells #[nv me.r, nv me.c, .slice Ae me.e.length ce] 29), (b7, .cells ⟨[nv mb.r, nv mb.c, .slice Ab mb.e.length cb, nv mc.r, nv mc.c, .slice Ac mc.e.length cc, nv md.r, nv md.c, .slice Ad md.e.length cd]⟩ 29), (ba, .cells #[nv ma.r, nv ma.c, .slice Aa ma.e.length ca] 29)] ++ (Nj ++ (Ni ++ (Nh ++ (Ng ++ (Nf ++ (Ne ++ (Nd ++ (Nc ++ (Nb ++ (Na ++ ([])))))))))))) (by repeat first | exact trivial | refine ⟨rfl, ?_⟩) (by (repeat' first | exact HSub.refl _ | exact HSub.nil _ | refine HSub.at 0 rfl ?_ | refine HSub.at 1 rfl ?_ | refine HSub.at 2 rfl ?_ | refine HSub.at 3 rfl ?_ | refine HSub.at 4 rfl ?_ | refine HSub.at 5 rfl ?_ | refine HSub.at 6 rfl ?_ | refine HSub.at 7 rfl ?_ | refine HSub.at 8 rfl ?_ | refine HSub.at 9 rfl ?_ | refine HSub.at 10 rfl ?_ | refine HSub.at 11 rfl ?_ | refine HSub.at 12 rfl ?_ | refine HSub.at 13 rfl ?_ | refine HSub.at 14 rfl ?_ | refine HSub.at 15 rfl ?_ | refine HSub.at 16 rfl ?_ | refine HSub.at 17 rfl ?_ | refine HSub.at 18 rfl ?_ | refine HSub.at 19 rfl ?_ | refine HSub.segH ?_ | refine HSub.skip ?_ | refine HSub.skipN ?_)) ?_
    refine JX.thenN ?_
    (repeat' (first | refine JC.seq ?_ | refine JC.ops ?_ | (apply r_loadN; (iterate 4 exact rfl); (first | exact at4 | exact at5); exact rfl)))
    have hef : me = mf := by rw [hme, hmf]
    have zef : ze = zf := by rw [hze, hzf]
    refine r_call0 (by first | trivial | exact ⟨rfl, rfl⟩) rfl (by first | rfl | exact ⟨rfl, rfl⟩) rfl (fun w hk hs => same_t (m := me) rte ⟨_, rfl, hOe.rd.at hk hs (by (repeat' first | exact HSub.nil _ | exact HSub.hd | exact HSub.in0 | exact HSub.refl _ | refine HSub.skip ?_ | refine HSub.skipN ?_))⟩ (by rw [hef]; exact ⟨_, rfl, hOf.rd.at hk hs (by (repeat' first | exact HSub.nil _ | exact HSub.hd | exact HSub.in0 | exact HSub.refl _ | refine HSub.skip ?_ | refine HSub.skipN ?_))⟩)) fun w v w' _ _ _ hR => ?_
    subst hR
    (repeat' (first | (apply r_move; (iterate 3 exact rfl)) | (apply r_pickF; (iterate 4 exact rfl)) | (apply r_not; (iterate 3 exact rfl)) | (apply r_neB; (iterate 4 exact rfl))))
    rw [zef]
    simp only [bne_self_eq_false]
    (repeat' (first | (apply r_loadN; (iterate 4 exact rfl); (first | exact at2 | exact at3); exact rfl)))
    have hgh : mg = mh := by rw [hmg, hmh]
    have zgh : zg = zh := by rw [hzg, hzh]
    refine r_call0 (by first | trivial | exact ⟨rfl, rfl⟩) rfl (by first | rfl | exact ⟨rfl, rfl⟩) rfl (fun w hk hs => same_t (m := mg) rtg ⟨_, rfl, hOg.rd.at hk hs (by (repeat' first | exact HSub.nil _ | exact HSub.hd | exact HSub.in0 | exact HSub.refl _ | refine HSub.skip ?_ | refine HSub.skipN ?_))⟩ (by rw [hgh]; exact ⟨_, rfl, hOh.rd.at hk hs (by (repeat' first | exact HSub.nil _ | exact HSub.hd | exact HSub.in0 | exact HSub.refl _ | refine HSub.skip ?_ | refine HSub.skipN ?_))⟩)) fun w v w' _ _ _ hR => ?_
    subst hR
    (repeat' (first | (apply r_move; (iterate 3 exact rfl)) | (apply r_pickF; (iterate 4 exact rfl)) | (apply r_not; (iterate 3 exact rfl)) | (apply r_neB; (iterate 4 exact rfl))))
    rw [zgh]
    simp only [bne_self_eq_false]
    (repeat' (first | (apply r_loadN; (iterate 4 exact rfl); (first | exact at0 | exact at1); exact rfl)))
    have hij : mi = mj := by rw [hmi, hmj]
    have zij : zi = zj := by rw [hzi, hzj]
    refine r_call0 (by first | trivial | exact ⟨rfl, rfl⟩) rfl (by first | rfl | exact ⟨rfl, rfl⟩) rfl (fun w hk hs => same_t (m := mi) rti ⟨_, rfl, hOi.rd.at hk hs (by (repeat' first | exact HSub.nil _ | exact HSub.hd | exact HSub.in0 | exact HSub.refl _ | refine HSub.skip ?_ | refine HSub.skipN ?_))⟩ (by rw [hij]; exact ⟨_, rfl, hOj.rd.at hk hs (by (repeat' first | exact HSub.nil _ | exact HSub.hd | exact HSub.in0 | exact HSub.refl _ | refine HSub.skip ?_ | refine HSub.skipN ?_))⟩)) fun w v w' _ _ _ hR => ?_
    subst hR
    (repeat' (first | refine JO.nil ?_ | (apply r_move; (iterate 3 exact rfl)) | (apply r_pickF; (iterate 4 exact rfl)) | (apply r_not; (iterate 3 exact rfl)) | (apply r_neB; (iterate 4 exact rfl))))
    rw [zij]
    simp only [bne_self_eq_false]
    skip
    refine JX.thenN ?_
    (repeat' (first | refine JC.skip ?_ | refine JC.condF rfl ?_ | refine JX.blockN ?_))
    refine JX.thenN ?_
    (repeat' (first | refine JC.ops ?_ | refine JO.nil ?_ | (apply r_move; (iterate 3 exact rfl)) | (apply r_assign; (iterate 3 exact rfl)) | (apply r_add1; (iterate 4 exact rfl); omega)))
    exact JX.roundH 1 (by dsimp only; omega) (by dsimp only; omega) (by repeat first | exact trivial | refine ⟨rfl, ?_⟩) (by (repeat' first | exact HSub.refl _ | exact HSub.nil _ | refine HSub.at 0 rfl ?_ | refine HSub.at 1 rfl ?_ | refine HSub.at 2 rfl ?_ | refine HSub.at 3 rfl ?_ | refine HSub.at 4 rfl ?_ | refine HSub.at 5 rfl ?_ | refine HSub.at 6 rfl ?_ | refine HSub.at 7 rfl ?_ | refine HSub.at 8 rfl ?_ | refine HSub.at 9 rfl ?_ | refine HSub.at 10 rfl ?_ | refine HSub.at 11 rfl ?_ | refine HSub.at 12 rfl ?_ | refine HSub.at 13 rfl ?_ | refine HSub.at 14 rfl ?_ | refine HSub.at 15 rfl ?_ | refine HSub.at 16 rfl ?_ | refine HSub.at 17 rfl ?_ | refine HSub.at 18 rfl ?_ | refine HSub.at 19 rfl ?_ | refine HSub.segH ?_ | refine HSub.skip ?_ | refine HSub.skipN ?_))
  · (repeat' (first | refine JC.seq ?_ | refine JC.ops ?_ | refine JC.opsD ?_ | refine JO.nil ?_ | refine JX.thenN ?_ | (apply r_move; (iterate 3 exact rfl)) | (apply r_loadN; (iterate 4 exact rfl); exact at1; exact rfl) | (apply r_index; (iterate 3 exact rfl); exact fun _ => rfl; exact rfl; omega) | (apply r_lss; (iterate 4 exact rfl); all_goals intro hc; all_goals try (exfalso; omega)) | refine JC.skip ?_ | refine JC.condT rfl ?_ | refine JC.block ?_))
    refine r_loadM (n := 3) (vs := #[nv mc.r, nv mc.c, .slice Ac mc.e.length cc]) 0 rfl rfl rfl rfl rfl rfl (fun j hj => by
      rcases (show j = 0 ∨ j = 1 ∨ j = 2 by omega) with rfl | rfl | rfl <;> rfl) ?_
    skip
    refine r_callA (A := [_, _]) (B := Nd ++ (Nc ++ (Nb ++ (Na ++ ([]))))) rfl (by first | trivial | exact ⟨rfl, rfl⟩) rfl (by first | rfl | exact ⟨rfl, rfl⟩) rfl (fun w hk hs => c_AddA 8 w _ _ ma mc rta rtc (by omega) bda bdc ⟨_, rfl, hOa.rd.at hk hs (by (repeat' first | exact HSub.nil _ | exact HSub.hd | exact HSub.in0 | exact HSub.refl _ | refine HSub.skip ?_ | refine HSub.skipN ?_))⟩ ⟨_, rfl, hOc.rd.at hk hs (by (repeat' first | exact HSub.nil _ | exact HSub.hd | exact HSub.in0 | exact HSub.refl _ | refine HSub.skip ?_ | refine HSub.skipN ?_))⟩) fun w v w' _ _ _ hR => ?_
    obtain ⟨me, hme⟩ : ∃ m, m = (eachA addZ ma mc).1 := ⟨_, rfl⟩
    obtain ⟨ze, hze⟩ : ∃ z, z = (eachA addZ ma mc).2 := ⟨_, rfl⟩
    have rte : RtZ me := by rw [hme]; exact addA_rt rta
    rw [← hme, ← hze] at hR
    obtain ⟨Ne, ue, rfl, hNe, Ee, rfl, hOe⟩ := hR
    obtain ⟨Ae, ce, rfl⟩ := hOe.form
    refine ⟨Ne, hNe, ?_⟩
    (repeat' (first | refine JO.nil ?_ | (apply r_move; (iterate 3 exact rfl)) | (apply r_assign; (iterate 3 exact rfl)) | (apply r_extract; (iterate 4 exact rfl)) | (apply r_storeN; exact rfl; (first | exact trivial | exact ⟨rfl, rfl⟩); exact rfl; exact rfl; exact at0; (iterate 3 exact rfl)) | (apply r_allocZ; (iterate 3 exact rfl); intro _) | (apply r_storeN; exact rfl; (first | exact trivial | exact ⟨rfl, rfl⟩); exact rfl; exact rfl; exact at0; (iterate 3 exact rfl))))
    rename_i be
    refine JX.part (F' := [(10, .bool ze), (9, .pointer (some ⟨be, 0, none⟩)), (8, nv 1), (7, .slice (some ⟨b7, 0, none⟩) 3 3), (6, .pointer (some ⟨ba, 0, none⟩)), (5, .bool true)]) (H' := [(be, .cells #[nv me.r, nv me.c, .slice Ae me.e.length ce] 29), (b7, .cells ⟨[nv mb.r, nv mb.c, .slice Ab mb.e.length cb, nv mc.r, nv mc.c, .slice Ac mc.e.length cc, nv md.r, nv md.c, .slice Ad md.e.length cd]⟩ 29), (ba, .cells #[nv ma.r, nv ma.c, .slice Aa ma.e.length ca] 29)] ++ (Ne ++ (Nd ++ (Nc ++ (Nb ++ (Na ++ ([]))))))) (by repeat first | exact trivial | refine ⟨rfl, ?_⟩) (by (repeat' first | exact HSub.refl _ | exact HSub.nil _ | refine HSub.at 0 rfl ?_ | refine HSub.at 1 rfl ?_ | refine HSub.at 2 rfl ?_ | refine HSub.at 3 rfl ?_ | refine HSub.at 4 rfl ?_ | refine HSub.at 5 rfl ?_ | refine HSub.at 6 rfl ?_ | refine HSub.at 7 rfl ?_ | refine HSub.at 8 rfl ?_ | refine HSub.at 9 rfl ?_ | refine HSub.at 10 rfl ?_ | refine HSub.at 11 rfl ?_ | refine HSub.at 12 rfl ?_ | refine HSub.at 13 rfl ?_ | refine HSub.at 14 rfl ?_ | refine HSub.at 15 rfl ?_ | refine HSub.at 16 rfl ?_ | refine HSub.at 17 rfl ?_ | refine HSub.at 18 rfl ?_ | refine HSub.at 19 rfl ?_ | refine HSub.segH ?_ | refine HSub.skip ?_ | refine HSub.skipN ?_)) ?_
    refine JX.thenN ?_
    (repeat' (first | refine JC.seq ?_ | refine JC.opsD ?_ | (apply r_move; (iterate 3 exact rfl)) | (apply r_loadN; (iterate 4 exact rfl); exact at2; exact rfl) | (apply r_index; (iterate 3 exact rfl); exact fun _ => rfl; exact rfl; omega)))
    refine r_loadM (n := 3) (vs := #[nv mc.r, nv mc.c, .slice Ac mc.e.length cc]) 1 rfl rfl rfl rfl rfl rfl (fun j hj => by
      rcases (show j = 0 ∨ j = 1 ∨ j = 2 by omega) with rfl | rfl | rfl <;> rfl) ?_
    skip
    refine r_callA (A := [_, _, _]) (B := Ne ++ (Nd ++ (Nc ++ (Nb ++ (Na ++ ([])))))) rfl (by first | trivial | exact ⟨rfl, rfl⟩) rfl (by first | rfl | exact ⟨rfl, rfl⟩) rfl (fun w hk hs => c_refAddA 8 w _ _ ma mc rta rtc (by omega) bda bdc ⟨_, rfl, hOa.rd.at hk hs (by (repeat' first | exact HSub.nil _ | exact HSub.hd | exact HSub.in0 | exact HSub.refl _ | refine HSub.skip ?_ | refine HSub.skipN ?_))⟩ ⟨_, rfl, hOc.rd.at hk hs (by (repeat' first | exact HSub.nil _ | exact HSub.hd | exact HSub.in0 | exact HSub.refl _ | refine HSub.skip ?_ | refine HSub.skipN ?_))⟩) fun w v w' _ _ _ hR => ?_
    obtain ⟨mf, hmf⟩ : ∃ m, m = (eachA addZ ma mc).1 := ⟨_, rfl⟩
    obtain ⟨zf, hzf⟩ : ∃ z, z = (eachA addZ ma mc).2 := ⟨_, rfl⟩
    have rtf : RtZ mf := by rw [hmf]; exact addA_rt rta
    rw [← hmf, ← hzf] at hR
    obtain ⟨Nf, uf, rfl, hNf, Ef, rfl, hOf⟩ := hR
    obtain ⟨Af, cf, rfl⟩ := hOf.form
    refine ⟨Nf, hNf, ?_⟩
    (repeat' (first | refine JO.nil ?_ | (apply r_move; (iterate 3 exact rfl)) | (apply r_assign; (iterate 3 exact rfl)) | (apply r_extract; (iterate 4 exact rfl)) | (apply r_storeN; exact rfl; (first | exact trivial | exact ⟨rfl, rfl⟩); exact rfl; exact rfl; exact at0; (iterate 3 exact rfl)) | (apply r_allocZ; (iterate 3 exact rfl); intro _) | (apply r_storeN; exact rfl; (first | exact trivial | exact ⟨rfl, rfl⟩); exact rfl; exact rfl; exact at0; (iterate 3 exact rfl))))
    rename_i bf
    refine JX.part (F' := [(12, .bool zf), (11, .pointer (some ⟨bf, 0, none⟩)), (10, .bool ze), (9, .pointer (some ⟨be, 0, none⟩)), (8, nv 1), (7, .slice (some ⟨b7, 0, none⟩) 3 3), (6, .pointer (some ⟨ba, 0, none⟩)), (5, .bool true)]) (H' := [(bf, .cells #[nv mf.r, nv mf.c, .slice Af mf.e.length cf] 29), (be, .cells #[nv me.r, nv me.c, .slice Ae me.e.length ce] 29), (b7, .cells ⟨[nv mb.r, nv mb.c, .slice Ab mb.e.length cb, nv mc.r, nv mc.c, .slice Ac mc.e.length cc, nv md.r, nv md.c, .slice Ad md.e.length cd]⟩ 29), (ba, .cells #[nv ma.r, nv ma.c, .slice Aa ma.e.length ca] 29)] ++ (Nf ++ (Ne ++ (Nd ++ (Nc ++ (Nb ++ (Na ++ ([])))))))) (by repeat first | exact trivial | refine ⟨rfl, ?_⟩) (by (repeat' first | exact HSub.refl _ | exact HSub.nil _ | refine HSub.at 0 rfl ?_ | refine HSub.at 1 rfl ?_ | refine HSub.at 2 rfl ?_ | refine HSub.at 3 rfl ?_ | refine HSub.at 4 rfl ?_ | refine HSub.at 5 rfl ?_ | refine HSub.at 6 rfl ?_ | refine HSub.at 7 rfl ?_ | refine HSub.at 8 rfl ?_ | refine HSub.at 9 rfl ?_ | refine HSub.at 10 rfl ?_ | refine HSub.at 11 rfl ?_ | refine HSub.at 12 rfl ?_ | refine HSub.at 13 rfl ?_ | refine HSub.at 14 rfl ?_ | refine HSub.at 15 rfl ?_ | refine HSub.at 16 rfl ?_ | refine HSub.at 17 rfl ?_ | refine HSub.at 18 rfl ?_ | refine HSub.at 19 rfl ?_ | refine HSub.segH ?_ | refine HSub.skip ?_ | refine HSub.skipN ?_)) ?_
    refine JX.thenN ?_
    (repeat' (first | refine JC.seq ?_ | refine JC.opsD ?_ | (apply r_move; (iterate 3 exact rfl)) | (apply r_loadN; (iterate 4 exact rfl); exact at3; exact rfl) | (apply r_index; (iterate 3 exact rfl); exact fun _ => rfl; exact rfl; omega)))
    refine r_loadM (n := 3) (vs := #[nv mc.r, nv mc.c, .slice Ac mc.e.length cc]) 2 rfl rfl rfl rfl rfl rfl (fun j hj => by
      rcases (show j = 0 ∨ j = 1 ∨ j = 2 by omega) with rfl | rfl | rfl <;> rfl) ?_
    skip
    refine r_callA (A := [_, _, _, _]) (B := Nf ++ (Ne ++ (Nd ++ (Nc ++ (Nb ++ (Na ++ ([]))))))) rfl (by first | trivial | exact ⟨rfl, rfl⟩) rfl (by first | rfl | exact ⟨rfl, rfl⟩) rfl (fun w hk hs => c_SubA 8 w _ _ ma mc rta rtc (by omega) bda bdc ⟨_, rfl, hOa.rd.at hk hs (by (repeat' first | exact HSub.nil _ | exact HSub.hd | exact HSub.in0 | exact HSub.refl _ | refine HSub.skip ?_ | refine HSub.skipN ?_))⟩ ⟨_, rfl, hOc.rd.at hk hs (by (repeat' first | exact HSub.nil _ | exact HSub.hd | exact HSub.in0 | exact HSub.refl _ | refine HSub.skip ?_ | refine HSub.skipN ?_))⟩) fun w v w' _ _ _ hR => ?_
    obtain ⟨mg, hmg⟩ : ∃ m, m = (eachA subZ ma mc).1 := ⟨_, rfl⟩
    obtain ⟨zg, hzg⟩ : ∃ z, z = (eachA subZ ma mc).2 := ⟨_, rfl⟩
    have rtg : RtZ mg := by rw [hmg]; exact subA_rt rta
    rw [← hmg, ← hzg] at hR
    obtain ⟨Ng, ug, rfl, hNg, Eg, rfl, hOg⟩ := hR
    obtain ⟨Ag, cg, rfl⟩ := hOg.form
    refine ⟨Ng, hNg, ?_⟩
    (repeat' (first | refine JO.nil ?_ | (apply r_move; (iterate 3 exact rfl)) | (apply r_assign; (iterate 3 exact rfl)) | (apply r_extract; (iterate 4 exact rfl)) | (apply r_storeN; exact rfl; (first | exact trivial | exact ⟨rfl, rfl⟩); exact rfl; exact rfl; exact at0; (iterate 3 exact rfl)) | (apply r_allocZ; (iterate 3 exact rfl); intro _) | (apply r_storeN; exact rfl; (first | exact trivial | exact ⟨rfl, rfl⟩); exact rfl; exact rfl; exact at0; (iterate 3 exact rfl))))
    rename_i bg
    refine JX.part (F' := [(14, .bool zg), (13, .pointer (some ⟨bg, 0, none⟩)), (12, .bool zf), (11, .pointer (some ⟨bf, 0, none⟩)), (10, .bool ze), (9, .pointer (some ⟨be, 0, none⟩)), (8, nv 1), (7, .slice (some ⟨b7, 0, none⟩) 3 3), (6, .pointer (some ⟨ba, 0, none⟩)), (5, .bool true)]) (H' := [(bg, .cells #[nv mg.r, nv mg.c, .slice Ag mg.e.length cg] 29), (bf, .cells #[nv mf.r, nv mf.c, .slice Af mf.e.length cf] 29), (be, .cells #[nv me.r, nv me.c, .slice Ae me.e.length ce] 29), (b7, .cells ⟨[nv mb.r, nv mb.c, .slice Ab mb.e.length cb, nv mc.r, nv mc.c, .slice Ac mc.e.length cc, nv md.r, nv md.c, .slice Ad md.e.length cd]⟩ 29), (ba, .cells #[nv ma.r, nv ma.c, .slice Aa ma.e.length ca] 29)] ++ (Ng ++ (Nf ++ (Ne ++ (Nd ++ (Nc ++ (Nb ++ (Na ++ ([]))))))))) (by repeat first | exact trivial | refine ⟨rfl, ?_⟩) (by (repeat' first | exact HSub.refl _ | exact HSub.nil _ | refine HSub.at 0 rfl ?_ | refine HSub.at 1 rfl ?_ | refine HSub.at 2 rfl ?_ | refine HSub.at 3 rfl ?_ | refine HSub.at 4 rfl ?_ | refine HSub.at 5 rfl ?_ | refine HSub.at 6 rfl ?_ | refine HSub.at 7 rfl ?_ | refine HSub.at 8 rfl ?_ | refine HSub.at 9 rfl ?_ | refine HSub.at 10 rfl ?_ | refine HSub.at 11 rfl ?_ | refine HSub.at 12 rfl ?_ | refine HSub.at 13 rfl ?_ | refine HSub.at 14 rfl ?_ | refine HSub.at 15 rfl ?_ | refine HSub.at 16 rfl ?_ | refine HSub.at 17 rfl ?_ | refine HSub.at 18 rfl ?_ | refine HSub.at 19 rfl ?_ | refine HSub.segH ?_ | refine HSub.skip ?_ | refine HSub.skipN ?_)) ?_
    refine JX.thenN ?_
    (repeat' (first | refine JC.seq ?_ | refine JC.opsD ?_ | (apply r_move; (iterate 3 exact rfl)) | (apply r_loadN; (iterate 4 exact rfl); exact at4; exact rfl) | (apply r_index; (iterate 3 exact rfl); exact fun _ => rfl; exact rfl; omega)))
    refine r_loadM (n := 3) (vs := #[nv mc.r, nv mc.c, .slice Ac mc.e.length cc]) 3 rfl rfl rfl rfl rfl rfl (fun j hj => by
      rcases (show j = 0 ∨ j = 1 ∨ j = 2 by omega) with rfl | rfl | rfl <;> rfl) ?_
    skip
    refine r_callA (A := [_, _, _, _, _]) (B := Ng ++ (Nf ++ (Ne ++ (Nd ++ (Nc ++ (Nb ++ (Na ++ ([])))))))) rfl (by first | trivial | exact ⟨rfl, rfl⟩) rfl (by first | rfl | exact ⟨rfl, rfl⟩) rfl (fun w hk hs => c_refSubA 8 w _ _ ma mc rta rtc (by omega) bda bdc ⟨_, rfl, hOa.rd.at hk hs (by (repeat' first | exact HSub.nil _ | exact HSub.hd | exact HSub.in0 | exact HSub.refl _ | refine HSub.skip ?_ | refine HSub.skipN ?_))⟩ ⟨_, rfl, hOc.rd.at hk hs (by (repeat' first | exact HSub.nil _ | exact HSub.hd | exact HSub.in0 | exact HSub.refl _ | refine HSub.skip ?_ | refine HSub.skipN ?_))⟩) fun w v w' _ _ _ hR => ?_
    obtain ⟨mh, hmh⟩ : ∃ m, m = (eachA subZ ma mc).1 := ⟨_, rfl⟩
    obtain ⟨zh, hzh⟩ : ∃ z, z = (eachA subZ ma mc).2 := ⟨_, rfl⟩
    have rth : RtZ mh := by rw [hmh]; exact subA_rt rta
    rw [← hmh, ← hzh] at hR
    obtain ⟨Nh, uh, rfl, hNh, Eh, rfl, hOh⟩ := hR
    obtain ⟨Ah, ch, rfl⟩ := hOh.form
    refine ⟨Nh, hNh, ?_⟩
    (repeat' (first | refine JO.nil ?_ | (apply r_move; (iterate 3 exact rfl)) | (apply r_assign; (iterate 3 exact rfl)) | (apply r_extract; (iterate 4 exact rfl)) | (apply r_storeN; exact rfl; (first | exact trivial | exact ⟨rfl, rfl⟩); exact rfl; exact rfl; exact at0; (iterate 3 exact rfl)) | (apply r_allocZ; (iterate 3 exact rfl); intro _) | (apply r_storeN; exact rfl; (first | exact trivial | exact ⟨rfl, rfl⟩); exact rfl; exact rfl; exact at0; (iterate 3 exact rfl))))
    rename_i bh
    refine JX.part (F' := [(16, .bool zh), (15, .pointer (some ⟨bh, 0, none⟩)), (14, .bool zg), (13, .pointer (some ⟨bg, 0, none⟩)), (12, .bool zf), (11, .pointer (some ⟨bf, 0, none⟩)), (10, .bool ze), (9, .pointer (some ⟨be, 0, none⟩)), (8, nv 1), (7, .slice (some ⟨b7, 0, none⟩) 3 3), (6, .pointer (some ⟨ba, 0, none⟩)), (5, .bool true)]) (H' := [(bh, .cells #[nv mh.r, nv mh.c, .slice Ah mh.e.length ch] 29), (bg, .cells #[nv mg.r, nv mg.c, .slice Ag mg.e.length cg] 29), (bf, .cells #[nv mf.r, nv mf.c, .slice Af mf.e.length cf] 29), (be, .cells #[nv me.r, nv me.c, .slice Ae me.e.length ce] 29), (b7, .cells ⟨[nv mb.r, nv mb.c, .slice Ab mb.e.length cb, nv mc.r, nv mc.c, .slice Ac mc.e.length cc, nv md.r, nv md.c, .slice Ad md.e.length cd]⟩ 29), (ba, .cells #[nv ma.r, nv ma.c, .slice Aa ma.e.length ca] 29)] ++ (Nh ++ (Ng ++ (Nf ++ (Ne ++ (Nd ++ (Nc ++ (Nb ++ (Na ++ ([])))))))))) (by repeat first | exact trivial | refine ⟨rfl, ?_⟩) (by (repeat' first | exact HSub.refl _ | exact HSub.nil _ | refine HSub.at 0 rfl ?_ | refine HSub.at 1 rfl ?_ | refine HSub.at 2 rfl ?_ | refine HSub.at 3 rfl ?_ | refine HSub.at 4 rfl ?_ | refine HSub.at 5 rfl ?_ | refine HSub.at 6 rfl ?_ | refine HSub.at 7 rfl ?_ | refine HSub.at 8 rfl ?_ | refine HSub.at 9 rfl ?_ | refine HSub.at 10 rfl ?_ | refine HSub.at 11 rfl ?_ | refine HSub.at 12 rfl ?_ | refine HSub.at 13 rfl ?_ | refine HSub.at 14 rfl ?_ | refine HSub.at 15 rfl ?_ | refine HSub.at 16 rfl ?_ | refine HSub.at 17 rfl ?_ | refine HSub.at 18 rfl ?_ | refine HSub.at 19 rfl ?_ | refine HSub.segH ?_ | refine HSub.skip ?_ | refine HSub.skipN ?_)) ?_
    refine JX.thenN ?_
    (repeat' (first | refine JC.seq ?_ | refine JC.opsD ?_ | (apply r_move; (iterate 3 exact rfl)) | (apply r_loadN; (iterate 4 exact rfl); exact at5; exact rfl) | (apply r_index; (iterate 3 exact rfl); exact fun _ => rfl; exact rfl; omega)))
    refine r_loadM (n := 3) (vs := #[nv mc.r, nv mc.c, .slice Ac mc.e.length cc]) 4 rfl rfl rfl rfl rfl rfl (fun j hj => by
      rcases (show j = 0 ∨ j = 1 ∨ j = 2 by omega) with rfl | rfl | rfl <;> rfl) ?_
    skip
    refine r_callA (A := [_, _, _, _, _, _]) (B := Nh ++ (Ng ++ (Nf ++ (Ne ++ (Nd ++ (Nc ++ (Nb ++ (Na ++ ([]))))))))) rfl (by first | trivial | exact ⟨rfl, rfl⟩) rfl (by first | rfl | exact ⟨rfl, rfl⟩) rfl (fun w hk hs => c_MulA 8 8 w _ _ ma mc rta rtc (by omega) bda bdc ⟨_, rfl, hOa.rd.at hk hs (by (repeat' first | exact HSub.nil _ | exact HSub.hd | exact HSub.in0 | exact HSub.refl _ | refine HSub.skip ?_ | refine HSub.skipN ?_))⟩ ⟨_, rfl, hOc.rd.at hk hs (by (repeat' first | exact HSub.nil _ | exact HSub.hd | exact HSub.in0 | exact HSub.refl _ | refine HSub.skip ?_ | refine HSub.skipN ?_))⟩) fun w v w' _ _ _ hR => ?_
    obtain ⟨mi, hmi⟩ : ∃ m, m = (mulA ma mc).1 := ⟨_, rfl⟩
    obtain ⟨zi, hzi⟩ : ∃ z, z = (mulA ma mc).2 := ⟨_, rfl⟩
    have rti : RtZ mi := by rw [hmi]; exact mulA_rt rta rtc
    rw [← hmi, ← hzi] at hR
    obtain ⟨Ni, ui, rfl, hNi, Ei, rfl, hOi⟩ := hR
    obtain ⟨Ai, ci, rfl⟩ := hOi.form
    refine ⟨Ni, hNi, ?_⟩
    (repeat' (first | refine JO.nil ?_ | (apply r_move; (iterate 3 exact rfl)) | (apply r_assign; (iterate 3 exact rfl)) | (apply r_extract; (iterate 4 exact rfl)) | (apply r_storeN; exact rfl; (first | exact trivial | exact ⟨rfl, rfl⟩); exact rfl; exact rfl; exact at0; (iterate 3 exact rfl)) | (apply r_allocZ; (iterate 3 exact rfl); intro _) | (apply r_storeN; exact rfl; (first | exact trivial | exact ⟨rfl, rfl⟩); exact rfl; exact rfl; exact at0; (iterate 3 exact rfl))))
    rename_i bi
    refine JX.part (F' := [(18, .bool zi), (17, .pointer (some ⟨bi, 0, none⟩)), (16, .bool zh), (15, .pointer (some ⟨bh, 0, none⟩)), (14, .bool zg), (13, .pointer (some ⟨bg, 0, none⟩)), (12, .bool zf), (11, .pointer (some ⟨bf, 0, none⟩)), (10, .bool ze), (9, .pointer (some ⟨be, 0, none⟩)), (8, nv 1), (7, .slice (some ⟨b7, 0, none⟩) 3 3), (6, .pointer (some ⟨ba, 0, none⟩)), (5, .bool true)]) (H' := [(bi, .cells #[nv mi.r, nv mi.c, .slice Ai mi.e.length ci] 29), (bh, .cells #[nv mh.r, nv mh.c, .slice Ah mh.e.length ch] 29), (bg, .cells #[nv mg.r, nv mg.c, .slice Ag mg.e.length cg] 29), (bf, .cells #[nv mf.r, nv mf.c, .slice Af mf.e.length cf] 29), (be, .cells #[nv me.r, nv me.c, .slice Ae me.e.length ce] 29), (b7, .cells ⟨[nv mb.r, nv mb.c, .slice Ab mb.e.length cb, nv mc.r, nv mc.c, .slice Ac mc.e.length cc, nv md.r, nv md.c, .slice Ad md.e.length cd]⟩ 29), (ba, .cells #[nv ma.r, nv ma.c, .slice Aa ma.e.length ca] 29)] ++ (Ni ++ (Nh ++ (Ng ++ (Nf ++ (Ne ++ (Nd ++ (Nc ++ (Nb ++ (Na ++ ([]))))))))))) (by repeat first | exact trivial | refine ⟨rfl, ?_⟩) (by (repeat' first | exact HSub.refl _ | exact HSub.nil _ | refine HSub.at 0 rfl ?_ | refine HSub.at 1 rfl ?_ | refine HSub.at 2 rfl ?_ | refine HSub.at 3 rfl ?_ | refine HSub.at 4 rfl ?_ | refine HSub.at 5 rfl ?_ | refine HSub.at 6 rfl ?_ | refine HSub.at 7 rfl ?_ | refine HSub.at 8 rfl ?_ | refine HSub.at 9 rfl ?_ | refine HSub.at 10 rfl ?_ | refine HSub.at 11 rfl ?_ | refine HSub.at 12 rfl ?_ | refine HSub.at 13 rfl ?_ | refine HSub.at 14 rfl ?_ | refine HSub.at 15 rfl ?_ | refine HSub.at 16 rfl ?_ | refine HSub.at 17 rfl ?_ | refine HSub.at 18 rfl ?_ | refine HSub.at 19 rfl ?_ | refine HSub.segH ?_ | refine HSub.skip ?_ | refine HSub.skipN ?_)) ?_
    refine JX.thenN ?_
    (repeat' (first | refine JC.seq ?_ | refine JC.opsD ?_ | (apply r_move; (iterate 3 exact rfl)) | (apply r_loadN; (iterate 4 exact rfl); exact at6; exact rfl) | (apply r_index; (iterate 3 exact rfl); exact fun _ => rfl; exact rfl; omega)))
    refine r_loadM (n := 3) (vs := #[nv mc.r, nv mc.c, .slice Ac mc.e.length cc]) 5 rfl rfl rfl rfl rfl rfl (fun j hj => by
      rcases (show j = 0 ∨ j = 1 ∨ j = 2 by omega) with rfl | rfl | rfl <;> rfl) ?_
    skip
    refine r_callA (A := [_, _, _, _, _, _, _]) (B := Ni ++ (Nh ++ (Ng ++ (Nf ++ (Ne ++ (Nd ++ (Nc ++ (Nb ++ (Na ++ ([])))))))))) rfl (by first | trivial | exact ⟨rfl, rfl⟩) rfl (by first | rfl | exact ⟨rfl, rfl⟩) rfl (fun w hk hs => c_refMulA 8 8 w _ _ ma mc rta rtc (by omega) bda bdc ⟨_, rfl, hOa.rd.at hk hs (by (repeat' first | exact HSub.nil _ | exact HSub.hd | exact HSub.in0 | exact HSub.refl _ | refine HSub.skip ?_ | refine HSub.skipN ?_))⟩ ⟨_, rfl, hOc.rd.at hk hs (by (repeat' first | exact HSub.nil _ | exact HSub.hd | exact HSub.in0 | exact HSub.refl _ | refine HSub.skip ?_ | refine HSub.skipN ?_))⟩) fun w v w' _ _ _ hR => ?_
    obtain ⟨mj, hmj⟩ : ∃ m, m = (mulA ma mc).1 := ⟨_, rfl⟩
    obtain ⟨zj, hzj⟩ : ∃ z, z = (mulA ma mc).2 := ⟨_, rfl⟩
    have rtj : RtZ mj := by rw [hmj]; exact mulA_rt rta rtc
    rw [← hmj, ← hzj] at hR
    obtain ⟨Nj, uj, rfl, hNj, Ej, rfl, hOj⟩ := hR
    obtain ⟨Aj, cj, rfl⟩ := hOj.form
    refine ⟨Nj, hNj, ?_⟩
    (repeat' (first | refine JO.nil ?_ | (apply r_move; (iterate 3 exact rfl)) | (apply r_assign; (iterate 3 exact rfl)) | (apply r_extract; (iterate 4 exact rfl)) | (apply r_storeN; exact rfl; (first | exact trivial | exact ⟨rfl, rfl⟩); exact rfl; exact rfl; exact at0; (iterate 3 exact rfl)) | (apply r_allocZ; (iterate 3 exact rfl); intro _) | (apply r_storeN; exact rfl; (first | exact trivial | exact ⟨rfl, rfl⟩); exact rfl; exact rfl; exact at0; (iterate 3 exact rfl))))
    rename_i bj
    refine JX.part (F' := [(20, .bool zj), (19, .pointer (some ⟨bj, 0, none⟩)), (18, .bool zi), (17, .pointer (some ⟨bi, 0, none⟩)), (16, .bool zh), (15, .pointer (some ⟨bh, 0, none⟩)), (14, .bool zg), (13, .pointer (some ⟨bg, 0, none⟩)), (12, .bool zf), (11, .pointer (some ⟨bf, 0, none⟩)), (10, .bool ze), (9, .pointer (some ⟨be, 0, none⟩)), (8, nv 1), (7, .slice (some ⟨b7, 0, none⟩) 3 3), (6, .pointer (some ⟨ba, 0, none⟩)), (5, .bool true)]) (H' := [(bj, .cells #[nv mj.r, nv mj.c, .slice Aj mj.e.length cj] 29), (bi, .cells #[nv mi.r, nv mi.c, .slice Ai mi.e.length ci] 29), (bh, .cells #[nv mh.r, nv mh.c, .slice Ah mh.e.length ch] 29), (bg, .cells #[nv mg.r, nv mg.c, .slice Ag mg.e.length cg] 29), (bf, .cells #[nv mf.r, nv mf.c, .slice Af mf.e.length cf] 29), (be, .cells #[nv me.r, nv me.c, .slice Ae me.e.length ce] 29), (b7, .cells ⟨[nv mb.r, nv mb.c, .slice Ab mb.e.length cb, nv mc.r, nv mc.c, .slice Ac mc.e.length cc, nv md.r, nv md.c, .slice Ad md.e.length cd]⟩ 29), (ba, .cells #[nv ma.r, nv ma.c, .slice Aa ma.e.length ca] 29)] ++ (Nj ++ (Ni ++ (Nh ++ (Ng ++ (Nf ++ (Ne ++ (Nd ++ (Nc ++ (Nb ++ (Na ++ ([])))))))))))) (by repeat first | exact trivial | refine ⟨rfl, ?_⟩) (by (repeat' first | exact HSub.refl _ | exact HSub.nil _ | refine HSub.at 0 rfl ?_ | refine HSub.at 1 rfl ?_ | refine HSub.at 2 rfl ?_ | refine HSub.at 3 rfl ?_ | refine HSub.at 4 rfl ?_ | refine HSub.at 5 rfl ?_ | refine HSub.at 6 rfl ?_ | refine HSub.at 7 rfl ?_ | refine HSub.at 8 rfl ?_ | refine HSub.at 9 rfl ?_ | refine HSub.at 10 rfl ?_ | refine HSub.at 11 rfl ?_ | refine HSub.at 12 rfl ?_ | refine HSub.at 13 rfl ?_ | refine HSub.at 14 rfl ?_ | refine HSub.at 15 rfl ?_ | refine HSub.at 16 rfl ?_ | refine HSub.at 17 rfl ?_ | refine HSub.at 18 rfl ?_ | refine HSub.at 19 rfl ?_ | refine HSub.segH ?_ | refine HSub.skip ?_ | refine HSub.skipN ?_)) ?_
    refine JX.thenN ?_
    (repeat' (first | refine JC.seq ?_ | refine JC.ops ?_ | (apply r_loadN; (iterate 4 exact rfl); (first | exact at4 | exact at5); exact rfl)))
    have hef : me = mf := by rw [hme, hmf]
    have zef : ze = zf := by rw [hze, hzf]
    refine r_call0 (by first | trivial | exact ⟨rfl, rfl⟩) rfl (by first | rfl | exact ⟨rfl, rfl⟩) rfl (fun w hk hs => same_t (m := me) rte ⟨_, rfl, hOe.rd.at hk hs (by (repeat' first | exact HSub.nil _ | exact HSub.hd | exact HSub.in0 | exact HSub.refl _ | refine HSub.skip ?_ | refine HSub.skipN ?_))⟩ (by rw [hef]; exact ⟨_, rfl, hOf.rd.at hk hs (by (repeat' first | exact HSub.nil _ | exact HSub.hd | exact HSub.in0 | exact HSub.refl _ | refine HSub.skip ?_ | refine HSub.skipN ?_))⟩)) fun w v w' _ _ _ hR => ?_
    subst hR
    (repeat' (first | (apply r_move; (iterate 3 exact rfl)) | (apply r_pickF; (iterate 4 exact rfl)) | (apply r_not; (iterate 3 exact rfl)) | (apply r_neB; (iterate 4 exact rfl))))
    rw [zef]
    simp only [bne_self_eq_false]
    (repeat' (first | (apply r_loadN; (iterate 4 exact rfl); (first | exact at2 | exact at3); exact rfl)))
    have hgh : mg = mh := by rw [hmg, hmh]
    have zgh : zg = zh := by rw [hzg, hzh]
    refine r_call0 (by first | trivial | exact ⟨rfl, rfl⟩) rfl (by first | rfl | exact ⟨rfl, rfl⟩) rfl (fun w hk hs => same_t (m := mg) rtg ⟨_, rfl, hOg.rd.at hk hs (by (repeat' first | exact HSub.nil _ | exact HSub.hd | exact HSub.in0 | exact HSub.refl _ | refine HSub.skip ?_ | refine HSub.skipN ?_))⟩ (by rw [hgh]; exact ⟨_, rfl, hOh.rd.at hk hs (by (repeat' first | exact HSub.nil _ | exact HSub.hd | exact HSub.in0 | exact HSub.refl _ | refine HSub.skip ?_ | refine HSub.skipN ?_))⟩)) fun w v w' _ _ _ hR => ?_
    subst hR
    (repeat' (first | (apply r_move; (iterate 3 exact rfl)) | (apply r_pickF; (iterate 4 exact rfl)) | (apply r_not; (iterate 3 exact rfl)) | (apply r_neB; (iterate 4 exact rfl))))
    rw [zgh]
    simp only [bne_self_eq_false]
    (repeat' (first | (apply r_loadN; (iterate 4 exact rfl); (first | exact at0 | exact at1); exact rfl)))
    have hij : mi = mj := by rw [hmi, hmj]
    have zij : zi = zj := by rw [hzi, hzj]
    refine r_call0 (by first | trivial | exact ⟨rfl, rfl⟩) rfl (by first | rfl | exact ⟨rfl, rfl⟩) rfl (fun w hk hs => same_t (m := mi) rti ⟨_, rfl, hOi.rd.at hk hs (by (repeat' first | exact HSub.nil _ | exact HSub.hd | exact HSub.in0 | exact HSub.refl _ | refine HSub.skip ?_ | refine HSub.skipN ?_))⟩ (by rw [hij]; exact ⟨_, rfl, hOj.rd.at hk hs (by (repeat' first | exact HSub.nil _ | exact HSub.hd | exact HSub.in0 | exact HSub.refl _ | refine HSub.skip ?_ | refine HSub.skipN ?_))⟩)) fun w v w' _ _ _ hR => ?_
    subst hR
    (repeat' (first | refine JO.nil ?_ | (apply r_move; (iterate 3 exact rfl)) | (apply r_pickF; (iterate 4 exact rfl)) | (apply r_not; (iterate 3 exact rfl)) | (apply r_neB; (iterate 4 exact rfl))))
    rw [zij]
    simp only [bne_self_eq_false]
    skip
    refine JX.thenN ?_
    (repeat' (first | refine JC.skip ?_ | refine JC.condF rfl ?_ | refine JX.blockN ?_))
    refine JX.thenN ?_
    (repeat' (first | refine JC.ops ?_ | refine JO.nil ?_ | (apply r_move; (iterate 3 exact rfl)) | (apply r_assign; (iterate 3 exact rfl)) | (apply r_add1; (iterate 4 exact rfl); omega)))
    exact JX.roundH 2 (by dsimp only; omega) (by dsimp only; omega) (by repeat first | exact trivial | refine ⟨rfl, ?_⟩) (by (repeat' first | exact HSub.refl _ | exact HSub.nil _ | refine HSub.at 0 rfl ?_ | refine HSub.at 1 rfl ?_ | refine HSub.at 2 rfl ?_ | refine HSub.at 3 rfl ?_ | refine HSub.at 4 rfl ?_ | refine HSub.at 5 rfl ?_ | refine HSub.at 6 rfl ?_ | refine HSub.at 7 rfl ?_ | refine HSub.at 8 rfl ?_ | refine HSub.at 9 rfl ?_ | refine HSub.at 10 rfl ?_ | refine HSub.at 11 rfl ?_ | refine HSub.at 12 rfl ?_ | refine HSub.at 13 rfl ?_ | refine HSub.at 14 rfl ?_ | refine HSub.at 15 rfl ?_ | refine HSub.at 16 rfl ?_ | refine HSub.at 17 rfl ?_ | refine HSub.at 18 rfl ?_ | refine HSub.at 19 rfl ?_ | refine HSub.segH ?_ | refine HSub.skip ?_ | refine HSub.skipN ?_))
  · (repeat' (first | refine JC.seq ?_ | refine JC.ops ?_ | refine JC.opsD ?_ | refine JO.nil ?_ | refine JX.thenN ?_ | (apply r_move; (iterate 3 exact rfl)) | (apply r_loadN; (iterate 4 exact rfl); exact at1; exact rfl) | (apply r_index; (iterate 3 exact rfl); exact fun _ => rfl; exact rfl; omega) | (apply r_lss; (iterate 4 exact rfl); all_goals intro hc; all_goals try (exfalso; omega)) | refine JC.skip ?_ | refine JC.condT rfl ?_ | refine JC.block ?_))
    refine r_loadM (n := 3) (vs := #[nv md.r, nv md.c, .slice Ad md.e.length cd]) 0 rfl rfl rfl rfl rfl rfl (fun j hj => by
      rcases (show j = 0 ∨ j = 1 ∨ j = 2 by omega) with rfl | rfl | rfl <;> rfl) ?_
    skip
    refine r_callA (A := [_, _]) (B := Nd ++ (Nc ++ (Nb ++ (Na ++ ([]))))) rfl (by first | trivial | exact ⟨rfl, rfl⟩) rfl (by first | rfl | exact ⟨rfl, rfl⟩) rfl (fun w hk hs => c_AddA 8 w _ _ ma md rta rtd (by omega) bda bdd ⟨_, rfl, hOa.rd.at hk hs (by (repeat' first | exact HSub.nil _ | exact HSub.hd | exact HSub.in0 | exact HSub.refl _ | refine HSub.skip ?_ | refine HSub.skipN ?_))⟩ ⟨_, rfl, hOd.rd.at hk hs (by (repeat' first | exact HSub.nil _ | exact HSub.hd | exact HSub.in0 | exact HSub.refl _ | refine HSub.skip ?_ | refine HSub.skipN ?_))⟩) fun w v w' _ _ _ hR => ?_
    obtain ⟨me, hme⟩ : ∃ m, m = (eachA addZ ma md).1 := ⟨_, rfl⟩
    obtain ⟨ze, hze⟩ : ∃ z, z = (eachA addZ ma md).2 := ⟨_, rfl⟩
    have rte : RtZ me := by rw [hme]; exact addA_rt rta
    rw [← hme, ← hze] at hR
    obtain ⟨Ne, ue, rfl, hNe, Ee, rfl, hOe⟩ := hR
    obtain ⟨Ae, ce, rfl⟩ := hOe.form
    refine ⟨Ne, hNe, ?_⟩
    (repeat' (first | refine JO.nil ?_ | (apply r_move; (iterate 3 exact rfl)) | (apply r_assign; (iterate 3 exact rfl)) | (apply r_extract; (iterate 4 exact rfl)) | (apply r_storeN; exact rfl; (first | exact trivial | exact ⟨rfl, rfl⟩); exact rfl; exact rfl; exact at0; (iterate 3 exact rfl)) | (apply r_allocZ; (iterate 3 exact rfl); intro _) | (apply r_storeN; exact rfl; (first | exact trivial | exact ⟨rfl, rfl⟩); exact rfl; exact rfl; exact at0; (iterate 3 exact rfl))))
    rename_i be
    refine JX.part (F' := [(10, .bool ze), (9, .pointer (some ⟨be, 0, none⟩)), (8, nv 2), (7, .slice (some ⟨b7, 0, none⟩) 3 3), (6, .pointer (some ⟨ba, 0, none⟩)), (5, .bool true)]) (H' := [(be, .cells #[nv me.r, nv me.c, .slice Ae me.e.length ce] 29), (b7, .cells ⟨[nv mb.r, nv mb.c, .slice Ab mb.e.length cb, nv mc.r, nv mc.c, .slice Ac mc.e.length cc, nv md.r, nv md.c, .slice Ad md.e.length cd]⟩ 29), (ba, .cells #[nv ma.r, nv ma.c, .slice Aa ma.e.length ca] 29)] ++ (Ne ++ (Nd ++ (Nc ++ (Nb ++ (Na ++ ([]))))))) (by repeat first | exact trivial | refine ⟨rfl, ?_⟩) (by (repeat' first | exact HSub.refl _ | exact HSub.nil _ | refine HSub.at 0 rfl ?_ | refine HSub.at 1 rfl ?_ | refine HSub.at 2 rfl ?_ | refine HSub.at 3 rfl ?_ | refine HSub.at 4 rfl ?_ | refine HSub.at 5 rfl ?_ | refine HSub.at 6 rfl ?_ | refine HSub.at 7 rfl ?_ | refine HSub.at 8 rfl ?_ | refine HSub.at 9 rfl ?_ | refine HSub.at 10 rfl ?_ | refine HSub.at 11 rfl ?_ | refine HSub.at 12 rfl ?_ | refine HSub.at 13 rfl ?_ | refine HSub.at 14 rfl ?_ | refine HSub.at 15 rfl ?_ | refine HSub.at 16 rfl ?_ | refine HSub.at 17 rfl ?_ | refine HSub.at 18 rfl ?_ | refine HSub.at 19 rfl ?_ | refine HSub.segH ?_ | refine HSub.skip ?_ | refine HSub.skipN ?_)) ?_
    refine JX.thenN ?_
    (repeat' (first | refine JC.seq ?_ | refine JC.opsD ?_ | (apply r_move; (iterate 3 exact rfl)) | (apply r_loadN; (iterate 4 exact rfl); exact at2; exact rfl) | (apply r_index; (iterate 3 exact rfl); exact fun _ => rfl; exact rfl; omega)))
    refine r_loadM (n := 3) (vs := #[nv md.r, nv md.c, .slice Ad md.e.length cd]) 1 rfl rfl rfl rfl rfl rfl (fun j hj => by
      rcases (show j = 0 ∨ j = 1 ∨ j = 2 by omega) with rfl | rfl | rfl <;> rfl) ?_
    skip
    refine r_callA (A := [_, _, _]) (B := Ne ++ (Nd ++ (Nc ++ (Nb ++ (Na ++ ([])))))) rfl (by first | trivial | exact ⟨rfl, rfl⟩) rfl (by first | rfl | exact ⟨rfl, rfl⟩) rfl (fun w hk hs => c_refAddA 8 w _ _ ma md rta rtd (by omega) bda bdd ⟨_, rfl, hOa.rd.at hk hs (by (repeat' first | exact HSub.nil _ | exact HSub.hd | exact HSub.in0 | exact HSub.refl _ | refine HSub.skip ?_ | refine HSub.skipN ?_))⟩ ⟨_, rfl, hOd.rd.at hk hs (by (repeat' first | exact HSub.nil _ | exact HSub.hd | exact HSub.in0 | exact HSub.refl _ | refine HSub.skip ?_ | refine HSub.skipN ?_))⟩) fun w v w' _ _ _ hR => ?_
    obtain ⟨mf, hmf⟩ : ∃ m, m = (eachA addZ ma md).1 := ⟨_, rfl⟩
    obtain ⟨zf, hzf⟩ : ∃ z, z = (eachA addZ ma md).2 := ⟨_, rfl⟩
    have rtf : RtZ mf := by rw [hmf]; exact addA_rt rta
    rw [← hmf, ← hzf] at hR
    obtain ⟨Nf, uf, rfl, hNf, Ef, rfl, hOf⟩ := hR
    obtain ⟨Af, cf, rfl⟩ := hOf.form
    refine ⟨Nf, hNf, ?_⟩
    (repeat' (first | refine JO.nil ?_ | (apply r_move; (iterate 3 exact rfl)) | (apply r_assign; (iterate 3 exact rfl)) | (apply r_extract; (iterate 4 exact rfl)) | (apply r_storeN; exact rfl; (first | exact trivial | exact ⟨rfl, rfl⟩); exact rfl; exact rfl; exact at0; (iterate 3 exact rfl)) | (apply r_allocZ; (iterate 3 exact rfl); intro _) | (apply r_storeN; exact rfl; (first | exact trivial | exact ⟨rfl, rfl⟩); exact rfl; exact rfl; exact at0; (iterate 3 exact rfl))))
    rename_i bf
    refine JX.part (F' := [(12, .bool zf), (11, .pointer (some ⟨bf, 0, none⟩)), (10, .bool ze), (9, .pointer (some ⟨be, 0, none⟩)), (8, nv 2), (7, .slice (some ⟨b7, 0, none⟩) 3 3), (6, .pointer (some ⟨ba, 0, none⟩)), (5, .bool true)]) (H' := [(bf, .cells #[nv mf.r, nv mf.c, .slice Af mf.e.length cf] 29), (be, .cells #[nv me.r, nv me.c, .slice Ae me.e.length ce] 29), (b7, .cells ⟨[nv mb.r, nv mb.c, .slice Ab mb.e.length cb, nv mc.r, nv mc.c, .slice Ac mc.e.length cc, nv md.r, nv md.c, .slice Ad md.e.length cd]⟩ 29), (ba, .cells #[nv ma.r, nv ma.c, .slice Aa ma.e.length ca] 29)] ++ (Nf ++ (Ne ++ (Nd ++ (Nc ++ (Nb ++ (Na ++ ([])))))))) (by repeat first | exact trivial | refine ⟨rfl, ?_⟩) (by (repeat' first | exact HSub.refl _ | exact HSub.nil _ | refine HSub.at 0 rfl ?_ | refine HSub.at 1 rfl ?_ | refine HSub.at 2 rfl ?_ | refine HSub.at 3 rfl ?_ | refine HSub.at 4 rfl ?_ | refine HSub.at 5 rfl ?_ | refine HSub.at 6 rfl ?_ | refine HSub.at 7 rfl ?_ | refine HSub.at 8 rfl ?_ | refine HSub.at 9 rfl ?_ | refine HSub.at 10 rfl ?_ | refine HSub.at 11 rfl ?_ | refine HSub.at 12 rfl ?_ | refine HSub.at 13 rfl ?_ | refine HSub.at 14 rfl ?_ | refine HSub.at 15 rfl ?_ | refine HSub.at 16 rfl ?_ | refine HSub.at 17 rfl ?_ | refine HSub.at 18 rfl ?_ | refine HSub.at 19 rfl ?_ | refine HSub.segH ?_ | refine HSub.skip ?_ | refine HSub.skipN ?_)) ?_
    refine JX.thenN ?_
    (repeat' (first | refine JC.seq ?_ | refine JC.opsD ?_ | (apply r_move; (iterate 3 exact rfl)) | (apply r_loadN; (iterate 4 exact rfl); exact at3; exact rfl) | (apply r_index; (iterate 3 exact rfl); exact fun _ => rfl; exact rfl; omega)))
    refine r_loadM (n := 3) (vs := #[nv md.r, nv md.c, .slice Ad md.e.length cd]) 2 rfl rfl rfl rfl rfl rfl (fun j hj => by
      rcases (show j = 0 ∨ j = 1 ∨ j = 2 by omega) with rfl | rfl | rfl <;> rfl) ?_
    skip
    refine r_callA (A := [_, _, _, _]) (B := Nf ++ (Ne ++ (Nd ++ (Nc ++ (Nb ++ (Na ++ ([]))))))) rfl (by first | trivial | exact ⟨rfl, rfl⟩) rfl (by first | rfl | exact ⟨rfl, rfl⟩) rfl (fun w hk hs => c_SubA 8 w _ _ ma md rta rtd (by omega) bda bdd ⟨_, rfl, hOa.rd.at hk hs (by (repeat' first | exact HSub.nil _ | exact HSub.hd | exact HSub.in0 | exact HSub.refl _ | refine HSub.skip ?_ | refine HSub.skipN ?_))⟩ ⟨_, rfl, hOd.rd.at hk hs (by (repeat' first | exact HSub.nil _ | exact HSub.hd | exact HSub.in0 | exact HSub.refl _ | refine HSub.skip ?_ | refine HSub.skipN ?_))⟩) fun w v w' _ _ _ hR => ?_
    obtain ⟨mg, hmg⟩ : ∃ m, m = (eachA subZ ma md).1 := ⟨_, rfl⟩
    obtain ⟨zg, hzg⟩ : ∃ z, z = (eachA subZ ma md).2 := ⟨_, rfl⟩
    have rtg : RtZ mg := by rw [hmg]; exact subA_rt rta
    rw [← hmg, ← hzg] at hR
    obtain ⟨Ng, ug, rfl, hNg, Eg, rfl, hOg⟩ := hR
    obtain ⟨Ag, cg, rfl⟩ := hOg.form
    refine ⟨Ng, hNg, ?_⟩
    (repeat' (first | refine JO.nil ?_ | (apply r_move; (iterate 3 exact rfl)) | (apply r_assign; (iterate 3 exact rfl)) | (apply r_extract; (iterate 4 exact rfl)) | (apply r_storeN; exact rfl; (first | exact trivial | exact ⟨rfl, rfl⟩); exact rfl; exact rfl; exact at0; (iterate 3 exact rfl)) | (apply r_allocZ; (iterate 3 exact rfl); intro _) | (apply r_storeN; exact rfl; (first | exact trivial | exact ⟨rfl, rfl⟩); exact rfl; exact rfl; exact at0; (iterate 3 exact rfl))))
    rename_i bg
    refine JX.part (F' := [(14, .bool zg), (13, .pointer (some ⟨bg, 0, none⟩)), (12, .bool zf), (11, .pointer (some ⟨bf, 0, none⟩)), (10, .bool ze), (9, .pointer (some ⟨be, 0, none⟩)), (8, nv 2), (7, .slice (some ⟨b7, 0, none⟩) 3 3), (6, .pointer (some ⟨ba, 0, none⟩)), (5, .bool true)]) (H' := [(bg, .cells #[nv mg.r, nv mg.c, .slice Ag mg.e.length cg] 29), (bf, .cells #[nv mf.r, nv mf.c, .slice Af mf.e.length cf] 29), (be, .cells #[nv me.r, nv me.c, .slice Ae me.e.length ce] 29), (b7, .cells ⟨[nv mb.r, nv mb.c, .slice Ab mb.e.length cb, nv mc.r, nv mc.c, .slice Ac mc.e.length cc, nv md.r, nv md.c, .slice Ad md.e.length cd]⟩ 29), (ba, .cells #[nv ma.r, nv ma.c, .slice Aa ma.e.length ca] 29)] ++ (Ng ++ (Nf ++ (Ne ++ (Nd ++ (Nc ++ (Nb ++ (Na ++ ([]))))))))) (by repeat first | exact trivial | refine ⟨rfl, ?_⟩) (by (repeat' first | exact HSub.refl _ | exact HSub.nil _ | refine HSub.at 0 rfl ?_ | refine HSub.at 1 rfl ?_ | refine HSub.at 2 rfl ?_ | refine HSub.at 3 rfl ?_ | refine HSub.at 4 rfl ?_ | refine HSub.at 5 rfl ?_ | refine HSub.at 6 rfl ?_ | refine HSub.at 7 rfl ?_ | refine HSub.at 8 rfl ?_ | refine HSub.at 9 rfl ?_ | refine HSub.at 10 rfl ?_ | refine HSub.at 11 rfl ?_ | refine HSub.at 12 rfl ?_ | refine HSub.at 13 rfl ?_ | refine HSub.at 14 rfl ?_ | refine HSub.at 15 rfl ?_ | refine HSub.at 16 rfl ?_ | refine HSub.at 17 rfl ?_ | refine HSub.at 18 rfl ?_ | refine HSub.at 19 rfl ?_ | refine HSub.segH ?_ | refine HSub.skip ?_ | refine HSub.skipN ?_)) ?_
    refine JX.thenN ?_
    (repeat' (first | refine JC.seq ?_ | refine JC.opsD ?_ | (apply r_move; (iterate 3 exact rfl)) | (apply r_loadN; (iterate 4 exact rfl); exact at4; exact rfl) | (apply r_index; (iterate 3 exact rfl); exact fun _ => rfl; exact rfl; omega)))
    refine r_loadM (n := 3) (vs := #[nv md.r, nv md.c, .slice Ad md.e.length cd]) 3 rfl rfl rfl rfl rfl rfl (fun j hj => by
      rcases (show j = 0 ∨ j = 1 ∨ j = 2 by omega) with rfl | rfl | rfl <;> rfl) ?_
    skip
    refine r_callA (A := [_, _, _, _, _]) (B := Ng ++ (Nf ++ (Ne ++ (Nd ++ (Nc ++ (Nb ++ (Na ++ ([])))))))) rfl (by first | trivial | exact ⟨rfl, rfl⟩) rfl (by first | rfl | exact ⟨rfl, rfl⟩) rfl (fun w hk hs => c_refSubA 8 w _ _ ma md rta rtd (by omega) bda bdd ⟨_, rfl, hOa.rd.at hk hs (by (repeat' first | exact HSub.nil _ | exact HSub.hd | exact HSub.in0 | exact HSub.refl _ | refine HSub.skip ?_ | refine HSub.skipN ?_))⟩ ⟨_, rfl, hOd.rd.at hk hs (by (repeat' first | exact HSub.nil _ | exact HSub.hd | exact HSub.in0 | exact HSub.refl _ | refine HSub.skip ?_ | refine HSub.skipN ?_))⟩) fun w v w' _ _ _ hR => ?_
    obtain ⟨mh, hmh⟩ : ∃ m, m = (eachA subZ ma md).1 := ⟨_, rfl⟩
    obtain ⟨zh, hzh⟩ : ∃ z, z = (eachA subZ ma md).2 := ⟨_, rfl⟩
    have rth : RtZ mh := by rw [hmh]; exact subA_rt rta
    rw [← hmh, ← hzh] at hR
    obtain ⟨Nh, uh, rfl, hNh, Eh, rfl, hOh⟩ := hR
    obtain ⟨Ah, ch, rfl⟩ := hOh.form
    refine ⟨Nh, hNh, ?_⟩
    (repeat' (first | refine JO.nil ?_ | (apply r_move; (iterate 3 exact rfl)) | (apply r_assign; (iterate 3 exact rfl)) | (apply r_extract; (iterate 4 exact rfl)) | (apply r_storeN; exact rfl; (first | exact trivial | exact ⟨rfl, rfl⟩); exact rfl; exact rfl; exact at0; (iterate 3 exact rfl)) | (apply r_allocZ; (iterate 3 exact rfl); intro _) | (apply r_storeN; exact rfl; (first | exact trivial | exact ⟨rfl, rfl⟩); exact rfl; exact rfl; exact at0; (iterate 3 exact rfl))))
    rename_i bh
    refine JX.part (F' := [(16, .bool zh), (15, .pointer (some ⟨bh, 0, none⟩)), (14, .bool zg), (13, .pointer (some ⟨bg, 0, none⟩)), (12, .bool zf), (11, .pointer (some ⟨bf, 0, none⟩)), (10, .bool ze), (9, .pointer (some ⟨be, 0, none⟩)), (8, nv 2), (7, .slice (some ⟨b7, 0, none⟩) 3 3), (6, .pointer (some ⟨ba, 0, none⟩)), (5, .bool true)]) (H' := [(bh, .cells #[nv mh.r, nv mh.c, .slice Ah mh.e.length ch] 29), (bg, .cells #[nv mg.r, nv mg.c, .slice Ag mg.e.length cg] 29), (bf, .cells #[nv mf.r, nv mf.c, .slice Af mf.e.length cf] 29), (be, .cells #[nv me.r, nv me.c, .slice Ae me.e.length ce] 29), (b7, .cells ⟨[nv mb.r, nv mb.c, .slice Ab mb.e.length cb, nv mc.r, nv mc.c, .slice Ac mc.e.length cc, nv md.r, nv md.c, .slice Ad md.e.length cd]⟩ 29), (ba, .cells #[nv ma.r, nv ma.c, .slice Aa ma.e.length ca] 29)] ++ (Nh ++ (Ng ++ (Nf ++ (Ne ++ (Nd ++ (Nc ++ (Nb ++ (Na ++ ([])))))))))) (by repeat first | exact trivial | refine ⟨rfl, ?_⟩) (by (repeat' first | exact HSub.refl _ | exact HSub.nil _ | refine HSub.at 0 rfl ?_ | refine HSub.at 1 rfl ?_ | refine HSub.at 2 rfl ?_ | refine HSub.at 3 rfl ?_ | refine HSub.at 4 rfl ?_ | refine HSub.at 5 rfl ?_ | refine HSub.at 6 rfl ?_ | refine HSub.at 7 rfl ?_ | refine HSub.at 8 rfl ?_ | refine HSub.at 9 rfl ?_ | refine HSub.at 10 rfl ?_ | refine HSub.at 11 rfl ?_ | refine HSub.at 12 rfl ?_ | refine HSub.at 13 rfl ?_ | refine HSub.at 14 rfl ?_ | refine HSub.at 15 rfl ?_ | refine HSub.at 16 rfl ?_ | refine HSub.at 17 rfl ?_ | refine HSub.at 18 rfl ?_ | refine HSub.at 19 rfl ?_ | refine HSub.segH ?_ | refine HSub.skip ?_ | refine HSub.skipN ?_)) ?_
    refine JX.thenN ?_
    (repeat' (first | refine JC.seq ?_ | refine JC.opsD ?_ | (apply r_move; (iterate 3 exact rfl)) | (apply r_loadN; (iterate 4 exact rfl); exact at5; exact rfl) | (apply r_index; (iterate 3 exact rfl); exact fun _ => rfl; exact rfl; omega)))
    refine r_loadM (n := 3) (vs := #[nv md.r, nv md.c, .slice Ad md.e.length cd]) 4 rfl rfl rfl rfl rfl rfl (fun j hj => by
      rcases (show j = 0 ∨ j = 1 ∨ j = 2 by omega) with rfl | rfl | rfl <;> rfl) ?_
    skip
    refine r_callA (A := [_, _, _, _, _, _]) (B := Nh ++ (Ng ++ (Nf ++ (Ne ++ (Nd ++ (Nc ++ (Nb ++ (Na ++ ([]))))))))) rfl (by first | trivial | exact ⟨rfl, rfl⟩) rfl (by first | rfl | exact ⟨rfl, rfl⟩) rfl (fun w hk hs => c_MulA 8 8 w _ _ ma md rta rtd (by omega) bda bdd ⟨_, rfl, hOa.rd.at hk hs (by (repeat' first | exact HSub.nil _ | exact HSub.hd | exact HSub.in0 | exact HSub.refl _ | refine HSub.skip ?_ | refine HSub.skipN ?_))⟩ ⟨_, rfl, hOd.rd.at hk hs (by (repeat' first | exact HSub.nil _ | exact HSub.hd | exact HSub.in0 | exact HSub.refl _ | refine HSub.skip ?_ | refine HSub.skipN ?_))⟩) fun w v w' _ _ _ hR => ?_
    obtain ⟨mi, hmi⟩ : ∃ m, m = (mulA ma md).1 := ⟨_, rfl⟩
    obtain ⟨zi, hzi⟩ : ∃ z, z = (mulA ma md).2 := ⟨_, rfl⟩
    have rti : RtZ mi := by rw [hmi]; exact mulA_rt rta rtd
    rw [← hmi, ← hzi] at hR
    obtain ⟨Ni, ui, rfl, hNi, Ei, rfl, hOi⟩ := hR
    obtain ⟨Ai, ci, rfl⟩ := hOi.form
    refine ⟨Ni, hNi, ?_⟩
    (repeat' (first | refine JO.nil ?_ | (apply r_move; (iterate 3 exact rfl)) | (apply r_assign; (iterate 3 exact rfl)) | (apply r_extract; (iterate 4 exact rfl)) | (apply r_storeN; exact rfl; (first | exact trivial | exact ⟨rfl, rfl⟩); exact rfl; exact rfl; exact at0; (iterate 3 exact rfl)) | (apply r_allocZ; (iterate 3 exact rfl); intro _) | (apply r_storeN; exact rfl; (first | exact trivial | exact ⟨rfl, rfl⟩); exact rfl; exact rfl; exact at0; (iterate 3 exact rfl))))
    rename_i bi
    refine JX.part (F' := [(18, .bool zi), (17, .pointer (some ⟨bi, 0, none⟩)), (16, .bool zh), (15, .pointer (some ⟨bh, 0, none⟩)), (14, .bool zg), (13, .pointer (some ⟨bg, 0, none⟩)), (12, .bool zf), (11, .pointer (some ⟨bf, 0, none⟩)), (10, .bool ze), (9, .pointer (some ⟨be, 0, none⟩)), (8, nv 2), (7, .slice (some ⟨b7, 0, none⟩) 3 3), (6, .pointer (some ⟨ba, 0, none⟩)), (5, .bool true)]) (H' := [(bi, .cells #[nv mi.r, nv mi.c, .slice Ai mi.e.length ci] 29), (bh, .cells #[nv mh.r, nv mh.c, .slice Ah mh.e.length ch] 29), (bg, .cells #[nv mg.r, nv mg.c, .slice Ag mg.e.length cg] 29), (bf, .cells #[nv mf.r, nv mf.c, .slice Af mf.e.length cf] 29), (be, .cells #[nv me.r, nv me.c, .slice Ae me.e.length ce] 29), (b7, .cells ⟨[nv mb.r, nv mb.c, .slice Ab mb.e.length cb, nv mc.r, nv mc.c, .slice Ac mc.e.length cc, nv md.r, nv md.c, .slice Ad md.e.length cd]⟩ 29), (ba, .cells #[nv ma.r, nv ma.c, .slice Aa ma.e.length ca] 29)] ++ (Ni ++ (Nh ++ (Ng ++ (Nf ++ (Ne ++ (Nd ++ (Nc ++ (Nb ++ (Na ++ ([]))))))))))) (by repeat first | exact trivial | refine ⟨rfl, ?_⟩) (by (repeat' first | exact HSub.refl _ | exact HSub.nil _ | refine HSub.at 0 rfl ?_ | refine HSub.at 1 rfl ?_ | refine HSub.at 2 rfl ?_ | refine HSub.at 3 rfl ?_ | refine HSub.at 4 rfl ?_ | refine HSub.at 5 rfl ?_ | refine HSub.at 6 rfl ?_ | refine HSub.at 7 rfl ?_ | refine HSub.at 8 rfl ?_ | refine HSub.at 9 rfl ?_ | refine HSub.at 10 rfl ?_ | refine HSub.at 11 rfl ?_ | refine HSub.at 12 rfl ?_ | refine HSub.at 13 rfl ?_ | refine HSub.at 14 rfl ?_ | refine HSub.at 15 rfl ?_ | refine HSub.at 16 rfl ?_ | refine HSub.at 17 rfl ?_ | refine HSub.at 18 rfl ?_ | refine HSub.at 19 rfl ?_ | refine HSub.segH ?_ | refine HSub.skip ?_ | refine HSub.skipN ?_)) ?_
    refine JX.thenN ?_
    (repeat' (first | refine JC.seq ?_ | refine JC.opsD ?_ | (apply r_move; (iterate 3 exact rfl)) | (apply r_loadN; (iterate 4 exact rfl); exact at6; exact rfl) | (apply r_index; (iterate 3 exact rfl); exact fun _ => rfl; exact rfl; omega)))
    refine r_loadM (n := 3) (vs := #[nv md.r, nv md.c, .slice Ad md.e.length cd]) 5 rfl rfl rfl rfl rfl rfl (fun j hj => by
      rcases (show j = 0 ∨ j = 1 ∨ j = 2 by omega) with rfl | rfl | rfl <;> rfl) ?_
    skip
    refine r_callA (A := [_, _, _, _, _, _, _]) (B := Ni ++ (Nh ++ (Ng ++ (Nf ++ (Ne ++ (Nd ++ (Nc ++ (Nb ++ (Na ++ ([])))))))))) rfl (by first | trivial | exact ⟨rfl, rfl⟩) rfl (by first | rfl | exact ⟨rfl, rfl⟩) rfl (fun w hk hs => c_refMulA 8 8 w _ _ ma md rta rtd (by omega) bda bdd ⟨_, rfl, hOa.rd.at hk hs (by (repeat' first | exact HSub.nil _ | exact HSub.hd | exact HSub.in0 | exact HSub.refl _ | refine HSub.skip ?_ | refine HSub.skipN ?_))⟩ ⟨_, rfl, hOd.rd.at hk hs (by (repeat' first | exact HSub.nil _ | exact HSub.hd | exact HSub.in0 | exact HSub.refl _ | refine HSub.skip ?_ | refine HSub.skipN ?_))⟩) fun w v w' _ _ _ hR => ?_
    obtain ⟨mj, hmj⟩ : ∃ m, m = (mulA ma md).1 := ⟨_, rfl⟩
    obtain ⟨zj, hzj⟩ : ∃ z, z = (mulA ma md).2 := ⟨_, rfl⟩
    have rtj : RtZ mj := by rw [hmj]; exact mulA_rt rta rtd
    rw [← hmj, ← hzj] at hR
    obtain ⟨Nj, uj, rfl, hNj, Ej, rfl, hOj⟩ := hR
    obtain ⟨Aj, cj, rfl⟩ := hOj.form
    refine ⟨Nj, hNj, ?_⟩
    (repeat' (first | refine JO.nil ?_ | (apply r_move; (iterate 3 exact rfl)) | (apply r_assign; (iterate 3 exact rfl)) | (apply r_extract; (iterate 4 exact rfl)) | (apply r_storeN; exact rfl; (first | exact trivial | exact ⟨rfl, rfl⟩); exact rfl; exact rfl; exact at0; (iterate 3 exact rfl)) | (apply r_allocZ; (iterate 3 exact rfl); intro _) | (apply r_storeN; exact rfl; (first | exact trivial | exact ⟨rfl, rfl⟩); exact rfl; exact rfl; exact at0; (iterate 3 exact rfl))))
    rename_i bj
    refine JX.part (F' := [(20, .bool zj), (19, .pointer (some ⟨bj, 0, none⟩)), (18, .bool zi), (17, .pointer (some ⟨bi, 0, none⟩)), (16, .bool zh), (15, .pointer (some ⟨bh, 0, none⟩)), (14, .bool zg), (13, .pointer (some ⟨bg, 0, none⟩)), (12, .bool zf), (11, .pointer (some ⟨bf, 0, none⟩)), (10, .bool ze), (9, .pointer (some ⟨be, 0, none⟩)), (8, nv 2), (7, .slice (some ⟨b7, 0, none⟩) 3 3), (6, .pointer (some ⟨ba, 0, none⟩)), (5, .bool true)]) (H' := [(bj, .cells #[nv mj.r, nv mj.c, .slice Aj mj.e.length cj] 29), (bi, .cells #[nv mi.r, nv mi.c, .slice Ai mi.e.length ci] 29), (bh, .cells #[nv mh.r, nv mh.c, .slice Ah mh.e.length ch] 29), (bg, .cells #[nv mg.r, nv mg.c, .slice Ag mg.e.length cg] 29), (bf, .cells #[nv mf.r, nv mf.c, .slice Af mf.e.length cf] 29), (be, .cells #[nv me.r, nv me.c, .slice Ae me.e.length ce] 29), (b7, .cells ⟨[nv mb.r, nv mb.c, .slice Ab mb.e.length cb, nv mc.r, nv mc.c, .slice Ac mc.e.length cc, nv md.r, nv md.c, .slice Ad md.e.length cd]⟩ 29), (ba, .cells #[nv ma.r, nv ma.c, .slice Aa ma.e.length ca] 29)] ++ (Nj ++ (Ni ++ (Nh ++ (Ng ++ (Nf ++ (Ne ++ (Nd ++ (Nc ++ (Nb ++ (Na ++ ([])))))))))))) (by repeat first | exact trivial | refine ⟨rfl, ?_⟩) (by (repeat' first | exact HSub.refl _ | exact HSub.nil _ | refine HSub.at 0 rfl ?_ | refine HSub.at 1 rfl ?_ | refine HSub.at 2 rfl ?_ | refine HSub.at 3 rfl ?_ | refine HSub.at 4 rfl ?_ | refine HSub.at 5 rfl ?_ | refine HSub.at 6 rfl ?_ | refine HSub.at 7 rfl ?_ | refine HSub.at 8 rfl ?_ | refine HSub.at 9 rfl ?_ | refine HSub.at 10 rfl ?_ | refine HSub.at 11 rfl ?_ | refine HSub.at 12 rfl ?_ | refine HSub.at 13 rfl ?_ | refine HSub.at 14 rfl ?_ | refine HSub.at 15 rfl ?_ | refine HSub.at 16 rfl ?_ | refine HSub.at 17 rfl ?_ | refine HSub.at 18 rfl ?_ | refine HSub.at 19 rfl ?_ | refine HSub.segH ?_ | refine HSub.skip ?_ | refine HSub.skipN ?_)) ?_
    refine JX.thenN ?_
    (repeat' (first | refine JC.seq ?_ | refine JC.ops ?_ | (apply r_loadN; (iterate 4 exact rfl); (first | exact at4 | exact at5); exact rfl)))
    have hef : me = mf := by rw [hme, hmf]
    have zef : ze = zf := by rw [hze, hzf]
    refine r_call0 (by first | trivial | exact ⟨rfl, rfl⟩) rfl (by first | rfl | exact ⟨rfl, rfl⟩) rfl (fun w hk hs => same_t (m := me) rte ⟨_, rfl, hOe.rd.at hk hs (by (repeat' first | exact HSub.nil _ | exact HSub.hd | exact HSub.in0 | exact HSub.refl _ | refine HSub.skip ?_ | refine HSub.skipN ?_))⟩ (by rw [hef]; exact ⟨_, rfl, hOf.rd.at hk hs (by (repeat' first | exact HSub.nil _ | exact HSub.hd | exact HSub.in0 | exact HSub.refl _ | refine HSub.skip ?_ | refine HSub.skipN ?_))⟩)) fun w v w' _ _ _ hR => ?_
    subst hR
    (repeat' (first | (apply r_move; (iterate 3 exact rfl)) | (apply r_pickF; (iterate 4 exact rfl)) | (apply r_not; (iterate 3 exact rfl)) | (apply r_neB; (iterate 4 exact rfl))))
    rw [zef]
    simp only [bne_self_eq_false]
    (repeat' (first | (apply r_loadN; (iterate 4 exact rfl); (first | exact at2 | exact at3); exact rfl)))
    have hgh : mg = mh := by rw [hmg, hmh]
    have zgh : zg = zh := by rw [hzg, hzh]
    refine r_call0 (by first | trivial | exact ⟨rfl, rfl⟩) rfl (by first | rfl | exact ⟨rfl, rfl⟩) rfl (fun w hk hs => same_t (m := mg) rtg ⟨_, rfl, hOg.rd.at hk hs (by (repeat' first | exact HSub.nil _ | exact HSub.hd | exact HSub.in0 | exact HSub.refl _ | refine HSub.skip ?_ | refine HSub.skipN ?_))⟩ (by rw [hgh]; exact ⟨_, rfl, hOh.rd.at hk hs (by (repeat' first | exact HSub.nil _ | exact HSub.hd | exact HSub.in0 | exact HSub.refl _ | refine HSub.skip ?_ | refine HSub.skipN ?_))⟩)) fun w v w' _ _ _ hR => ?_
    subst hR
    (repeat' (first | (apply r_move; (iterate 3 exact rfl)) | (apply r_pickF; (iterate 4 exact rfl)) | (apply r_not; (iterate 3 exact rfl)) | (apply r_neB; (iterate 4 exact rfl))))
    rw [zgh]
    simp only [bne_self_eq_false]
    (repeat' (first | (apply r_loadN; (iterate 4 exact rfl); (first | exact at0 | exact at1); exact rfl)))
    have hij : mi = mj := by rw [hmi, hmj]
    have zij : zi = zj := by rw [hzi, hzj]
    refine r_call0 (by first | trivial | exact ⟨rfl, rfl⟩) rfl (by first | rfl | exact ⟨rfl, rfl⟩) rfl (fun w hk hs => same_t (m := mi) rti ⟨_, rfl, hOi.rd.at hk hs (by (repeat' first | exact HSub.nil _ | exact HSub.hd | exact HSub.in0 | exact HSub.refl _ | refine HSub.skip ?_ | refine HSub.skipN ?_))⟩ (by rw [hij]; exact ⟨_, rfl, hOj.rd.at hk hs (by (repeat' first | exact HSub.nil _ | exact HSub.hd | exact HSub.in0 | exact HSub.refl _ | refine HSub.skip ?_ | refine HSub.skipN ?_))⟩)) fun w v w' _ _ _ hR => ?_
    subst hR
    (repeat' (first | refine JO.nil ?_ | (apply r_move; (iterate 3 exact rfl)) | (apply r_pickF; (iterate 4 exact rfl)) | (apply r_not; (iterate 3 exact rfl)) | (apply r_neB; (iterate 4 exact rfl))))
    rw [zij]
    simp only [bne_self_eq_false]
    skip
    refine JX.thenN ?_
    (repeat' (first | refine JC.skip ?_ | refine JC.condF rfl ?_ | refine JX.blockN ?_))
    refine JX.thenN ?_
    (repeat' (first | refine JC.ops ?_ | refine JO.nil ?_ | (apply r_move; (iterate 3 exact rfl)) | (apply r_assign; (iterate 3 exact rfl)) | (apply r_add1; (iterate 4 exact rfl); omega)))
    exact JX.roundH 3 (by dsimp only; omega) (by dsimp only; omega) (by repeat first | exact trivial | refine ⟨rfl, ?_⟩) (by (repeat' first | exact HSub.refl _ | exact HSub.nil _ | refine HSub.at 0 rfl ?_ | refine HSub.at 1 rfl ?_ | refine HSub.at 2 rfl ?_ | refine HSub.at 3 rfl ?_ | refine HSub.at 4 rfl ?_ | refine HSub.at 5 rfl ?_ | refine HSub.at 6 rfl ?_ | refine HSub.at 7 rfl ?_ | refine HSub.at 8 rfl ?_ | refine HSub.at 9 rfl ?_ | refine HSub.at 10 rfl ?_ | refine HSub.at 11 rfl ?_ | refine HSub.at 12 rfl ?_ | refine HSub.at 13 rfl ?_ | refine HSub.at 14 rfl ?_ | refine HSub.at 15 rfl ?_ | refine HSub.at 16 rfl ?_ | refine HSub.at 17 rfl ?_ | refine HSub.at 18 rfl ?_ | refine HSub.at 19 rfl ?_ | refine HSub.segH ?_ | refine HSub.skip ?_ | refine HSub.skipN ?_))
  · (repeat' (first | refine JC.seq ?_ | refine JC.ops ?_ | refine JO.nil ?_ | refine JX.thenN ?_ | (apply r_move; (iterate 3 exact rfl)) | (apply r_assign; (iterate 3 exact rfl)) | (apply r_lss; (iterate 4 exact rfl); all_goals intro hc; all_goals try (exfalso; omega)) | refine JX.thenE ?_ | refine JC.exit ?_ | refine JC.ret ?_ | refine JC.condF rfl ?_ | refine JX.blockE ?_))
    exact JX.ret1 rfl (fun a w' st => ⟨st.kp, rfl⟩)

end Go.Proofs.YtdlmnloikakjpaaDoor

/-
  LawMatrixSums: for every input the call of 'cocycle/cocyclelaw02.MatrixSums' returns true, and every argument reads afterwards as it read before. Conditions: none. The card.
-/
namespace Go.Proofs.YtdlmnloikakjpaaDoor.matrixSums
open Go Go.RowKit Go.ChangeShapes Go.WideShapes Go.ChangeAt
set_option linter.unusedSimpArgs false
set_option linter.unusedVariables false
set_option linter.unusedSectionVars false

set_option maxRecDepth 100000 in
theorem lifted (os : Os) (started : os.Started) (H : Type) (enc : TypeId × Value → H) :
    ReturnsInHanded {} Tryd.checked os 9 .any (fun w args => (Rows.matrixSumsSpec.pre enc Tryd.prog Tryd.f9 [] false w args ∧ laidMetH Tryd.prog Rows.matrixSumsRow.laid w) ∧ sizedMet enc Tryd.prog Tryd.f9 (OpenSpec.ofChange Rows.matrixSumsSpec) false w args)
      (Rows.matrixSumsSpec.post enc Tryd.prog Tryd.f9 false true false false) := by
  refine returnsInHanded_of_change_and (C := Tryd.checked) (X := fun w _ => laidMetH Tryd.prog Rows.matrixSumsRow.laid w) (fun _ _ _ hh h => h.of_heap hh) own started (by kernel_rfl) Tryd.func9
    (ChangeSpec.witness_shaped (enc := enc) (C := Tryd.checked) (os := os) (X := fun w _ => laidMetH Tryd.prog Rows.matrixSumsRow.laid w) false (World.laidAll Tryd.prog os Rows.matrixSumsRow.laid) #[.agg #[.int .u8 0, .int .u8 0, .slice none 0 0], .agg #[.int .u8 0, .int .u8 0, .slice none 0 0]] 8 (World.laidAll_os _ _ _)
      (World.shaped_of_ZipB (by kernel_rfl) (by kernel_rfl)) (by kernel_rfl) (by kernel_rfl) (by kernel_rfl)
      (by rw [MakeChecks.laidMetH_plain _ _ _ (by kernel_rfl)]; exact laidMet_laidAll _ (by kernel_rfl) (by kernel_rfl))) ?_
  intro W base args ds gs before hval0 hW _ hwt0 hL _
  have hval : ∀ (j : Nat) t v, Tryd.f9.params[j]? = some t → args[j]? = some v → Value.okWide Tryd.prog W .any base t v := hval0
  have hW' := hW
  obtain ⟨p, q, hA0, hV, rfl, hfz, hnd⟩ := hW
  have hA : DataW.TrodAll enc Tryd.prog W 0 (fun _ => true) true Tryd.f9.params.toList args.toList ds p := hA0
  have hwt : (DataW.weightsEach Tryd.prog (Tryd.f9.params.toList ++ Rows.matrixSumsSpec.plain.varTypes Tryd.prog) (ds ++ gs)).all (· ≤ reachBytes) = true := hwt0
  have hwt1 := fun n hn => of_decide_eq_true (List.all_eq_true.1 hwt n hn)
  rw [Tryd.params9] at hA hval hwt1
  obtain ⟨v0, vs0, d0, ds0, p0, q0, hargs, rfl, rfl, h0, r0⟩ := trodAll_cons hA
  obtain ⟨v1, vs1, d1, ds1, p1, q1, rfl, rfl, rfl, h1, r1⟩ := trodAll_cons r0
  obtain ⟨rfl, rfl, rfl⟩ := trodAll_nil r1
  obtain rfl : args = #[v0, v1] := by cases args; simp_all
  obtain ⟨rfl, rfl⟩ := trodVars_none hV
  have k0 := h0
  have lt0 : ∀ x ∈ p0, x.block < W.heap.size := by obtain ⟨m, hm⟩ := k0; exact DataW.trod_lt m _ _ _ hm
  obtain ⟨R0, C0, L0, s0⟩ := open_shape (hval 0 24 v0 rfl rfl) h0
  have k1 := h1
  have lt1 : ∀ x ∈ p1, x.block < W.heap.size := by obtain ⟨m, hm⟩ := k1; exact DataW.trod_lt m _ _ _ hm
  obtain ⟨R1, C1, L1, s1⟩ := open_shape (hval 1 24 v1 rfl rfl) h1
  clear hA0 hval0
  refine (c_MatrixSums W v0 v1 R0 C0 L0 R1 C1 L1 s0 s1).mono fun e W' he => ?_
  cases e with
  | panicked _ => exact he.elim
  | outgrown => exact he.elim
  | returned u =>
    obtain ⟨hk, rfl⟩ := he
    have bel := hk.below
    exact ⟨_, rfl, _, _, _, [], _, [], hW', trodAll_mk1 (shut_bool Tryd.underlying4 _), (trodAll_cons_mk (Below.trod laidOut (by kernel_rfl) (of_decide_eq_true (by kernel_rfl)) k0 bel lt0) (trodAll_cons_mk (Below.trod laidOut (by kernel_rfl) (of_decide_eq_true (by kernel_rfl)) k1 bel lt1) trodAll_mk0)), rfl, bel.frame _, fun h => by cases h⟩

theorem holds : Rows.MatrixSumsSaid :=
  OpenClaim.holds_of_wide 9 Tryd.f9 rfl rfl rfl rfl rfl rfl rfl ⟨rfl, rfl, rfl, rfl, rfl⟩ rfl rfl rfl rfl rfl (by kernel_rfl) Tryd.func9 (by kernel_rfl)
    (of_decide_eq_true (by kernel_rfl)) (by unfold Func.isWrapper; first | (rw [if_pos (by decide +kernel)]; kernel_rfl) | (rw [if_neg (by decide +kernel)]; exact ⟨rfl, rfl⟩))
    (fun os started H enc _ => lifted os started H enc)

theorem proved : Rows.MatrixSumsCardSaid :=
  Claim7.holds_tied_plain_at .later [] [.data, .pinned] true (true, "1e720b878859d18141ea40e2dc597df34bde83979d72dc5a8b5bc54d7198a929") false holds (fun _ h => by cases h) (by kernel_rfl) (fun _ h => by cases h) matrixSums_row_tie rfl ⟨rfl, rfl⟩ (by kernel_rfl) rfl
    (fun f fn hf hfn => by
      obtain rfl : f = 9 := Option.some.inj ((show Tryd.prog.funcNamed "cocycle/cocyclelaw02.MatrixSums" = some 9 by kernel_rfl).symm.trans hf) |>.symm
      obtain rfl : fn = Tryd.f9 := (Option.some.inj (Tryd.func9.symm.trans hfn)).symm
      exact ⟨by kernel_rfl, fun j t ht => by
        rw [Tryd.params9] at ht
        have hm : t ∈ [24] := by simpa using Array.mem_of_getElem? ht
        have hall : ([24].all fun u => !Tryd.prog.wantsStandIn u) = true := by kernel_rfl
        exact (show Tryd.prog.wantsStandIn t = false by simpa using List.all_eq_true.1 hall t hm)⟩)
    (by kernel_rfl)

end Go.Proofs.YtdlmnloikakjpaaDoor.matrixSums

