import Derived.Test.YtdlmnloikakjpaaDoorMh
import Derived.Test.YtdlmnloikakjpaaDoorMi
import Derived.Test.YtdlmnloikakjpaaDoorMj
import Derived.Test.YtdlmnloikakjpaaDoorTie
import Derived.Test.YtdlmnloikakjpaaDoorCards
import Derived.Shelf.Lay
import Derived.Lay
import Derived.LaidOnce
import Derived.SevenTiedAt
/- The law MatrixSmall. ROWZ -/
namespace Go.Proofs.YtdlmnloikakjpaaDoor
open Go Go.RowKit
set_option linter.unusedSimpArgs false
set_option linter.unusedVariables false
set_option linter.unusedSectionVars false

theorem shc (C : Nat) : C % 7 ≤ 6 := by have := Nat.mod_lt C (show 0 < 7 by omega); omega

set_option maxHeartbeats 16000000 in
theorem c_MatrixSmall (w : World) (v0 : Value) (R0 C0 : Nat) (L0 : List Int) (hv0 : IsS w v0 R0 C0 L0) :
    Calls Tryd.prog 7 #[v0] w (Ret fun v w' => Kp [] w w' ∧ v = .bool true) := by
  have hs0 := hv0
  have hc0 := shc C0
  have hr0 := shc R0
  have hL0 := hv0.2.2.1
  obtain ⟨_, _, _, E0, rfl, _⟩ := hv0
  refine calls_of_S [⟨9, 1, [0, 1, 2, 4, 5, 6, 9, 10, 11, 3, 7, 8, 12, 13, 14, 15], []⟩, ⟨10, 1, [], []⟩, ⟨12, 1, [0, 2, 5, 7, 1, 3, 4, 6, 8, 9, 10, 11, 12], []⟩] [] (by simp) [] Tryd.func7 rfl mixed (by kernel_rfl) Tryd.ntmps7 Tryd.results7 rfl ⟨by simp, by simp⟩ (by simp) ?_
  simp only [toS, textOps, toSOp, kindAt, kindOf, odAt, sopsAt, ordOf, zipF]
  (repeat' (first | refine JC.seq ?_ | refine JC.ops ?_ | refine JO.nil ?_ | (apply r_assign; (iterate 3 exact rfl)) | (apply r_boxA; (iterate 4 exact rfl); intro _)))
  rename_i bs0
  refine JX.thenN ?_
  (repeat' (first | refine JC.seq ?_ | refine JC.ops ?_))
  refine r_call0 trivial rfl rfl rfl (fun w _ _ => c_sanity w) fun w v w' _ _ _ hR => ?_
  subst hR
  (repeat' (first | refine JO.nil ?_ | (apply r_assign; (iterate 3 exact rfl))))
  refine JX.part (F' := [(3, .bool true), (1, .pointer (some ⟨bs0, 0, none⟩))]) (H' := [(bs0, .cells #[.int .u8 (R0 : Int), .int .u8 (C0 : Int), E0] 24)] ++ ([])) (by repeat first | exact trivial | refine ⟨rfl, ?_⟩) (by (repeat' first | exact HSub.refl _ | exact HSub.nil _ | refine HSub.at 0 rfl ?_ | refine HSub.at 1 rfl ?_ | refine HSub.at 2 rfl ?_ | refine HSub.at 3 rfl ?_ | refine HSub.at 4 rfl ?_ | refine HSub.at 5 rfl ?_ | refine HSub.at 6 rfl ?_ | refine HSub.at 7 rfl ?_ | refine HSub.at 8 rfl ?_ | refine HSub.at 9 rfl ?_ | refine HSub.at 10 rfl ?_ | refine HSub.at 11 rfl ?_ | refine HSub.at 12 rfl ?_ | refine HSub.at 13 rfl ?_ | refine HSub.at 14 rfl ?_ | refine HSub.at 15 rfl ?_ | refine HSub.at 16 rfl ?_ | refine HSub.at 17 rfl ?_ | refine HSub.at 18 rfl ?_ | refine HSub.at 19 rfl ?_ | refine HSub.segH ?_ | refine HSub.skip ?_ | refine HSub.skipN ?_)) ?_
  refine JX.thenN ?_
  (repeat' (first | refine JC.seq ?_ | refine JC.ops ?_ | (apply r_loadN; (iterate 4 exact rfl); exact at0; exact rfl)))
  refine r_callA (A := [_]) (B := []) rfl (by first | trivial | exact ⟨rfl, rfl⟩) rfl (by first | rfl | exact ⟨rfl, rfl⟩) rfl (fun w hk hs => c_With w _ R0 C0 3 3 L0 (hs0.mono hk) (by omega) (by omega)) fun w v w' _ _ _ hR => ?_
  obtain ⟨ma, hma⟩ : ∃ m, m = shZ L0 3 3 := ⟨_, rfl⟩
  have rta : RtZ ma := by rw [hma]; exact RtZ.sh _ (by omega) (by omega)
  have bda : BdZ 8 ma := by rw [hma]; exact BdZ.sh hL0 _ _
  rw [← hma] at hR
  obtain ⟨Na, hNa, Ea, rfl, hOa⟩ := hR
  obtain ⟨Aa, ca, rfl⟩ := hOa.form
  refine ⟨Na, hNa, ?_⟩
  (repeat' (first | refine JO.nil ?_ | (apply r_storeN; exact rfl; (first | exact trivial | exact ⟨rfl, rfl⟩); exact rfl; exact rfl; exact at0; (iterate 3 exact rfl)) | (apply r_allocZ; (iterate 3 exact rfl); intro _) | (apply r_storeN; exact rfl; (first | exact trivial | exact ⟨rfl, rfl⟩); exact rfl; exact rfl; exact at0; (iterate 3 exact rfl))))
  rename_i ba
  refine JX.part (F' := [(4, .pointer (some ⟨ba, 0, none⟩)), (3, .bool true), (1, .pointer (some ⟨bs0, 0, none⟩))]) (H' := [(ba, .cells #[nv ma.r, nv ma.c, .slice Aa ma.e.length ca] 29), (bs0, .cells #[.int .u8 (R0 : Int), .int .u8 (C0 : Int), E0] 24)] ++ (Na ++ ([]))) (by repeat first | exact trivial | refine ⟨rfl, ?_⟩) (by (repeat' first | exact HSub.refl _ | exact HSub.nil _ | refine HSub.at 0 rfl ?_ | refine HSub.at 1 rfl ?_ | refine HSub.at 2 rfl ?_ | refine HSub.at 3 rfl ?_ | refine HSub.at 4 rfl ?_ | refine HSub.at 5 rfl ?_ | refine HSub.at 6 rfl ?_ | refine HSub.at 7 rfl ?_ | refine HSub.at 8 rfl ?_ | refine HSub.at 9 rfl ?_ | refine HSub.at 10 rfl ?_ | refine HSub.at 11 rfl ?_ | refine HSub.at 12 rfl ?_ | refine HSub.at 13 rfl ?_ | refine HSub.at 14 rfl ?_ | refine HSub.at 15 rfl ?_ | refine HSub.at 16 rfl ?_ | refine HSub.at 17 rfl ?_ | refine HSub.at 18 rfl ?_ | refine HSub.at 19 rfl ?_ | refine HSub.segH ?_ | refine HSub.skip ?_ | refine HSub.skipN ?_)) ?_
  refine JX.thenN ?_
  (repeat' (first | refine JC.seq ?_ | refine JC.ops ?_))
  have car : ma.r = 3 := by rw [hma]; rfl
  have cac : ma.c = 3 := by rw [hma]; rfl
  refine r_buildA (l := [(0, .int .i64 0), (1, .int .i64 1), (2, .int .i64 2), (3, .int .i64 1)]) (cs := #[.int .i64 0, .int .i64 1, .int .i64 2, .int .i64 1]) rfl rfl rfl rfl ?_
  skip
  refine r_buildA (l := [(0, .int .i64 1), (1, .int .i64 2), (2, .int .i64 0), (3, .int .i64 1)]) (cs := #[.int .i64 1, .int .i64 2, .int .i64 0, .int .i64 1]) rfl rfl rfl rfl ?_
  skip
  refine r_buildA (l := [(0, .int .i64 2), (1, .int .i64 0), (2, .int .i64 1), (3, .int .i64 1)]) (cs := #[.int .i64 2, .int .i64 0, .int .i64 1, .int .i64 1]) rfl rfl rfl rfl ?_
  skip
  refine r_buildA (l := [(0, .int .i64 0), (1, .int .i64 2), (2, .int .i64 1), (3, .int .i64 (-1))]) (cs := #[.int .i64 0, .int .i64 2, .int .i64 1, .int .i64 (-1)]) rfl rfl rfl rfl ?_
  skip
  refine r_buildA (l := [(0, .int .i64 2), (1, .int .i64 1), (2, .int .i64 0), (3, .int .i64 (-1))]) (cs := #[.int .i64 2, .int .i64 1, .int .i64 0, .int .i64 (-1)]) rfl rfl rfl rfl ?_
  skip
  refine r_buildA (l := [(0, .int .i64 1), (1, .int .i64 0), (2, .int .i64 2), (3, .int .i64 (-1))]) (cs := #[.int .i64 1, .int .i64 0, .int .i64 2, .int .i64 (-1)]) rfl rfl rfl rfl ?_
  skip
  refine r_buildG (sz := 4) (vs := [.agg #[.int .i64 0, .int .i64 1, .int .i64 2, .int .i64 1], .agg #[.int .i64 1, .int .i64 2, .int .i64 0, .int .i64 1], .agg #[.int .i64 2, .int .i64 0, .int .i64 1, .int .i64 1], .agg #[.int .i64 0, .int .i64 2, .int .i64 1, .int .i64 (-1)], .agg #[.int .i64 2, .int .i64 1, .int .i64 0, .int .i64 (-1)], .agg #[.int .i64 1, .int .i64 0, .int .i64 2, .int .i64 (-1)]]) (cl := [.int .i64 0, .int .i64 1, .int .i64 2, .int .i64 1, .int .i64 1, .int .i64 2, .int .i64 0, .int .i64 1, .int .i64 2, .int .i64 0, .int .i64 1, .int .i64 1, .int .i64 0, .int .i64 2, .int .i64 1, .int .i64 (-1), .int .i64 2, .int .i64 1, .int .i64 0, .int .i64 (-1), .int .i64 1, .int .i64 0, .int .i64 2, .int .i64 (-1)]) rfl rfl rfl rfl rfl
    (fun v hv => by
      simp only [List.mem_cons, List.not_mem_nil, or_false] at hv
      rcases hv with rfl | rfl | rfl | rfl | rfl | rfl <;> rfl) (by first | rfl | trivial | exact ⟨rfl, rfl⟩) (by decide) (by decide) (fun b5 => ?_)
  (repeat' (first | refine JO.nil ?_ | (apply r_assign; (iterate 3 exact rfl))))
  refine JX.part (F' := [(5, .slice (some ⟨b5, 0, none⟩) 6 6), (4, .pointer (some ⟨ba, 0, none⟩)), (3, .bool true), (1, .pointer (some ⟨bs0, 0, none⟩))]) (H' := [(b5, .cells ⟨[.int .i64 0, .int .i64 1, .int .i64 2, .int .i64 1, .int .i64 1, .int .i64 2, .int .i64 0, .int .i64 1, .int .i64 2, .int .i64 0, .int .i64 1, .int .i64 1, .int .i64 0, .int .i64 2, .int .i64 1, .int .i64 (-1), .int .i64 2, .int .i64 1, .int .i64 0, .int .i64 (-1), .int .i64 1, .int .i64 0, .int .i64 2, .int .i64 (-1)]⟩ 25), (ba, .cells #[nv ma.r, nv ma.c, .slice Aa ma.e.length ca] 29), (bs0, .cells #[.int .u8 (R0 : Int), .int .u8 (C0 : Int), E0] 24)] ++ (Na ++ ([]))) (by repeat first | exact trivial | refine ⟨rfl, ?_⟩) (by (repeat' first | exact HSub.refl _ | exact HSub.nil _ | refine HSub.at 0 rfl ?_ | refine HSub.at 1 rfl ?_ | refine HSub.at 2 rfl ?_ | refine HSub.at 3 rfl ?_ | refine HSub.at 4 rfl ?_ | refine HSub.at 5 rfl ?_ | refine HSub.at 6 rfl ?_ | refine HSub.at 7 rfl ?_ | refine HSub.at 8 rfl ?_ | refine HSub.at 9 rfl ?_ | refine HSub.at 10 rfl ?_ | refine HSub.at 11 rfl ?_ | refine HSub.at 12 rfl ?_ | refine HSub.at 13 rfl ?_ | refine HSub.at 14 rfl ?_ | refine HSub.at 15 rfl ?_ | refine HSub.at 16 rfl ?_ | refine HSub.at 17 rfl ?_ | refine HSub.at 18 rfl ?_ | refine HSub.at 19 rfl ?_ | refine HSub.segH ?_ | refine HSub.skip ?_ | refine HSub.skipN ?_)) ?_
  refine JX.thenN ?_
  (repeat' (first | refine JC.seq ?_ | refine JC.ops ?_ | refine JO.nil ?_ | (apply r_allocZ; (iterate 3 exact rfl); intro _)))
  rename_i b6
  rw [← wc0]
  (repeat' (first | refine JC.seq ?_ | refine JC.ops ?_ | refine JO.nil ?_ | refine JX.thenN ?_ | (apply r_assign; (iterate 3 exact rfl)) | refine JC.block ?_))
  have hat : ∀ i j, (ma.at i j).natAbs < 256 ^ 8 := fun i j => bda.at i j
  refine JC.loopH (ι := Nat) ⟨fun k => [(7, nv k), (6, .pointer (some ⟨b6, 0, none⟩)), (5, .slice (some ⟨b5, 0, none⟩) 6 6), (4, .pointer (some ⟨ba, 0, none⟩)), (3, .bool true), (1, .pointer (some ⟨bs0, 0, none⟩))], fun k => [(b6, .cells (wc (sumT ma.at k)) 41), (b5, .cells ⟨[.int .i64 0, .int .i64 1, .int .i64 2, .int .i64 1, .int .i64 1, .int .i64 2, .int .i64 0, .int .i64 1, .int .i64 2, .int .i64 0, .int .i64 1, .int .i64 1, .int .i64 0, .int .i64 2, .int .i64 1, .int .i64 (-1), .int .i64 2, .int .i64 1, .int .i64 0, .int .i64 (-1), .int .i64 1, .int .i64 0, .int .i64 2, .int .i64 (-1)]⟩ 25), (ba, .cells #[nv ma.r, nv ma.c, .slice Aa ma.e.length ca] 29), (bs0, .cells #[.int .u8 (R0 : Int), .int .u8 (C0 : Int), E0] 24)] ++ (Na ++ ([])), fun k => k ≤ 6, fun k => 6 - k⟩ 0 (by dsimp only; omega) (by repeat first | exact trivial | refine ⟨rfl, ?_⟩) (HSub.refl _) (fun k hk => ?_)
  dsimp only at hk ⊢
  rcases (show k = 0 ∨ k = 1 ∨ k = 2 ∨ k = 3 ∨ k = 4 ∨ k = 5 ∨ k = 6 by omega) with rfl | rfl | rfl | rfl | rfl | rfl | rfl
  · (repeat' (first | refine JC.seq ?_ | refine JC.ops ?_ | refine JO.nil ?_ | refine JX.thenN ?_ | (apply r_move; (iterate 3 exact rfl)) | (apply r_index; (iterate 3 exact rfl); exact fun _ => rfl; exact rfl; omega) | (apply r_len; (iterate 3 exact rfl)) | (apply r_lss; (iterate 4 exact rfl); all_goals intro hc; all_goals try (exfalso; omega)) | refine JC.skip ?_ | refine JC.condT rfl ?_ | refine JC.block ?_))
    refine r_loadM (n := 4) (vs := #[.int .i64 0, .int .i64 1, .int .i64 2, .int .i64 1]) 1 rfl rfl rfl rfl rfl rfl (fun j hj => by
      rcases (show j = 0 ∨ j = 1 ∨ j = 2 ∨ j = 3 by omega) with rfl | rfl | rfl | rfl <;> rfl) ?_
    (repeat' (first | refine JO.nil ?_ | (apply r_storeN; exact rfl; (first | exact trivial | exact ⟨rfl, rfl⟩); exact rfl; exact rfl; exact at0; (iterate 3 exact rfl)) | (apply r_allocZ; (iterate 3 exact rfl); intro _) | (apply r_storeN; exact rfl; (first | exact trivial | exact ⟨rfl, rfl⟩); exact rfl; exact rfl; exact at0; (iterate 3 exact rfl))))
    rename_i b8
    refine JX.thenN ?_
    (repeat' (first | refine JC.seq ?_ | refine JC.opsD ?_ | (apply r_loadN; (iterate 4 exact rfl); exact at3; exact rfl)))
    refine r_idxArr (j := 0) rfl (by first | rfl | exact ⟨rfl, rfl⟩) rfl rfl (by decide) ?_
    (repeat' (first | (apply r_load; (iterate 4 exact rfl); (first | exact at0 | exact at3); exact rfl) | (apply r_loadN; (iterate 4 exact rfl); (first | exact at0 | exact at3); exact rfl)))
    refine r_idxArr (j := 1) rfl (by first | rfl | exact ⟨rfl, rfl⟩) rfl rfl (by decide) ?_
    (repeat' (first | (apply r_load; (iterate 4 exact rfl); (first | exact at0 | exact at3); exact rfl) | (apply r_loadN; (iterate 4 exact rfl); (first | exact at0 | exact at3); exact rfl)))
    refine r_idxArr (j := 2) rfl (by first | rfl | exact ⟨rfl, rfl⟩) rfl rfl (by decide) ?_
    (repeat' (first | (apply r_load; (iterate 4 exact rfl); exact at0; exact rfl)))
    refine r_call0 (by first | trivial | exact ⟨rfl, rfl⟩) rfl (by first | rfl | exact ⟨rfl, rfl⟩) rfl (fun w hk hs => c_At w _ ma (0) (0) rta ⟨_, rfl, hOa.rd.at hk hs (by (repeat' first | exact HSub.nil _ | exact HSub.hd | exact HSub.in0 | exact HSub.refl _ | refine HSub.skip ?_ | refine HSub.skipN ?_))⟩) fun w v w' _ _ _ hR => ?_
    subst hR
    rw [show atZ ma (0) (0) = ma.at 0 0 from at_at (i := 0) (j := 0) (by omega) (by omega)]
    skip
    refine r_call0 (by first | trivial | exact ⟨rfl, rfl⟩) rfl (by first | rfl | exact ⟨rfl, rfl⟩) rfl (fun w hk hs => c_At w _ ma (1) (1) rta ⟨_, rfl, hOa.rd.at hk hs (by (repeat' first | exact HSub.nil _ | exact HSub.hd | exact HSub.in0 | exact HSub.refl _ | refine HSub.skip ?_ | refine HSub.skipN ?_))⟩) fun w v w' _ _ _ hR => ?_
    subst hR
    rw [show atZ ma (1) (1) = ma.at 1 1 from at_at (i := 1) (j := 1) (by omega) (by omega)]
    skip
    refine r_call0 (by first | trivial | exact ⟨rfl, rfl⟩) rfl (by first | rfl | exact ⟨rfl, rfl⟩) rfl (fun w hk hs => c_Mul w _ _ (ma.at 0 0) (ma.at 1 1) 8 (IsZ.can (bd_up (bda.at _ _) (by omega))) (IsZ.can (bd_up (bda.at _ _) (by omega))) (by omega)) fun w v w' _ _ _ hR => ?_
    subst hR
    skip
    refine r_call0 (by first | trivial | exact ⟨rfl, rfl⟩) rfl (by first | rfl | exact ⟨rfl, rfl⟩) rfl (fun w hk hs => c_At w _ ma (2) (2) rta ⟨_, rfl, hOa.rd.at hk hs (by (repeat' first | exact HSub.nil _ | exact HSub.hd | exact HSub.in0 | exact HSub.refl _ | refine HSub.skip ?_ | refine HSub.skipN ?_))⟩) fun w v w' _ _ _ hR => ?_
    subst hR
    rw [show atZ ma (2) (2) = ma.at 2 2 from at_at (i := 2) (j := 2) (by omega) (by omega)]
    skip
    refine r_call0 (by first | trivial | exact ⟨rfl, rfl⟩) rfl (by first | rfl | exact ⟨rfl, rfl⟩) rfl (fun w hk hs => c_Mul w _ _ (ma.at 0 0 * ma.at 1 1) (ma.at 2 2) 16 (IsZ.can (mul_bd (bda.at _ _) (bda.at _ _))) (IsZ.can (bd_up (bda.at _ _) (by omega))) (by omega)) fun w v w' _ _ _ hR => ?_
    subst hR
    (repeat' (first | refine JO.nil ?_ | (apply r_storeN; exact rfl; (first | exact trivial | exact ⟨rfl, rfl⟩); exact rfl; exact rfl; exact at0; (iterate 3 exact rfl)) | (apply r_allocZ; (iterate 3 exact rfl); intro _) | (apply r_storeN; exact rfl; (first | exact trivial | exact ⟨rfl, rfl⟩); exact rfl; exact rfl; exact at0; (iterate 3 exact rfl))))
    rename_i b9
    refine JX.thenN ?_
    (repeat' (first | refine JC.opsD ?_ | (apply r_loadN; (iterate 4 exact rfl); (first | exact at0 | exact at2); exact rfl)))
    refine r_idxArr (j := 3) rfl (by first | rfl | exact ⟨rfl, rfl⟩) rfl rfl (by decide) ?_
    (repeat' (first | (apply r_load; (iterate 4 exact rfl); exact at1; exact rfl)))
    refine r_call0 (by first | trivial | exact ⟨rfl, rfl⟩) rfl (by first | rfl | exact ⟨rfl, rfl⟩) rfl (fun w hk hs => c_From w (1) (by decide) (by decide)) fun w v w' _ _ _ hR => ?_
    subst hR
    skip
    refine r_call0 (by first | trivial | exact ⟨rfl, rfl⟩) rfl (by first | rfl | exact ⟨rfl, rfl⟩) rfl (fun w hk hs => c_Mul w _ _ (ma.at 0 0 * ma.at 1 1 * ma.at 2 2) (1) 24 (IsZ.can (mul_bd (mul_bd (bda.at _ _) (bda.at _ _)) (bda.at _ _))) (IsZ.can (by decide)) (by omega)) fun w v w' _ _ _ hR => ?_
    subst hR
    skip
    refine r_call0 (by first | trivial | exact ⟨rfl, rfl⟩) rfl (by first | rfl | exact ⟨rfl, rfl⟩) rfl (fun w hk hs => c_Add w _ _ (sumT ma.at 0) (ma.at 0 0 * ma.at 1 1 * ma.at 2 2 * (1)) 26 (IsZ.can (sumT_bd hat 0 (by omega))) (IsZ.can (bd_up (bd3 (bda.at _ _) (bda.at _ _) (bda.at _ _) (by decide)) (by omega))) (by omega)) fun w v w' _ _ _ hR => ?_
    subst hR
    rw [show sumT ma.at 0 + ma.at 0 0 * ma.at 1 1 * ma.at 2 2 * (1) = sumT ma.at 1 from rfl]
    (repeat' (first | refine JO.nil ?_ | (apply r_storeN; exact rfl; (first | exact trivial | exact ⟨rfl, rfl⟩); exact rfl; exact rfl; exact at2; (iterate 3 exact rfl)) | (apply r_storeN; exact rfl; (first | exact trivial | exact ⟨rfl, rfl⟩); exact rfl; exact rfl; exact at2; (iterate 3 exact rfl)) | refine JX.blockN ?_))
    refine JX.thenN ?_
    (repeat' (first | refine JC.ops ?_ | refine JO.nil ?_ | (apply r_move; (iterate 3 exact rfl)) | (apply r_assign; (iterate 3 exact rfl)) | (apply r_add1; (iterate 4 exact rfl); omega)))
    exact JX.roundH 1 (by dsimp only; omega) (by dsimp only; omega) (by repeat first | exact trivial | refine ⟨rfl, ?_⟩) (by (repeat' first | exact HSub.refl _ | exact HSub.nil _ | refine HSub.at 0 rfl ?_ | refine HSub.at 1 rfl ?_ | refine HSub.at 2 rfl ?_ | refine HSub.at 3 rfl ?_ | refine HSub.at 4 rfl ?_ | refine HSub.at 5 rfl ?_ | refine HSub.at 6 rfl ?_ | refine HSub.at 7 rfl ?_ | refine HSub.at 8 rfl ?_ | refine HSub.at 9 rfl ?_ | refine HSub.at 10 rfl ?_ | refine HSub.at 11 rfl ?_ | refine HSub.at 12 rfl ?_ | refine HSub.at 13 rfl ?_ | refine HSub.at 14 rfl ?_ | refine HSub.at 15 rfl ?_ | refine HSub.at 16 rfl ?_ | refine HSub.at 17 rfl ?_ | refine HSub.at 18 rfl ?_ | refine HSub.at 19 rfl ?_ | refine HSub.segH ?_ | refine HSub.skip ?_ | refine HSub.skipN ?_))
  · (repeat' (first | refine JC.seq ?_ | refine JC.ops ?_ | refine JO.nil ?_ | refine JX.thenN ?_ | (apply r_move; (iterate 3 exact rfl)) | (apply r_index; (iterate 3 exact rfl); exact fun _ => rfl; exact rfl; omega) | (apply r_len; (iterate 3 exact rfl)) | (apply r_lss; (iterate 4 exact rfl); all_goals intro hc; all_goals try (exfalso; omega)) | refine JC.skip ?_ | refine JC.condT rfl ?_ | refine JC.block ?_))
    refine r_loadM (n := 4) (vs := #[.int .i64 1, .int .i64 2, .int .i64 0, .int .i64 1]) 1 rfl rfl rfl rfl rfl rfl (fun j hj => by
      rcases (show j = 0 ∨ j = 1 ∨ j = 2 ∨ j = 3 by omega) with rfl | rfl | rfl | rfl <;> rfl) ?_
    (repeat' (first | refine JO.nil ?_ | (apply r_storeN; exact rfl; (first | exact trivial | exact ⟨rfl, rfl⟩); exact rfl; exact rfl; exact at0; (iterate 3 exact rfl)) | (apply r_allocZ; (iterate 3 exact rfl); intro _) | (apply r_storeN; exact rfl; (first | exact trivial | exact ⟨rfl, rfl⟩); exact rfl; exact rfl; exact at0; (iterate 3 exact rfl))))
    rename_i b8
    refine JX.thenN ?_
    (repeat' (first | refine JC.seq ?_ | refine JC.opsD ?_ | (apply r_loadN; (iterate 4 exact rfl); exact at3; exact rfl)))
    refine r_idxArr (j := 0) rfl (by first | rfl | exact ⟨rfl, rfl⟩) rfl rfl (by decide) ?_
    (repeat' (first | (apply r_load; (iterate 4 exact rfl); (first | exact at0 | exact at3); exact rfl) | (apply r_loadN; (iterate 4 exact rfl); (first | exact at0 | exact at3); exact rfl)))
    refine r_idxArr (j := 1) rfl (by first | rfl | exact ⟨rfl, rfl⟩) rfl rfl (by decide) ?_
    (repeat' (first | (apply r_load; (iterate 4 exact rfl); (first | exact at0 | exact at3); exact rfl) | (apply r_loadN; (iterate 4 exact rfl); (first | exact at0 | exact at3); exact rfl)))
    refine r_idxArr (j := 2) rfl (by first | rfl | exact ⟨rfl, rfl⟩) rfl rfl (by decide) ?_
    (repeat' (first | (apply r_load; (iterate 4 exact rfl); exact at0; exact rfl)))
    refine r_call0 (by first | trivial | exact ⟨rfl, rfl⟩) rfl (by first | rfl | exact ⟨rfl, rfl⟩) rfl (fun w hk hs => c_At w _ ma (0) (1) rta ⟨_, rfl, hOa.rd.at hk hs (by (repeat' first | exact HSub.nil _ | exact HSub.hd | exact HSub.in0 | exact HSub.refl _ | refine HSub.skip ?_ | refine HSub.skipN ?_))⟩) fun w v w' _ _ _ hR => ?_
    subst hR
    rw [show atZ ma (0) (1) = ma.at 0 1 from at_at (i := 0) (j := 1) (by omega) (by omega)]
    skip
    refine r_call0 (by first | trivial | exact ⟨rfl, rfl⟩) rfl (by first | rfl | exact ⟨rfl, rfl⟩) rfl (fun w hk hs => c_At w _ ma (1) (2) rta ⟨_, rfl, hOa.rd.at hk hs (by (repeat' first | exact HSub.nil _ | exact HSub.hd | exact HSub.in0 | exact HSub.refl _ | refine HSub.skip ?_ | refine HSub.skipN ?_))⟩) fun w v w' _ _ _ hR => ?_
    subst hR
    rw [show atZ ma (1) (2) = ma.at 1 2 from at_at (i := 1) (j := 2) (by omega) (by omega)]
    skip
    refine r_call0 (by first | trivial | exact ⟨rfl, rfl⟩) rfl (by first | rfl | exact ⟨rfl, rfl⟩) rfl (fun w hk hs => c_Mul w _ _ (ma.at 0 1) (ma.at 1 2) 8 (IsZ.can (bd_up (bda.at _ _) (by omega))) (IsZ.can (bd_up (bda.at _ _) (by omega))) (by omega)) fun w v w' _ _ _ hR => ?_
    subst hR
    skip
    refine r_call0 (by first | trivial | exact ⟨rfl, rfl⟩) rfl (by first | rfl | exact ⟨rfl, rfl⟩) rfl (fun w hk hs => c_At w _ ma (2) (0) rta ⟨_, rfl, hOa.rd.at hk hs (by (repeat' first | exact HSub.nil _ | exact HSub.hd | exact HSub.in0 | exact HSub.refl _ | refine HSub.skip ?_ | refine HSub.skipN ?_))⟩) fun w v w' _ _ _ hR => ?_
    subst hR
    rw [show atZ ma (2) (0) = ma.at 2 0 from at_at (i := 2) (j := 0) (by omega) (by omega)]
    skip
    refine r_call0 (by first | trivial | exact ⟨rfl, rfl⟩) rfl (by first | rfl | exact ⟨rfl, rfl⟩) rfl (fun w hk hs => c_Mul w _ _ (ma.at 0 1 * ma.at 1 2) (ma.at 2 0) 16 (IsZ.can (mul_bd (bda.at _ _) (bda.at _ _))) (IsZ.can (bd_up (bda.at _ _) (by omega))) (by omega)) fun w v w' _ _ _ hR => ?_
    subst hR
    (repeat' (first | refine JO.nil ?_ | (apply r_storeN; exact rfl; (first | exact trivial | exact ⟨rfl, rfl⟩); exact rfl; exact rfl; exact at0; (iterate 3 exact rfl)) | (apply r_allocZ; (iterate 3 exact rfl); intro _) | (apply r_storeN; exact rfl; (first | exact trivial | exact ⟨rfl, rfl⟩); exact rfl; exact rfl; exact at0; (iterate 3 exact rfl))))
    rename_i b9
    refine JX.thenN ?_
    (repeat' (first | refine JC.opsD ?_ | (apply r_loadN; (iterate 4 exact rfl); (first | exact at0 | exact at2); exact rfl)))
    refine r_idxArr (j := 3) rfl (by first | rfl | exact ⟨rfl, rfl⟩) rfl rfl (by decide) ?_
    (repeat' (first | (apply r_load; (iterate 4 exact rfl); exact at1; exact rfl)))
    refine r_call0 (by first | trivial | exact ⟨rfl, rfl⟩) rfl (by first | rfl | exact ⟨rfl, rfl⟩) rfl (fun w hk hs => c_From w (1) (by decide) (by decide)) fun w v w' _ _ _ hR => ?_
    subst hR
    skip
    refine r_call0 (by first | trivial | exact ⟨rfl, rfl⟩) rfl (by first | rfl | exact ⟨rfl, rfl⟩) rfl (fun w hk hs => c_Mul w _ _ (ma.at 0 1 * ma.at 1 2 * ma.at 2 0) (1) 24 (IsZ.can (mul_bd (mul_bd (bda.at _ _) (bda.at _ _)) (bda.at _ _))) (IsZ.can (by decide)) (by omega)) fun w v w' _ _ _ hR => ?_
    subst hR
    skip
    refine r_call0 (by first | trivial | exact ⟨rfl, rfl⟩) rfl (by first | rfl | exact ⟨rfl, rfl⟩) rfl (fun w hk hs => c_Add w _ _ (sumT ma.at 1) (ma.at 0 1 * ma.at 1 2 * ma.at 2 0 * (1)) 26 (IsZ.can (sumT_bd hat 1 (by omega))) (IsZ.can (bd_up (bd3 (bda.at _ _) (bda.at _ _) (bda.at _ _) (by decide)) (by omega))) (by omega)) fun w v w' _ _ _ hR => ?_
    subst hR
    rw [show sumT ma.at 1 + ma.at 0 1 * ma.at 1 2 * ma.at 2 0 * (1) = sumT ma.at 2 from rfl]
    (repeat' (first | refine JO.nil ?_ | (apply r_storeN; exact rfl; (first | exact trivial | exact ⟨rfl, rfl⟩); exact rfl; exact rfl; exact at2; (iterate 3 exact rfl)) | (apply r_storeN; exact rfl; (first | exact trivial | exact ⟨rfl, rfl⟩); exact rfl; exact rfl; exact at2; (iterate 3 exact rfl)) | refine JX.blockN ?_))
    refine JX.thenN ?_
    (repeat' (first | refine JC.ops ?_ | refine JO.nil ?_ | (apply r_move; (iterate 3 exact rfl)) | (apply r_assign; (iterate 3 exact rfl)) | (apply r_add1; (iterate 4 exact rfl); omega)))
    exact JX.roundH 2 (by dsimp only; omega) (by dsimp only; omega) (by repeat first | exact trivial | refine ⟨rfl, ?_⟩) (by (repeat' first | exact HSub.refl _ | exact HSub.nil _ | refine HSub.at 0 rfl ?_ | refine HSub.at 1 rfl ?_ | refine HSub.at 2 rfl ?_ | refine HSub.at 3 rfl ?_ | refine HSub.at 4 rfl ?_ | refine HSub.at 5 rfl ?_ | refine HSub.at 6 rfl ?_ | refine HSub.at 7 rfl ?_ | refine HSub.at 8 rfl ?_ | refine HSub.at 9 rfl ?_ | refine HSub.at 10 rfl ?_ | refine HSub.at 11 rfl ?_ | refine HSub.at 12 rfl ?_ | refine HSub.at 13 rfl ?_ | refine HSub.at 14 rfl ?_ | refine HSub.at 15 rfl ?_ | refine HSub.at 16 rfl ?_ | refine HSub.at 17 rfl ?_ | refine HSub.at 18 rfl ?_ | refine HSub.at 19 rfl ?_ | refine HSub.segH ?_ | refine HSub.skip ?_ | refine HSub.skipN ?_))
  · (repeat' (first | refine JC.seq ?_ | refine JC.ops ?_ | refine JO.nil ?_ | refine JX.thenN ?_ | (apply r_move; (iterate 3 exact rfl)) | (apply r_index; (iterate 3 exact rfl); exact fun _ => rfl; exact rfl; omega) | (apply r_len; (iterate 3 exact rfl)) | (apply r_lss; (iterate 4 exact rfl); all_goals intro hc; all_goals try (exfalso; omega)) | refine JC.skip ?_ | refine JC.condT rfl ?_ | refine JC.block ?_))
    refine r_loadM (n := 4) (vs := #[.int .i64 2, .int .i64 0, .int .i64 1, .int .i64 1]) 1 rfl rfl rfl rfl rfl rfl (fun j hj => by
      rcases (show j = 0 ∨ j = 1 ∨ j = 2 ∨ j = 3 by omega) with rfl | rfl | rfl | rfl <;> rfl) ?_
    (repeat' (first | refine JO.nil ?_ | (apply r_storeN; exact rfl; (first | exact trivial | exact ⟨rfl, rfl⟩); exact rfl; exact rfl; exact at0; (iterate 3 exact rfl)) | (apply r_allocZ; (iterate 3 exact rfl); intro _) | (apply r_storeN; exact rfl; (first | exact trivial | exact ⟨rfl, rfl⟩); exact rfl; exact rfl; exact at0; (iterate 3 exact rfl))))
    rename_i b8
    refine JX.thenN ?_
    (repeat' (first | refine JC.seq ?_ | refine JC.opsD ?_ | (apply r_loadN; (iterate 4 exact rfl); exact at3; exact rfl)))
    refine r_idxArr (j := 0) rfl (by first | rfl | exact ⟨rfl, rfl⟩) rfl rfl (by decide) ?_
    (repeat' (first | (apply r_load; (iterate 4 exact rfl); (first | exact at0 | exact at3); exact rfl) | (apply r_loadN; (iterate 4 exact rfl); (first | exact at0 | exact at3); exact rfl)))
    refine r_idxArr (j := 1) rfl (by first | rfl | exact ⟨rfl, rfl⟩) rfl rfl (by decide) ?_
    (repeat' (first | (apply r_load; (iterate 4 exact rfl); (first | exact at0 | exact at3); exact rfl) | (apply r_loadN; (iterate 4 exact rfl); (first | exact at0 | exact at3); exact rfl)))
    refine r_idxArr (j := 2) rfl (by first | rfl | exact ⟨rfl, rfl⟩) rfl rfl (by decide) ?_
    (repeat' (first | (apply r_load; (iterate 4 exact rfl); exact at0; exact rfl)))
    refine r_call0 (by first | trivial | exact ⟨rfl, rfl⟩) rfl (by first | rfl | exact ⟨rfl, rfl⟩) rfl (fun w hk hs => c_At w _ ma (0) (2) rta ⟨_, rfl, hOa.rd.at hk hs (by (repeat' first | exact HSub.nil _ | exact HSub.hd | exact HSub.in0 | exact HSub.refl _ | refine HSub.skip ?_ | refine HSub.skipN ?_))⟩) fun w v w' _ _ _ hR => ?_
    subst hR
    rw [show atZ ma (0) (2) = ma.at 0 2 from at_at (i := 0) (j := 2) (by omega) (by omega)]
    skip
    refine r_call0 (by first | trivial | exact ⟨rfl, rfl⟩) rfl (by first | rfl | exact ⟨rfl, rfl⟩) rfl (fun w hk hs => c_At w _ ma (1) (0) rta ⟨_, rfl, hOa.rd.at hk hs (by (repeat' first | exact HSub.nil _ | exact HSub.hd | exact HSub.in0 | exact HSub.refl _ | refine HSub.skip ?_ | refine HSub.skipN ?_))⟩) fun w v w' _ _ _ hR => ?_
    subst hR
    rw [show atZ ma (1) (0) = ma.at 1 0 from at_at (i := 1) (j := 0) (by omega) (by omega)]
    skip
    refine r_call0 (by first | trivial | exact ⟨rfl, rfl⟩) rfl (by first | rfl | exact ⟨rfl, rfl⟩) rfl (fun w hk hs => c_Mul w _ _ (ma.at 0 2) (ma.at 1 0) 8 (IsZ.can (bd_up (bda.at _ _) (by omega))) (IsZ.can (bd_up (bda.at _ _) (by omega))) (by omega)) fun w v w' _ _ _ hR => ?_
    subst hR
    skip
    refine r_call0 (by first | trivial | exact ⟨rfl, rfl⟩) rfl (by first | rfl | exact ⟨rfl, rfl⟩) rfl (fun w hk hs => c_At w _ ma (2) (1) rta ⟨_, rfl, hOa.rd.at hk hs (by (repeat' first | exact HSub.nil _ | exact HSub.hd | exact HSub.in0 | exact HSub.refl _ | refine HSub.skip ?_ | refine HSub.skipN ?_))⟩) fun w v w' _ _ _ hR => ?_
    subst hR
    rw [show atZ ma (2) (1) = ma.at 2 1 from at_at (i := 2) (j := 1) (by omega) (by omega)]
    skip
    refine r_call0 (by first | trivial | exact ⟨rfl, rfl⟩) rfl (by first | rfl | exact ⟨rfl, rfl⟩) rfl (fun w hk hs => c_Mul w _ _ (ma.at 0 2 * ma.at 1 0) (ma.at 2 1) 16 (IsZ.can (mul_bd (bda.at _ _) (bda.at _ _))) (IsZ.can (bd_up (bda.at _ _) (by omega))) (by omega)) fun w v w' _ _ _ hR => ?_
    subst hR
    (repeat' (first | refine JO.nil ?_ | (apply r_storeN; exact rfl; (first | exact trivial | exact ⟨rfl, rfl⟩); exact rfl; exact rfl; exact at0; (iterate 3 exact rfl)) | (apply r_allocZ; (iterate 3 exact rfl); intro _) | (apply r_storeN; exact rfl; (first | exact trivial | exact ⟨rfl, rfl⟩); exact rfl; exact rfl; exact at0; (iterate 3 exact rfl))))
    rename_i b9
    refine JX.thenN ?_
    (repeat' (first | refine JC.opsD ?_ | (apply r_loadN; (iterate 4 exact rfl); (first | exact at0 | exact at2); exact rfl)))
    refine r_idxArr (j := 3) rfl (by first | rfl | exact ⟨rfl, rfl⟩) rfl rfl (by decide) ?_
    (repeat' (first | (apply r_load; (iterate 4 exact rfl); exact at1; exact rfl)))
    refine r_call0 (by first | trivial | exact ⟨rfl, rfl⟩) rfl (by first | rfl | exact ⟨rfl, rfl⟩) rfl (fun w hk hs => c_From w (1) (by decide) (by decide)) fun w v w' _ _ _ hR => ?_
    subst hR
    skip
    refine r_call0 (by first | trivial | exact ⟨rfl, rfl⟩) rfl (by first | rfl | exact ⟨rfl, rfl⟩) rfl (fun w hk hs => c_Mul w _ _ (ma.at 0 2 * ma.at 1 0 * ma.at 2 1) (1) 24 (IsZ.can (mul_bd (mul_bd (bda.at _ _) (bda.at _ _)) (bda.at _ _))) (IsZ.can (by decide)) (by omega)) fun w v w' _ _ _ hR => ?_
    subst hR
    skip
    refine r_call0 (by first | trivial | exact ⟨rfl, rfl⟩) rfl (by first | rfl | exact ⟨rfl, rfl⟩) rfl (fun w hk hs => c_Add w _ _ (sumT ma.at 2) (ma.at 0 2 * ma.at 1 0 * ma.at 2 1 * (1)) 26 (IsZ.can (sumT_bd hat 2 (by omega))) (IsZ.can (bd_up (bd3 (bda.at _ _) (bda.at _ _) (bda.at _ _) (by decide)) (by omega))) (by omega)) fun w v w' _ _ _ hR => ?_
    subst hR
    rw [show sumT ma.at 2 + ma.at 0 2 * ma.at 1 0 * ma.at 2 1 * (1) = sumT ma.at 3 from rfl]
    (repeat' (first | refine JO.nil ?_ | (apply r_storeN; exact rfl; (first | exact trivial | exact ⟨rfl, rfl⟩); exact rfl; exact rfl; exact at2; (iterate 3 exact rfl)) | (apply r_storeN; exact rfl; (first | exact trivial | exact ⟨rfl, rfl⟩); exact rfl; exact rfl; exact at2; (iterate 3 exact rfl)) | refine JX.blockN ?_))
    refine JX.thenN ?_
    (repeat' (first | refine JC.ops ?_ | refine JO.nil ?_ | (apply r_move; (iterate 3 exact rfl)) | (apply r_assign; (iterate 3 exact rfl)) | (apply r_add1; (iterate 4 exact rfl); omega)))
    exact JX.roundH 3 (by dsimp only; omega) (by dsimp only; omega) (by repeat first | exact trivial | refine ⟨rfl, ?_⟩) (by (repeat' first | exact HSub.refl _ | exact HSub.nil _ | refine HSub.at 0 rfl ?_ | refine HSub.at 1 rfl ?_ | refine HSub.at 2 rfl ?_ | refine HSub.at 3 rfl ?_ | refine HSub.at 4 rfl ?_ | refine HSub.at 5 rfl ?_ | refine HSub.at 6 rfl ?_ | refine HSub.at 7 rfl ?_ | refine HSub.at 8 rfl ?_ | refine HSub.at 9 rfl ?_ | refine HSub.at 10 rfl ?_ | refine HSub.at 11 rfl ?_ | refine HSub.at 12 rfl ?_ | refine HSub.at 13 rfl ?_ | refine HSub.at 14 rfl ?_ | refine HSub.at 15 rfl ?_ | refine HSub.at 16 rfl ?_ | refine HSub.at 17 rfl ?_ | refine HSub.at 18 rfl ?_ | refine HSub.at 19 rfl ?_ | refine HSub.segH ?_ | refine HSub.skip ?_ | refine HSub.skipN ?_))
  · (repeat' (first | refine JC.seq ?_ | refine JC.ops ?_ | refine JO.nil ?_ | refine JX.thenN ?_ | (apply r_move; (iterate 3 exact rfl)) | (apply r_index; (iterate 3 exact rfl); exact fun _ => rfl; exact rfl; omega) | (apply r_len; (iterate 3 exact rfl)) | (apply r_lss; (iterate 4 exact rfl); all_goals intro hc; all_goals try (exfalso; omega)) | refine JC.skip ?_ | refine JC.condT rfl ?_ | refine JC.block ?_))
    refine r_loadM (n := 4) (vs := #[.int .i64 0, .int .i64 2, .int .i64 1, .int .i64 (-1)]) 1 rfl rfl rfl rfl rfl rfl (fun j hj => by
      rcases (show j = 0 ∨ j = 1 ∨ j = 2 ∨ j = 3 by omega) with rfl | rfl | rfl | rfl <;> rfl) ?_
    (repeat' (first | refine JO.nil ?_ | (apply r_storeN; exact rfl; (first | exact trivial | exact ⟨rfl, rfl⟩); exact rfl; exact rfl; exact at0; (iterate 3 exact rfl)) | (apply r_allocZ; (iterate 3 exact rfl); intro _) | (apply r_storeN; exact rfl; (first | exact trivial | exact ⟨rfl, rfl⟩); exact rfl; exact rfl; exact at0; (iterate 3 exact rfl))))
    rename_i b8
    refine JX.thenN ?_
    (repeat' (first | refine JC.seq ?_ | refine JC.opsD ?_ | (apply r_loadN; (iterate 4 exact rfl); exact at3; exact rfl)))
    refine r_idxArr (j := 0) rfl (by first | rfl | exact ⟨rfl, rfl⟩) rfl rfl (by decide) ?_
    (repeat' (first | (apply r_load; (iterate 4 exact rfl); (first | exact at0 | exact at3); exact rfl) | (apply r_loadN; (iterate 4 exact rfl); (first | exact at0 | exact at3); exact rfl)))
    refine r_idxArr (j := 1) rfl (by first | rfl | exact ⟨rfl, rfl⟩) rfl rfl (by decide) ?_
    (repeat' (first | (apply r_load; (iterate 4 exact rfl); (first | exact at0 | exact at3); exact rfl) | (apply r_loadN; (iterate 4 exact rfl); (first | exact at0 | exact at3); exact rfl)))
    refine r_idxArr (j := 2) rfl (by first | rfl | exact ⟨rfl, rfl⟩) rfl rfl (by decide) ?_
    (repeat' (first | (apply r_load; (iterate 4 exact rfl); exact at0; exact rfl)))
    refine r_call0 (by first | trivial | exact ⟨rfl, rfl⟩) rfl (by first | rfl | exact ⟨rfl, rfl⟩) rfl (fun w hk hs => c_At w _ ma (0) (0) rta ⟨_, rfl, hOa.rd.at hk hs (by (repeat' first | exact HSub.nil _ | exact HSub.hd | exact HSub.in0 | exact HSub.refl _ | refine HSub.skip ?_ | refine HSub.skipN ?_))⟩) fun w v w' _ _ _ hR => ?_
    subst hR
    rw [show atZ ma (0) (0) = ma.at 0 0 from at_at (i := 0) (j := 0) (by omega) (by omega)]
    skip
    refine r_call0 (by first | trivial | exact ⟨rfl, rfl⟩) rfl (by first | rfl | exact ⟨rfl, rfl⟩) rfl (fun w hk hs => c_At w _ ma (1) (2) rta ⟨_, rfl, hOa.rd.at hk hs (by (repeat' first | exact HSub.nil _ | exact HSub.hd | exact HSub.in0 | exact HSub.refl _ | refine HSub.skip ?_ | refine HSub.skipN ?_))⟩) fun w v w' _ _ _ hR => ?_
    subst hR
    rw [show atZ ma (1) (2) = ma.at 1 2 from at_at (i := 1) (j := 2) (by omega) (by omega)]
    skip
    refine r_call0 (by first | trivial | exact ⟨rfl, rfl⟩) rfl (by first | rfl | exact ⟨rfl, rfl⟩) rfl (fun w hk hs => c_Mul w _ _ (ma.at 0 0) (ma.at 1 2) 8 (IsZ.can (bd_up (bda.at _ _) (by omega))) (IsZ.can (bd_up (bda.at _ _) (by omega))) (by omega)) fun w v w' _ _ _ hR => ?_
    subst hR
    skip
    refine r_call0 (by first | trivial | exact ⟨rfl, rfl⟩) rfl (by first | rfl | exact ⟨rfl, rfl⟩) rfl (fun w hk hs => c_At w _ ma (2) (1) rta ⟨_, rfl, hOa.rd.at hk hs (by (repeat' first | exact HSub.nil _ | exact HSub.hd | exact HSub.in0 | exact HSub.refl _ | refine HSub.skip ?_ | refine HSub.skipN ?_))⟩) fun w v w' _ _ _ hR => ?_
    subst hR
    rw [show atZ ma (2) (1) = ma.at 2 1 from at_at (i := 2) (j := 1) (by omega) (by omega)]
    skip
    refine r_call0 (by first | trivial | exact ⟨rfl, rfl⟩) rfl (by first | rfl | exact ⟨rfl, rfl⟩) rfl (fun w hk hs => c_Mul w _ _ (ma.at 0 0 * ma.at 1 2) (ma.at 2 1) 16 (IsZ.can (mul_bd (bda.at _ _) (bda.at _ _))) (IsZ.can (bd_up (bda.at _ _) (by omega))) (by omega)) fun w v w' _ _ _ hR => ?_
    subst hR
    (repeat' (first | refine JO.nil ?_ | (apply r_storeN; exact rfl; (first | exact trivial | exact ⟨rfl, rfl⟩); exact rfl; exact rfl; exact at0; (iterate 3 exact rfl)) | (apply r_allocZ; (iterate 3 exact rfl); intro _) | (apply r_storeN; exact rfl; (first | exact trivial | exact ⟨rfl, rfl⟩); exact rfl; exact rfl; exact at0; (iterate 3 exact rfl))))
    rename_i b9
    refine JX.thenN ?_
    (repeat' (first | refine JC.opsD ?_ | (apply r_loadN; (iterate 4 exact rfl); (first | exact at0 | exact at2); exact rfl)))
    refine r_idxArr (j := 3) rfl (by first | rfl | exact ⟨rfl, rfl⟩) rfl rfl (by decide) ?_
    (repeat' (first | (apply r_load; (iterate 4 exact rfl); exact at1; exact rfl)))
    refine r_call0 (by first | trivial | exact ⟨rfl, rfl⟩) rfl (by first | rfl | exact ⟨rfl, rfl⟩) rfl (fun w hk hs => c_From w (-1) (by decide) (by decide)) fun w v w' _ _ _ hR => ?_
    subst hR
    skip
    refine r_call0 (by first | trivial | exact ⟨rfl, rfl⟩) rfl (by first | rfl | exact ⟨rfl, rfl⟩) rfl (fun w hk hs => c_Mul w _ _ (ma.at 0 0 * ma.at 1 2 * ma.at 2 1) (-1) 24 (IsZ.can (mul_bd (mul_bd (bda.at _ _) (bda.at _ _)) (bda.at _ _))) (IsZ.can (by decide)) (by omega)) fun w v w' _ _ _ hR => ?_
    subst hR
    skip
    refine r_call0 (by first | trivial | exact ⟨rfl, rfl⟩) rfl (by first | rfl | exact ⟨rfl, rfl⟩) rfl (fun w hk hs => c_Add w _ _ (sumT ma.at 3) (ma.at 0 0 * ma.at 1 2 * ma.at 2 1 * (-1)) 26 (IsZ.can (sumT_bd hat 3 (by omega))) (IsZ.can (bd_up (bd3 (bda.at _ _) (bda.at _ _) (bda.at _ _) (by decide)) (by omega))) (by omega)) fun w v w' _ _ _ hR => ?_
    subst hR
    rw [show sumT ma.at 3 + ma.at 0 0 * ma.at 1 2 * ma.at 2 1 * (-1) = sumT ma.at 4 from rfl]
    (repeat' (first | refine JO.nil ?_ | (apply r_storeN; exact rfl; (first | exact trivial | exact ⟨rfl, rfl⟩); exact rfl; exact rfl; exact at2; (iterate 3 exact rfl)) | (apply r_storeN; exact rfl; (first | exact trivial | exact ⟨rfl, rfl⟩); exact rfl; exact rfl; exact at2; (iterate 3 exact rfl)) | refine JX.blockN ?_))
    refine JX.thenN ?_
    (repeat' (first | refine JC.ops ?_ | refine JO.nil ?_ | (apply r_move; (iterate 3 exact rfl)) | (apply r_assign; (iterate 3 exact rfl)) | (apply r_add1; (iterate 4 exact rfl); omega)))
    exact JX.roundH 4 (by dsimp only; omega) (by dsimp only; omega) (by repeat first | exact trivial | refine ⟨rfl, ?_⟩) (by (repeat' first | exact HSub.refl _ | exact HSub.nil _ | refine HSub.at 0 rfl ?_ | refine HSub.at 1 rfl ?_ | refine HSub.at 2 rfl ?_ | refine HSub.at 3 rfl ?_ | refine HSub.at 4 rfl ?_ | refine HSub.at 5 rfl ?_ | refine HSub.at 6 rfl ?_ | refine HSub.at 7 rfl ?_ | refine HSub.at 8 rfl ?_ | refine HSub.at 9 rfl ?_ | refine HSub.at 10 rfl ?_ | refine HSub.at 11 rfl ?_ | refine HSub.at 12 rfl ?_ | refine HSub.at 13 rfl ?_ | refine HSub.at 14 rfl ?_ | refine HSub.at 15 rfl ?_ | refine HSub.at 16 rfl ?_ | refine HSub.at 17 rfl ?_ | refine HSub.at 18 rfl ?_ | refine HSub.at 19 rfl ?_ | refine HSub.segH ?_ | refine HSub.skip ?_ | refine HSub.skipN ?_))
  · (repeat' (first | refine JC.seq ?_ | refine JC.ops ?_ | refine JO.nil ?_ | refine JX.thenN ?_ | (apply r_move; (iterate 3 exact rfl)) | (apply r_index; (iterate 3 exact rfl); exact fun _ => rfl; exact rfl; omega) | (apply r_len; (iterate 3 exact rfl)) | (apply r_lss; (iterate 4 exact rfl); all_goals intro hc; all_goals try (exfalso; omega)) | refine JC.skip ?_ | refine JC.condT rfl ?_ | refine JC.block ?_))
    refine r_loadM (n := 4) (vs := #[.int .i64 2, .int .i64 1, .int .i64 0, .int .i64 (-1)]) 1 rfl rfl rfl rfl rfl rfl (fun j hj => by
      rcases (show j = 0 ∨ j = 1 ∨ j = 2 ∨ j = 3 by omega) with rfl | rfl | rfl | rfl <;> rfl) ?_
    (repeat' (first | refine JO.nil ?_ | (apply r_storeN; exact rfl; (first | exact trivial | exact ⟨rfl, rfl⟩); exact rfl; exact rfl; exact at0; (iterate 3 exact rfl)) | (apply r_allocZ; (iterate 3 exact rfl); intro _) | (apply r_storeN; exact rfl; (first | exact trivial | exact ⟨rfl, rfl⟩); exact rfl; exact rfl; exact at0; (iterate 3 exact rfl))))
    rename_i b8
    refine JX.thenN ?_
    (repeat' (first | refine JC.seq ?_ | refine JC.opsD ?_ | (apply r_loadN; (iterate 4 exact rfl); exact at3; exact rfl)))
    refine r_idxArr (j := 0) rfl (by first | rfl | exact ⟨rfl, rfl⟩) rfl rfl (by decide) ?_
    (repeat' (first | (apply r_load; (iterate 4 exact rfl); (first | exact at0 | exact at3); exact rfl) | (apply r_loadN; (iterate 4 exact rfl); (first | exact at0 | exact at3); exact rfl)))
    refine r_idxArr (j := 1) rfl (by first | rfl | exact ⟨rfl, rfl⟩) rfl rfl (by decide) ?_
    (repeat' (first | (apply r_load; (iterate 4 exact rfl); (first | exact at0 | exact at3); exact rfl) | (apply r_loadN; (iterate 4 exact rfl); (first | exact at0 | exact at3); exact rfl)))
    refine r_idxArr (j := 2) rfl (by first | rfl | exact ⟨rfl, rfl⟩) rfl rfl (by decide) ?_
    (repeat' (first | (apply r_load; (iterate 4 exact rfl); exact at0; exact rfl)))
    refine r_call0 (by first | trivial | exact ⟨rfl, rfl⟩) rfl (by first | rfl | exact ⟨rfl, rfl⟩) rfl (fun w hk hs => c_At w _ ma (0) (2) rta ⟨_, rfl, hOa.rd.at hk hs (by (repeat' first | exact HSub.nil _ | exact HSub.hd | exact HSub.in0 | exact HSub.refl _ | refine HSub.skip ?_ | refine HSub.skipN ?_))⟩) fun w v w' _ _ _ hR => ?_
    subst hR
    rw [show atZ ma (0) (2) = ma.at 0 2 from at_at (i := 0) (j := 2) (by omega) (by omega)]
    skip
    refine r_call0 (by first | trivial | exact ⟨rfl, rfl⟩) rfl (by first | rfl | exact ⟨rfl, rfl⟩) rfl (fun w hk hs => c_At w _ ma (1) (1) rta ⟨_, rfl, hOa.rd.at hk hs (by (repeat' first | exact HSub.nil _ | exact HSub.hd | exact HSub.in0 | exact HSub.refl _ | refine HSub.skip ?_ | refine HSub.skipN ?_))⟩) fun w v w' _ _ _ hR => ?_
    subst hR
    rw [show atZ ma (1) (1) = ma.at 1 1 from at_at (i := 1) (j := 1) (by omega) (by omega)]
    skip
    refine r_call0 (by first | trivial | exact ⟨rfl, rfl⟩) rfl (by first | rfl | exact ⟨rfl, rfl⟩) rfl (fun w hk hs => c_Mul w _ _ (ma.at 0 2) (ma.at 1 1) 8 (IsZ.can (bd_up (bda.at _ _) (by omega))) (IsZ.can (bd_up (bda.at _ _) (by omega))) (by omega)) fun w v w' _ _ _ hR => ?_
    subst hR
    skip
    refine r_call0 (by first | trivial | exact ⟨rfl, rfl⟩) rfl (by first | rfl | exact ⟨rfl, rfl⟩) rfl (fun w hk hs => c_At w _ ma (2) (0) rta ⟨_, rfl, hOa.rd.at hk hs (by (repeat' first | exact HSub.nil _ | exact HSub.hd | exact HSub.in0 | exact HSub.refl _ | refine HSub.skip ?_ | refine HSub.skipN ?_))⟩) fun w v w' _ _ _ hR => ?_
    subst hR
    rw [show atZ ma (2) (0) = ma.at 2 0 from at_at (i := 2) (j := 0) (by omega) (by omega)]
    skip
    refine r_call0 (by first | trivial | exact ⟨rfl, rfl⟩) rfl (by first | rfl | exact ⟨rfl, rfl⟩) rfl (fun w hk hs => c_Mul w _ _ (ma.at 0 2 * ma.at 1 1) (ma.at 2 0) 16 (IsZ.can (mul_bd (bda.at _ _) (bda.at _ _))) (IsZ.can (bd_up (bda.at _ _) (by omega))) (by omega)) fun w v w' _ _ _ hR => ?_
    subst hR
    (repeat' (first | refine JO.nil ?_ | (apply r_storeN; exact rfl; (first | exact trivial | exact ⟨rfl, rfl⟩); exact rfl; exact rfl; exact at0; (iterate 3 exact rfl)) | (apply r_allocZ; (iterate 3 exact rfl); intro _) | (apply r_storeN; exact rfl; (first | exact trivial | exact ⟨rfl, rfl⟩); exact rfl; exact rfl; exact at0; (iterate 3 exact rfl))))
    rename_i b9
    refine JX.thenN ?_
    (repeat' (first | refine JC.opsD ?_ | (apply r_loadN; (iterate 4 exact rfl); (first | exact at0 | exact at2); exact rfl)))
    refine r_idxArr (j := 3) rfl (by first | rfl | exact ⟨rfl, rfl⟩) rfl rfl (by decide) ?_
    (repeat' (first | (apply r_load; (iterate 4 exact rfl); exact at1; exact rfl)))
    refine r_call0 (by first | trivial | exact ⟨rfl, rfl⟩) rfl (by first | rfl | exact ⟨rfl, rfl⟩) rfl (fun w hk hs => c_From w (-1) (by decide) (by decide)) fun w v w' _ _ _ hR => ?_
    subst hR
    skip
    refine r_call0 (by first | trivial | exact ⟨rfl, rfl⟩) rfl (by first | rfl | exact ⟨rfl, rfl⟩) rfl (fun w hk hs => c_Mul w _ _ (ma.at 0 2 * ma.at 1 1 * ma.at 2 0) (-1) 24 (IsZ.can (mul_bd (mul_bd (bda.at _ _) (bda.at _ _)) (bda.at _ _))) (IsZ.can (by decide)) (by omega)) fun w v w' _ _ _ hR => ?_
    subst hR
    skip
    refine r_call0 (by first | trivial | exact ⟨rfl, rfl⟩) rfl (by first | rfl | exact ⟨rfl, rfl⟩) rfl (fun w hk hs => c_Add w _ _ (sumT ma.at 4) (ma.at 0 2 * ma.at 1 1 * ma.at 2 0 * (-1)) 26 (IsZ.can (sumT_bd hat 4 (by omega))) (IsZ.can (bd_up (bd3 (bda.at _ _) (bda.at _ _) (bda.at _ _) (by decide)) (by omega))) (by omega)) fun w v w' _ _ _ hR => ?_
    subst hR
    rw [show sumT ma.at 4 + ma.at 0 2 * ma.at 1 1 * ma.at 2 0 * (-1) = sumT ma.at 5 from rfl]
    (repeat' (first | refine JO.nil ?_ | (apply r_storeN; exact rfl; (first | exact trivial | exact ⟨rfl, rfl⟩); exact rfl; exact rfl; exact at2; (iterate 3 exact rfl)) | (apply r_storeN; exact rfl; (first | exact trivial | exact ⟨rfl, rfl⟩); exact rfl; exact rfl; exact at2; (iterate 3 exact rfl)) | refine JX.blockN ?_))
    refine JX.thenN ?_
    (repeat' (first | refine JC.ops ?_ | refine JO.nil ?_ | (apply r_move; (iterate 3 exact rfl)) | (apply r_assign; (iterate 3 exact rfl)) | (apply r_add1; (iterate 4 exact rfl); omega)))
    exact JX.roundH 5 (by dsimp only; omega) (by dsimp only; omega) (by repeat first | exact trivial | refine ⟨rfl, ?_⟩) (by (repeat' first | exact HSub.refl _ | exact HSub.nil _ | refine HSub.at 0 rfl ?_ | refine HSub.at 1 rfl ?_ | refine HSub.at 2 rfl ?_ | refine HSub.at 3 rfl ?_ | refine HSub.at 4 rfl ?_ | refine HSub.at 5 rfl ?_ | refine HSub.at 6 rfl ?_ | refine HSub.at 7 rfl ?_ | refine HSub.at 8 rfl ?_ | refine HSub.at 9 rfl ?_ | refine HSub.at 10 rfl ?_ | refine HSub.at 11 rfl ?_ | refine HSub.at 12 rfl ?_ | refine HSub.at 13 rfl ?_ | refine HSub.at 14 rfl ?_ | refine HSub.at 15 rfl ?_ | refine HSub.at 16 rfl ?_ | refine HSub.at 17 rfl ?_ | refine HSub.at 18 rfl ?_ | refine HSub.at 19 rfl ?_ | refine HSub.segH ?_ | refine HSub.skip ?_ | refine HSub.skipN ?_))
  · (repeat' (first | refine JC.seq ?_ | refine JC.ops ?_ | refine JO.nil ?_ | refine JX.thenN ?_ | (apply r_move; (iterate 3 exact rfl)) | (apply r_index; (iterate 3 exact rfl); exact fun _ => rfl; exact rfl; omega) | (apply r_len; (iterate 3 exact rfl)) | (apply r_lss; (iterate 4 exact rfl); all_goals intro hc; all_goals try (exfalso; omega)) | refine JC.skip ?_ | refine JC.condT rfl ?_ | refine JC.block ?_))
    refine r_loadM (n := 4) (vs := #[.int .i64 1, .int .i64 0, .int .i64 2, .int .i64 (-1)]) 1 rfl rfl rfl rfl rfl rfl (fun j hj => by
      rcases (show j = 0 ∨ j = 1 ∨ j = 2 ∨ j = 3 by omega) with rfl | rfl | rfl | rfl <;> rfl) ?_
    (repeat' (first | refine JO.nil ?_ | (apply r_storeN; exact rfl; (first | exact trivial | exact ⟨rfl, rfl⟩); exact rfl; exact rfl; exact at0; (iterate 3 exact rfl)) | (apply r_allocZ; (iterate 3 exact rfl); intro _) | (apply r_storeN; exact rfl; (first | exact trivial | exact ⟨rfl, rfl⟩); exact rfl; exact rfl; exact at0; (iterate 3 exact rfl))))
    rename_i b8
    refine JX.thenN ?_
    (repeat' (first | refine JC.seq ?_ | refine JC.opsD ?_ | (apply r_loadN; (iterate 4 exact rfl); exact at3; exact rfl)))
    refine r_idxArr (j := 0) rfl (by first | rfl | exact ⟨rfl, rfl⟩) rfl rfl (by decide) ?_
    (repeat' (first | (apply r_load; (iterate 4 exact rfl); (first | exact at0 | exact at3); exact rfl) | (apply r_loadN; (iterate 4 exact rfl); (first | exact at0 | exact at3); exact rfl)))
    refine r_idxArr (j := 1) rfl (by first | rfl | exact ⟨rfl, rfl⟩) rfl rfl (by decide) ?_
    (repeat' (first | (apply r_load; (iterate 4 exact rfl); (first | exact at0 | exact at3); exact rfl) | (apply r_loadN; (iterate 4 exact rfl); (first | exact at0 | exact at3); exact rfl)))
    refine r_idxArr (j := 2) rfl (by first | rfl | exact ⟨rfl, rfl⟩) rfl rfl (by decide) ?_
    (repeat' (first | (apply r_load; (iterate 4 exact rfl); exact at0; exact rfl)))
    refine r_call0 (by first | trivial | exact ⟨rfl, rfl⟩) rfl (by first | rfl | exact ⟨rfl, rfl⟩) rfl (fun w hk hs => c_At w _ ma (0) (1) rta ⟨_, rfl, hOa.rd.at hk hs (by (repeat' first | exact HSub.nil _ | exact HSub.hd | exact HSub.in0 | exact HSub.refl _ | refine HSub.skip ?_ | refine HSub.skipN ?_))⟩) fun w v w' _ _ _ hR => ?_
    subst hR
    rw [show atZ ma (0) (1) = ma.at 0 1 from at_at (i := 0) (j := 1) (by omega) (by omega)]
    skip
    refine r_call0 (by first | trivial | exact ⟨rfl, rfl⟩) rfl (by first | rfl | exact ⟨rfl, rfl⟩) rfl (fun w hk hs => c_At w _ ma (1) (0) rta ⟨_, rfl, hOa.rd.at hk hs (by (repeat' first | exact HSub.nil _ | exact HSub.hd | exact HSub.in0 | exact HSub.refl _ | refine HSub.skip ?_ | refine HSub.skipN ?_))⟩) fun w v w' _ _ _ hR => ?_
    subst hR
    rw [show atZ ma (1) (0) = ma.at 1 0 from at_at (i := 1) (j := 0) (by omega) (by omega)]
    skip
    refine r_call0 (by first | trivial | exact ⟨rfl, rfl⟩) rfl (by first | rfl | exact ⟨rfl, rfl⟩) rfl (fun w hk hs => c_Mul w _ _ (ma.at 0 1) (ma.at 1 0) 8 (IsZ.can (bd_up (bda.at _ _) (by omega))) (IsZ.can (bd_up (bda.at _ _) (by omega))) (by omega)) fun w v w' _ _ _ hR => ?_
    subst hR
    skip
    refine r_call0 (by first | trivial | exact ⟨rfl, rfl⟩) rfl (by first | rfl | exact ⟨rfl, rfl⟩) rfl (fun w hk hs => c_At w _ ma (2) (2) rta ⟨_, rfl, hOa.rd.at hk hs (by (repeat' first | exact HSub.nil _ | exact HSub.hd | exact HSub.in0 | exact HSub.refl _ | refine HSub.skip ?_ | refine HSub.skipN ?_))⟩) fun w v w' _ _ _ hR => ?_
    subst hR
    rw [show atZ ma (2) (2) = ma.at 2 2 from at_at (i := 2) (j := 2) (by omega) (by omega)]
    skip
    refine r_call0 (by first | trivial | exact ⟨rfl, rfl⟩) rfl (by first | rfl | exact ⟨rfl, rfl⟩) rfl (fun w hk hs => c_Mul w _ _ (ma.at 0 1 * ma.at 1 0) (ma.at 2 2) 16 (IsZ.can (mul_bd (bda.at _ _) (bda.at _ _))) (IsZ.can (bd_up (bda.at _ _) (by omega))) (by omega)) fun w v w' _ _ _ hR => ?_
    subst hR
    (repeat' (first | refine JO.nil ?_ | (apply r_storeN; exact rfl; (first | exact trivial | exact ⟨rfl, rfl⟩); exact rfl; exact rfl; exact at0; (iterate 3 exact rfl)) | (apply r_allocZ; (iterate 3 exact rfl); intro _) | (apply r_storeN; exact rfl; (first | exact trivial | exact ⟨rfl, rfl⟩); exact rfl; exact rfl; exact at0; (iterate 3 exact rfl))))
    rename_i b9
    refine JX.thenN ?_
    (repeat' (first | refine JC.opsD ?_ | (apply r_loadN; (iterate 4 exact rfl); (first | exact at0 | exact at2); exact rfl)))
    refine r_idxArr (j := 3) rfl (by first | rfl | exact ⟨rfl, rfl⟩) rfl rfl (by decide) ?_
    (repeat' (first | (apply r_load; (iterate 4 exact rfl); exact at1; exact rfl)))
    refine r_call0 (by first | trivial | exact ⟨rfl, rfl⟩) rfl (by first | rfl | exact ⟨rfl, rfl⟩) rfl (fun w hk hs => c_From w (-1) (by decide) (by decide)) fun w v w' _ _ _ hR => ?_
    subst hR
    skip
    refine r_call0 (by first | trivial | exact ⟨rfl, rfl⟩) rfl (by first | rfl | exact ⟨rfl, rfl⟩) rfl (fun w hk hs => c_Mul w _ _ (ma.at 0 1 * ma.at 1 0 * ma.at 2 2) (-1) 24 (IsZ.can (mul_bd (mul_bd (bda.at _ _) (bda.at _ _)) (bda.at _ _))) (IsZ.can (by decide)) (by omega)) fun w v w' _ _ _ hR => ?_
    subst hR
    skip
    refine r_call0 (by first | trivial | exact ⟨rfl, rfl⟩) rfl (by first | rfl | exact ⟨rfl, rfl⟩) rfl (fun w hk hs => c_Add w _ _ (sumT ma.at 5) (ma.at 0 1 * ma.at 1 0 * ma.at 2 2 * (-1)) 26 (IsZ.can (sumT_bd hat 5 (by omega))) (IsZ.can (bd_up (bd3 (bda.at _ _) (bda.at _ _) (bda.at _ _) (by decide)) (by omega))) (by omega)) fun w v w' _ _ _ hR => ?_
    subst hR
    rw [show sumT ma.at 5 + ma.at 0 1 * ma.at 1 0 * ma.at 2 2 * (-1) = sumT ma.at 6 from rfl]
    (repeat' (first | refine JO.nil ?_ | (apply r_storeN; exact rfl; (first | exact trivial | exact ⟨rfl, rfl⟩); exact rfl; exact rfl; exact at2; (iterate 3 exact rfl)) | (apply r_storeN; exact rfl; (first | exact trivial | exact ⟨rfl, rfl⟩); exact rfl; exact rfl; exact at2; (iterate 3 exact rfl)) | refine JX.blockN ?_))
    refine JX.thenN ?_
    (repeat' (first | refine JC.ops ?_ | refine JO.nil ?_ | (apply r_move; (iterate 3 exact rfl)) | (apply r_assign; (iterate 3 exact rfl)) | (apply r_add1; (iterate 4 exact rfl); omega)))
    exact JX.roundH 6 (by dsimp only; omega) (by dsimp only; omega) (by repeat first | exact trivial | refine ⟨rfl, ?_⟩) (by (repeat' first | exact HSub.refl _ | exact HSub.nil _ | refine HSub.at 0 rfl ?_ | refine HSub.at 1 rfl ?_ | refine HSub.at 2 rfl ?_ | refine HSub.at 3 rfl ?_ | refine HSub.at 4 rfl ?_ | refine HSub.at 5 rfl ?_ | refine HSub.at 6 rfl ?_ | refine HSub.at 7 rfl ?_ | refine HSub.at 8 rfl ?_ | refine HSub.at 9 rfl ?_ | refine HSub.at 10 rfl ?_ | refine HSub.at 11 rfl ?_ | refine HSub.at 12 rfl ?_ | refine HSub.at 13 rfl ?_ | refine HSub.at 14 rfl ?_ | refine HSub.at 15 rfl ?_ | refine HSub.at 16 rfl ?_ | refine HSub.at 17 rfl ?_ | refine HSub.at 18 rfl ?_ | refine HSub.at 19 rfl ?_ | refine HSub.segH ?_ | refine HSub.skip ?_ | refine HSub.skipN ?_))
  · (repeat' (first | refine JC.seq ?_ | refine JC.ops ?_ | refine JO.nil ?_ | refine JX.thenN ?_ | (apply r_move; (iterate 3 exact rfl)) | (apply r_loadN; (iterate 4 exact rfl); exact at3; exact rfl) | (apply r_len; (iterate 3 exact rfl)) | (apply r_lss; (iterate 4 exact rfl); all_goals intro hc; all_goals try (exfalso; omega)) | refine JX.thenE ?_ | refine JC.exit ?_ | refine JC.condF rfl ?_ | refine JX.blockE ?_))
    rw [sumT_six]
    refine r_callA (A := [_, _, _, _]) (B := Na ++ ([])) rfl (by first | trivial | exact ⟨rfl, rfl⟩) rfl (by first | rfl | exact ⟨rfl, rfl⟩) rfl (fun w hk hs => c_With w _ R0 C0 2 2 L0 (hs0.mono hk) (by omega) (by omega)) fun w v w' _ _ _ hR => ?_
    obtain ⟨mb, hmb⟩ : ∃ m, m = shZ L0 2 2 := ⟨_, rfl⟩
    have rtb : RtZ mb := by rw [hmb]; exact RtZ.sh _ (by omega) (by omega)
    have bdb : BdZ 8 mb := by rw [hmb]; exact BdZ.sh hL0 _ _
    rw [← hmb] at hR
    obtain ⟨Nb, hNb, Eb, rfl, hOb⟩ := hR
    obtain ⟨Ab, cb, rfl⟩ := hOb.form
    refine ⟨Nb, hNb, ?_⟩
    (repeat' (first | refine JO.nil ?_ | (apply r_storeN; exact rfl; (first | exact trivial | exact ⟨rfl, rfl⟩); exact rfl; exact rfl; exact at0; (iterate 3 exact rfl)) | (apply r_allocZ; (iterate 3 exact rfl); intro _) | (apply r_storeN; exact rfl; (first | exact trivial | exact ⟨rfl, rfl⟩); exact rfl; exact rfl; exact at0; (iterate 3 exact rfl))))
    rename_i bb
    refine JX.part (F' := [(10, .pointer (some ⟨bb, 0, none⟩)), (6, .pointer (some ⟨b6, 0, none⟩)), (5, .slice (some ⟨b5, 0, none⟩) 6 6), (4, .pointer (some ⟨ba, 0, none⟩)), (3, .bool true)]) (H' := [(bb, .cells #[nv mb.r, nv mb.c, .slice Ab mb.e.length cb] 29), (b6, .cells (wc (det 3 ma.at)) 41), (b5, .cells ⟨[.int .i64 0, .int .i64 1, .int .i64 2, .int .i64 1, .int .i64 1, .int .i64 2, .int .i64 0, .int .i64 1, .int .i64 2, .int .i64 0, .int .i64 1, .int .i64 1, .int .i64 0, .int .i64 2, .int .i64 1, .int .i64 (-1), .int .i64 2, .int .i64 1, .int .i64 0, .int .i64 (-1), .int .i64 1, .int .i64 0, .int .i64 2, .int .i64 (-1)]⟩ 25), (ba, .cells #[nv ma.r, nv ma.c, .slice Aa ma.e.length ca] 29)] ++ (Nb ++ (Na ++ ([])))) (by repeat first | exact trivial | refine ⟨rfl, ?_⟩) (by (repeat' first | exact HSub.refl _ | exact HSub.nil _ | refine HSub.at 0 rfl ?_ | refine HSub.at 1 rfl ?_ | refine HSub.at 2 rfl ?_ | refine HSub.at 3 rfl ?_ | refine HSub.at 4 rfl ?_ | refine HSub.at 5 rfl ?_ | refine HSub.at 6 rfl ?_ | refine HSub.at 7 rfl ?_ | refine HSub.at 8 rfl ?_ | refine HSub.at 9 rfl ?_ | refine HSub.at 10 rfl ?_ | refine HSub.at 11 rfl ?_ | refine HSub.at 12 rfl ?_ | refine HSub.at 13 rfl ?_ | refine HSub.at 14 rfl ?_ | refine HSub.at 15 rfl ?_ | refine HSub.at 16 rfl ?_ | refine HSub.at 17 rfl ?_ | refine HSub.at 18 rfl ?_ | refine HSub.at 19 rfl ?_ | refine HSub.segH ?_ | refine HSub.skip ?_ | refine HSub.skipN ?_)) ?_
    refine JX.thenN ?_
    (repeat' (first | refine JC.seq ?_ | refine JC.opsD ?_ | (apply r_loadN; (iterate 4 exact rfl); exact at0; exact rfl)))
    have cbr : mb.r = 2 := by rw [hmb]; rfl
    have cbc : mb.c = 2 := by rw [hmb]; rfl
    refine r_call0 (by first | trivial | exact ⟨rfl, rfl⟩) rfl (by first | rfl | exact ⟨rfl, rfl⟩) rfl (fun w hk hs => c_At w _ mb (0) (0) rtb ⟨_, rfl, hOb.rd.at hk hs (by (repeat' first | exact HSub.nil _ | exact HSub.hd | exact HSub.in0 | exact HSub.refl _ | refine HSub.skip ?_ | refine HSub.skipN ?_))⟩) fun w v w' _ _ _ hR => ?_
    subst hR
    rw [show atZ mb (0) (0) = mb.at 0 0 from at_at (i := 0) (j := 0) (by omega) (by omega)]
    skip
    refine r_call0 (by first | trivial | exact ⟨rfl, rfl⟩) rfl (by first | rfl | exact ⟨rfl, rfl⟩) rfl (fun w hk hs => c_At w _ mb (1) (1) rtb ⟨_, rfl, hOb.rd.at hk hs (by (repeat' first | exact HSub.nil _ | exact HSub.hd | exact HSub.in0 | exact HSub.refl _ | refine HSub.skip ?_ | refine HSub.skipN ?_))⟩) fun w v w' _ _ _ hR => ?_
    subst hR
    rw [show atZ mb (1) (1) = mb.at 1 1 from at_at (i := 1) (j := 1) (by omega) (by omega)]
    skip
    refine r_call0 (by first | trivial | exact ⟨rfl, rfl⟩) rfl (by first | rfl | exact ⟨rfl, rfl⟩) rfl (fun w hk hs => c_Mul w _ _ (mb.at 0 0) (mb.at 1 1) 8 (IsZ.can (bd_up (bdb.at _ _) (by omega))) (IsZ.can (bd_up (bdb.at _ _) (by omega))) (by omega)) fun w v w' _ _ _ hR => ?_
    subst hR
    skip
    refine r_call0 (by first | trivial | exact ⟨rfl, rfl⟩) rfl (by first | rfl | exact ⟨rfl, rfl⟩) rfl (fun w hk hs => c_At w _ mb (0) (1) rtb ⟨_, rfl, hOb.rd.at hk hs (by (repeat' first | exact HSub.nil _ | exact HSub.hd | exact HSub.in0 | exact HSub.refl _ | refine HSub.skip ?_ | refine HSub.skipN ?_))⟩) fun w v w' _ _ _ hR => ?_
    subst hR
    rw [show atZ mb (0) (1) = mb.at 0 1 from at_at (i := 0) (j := 1) (by omega) (by omega)]
    skip
    refine r_call0 (by first | trivial | exact ⟨rfl, rfl⟩) rfl (by first | rfl | exact ⟨rfl, rfl⟩) rfl (fun w hk hs => c_At w _ mb (1) (0) rtb ⟨_, rfl, hOb.rd.at hk hs (by (repeat' first | exact HSub.nil _ | exact HSub.hd | exact HSub.in0 | exact HSub.refl _ | refine HSub.skip ?_ | refine HSub.skipN ?_))⟩) fun w v w' _ _ _ hR => ?_
    subst hR
    rw [show atZ mb (1) (0) = mb.at 1 0 from at_at (i := 1) (j := 0) (by omega) (by omega)]
    skip
    refine r_call0 (by first | trivial | exact ⟨rfl, rfl⟩) rfl (by first | rfl | exact ⟨rfl, rfl⟩) rfl (fun w hk hs => c_Mul w _ _ (mb.at 0 1) (mb.at 1 0) 8 (IsZ.can (bd_up (bdb.at _ _) (by omega))) (IsZ.can (bd_up (bdb.at _ _) (by omega))) (by omega)) fun w v w' _ _ _ hR => ?_
    subst hR
    skip
    refine r_call0 (by first | trivial | exact ⟨rfl, rfl⟩) rfl (by first | rfl | exact ⟨rfl, rfl⟩) rfl (fun w hk hs => c_Sub w _ _ (mb.at 0 0 * mb.at 1 1) (mb.at 0 1 * mb.at 1 0) 16 (IsZ.can (mul_bd (bdb.at _ _) (bdb.at _ _))) (IsZ.can (mul_bd (bdb.at _ _) (bdb.at _ _))) (by omega)) fun w v w' _ _ _ hR => ?_
    subst hR
    rw [← det_2 mb.at]
    (repeat' (first | refine JO.nil ?_ | (apply r_storeN; exact rfl; (first | exact trivial | exact ⟨rfl, rfl⟩); exact rfl; exact rfl; exact at0; (iterate 3 exact rfl)) | (apply r_allocZ; (iterate 3 exact rfl); intro _) | (apply r_storeN; exact rfl; (first | exact trivial | exact ⟨rfl, rfl⟩); exact rfl; exact rfl; exact at0; (iterate 3 exact rfl))))
    rename_i b11
    refine JX.part (F' := [(11, .pointer (some ⟨b11, 0, none⟩)), (10, .pointer (some ⟨bb, 0, none⟩)), (6, .pointer (some ⟨b6, 0, none⟩)), (4, .pointer (some ⟨ba, 0, none⟩)), (3, .bool true)]) (H' := [(b11, .cells (wc (det 2 mb.at)) 41), (bb, .cells #[nv mb.r, nv mb.c, .slice Ab mb.e.length cb] 29), (b6, .cells (wc (det 3 ma.at)) 41), (ba, .cells #[nv ma.r, nv ma.c, .slice Aa ma.e.length ca] 29)] ++ (Nb ++ (Na ++ ([])))) (by repeat first | exact trivial | refine ⟨rfl, ?_⟩) (by (repeat' first | exact HSub.refl _ | exact HSub.nil _ | refine HSub.at 0 rfl ?_ | refine HSub.at 1 rfl ?_ | refine HSub.at 2 rfl ?_ | refine HSub.at 3 rfl ?_ | refine HSub.at 4 rfl ?_ | refine HSub.at 5 rfl ?_ | refine HSub.at 6 rfl ?_ | refine HSub.at 7 rfl ?_ | refine HSub.at 8 rfl ?_ | refine HSub.at 9 rfl ?_ | refine HSub.at 10 rfl ?_ | refine HSub.at 11 rfl ?_ | refine HSub.at 12 rfl ?_ | refine HSub.at 13 rfl ?_ | refine HSub.at 14 rfl ?_ | refine HSub.at 15 rfl ?_ | refine HSub.at 16 rfl ?_ | refine HSub.at 17 rfl ?_ | refine HSub.at 18 rfl ?_ | refine HSub.at 19 rfl ?_ | refine HSub.segH ?_ | refine HSub.skip ?_ | refine HSub.skipN ?_)) ?_
    refine JX.thenN ?_
    (repeat' (first | refine JC.seq ?_ | refine JC.ops ?_ | (apply r_loadN; (iterate 4 exact rfl); exact at3; exact rfl)))
    refine r_call0 (by first | trivial | exact ⟨rfl, rfl⟩) rfl (by first | rfl | exact ⟨rfl, rfl⟩) rfl (fun w hk hs => c_Det 8 w _ ma rta (by omega) (by rw [car]; decide) bda ⟨_, rfl, hOa.rd.at hk hs (by (repeat' first | exact HSub.nil _ | exact HSub.hd | exact HSub.in0 | exact HSub.refl _ | refine HSub.skip ?_ | refine HSub.skipN ?_))⟩) fun w v w' _ _ _ hR => ?_
    subst hR
    rw [show det ma.r ma.at = det 3 ma.at by rw [car]]
    (repeat' (first | refine JO.nil ?_ | (apply r_move; (iterate 3 exact rfl)) | (apply r_assign; (iterate 3 exact rfl)) | (apply r_extract; (iterate 4 exact rfl)) | (apply r_storeN; exact rfl; (first | exact trivial | exact ⟨rfl, rfl⟩); exact rfl; exact rfl; exact at0; (iterate 3 exact rfl)) | (apply r_allocZ; (iterate 3 exact rfl); intro _) | (apply r_storeN; exact rfl; (first | exact trivial | exact ⟨rfl, rfl⟩); exact rfl; exact rfl; exact at0; (iterate 3 exact rfl))))
    rename_i b12
    refine JX.part (F' := [(12, .pointer (some ⟨b12, 0, none⟩)), (11, .pointer (some ⟨b11, 0, none⟩)), (10, .pointer (some ⟨bb, 0, none⟩)), (6, .pointer (some ⟨b6, 0, none⟩)), (4, .pointer (some ⟨ba, 0, none⟩)), (3, .bool true)]) (H' := [(b12, .cells (wc (det 3 ma.at)) 41), (b11, .cells (wc (det 2 mb.at)) 41), (bb, .cells #[nv mb.r, nv mb.c, .slice Ab mb.e.length cb] 29), (b6, .cells (wc (det 3 ma.at)) 41), (ba, .cells #[nv ma.r, nv ma.c, .slice Aa ma.e.length ca] 29)] ++ (Nb ++ (Na ++ ([])))) (by repeat first | exact trivial | refine ⟨rfl, ?_⟩) (by (repeat' first | exact HSub.refl _ | exact HSub.nil _ | refine HSub.at 0 rfl ?_ | refine HSub.at 1 rfl ?_ | refine HSub.at 2 rfl ?_ | refine HSub.at 3 rfl ?_ | refine HSub.at 4 rfl ?_ | refine HSub.at 5 rfl ?_ | refine HSub.at 6 rfl ?_ | refine HSub.at 7 rfl ?_ | refine HSub.at 8 rfl ?_ | refine HSub.at 9 rfl ?_ | refine HSub.at 10 rfl ?_ | refine HSub.at 11 rfl ?_ | refine HSub.at 12 rfl ?_ | refine HSub.at 13 rfl ?_ | refine HSub.at 14 rfl ?_ | refine HSub.at 15 rfl ?_ | refine HSub.at 16 rfl ?_ | refine HSub.at 17 rfl ?_ | refine HSub.at 18 rfl ?_ | refine HSub.at 19 rfl ?_ | refine HSub.segH ?_ | refine HSub.skip ?_ | refine HSub.skipN ?_)) ?_
    refine JX.thenN ?_
    (repeat' (first | refine JC.seq ?_ | refine JC.ops ?_ | (apply r_loadN; (iterate 4 exact rfl); exact at2; exact rfl)))
    refine r_call0 (by first | trivial | exact ⟨rfl, rfl⟩) rfl (by first | rfl | exact ⟨rfl, rfl⟩) rfl (fun w hk hs => c_Det 8 w _ mb rtb (by omega) (by rw [cbr]; decide) bdb ⟨_, rfl, hOb.rd.at hk hs (by (repeat' first | exact HSub.nil _ | exact HSub.hd | exact HSub.in0 | exact HSub.refl _ | refine HSub.skip ?_ | refine HSub.skipN ?_))⟩) fun w v w' _ _ _ hR => ?_
    subst hR
    rw [show det mb.r mb.at = det 2 mb.at by rw [cbr]]
    (repeat' (first | refine JO.nil ?_ | (apply r_move; (iterate 3 exact rfl)) | (apply r_assign; (iterate 3 exact rfl)) | (apply r_extract; (iterate 4 exact rfl)) | (apply r_storeN; exact rfl; (first | exact trivial | exact ⟨rfl, rfl⟩); exact rfl; exact rfl; exact at0; (iterate 3 exact rfl)) | (apply r_allocZ; (iterate 3 exact rfl); intro _) | (apply r_storeN; exact rfl; (first | exact trivial | exact ⟨rfl, rfl⟩); exact rfl; exact rfl; exact at0; (iterate 3 exact rfl))))
    rename_i b14
    refine JX.part (F' := [(14, .pointer (some ⟨b14, 0, none⟩)), (12, .pointer (some ⟨b12, 0, none⟩)), (11, .pointer (some ⟨b11, 0, none⟩)), (10, .pointer (some ⟨bb, 0, none⟩)), (6, .pointer (some ⟨b6, 0, none⟩)), (4, .pointer (some ⟨ba, 0, none⟩)), (3, .bool true)]) (H' := [(b14, .cells (wc (det 2 mb.at)) 41), (b12, .cells (wc (det 3 ma.at)) 41), (b11, .cells (wc (det 2 mb.at)) 41), (bb, .cells #[nv mb.r, nv mb.c, .slice Ab mb.e.length cb] 29), (b6, .cells (wc (det 3 ma.at)) 41), (ba, .cells #[nv ma.r, nv ma.c, .slice Aa ma.e.length ca] 29)] ++ (Nb ++ (Na ++ ([])))) (by repeat first | exact trivial | refine ⟨rfl, ?_⟩) (by (repeat' first | exact HSub.refl _ | exact HSub.nil _ | refine HSub.at 0 rfl ?_ | refine HSub.at 1 rfl ?_ | refine HSub.at 2 rfl ?_ | refine HSub.at 3 rfl ?_ | refine HSub.at 4 rfl ?_ | refine HSub.at 5 rfl ?_ | refine HSub.at 6 rfl ?_ | refine HSub.at 7 rfl ?_ | refine HSub.at 8 rfl ?_ | refine HSub.at 9 rfl ?_ | refine HSub.at 10 rfl ?_ | refine HSub.at 11 rfl ?_ | refine HSub.at 12 rfl ?_ | refine HSub.at 13 rfl ?_ | refine HSub.at 14 rfl ?_ | refine HSub.at 15 rfl ?_ | refine HSub.at 16 rfl ?_ | refine HSub.at 17 rfl ?_ | refine HSub.at 18 rfl ?_ | refine HSub.at 19 rfl ?_ | refine HSub.segH ?_ | refine HSub.skip ?_ | refine HSub.skipN ?_)) ?_
    refine JX.thenN ?_
    (repeat' (first | refine JC.seq ?_ | refine JC.ops ?_ | refine JO.nil ?_ | (apply r_move; (iterate 3 exact rfl)) | (apply r_assign; (iterate 3 exact rfl)) | (apply r_loadN; (iterate 4 exact rfl); (first | exact at0 | exact at1 | exact at2 | exact at4); exact rfl) | (apply r_pickT; (iterate 4 exact rfl)) | (apply r_eqWT; (iterate 4 exact rfl); (first | exact rfl | assumption))))
    refine JX.thenN ?_
    (repeat' (first | refine JC.ret ?_))
    exact JX.ret1 rfl (fun a w' st => ⟨st.kp, rfl⟩)

end Go.Proofs.YtdlmnloikakjpaaDoor

/-
  LawMatrixSmall: for every input the call of 'cocycle/cocyclelaw02.MatrixSmall' returns true, and every argument reads afterwards as it read before. Conditions: none. The card.
-/
namespace Go.Proofs.YtdlmnloikakjpaaDoor.matrixSmall
open Go Go.RowKit Go.ChangeShapes Go.WideShapes Go.ChangeAt
set_option linter.unusedSimpArgs false
set_option linter.unusedVariables false
set_option linter.unusedSectionVars false

set_option maxRecDepth 100000 in
theorem lifted (os : Os) (started : os.Started) (H : Type) (enc : TypeId × Value → H) :
    ReturnsInHanded {} Tryd.checked os 7 .any (fun w args => (Rows.matrixSmallSpec.pre enc Tryd.prog Tryd.f7 [] false w args ∧ laidMetH Tryd.prog Rows.matrixSmallRow.laid w) ∧ sizedMet enc Tryd.prog Tryd.f7 (OpenSpec.ofChange Rows.matrixSmallSpec) false w args)
      (Rows.matrixSmallSpec.post enc Tryd.prog Tryd.f7 false true false false) := by
  refine returnsInHanded_of_change_and (C := Tryd.checked) (X := fun w _ => laidMetH Tryd.prog Rows.matrixSmallRow.laid w) (fun _ _ _ hh h => h.of_heap hh) own started (by kernel_rfl) Tryd.func7
    (ChangeSpec.witness_shaped (enc := enc) (C := Tryd.checked) (os := os) (X := fun w _ => laidMetH Tryd.prog Rows.matrixSmallRow.laid w) false (World.laidAll Tryd.prog os Rows.matrixSmallRow.laid) #[.agg #[.int .u8 0, .int .u8 0, .slice none 0 0]] 8 (World.laidAll_os _ _ _)
      (World.shaped_of_ZipB (by kernel_rfl) (by kernel_rfl)) (by kernel_rfl) (by kernel_rfl) (by kernel_rfl)
      (by rw [MakeChecks.laidMetH_plain _ _ _ (by kernel_rfl)]; exact laidMet_laidAll _ (by kernel_rfl) (by kernel_rfl))) ?_
  intro W base args ds gs before hval0 hW _ hwt0 hL _
  have hval : ∀ (j : Nat) t v, Tryd.f7.params[j]? = some t → args[j]? = some v → Value.okWide Tryd.prog W .any base t v := hval0
  have hW' := hW
  obtain ⟨p, q, hA0, hV, rfl, hfz, hnd⟩ := hW
  have hA : DataW.TrodAll enc Tryd.prog W 0 (fun _ => true) true Tryd.f7.params.toList args.toList ds p := hA0
  have hwt : (DataW.weightsEach Tryd.prog (Tryd.f7.params.toList ++ Rows.matrixSmallSpec.plain.varTypes Tryd.prog) (ds ++ gs)).all (· ≤ reachBytes) = true := hwt0
  have hwt1 := fun n hn => of_decide_eq_true (List.all_eq_true.1 hwt n hn)
  rw [Tryd.params7] at hA hval hwt1
  obtain ⟨v0, vs0, d0, ds0, p0, q0, hargs, rfl, rfl, h0, r0⟩ := trodAll_cons hA
  obtain ⟨rfl, rfl, rfl⟩ := trodAll_nil r0
  obtain rfl : args = #[v0] := by cases args; simp_all
  obtain ⟨rfl, rfl⟩ := trodVars_none hV
  have k0 := h0
  have lt0 : ∀ x ∈ p0, x.block < W.heap.size := by obtain ⟨m, hm⟩ := k0; exact DataW.trod_lt m _ _ _ hm
  obtain ⟨R0, C0, L0, s0⟩ := open_shape (hval 0 24 v0 rfl rfl) h0
  clear hA0 hval0
  refine (c_MatrixSmall W v0 R0 C0 L0 s0).mono fun e W' he => ?_
  cases e with
  | panicked _ => exact he.elim
  | outgrown => exact he.elim
  | returned u =>
    obtain ⟨hk, rfl⟩ := he
    have bel := hk.below
    exact ⟨_, rfl, _, _, _, [], _, [], hW', trodAll_mk1 (shut_bool Tryd.underlying4 _), (trodAll_cons_mk (Below.trod laidOut (by kernel_rfl) (of_decide_eq_true (by kernel_rfl)) k0 bel lt0) trodAll_mk0), rfl, bel.frame _, fun h => by cases h⟩

theorem holds : Rows.MatrixSmallSaid :=
  OpenClaim.holds_of_wide 7 Tryd.f7 rfl rfl rfl rfl rfl rfl rfl ⟨rfl, rfl, rfl, rfl, rfl⟩ rfl rfl rfl rfl rfl (by kernel_rfl) Tryd.func7 (by kernel_rfl)
    (of_decide_eq_true (by kernel_rfl)) (by unfold Func.isWrapper; first | (rw [if_pos (by decide +kernel)]; kernel_rfl) | (rw [if_neg (by decide +kernel)]; exact ⟨rfl, rfl⟩))
    (fun os started H enc _ => lifted os started H enc)

theorem proved : Rows.MatrixSmallCardSaid :=
  Claim7.holds_tied_plain_at .later [] [.data, .pinned] true (true, "1e720b878859d18141ea40e2dc597df34bde83979d72dc5a8b5bc54d7198a929") false holds (fun _ h => by cases h) (by kernel_rfl) (fun _ h => by cases h) matrixSmall_row_tie rfl ⟨rfl, rfl⟩ (by kernel_rfl) rfl
    (fun f fn hf hfn => by
      obtain rfl : f = 7 := Option.some.inj ((show Tryd.prog.funcNamed "cocycle/cocyclelaw02.MatrixSmall" = some 7 by kernel_rfl).symm.trans hf) |>.symm
      obtain rfl : fn = Tryd.f7 := (Option.some.inj (Tryd.func7.symm.trans hfn)).symm
      exact ⟨by kernel_rfl, fun j t ht => by
        rw [Tryd.params7] at ht
        have hm : t ∈ [24] := by simpa using Array.mem_of_getElem? ht
        have hall : ([24].all fun u => !Tryd.prog.wantsStandIn u) = true := by kernel_rfl
        exact (show Tryd.prog.wantsStandIn t = false by simpa using List.all_eq_true.1 hall t hm)⟩)
    (by kernel_rfl)

end Go.Proofs.YtdlmnloikakjpaaDoor.matrixSmall

