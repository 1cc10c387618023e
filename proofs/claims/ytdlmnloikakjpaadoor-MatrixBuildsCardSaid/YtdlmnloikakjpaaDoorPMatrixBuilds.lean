import Derived.Test.YtdlmnloikakjpaaDoorMh
import Derived.Test.YtdlmnloikakjpaaDoorMi
import Derived.Test.YtdlmnloikakjpaaDoorMj
import Derived.Test.YtdlmnloikakjpaaDoorTie
import Derived.Test.YtdlmnloikakjpaaDoorCards
import Derived.Shelf.Lay
import Derived.Lay
import Derived.LaidOnce
import Derived.SevenTiedAt
/- The law MatrixBuilds. ROWZ -/
namespace Go.Proofs.YtdlmnloikakjpaaDoor
open Go Go.RowKit
set_option linter.unusedSimpArgs false
set_option linter.unusedVariables false
set_option linter.unusedSectionVars false

theorem min_iv (a b : Nat) : (if (b : Int) < (a : Int) then (b : Int) else (a : Int)) = ((min a b : Nat) : Int) := by
  split <;> omega
theorem same_t {w : World} {v u : Value} {m : ZM} (hm : RtZ m) (hv : IsM w v m) (hu : IsM w u m) : Calls Tryd.prog 22 #[v, u] w (Ret fun v w' => Kp [] w w' ∧ v = .bool true) :=
  calls_mono (c_same w v u m.xm m.xm hv.x hu.x (xm_len hm) (xm_len hm)) fun v w' h => ⟨h.1, by obtain ⟨b, rfl, hb⟩ := h.2; rw [hb.2 rfl]⟩
theorem ofZ_rt {X : List (List Int)} {k : Nat} (hk : k ≤ 8) : RtZ (ofZ (rows8 X k)) := zof_rt (by rw [rows8_len]; omega) (Nat.le_trans (ofC_bd _ (rows8_le X k) _) (by omega))

set_option maxHeartbeats 16000000 in
theorem c_MatrixBuilds (w : World) (va : Value) (X : List (List Int)) (n0 n1 a0 a1 : Int) (hva : IsLL w va X) (hn0 : I64 n0) (hn1 : I64 n1) (ha0 : I64 a0) (ha1 : I64 a1) :
    Calls Tryd.prog 6 #[va, .agg #[iv n0, iv n1], .agg #[iv a0, iv a1]] w (Ret fun v w' => Kp [] w w' ∧ v = .bool true) := by
  obtain ⟨wz, hwz⟩ : ∃ u, u = w := ⟨_, rfl⟩
  subst hwz
  obtain ⟨hX, ss, hss, hrow⟩ := hva
  have hsl : ss.length = X.length := by have := hss.1; omega
  refine calls_of_S [⟨6, 1, [], []⟩, ⟨9, 1, [0, 1, 2, 3, 4, 5, 6, 7, 8, 10, 11, 12, 13, 14, 9, 15, 16, 17, 18, 19, 20, 21, 22, 23, 24, 25, 27, 28, 29, 30, 31, 32, 33, 26, 34, 35, 36, 37], []⟩, ⟨10, 1, [0, 1, 2, 3, 5, 6, 7, 8, 4, 9, 10, 11, 12, 13, 15, 16, 14, 17, 18, 19, 20, 21, 22, 23, 24, 25, 26, 28, 29, 30, 31, 32, 33, 27, 34, 35, 36, 37, 38, 39, 40, 42, 43, 44, 41, 45, 46, 47, 48], []⟩] [] (by simp) [] Tryd.func6 rfl mixed (by kernel_rfl) Tryd.ntmps6 Tryd.results6 rfl ⟨by simp, by simp⟩ (by simp) ?_
  simp only [toS, textOps, toSOp, kindAt, kindOf, odAt, sopsAt, ordOf, zipF]
  have hRa : Rd ⟨Tryd.prog, 135, wz, [], by simp⟩ [] 1 va X.length ss := hss.rd rfl []
  have hRr : ∀ i, i < X.length → RdI ⟨Tryd.prog, 135, wz, [], by simp⟩ [] (ss.getD i (iv 0)) (X.getD i []).length (X.getD i []) := fun i hi => (hrow i hi).2.1.rd rfl []
  have hI : ∀ i, i < X.length → ∀ j, I64 ((X.getD i []).getD j 0) := fun i hi => (hrow i hi).1
  have hll : ∀ i, i < X.length → (X.getD i []).length < 9223372036854775808 := fun i hi => (hrow i hi).2.2
  clear hrow
  (repeat' (first | refine JC.seq ?_ | refine JC.ops ?_ | refine JO.nil ?_ | (apply r_assign; (iterate 3 exact rfl)) | (apply r_boxA; (iterate 4 exact rfl); intro _)))
  rename_i b4 b5
  refine JX.thenN ?_
  (repeat' (first | refine JC.seq ?_ | refine JC.ops ?_))
  refine r_call0 trivial rfl rfl rfl (fun w _ _ => c_sanity w) fun w v w' _ _ _ hR => ?_
  subst hR
  (repeat' (first | refine JO.nil ?_ | (apply r_assign; (iterate 3 exact rfl))))
  refine JX.part (F' := [(7, .bool true), (5, .pointer (some ⟨b5, 0, none⟩)), (4, .pointer (some ⟨b4, 0, none⟩)), (0, va)]) (H' := [(b5, .cells #[iv a0, iv a1] 52), (b4, .cells #[iv n0, iv n1] 52)] ++ ([])) (by repeat first | exact trivial | refine ⟨rfl, ?_⟩) (by (repeat' first | exact HSub.refl _ | exact HSub.nil _ | refine HSub.at 0 rfl ?_ | refine HSub.at 1 rfl ?_ | refine HSub.at 2 rfl ?_ | refine HSub.at 3 rfl ?_ | refine HSub.at 4 rfl ?_ | refine HSub.at 5 rfl ?_ | refine HSub.at 6 rfl ?_ | refine HSub.at 7 rfl ?_ | refine HSub.at 8 rfl ?_ | refine HSub.at 9 rfl ?_ | refine HSub.at 10 rfl ?_ | refine HSub.at 11 rfl ?_ | refine HSub.at 12 rfl ?_ | refine HSub.at 13 rfl ?_ | refine HSub.at 14 rfl ?_ | refine HSub.at 15 rfl ?_ | refine HSub.at 16 rfl ?_ | refine HSub.at 17 rfl ?_ | refine HSub.at 18 rfl ?_ | refine HSub.at 19 rfl ?_ | refine HSub.segH ?_ | refine HSub.skip ?_ | refine HSub.skipN ?_)) ?_
  refine JX.thenN ?_
  (repeat' (first | refine JC.seq ?_ | refine JC.ops ?_ | refine JO.nil ?_ | (apply r_assign; (iterate 3 exact rfl))))
  (repeat' (first | refine JC.seq ?_ | refine JC.ops ?_ | refine JO.nil ?_ | refine JX.thenN ?_ | (apply r_assign; (iterate 3 exact rfl)) | refine JC.block ?_))
  refine JC.loopH (ι := Nat × SHeap × Value × List Value) ⟨fun z => [(9, nv z.1), (8, z.2.2.1), (7, .bool true), (5, .pointer (some ⟨b5, 0, none⟩)), (4, .pointer (some ⟨b4, 0, none⟩)), (0, va)], fun z => [(b5, .cells #[iv a0, iv a1] 52), (b4, .cells #[iv n0, iv n1] 52)] ++ (z.2.1 ++ []),
    fun z => z.1 ≤ 8 ∧ z.1 ≤ X.length ∧ OwnRow 22 1 z.2.1 z.2.2.1 z.1 z.2.2.2 ∧ ∀ i, i < z.1 → RdI ⟨Tryd.prog, 135, wz, [], by simp⟩ [] (z.2.2.2.getD i (iv 0)) (min (X.getD i []).length 8) ((X.getD i []).take (min (X.getD i []).length 8)), fun z => 8 - z.1⟩ (0, [], .slice none 0 0, []) ⟨by dsimp only; omega, by dsimp only; omega, OwnRow.nil _ 1, fun i hi => absurd hi (Nat.not_lt_zero _)⟩ (by repeat first | exact trivial | refine ⟨rfl, ?_⟩) (by (first | exact HSub.refl _ | (repeat' first | exact HSub.nil _ | exact HSub.refl _ | refine HSub.at 0 rfl ?_ | refine HSub.at 1 rfl ?_ | refine HSub.at 2 rfl ?_ | refine HSub.at 3 rfl ?_ | refine HSub.at 4 rfl ?_ | refine HSub.at 5 rfl ?_ | refine HSub.at 6 rfl ?_ | refine HSub.at 7 rfl ?_))) (fun z hz => ?_)
  obtain ⟨k, N, vl, sl⟩ := z
  obtain ⟨hk8, hkX, hO, hsr⟩ := hz
  dsimp only at hk8 hkX hO hsr ⊢
  obtain ⟨Al, cl, rfl⟩ := hO.form'
  (repeat' (first | refine JC.seq ?_ | refine JC.ops ?_ | (apply r_move; (iterate 3 exact rfl))))
  refine r_lenR rfl rfl rfl hRa ?_
  by_cases hkk : k < X.length ∧ k < 8
  · obtain ⟨hkk, hk8b⟩ := hkk
    have hlk := hll k hkk
    have hRk := hRr k hkk
    (repeat' (first | refine JC.seq ?_ | refine JO.nil ?_ | refine JX.thenN ?_ | (apply r_move; (iterate 3 exact rfl)) | (apply r_pickT; (iterate 4 exact rfl)) | (apply r_lss; (iterate 4 exact rfl); all_goals intro hc; all_goals try (exfalso; omega)) | refine JC.skip ?_ | refine JC.condT rfl ?_ | refine JC.block ?_))
    refine JC.opsDs [(b5, .cells #[iv a0, iv a1] 52), (b4, .cells #[iv n0, iv n1] 52)] (by (first | exact HSub.refl _ | (repeat' first | exact HSub.nil _ | exact HSub.refl _ | refine HSub.at 0 rfl ?_ | refine HSub.at 1 rfl ?_ | refine HSub.at 2 rfl ?_ | refine HSub.at 3 rfl ?_ | refine HSub.at 4 rfl ?_ | refine HSub.at 5 rfl ?_ | refine HSub.at 6 rfl ?_ | refine HSub.at 7 rfl ?_))) ?_
    (repeat' (first | (apply r_move; (iterate 3 exact rfl))))
    refine r_idxR1 rfl rfl rfl rfl hRa hkk ?_
    skip
    refine r_ldR rfl rfl rfl rfl hRa (HSub.nil _) (gD_lt (d := iv 0) (by omega)) ?_
    (repeat' (first | (apply r_move; (iterate 3 exact rfl))))
    refine r_idxR1 rfl rfl rfl rfl hRa hkk ?_
    skip
    refine r_ldR rfl rfl rfl rfl hRa (HSub.nil _) (gD_lt (d := iv 0) (by omega)) ?_
    (repeat' (first | (apply r_lenI; (iterate 3 exact rfl); (first | assumption | exact WI.rd (by assumption) rfl [] | exact OwnI.rd (by assumption))) | (apply r_min; (iterate 4 exact rfl))))
    refine r_sliceR (l := 0) (h' := min (X.getD k []).length 8) rfl rfl rfl hRk rfl rfl (.inr ⟨rfl, rfl⟩) rfl rfl (.inl (congrArg (fun z => some (Value.int .i64 z)) (min_iv (X.getD k []).length 8))) (Nat.zero_le _) (Nat.min_le_left _ _) (fun v36 hv36 _ => ?_)
    have hv36 : RdI ⟨Tryd.prog, 135, wz, [], by simp⟩ [] v36 (min (X.getD k []).length 8) ((X.getD k []).take (min (X.getD k []).length 8)) := by simpa [RdI, List.map_take] using hv36
    obtain ⟨A36, c36, rfl⟩ : ∃ A c, v36 = .slice A (min (X.getD k []).length 8) c := by obtain ⟨_, A, c, h, _⟩ := hv36; exact ⟨A, c, h⟩
    (repeat' (first | (apply r_build1; (iterate 5 exact rfl); (repeat first | exact trivial | refine ⟨rfl, ?_⟩); decide; decide; intro _)))
    rename_i b37
    refine r_appendTL (A := [_, _, _]) (B := []) hO (own_oneT b37 (Value.slice A36 (min (X.getD k []).length 8) c36)).rd rfl (by (repeat' first | exact HSub.nil _ | exact HSub.hd | exact HSub.in0 | exact HSub.refl _ | refine HSub.skip ?_ | refine HSub.skipN ?_)) rfl (by (first | exact HSub.refl _ | (repeat' first | exact HSub.nil _ | exact HSub.refl _ | refine HSub.at 0 rfl ?_ | refine HSub.at 1 rfl ?_ | refine HSub.at 2 rfl ?_ | refine HSub.at 3 rfl ?_ | refine HSub.at 4 rfl ?_ | refine HSub.at 5 rfl ?_ | refine HSub.at 6 rfl ?_ | refine HSub.at 7 rfl ?_))) rfl rfl rfl rfl (by omega) (fun v' N' hO' => ?_)
    have hsr' : ∀ i, i < k + 1 → RdI ⟨Tryd.prog, 135, wz, [], by simp⟩ [] ((sl ++ [(Value.slice A36 (min (X.getD k []).length 8) c36)]).getD i (iv 0)) (min (X.getD i []).length 8) ((X.getD i []).take (min (X.getD i []).length 8)) := fun i hi => by
      have hl0 : sl.length = k := by have := hO.1; omega
      rcases Nat.lt_or_ge i k with h | h
      · rw [List.getD, List.getElem?_append_left (by omega)]; exact hsr i h
      · obtain rfl : i = k := by omega
        rw [List.getD, List.getElem?_append_right (by omega), hl0, Nat.sub_self]; exact hv36
    (repeat' (first | refine JC.ops ?_ | refine JO.nil ?_ | refine JX.thenN ?_ | (apply r_move; (iterate 3 exact rfl)) | (apply r_assign; (iterate 3 exact rfl)) | (apply r_add1; (iterate 4 exact rfl); omega) | refine JX.blockN ?_))
    exact JX.roundH (k + 1, N', v', sl ++ [(Value.slice A36 (min (X.getD k []).length 8) c36)]) ⟨by dsimp only; omega, by dsimp only; omega, hO', hsr'⟩ (by dsimp only; omega) (by repeat first | exact trivial | refine ⟨rfl, ?_⟩) (by exact HSub.skip (HSub.refl _))
  · (repeat' (first | refine JC.seq ?_ | refine JC.ops ?_ | refine JO.nil ?_ | refine JX.thenN ?_ | (apply r_move; (iterate 3 exact rfl)) | (apply r_pickT; (iterate 4 exact rfl)) | (apply r_pickF; (iterate 4 exact rfl)) | (apply r_lss; (iterate 4 exact rfl); all_goals intro hc; all_goals try (exfalso; omega)) | refine JX.thenE ?_ | refine JC.exit ?_ | refine JC.condF rfl ?_ | refine JX.blockE ?_ | (apply r_skip; exact rfl; exact rfl; (first | (intro h; cases h; done) | (intro _; rfl)))))
    all_goals
      have hCl : ofC (rows8 X k) (rows8 X k).length ≤ 200 := Nat.le_trans (ofC_bd _ (rows8_le X k) _) (by omega)
      have hkl : (rows8 X k).length ≤ 200 := by rw [rows8_len]; omega
      have hIr := rows8_i64 (X := X) (k := k) (fun i hi => hI i (by omega))
      have rta : RtZ (ofZ (rows8 X k)) := ofZ_rt hk8
      obtain ⟨ma, hma⟩ : ∃ m, m = ofZ (rows8 X k) := ⟨_, rfl⟩
      rw [← hma] at rta
      refine r_callA (A := [_, _]) (B := N ++ ([])) rfl (by first | trivial | exact ⟨rfl, rfl⟩) rfl (by first | rfl | exact ⟨rfl, rfl⟩) rfl (fun w hk hs => c_Of w _ (rows8 X k) (rows8_is (hO.rd.at hk hs (by (repeat' first | exact HSub.nil _ | exact HSub.hd | exact HSub.in0 | exact HSub.refl _ | refine HSub.skip ?_ | refine HSub.skipN ?_))) (fun i hi => (hsr i hi).at hk hs (HSub.nil _))) hkl hCl hIr) fun w v w' _ _ _ hR => ?_
      rw [← hma] at hR
      obtain ⟨Na, hNa, Ea, rfl, hOa⟩ := hR
      obtain ⟨Aa, ca, rfl⟩ := hOa.form
      refine ⟨Na, hNa, ?_⟩
      (repeat' (first | refine JO.nil ?_ | (apply r_storeN; exact rfl; (first | exact trivial | exact ⟨rfl, rfl⟩); exact rfl; exact rfl; exact at0; (iterate 3 exact rfl)) | (apply r_allocZ; (iterate 3 exact rfl); intro _) | (apply r_storeN; exact rfl; (first | exact trivial | exact ⟨rfl, rfl⟩); exact rfl; exact rfl; exact at0; (iterate 3 exact rfl))))
      rename_i ba
      refine JX.part (F' := [(10, .pointer (some ⟨ba, 0, none⟩)), (8, .slice Al k cl), (7, .bool true), (5, .pointer (some ⟨b5, 0, none⟩)), (4, .pointer (some ⟨b4, 0, none⟩)), (0, va)]) (H' := [(ba, .cells #[nv ma.r, nv ma.c, .slice Aa ma.e.length ca] 29), (b5, .cells #[iv a0, iv a1] 52), (b4, .cells #[iv n0, iv n1] 52)] ++ (Na ++ (N ++ ([])))) (by repeat first | exact trivial | refine ⟨rfl, ?_⟩) (by (repeat' first | exact HSub.refl _ | exact HSub.nil _ | refine HSub.at 0 rfl ?_ | refine HSub.at 1 rfl ?_ | refine HSub.at 2 rfl ?_ | refine HSub.at 3 rfl ?_ | refine HSub.at 4 rfl ?_ | refine HSub.at 5 rfl ?_ | refine HSub.at 6 rfl ?_ | refine HSub.at 7 rfl ?_ | refine HSub.at 8 rfl ?_ | refine HSub.at 9 rfl ?_ | refine HSub.at 10 rfl ?_ | refine HSub.at 11 rfl ?_ | refine HSub.at 12 rfl ?_ | refine HSub.at 13 rfl ?_ | refine HSub.at 14 rfl ?_ | refine HSub.at 15 rfl ?_ | refine HSub.at 16 rfl ?_ | refine HSub.at 17 rfl ?_ | refine HSub.at 18 rfl ?_ | refine HSub.at 19 rfl ?_ | refine HSub.segH ?_ | refine HSub.skip ?_ | refine HSub.skipN ?_)) ?_
      refine JX.thenN ?_
      (repeat' (first | refine JC.seq ?_ | refine JC.ops ?_ | (apply r_move; (iterate 3 exact rfl))))
      refine r_callA (A := [_, _, _]) (B := Na ++ (N ++ ([]))) rfl (by first | trivial | exact ⟨rfl, rfl⟩) rfl (by first | rfl | exact ⟨rfl, rfl⟩) rfl (fun w hk hs => c_refOf w _ (rows8 X k) (rows8_is (hO.rd.at hk hs (by (repeat' first | exact HSub.nil _ | exact HSub.hd | exact HSub.in0 | exact HSub.refl _ | refine HSub.skip ?_ | refine HSub.skipN ?_))) (fun i hi => (hsr i hi).at hk hs (HSub.nil _))) hkl hCl hIr) fun w v w' _ _ _ hR => ?_
      rw [← hma] at hR
      obtain ⟨Nb, hNb, Eb, rfl, hOb⟩ := hR
      obtain ⟨Ab, cb, rfl⟩ := hOb.form
      refine ⟨Nb, hNb, ?_⟩
      (repeat' (first | refine JO.nil ?_ | (apply r_storeN; exact rfl; (first | exact trivial | exact ⟨rfl, rfl⟩); exact rfl; exact rfl; exact at0; (iterate 3 exact rfl)) | (apply r_allocZ; (iterate 3 exact rfl); intro _) | (apply r_storeN; exact rfl; (first | exact trivial | exact ⟨rfl, rfl⟩); exact rfl; exact rfl; exact at0; (iterate 3 exact rfl))))
      rename_i bb
      refine JX.part (F' := [(11, .pointer (some ⟨bb, 0, none⟩)), (10, .pointer (some ⟨ba, 0, none⟩)), (7, .bool true), (5, .pointer (some ⟨b5, 0, none⟩)), (4, .pointer (some ⟨b4, 0, none⟩))]) (H' := [(bb, .cells #[nv ma.r, nv ma.c, .slice Ab ma.e.length cb] 29), (ba, .cells #[nv ma.r, nv ma.c, .slice Aa ma.e.length ca] 29), (b5, .cells #[iv a0, iv a1] 52), (b4, .cells #[iv n0, iv n1] 52)] ++ (Nb ++ (Na ++ ([])))) (by repeat first | exact trivial | refine ⟨rfl, ?_⟩) (by (repeat' first | exact HSub.refl _ | exact HSub.nil _ | refine HSub.at 0 rfl ?_ | refine HSub.at 1 rfl ?_ | refine HSub.at 2 rfl ?_ | refine HSub.at 3 rfl ?_ | refine HSub.at 4 rfl ?_ | refine HSub.at 5 rfl ?_ | refine HSub.at 6 rfl ?_ | refine HSub.at 7 rfl ?_ | refine HSub.at 8 rfl ?_ | refine HSub.at 9 rfl ?_ | refine HSub.at 10 rfl ?_ | refine HSub.at 11 rfl ?_ | refine HSub.at 12 rfl ?_ | refine HSub.at 13 rfl ?_ | refine HSub.at 14 rfl ?_ | refine HSub.at 15 rfl ?_ | refine HSub.at 16 rfl ?_ | refine HSub.at 17 rfl ?_ | refine HSub.at 18 rfl ?_ | refine HSub.at 19 rfl ?_ | refine HSub.segH ?_ | refine HSub.skip ?_ | refine HSub.skipN ?_)) ?_
      refine JX.thenN ?_
      (repeat' (first | refine JC.seq ?_ | refine JC.opsD ?_ | (apply r_loadN; (iterate 4 exact rfl); (first | exact at0 | exact at1); exact rfl)))
      refine r_call0 (by first | trivial | exact ⟨rfl, rfl⟩) rfl (by first | rfl | exact ⟨rfl, rfl⟩) rfl (fun w hk hs => same_t (m := ma) rta ⟨_, rfl, hOa.rd.at hk hs (by (repeat' first | exact HSub.nil _ | exact HSub.hd | exact HSub.in0 | exact HSub.refl _ | refine HSub.skip ?_ | refine HSub.skipN ?_))⟩ ⟨_, rfl, hOb.rd.at hk hs (by (repeat' first | exact HSub.nil _ | exact HSub.hd | exact HSub.in0 | exact HSub.refl _ | refine HSub.skip ?_ | refine HSub.skipN ?_))⟩) fun w v w' _ _ _ hR => ?_
      subst hR
      (repeat' (first | (apply r_move; (iterate 3 exact rfl)) | (apply r_loadN; (iterate 4 exact rfl); exact at1; exact rfl)))
      refine r_idxArr (j := 0) rfl (by first | rfl | exact ⟨rfl, rfl⟩) rfl rfl (by decide) ?_
      (repeat' (first | (apply r_load; (iterate 4 exact rfl); exact at2; exact rfl)))
      refine r_idxArr (j := 1) rfl (by first | rfl | exact ⟨rfl, rfl⟩) rfl rfl (by decide) ?_
      (repeat' (first | (apply r_load; (iterate 4 exact rfl); (first | exact at0 | exact at2); exact rfl) | (apply r_loadN; (iterate 4 exact rfl); (first | exact at0 | exact at2); exact rfl)))
      refine r_idxArr (j := 0) rfl (by first | rfl | exact ⟨rfl, rfl⟩) rfl rfl (by decide) ?_
      (repeat' (first | (apply r_load; (iterate 4 exact rfl); exact at2; exact rfl)))
      refine r_idxArr (j := 1) rfl (by first | rfl | exact ⟨rfl, rfl⟩) rfl rfl (by decide) ?_
      (repeat' (first | (apply r_load; (iterate 4 exact rfl); exact at2; exact rfl)))
      refine r_call0 (by first | trivial | exact ⟨rfl, rfl⟩) rfl (by first | rfl | exact ⟨rfl, rfl⟩) rfl (fun w hk hs => c_At w _ ma (a0) (a1) rta ⟨_, rfl, hOa.rd.at hk hs (by (repeat' first | exact HSub.nil _ | exact HSub.hd | exact HSub.in0 | exact HSub.refl _ | refine HSub.skip ?_ | refine HSub.skipN ?_))⟩) fun w v w' _ _ _ hR => ?_
      subst hR
      skip
      refine r_call0 (by first | trivial | exact ⟨rfl, rfl⟩) rfl (by first | rfl | exact ⟨rfl, rfl⟩) rfl (fun w hk hs => c_refAt w _ ma (a0) (a1) rta ⟨_, rfl, hOb.rd.at hk hs (by (repeat' first | exact HSub.nil _ | exact HSub.hd | exact HSub.in0 | exact HSub.refl _ | refine HSub.skip ?_ | refine HSub.skipN ?_))⟩) fun w v w' _ _ _ hR => ?_
      subst hR
      (repeat' (first | (apply r_move; (iterate 3 exact rfl)) | (apply r_loadN; (iterate 4 exact rfl); exact at1; exact rfl) | (apply r_pickT; (iterate 4 exact rfl)) | (apply r_eqWT; (iterate 4 exact rfl); (first | exact rfl | assumption))))
      refine r_idxArr (j := 0) rfl (by first | rfl | exact ⟨rfl, rfl⟩) rfl rfl (by decide) ?_
      (repeat' (first | (apply r_load; (iterate 4 exact rfl); exact at2; exact rfl)))
      refine r_and7 rfl (by first | rfl | exact ⟨rfl, rfl⟩) rfl rfl ?_
      skip
      refine r_idxArr (j := 1) rfl (by first | rfl | exact ⟨rfl, rfl⟩) rfl rfl (by decide) ?_
      (repeat' (first | (apply r_load; (iterate 4 exact rfl); exact at2; exact rfl)))
      refine r_and7 rfl (by first | rfl | exact ⟨rfl, rfl⟩) rfl rfl ?_
      (repeat' (first | (apply r_loadN; (iterate 4 exact rfl); exact at0; exact rfl)))
      refine r_idxArr (j := 0) rfl (by first | rfl | exact ⟨rfl, rfl⟩) rfl rfl (by decide) ?_
      (repeat' (first | (apply r_load; (iterate 4 exact rfl); exact at2; exact rfl)))
      refine r_and7 rfl (by first | rfl | exact ⟨rfl, rfl⟩) rfl rfl ?_
      skip
      refine r_idxArr (j := 1) rfl (by first | rfl | exact ⟨rfl, rfl⟩) rfl rfl (by decide) ?_
      (repeat' (first | (apply r_load; (iterate 4 exact rfl); exact at2; exact rfl)))
      refine r_and7 rfl (by first | rfl | exact ⟨rfl, rfl⟩) rfl rfl ?_
      skip
      refine r_call0 (by first | trivial | exact ⟨rfl, rfl⟩) rfl (by first | rfl | exact ⟨rfl, rfl⟩) rfl (fun w hk hs => c_At w _ ma (a0 % 8) (a1 % 8) rta ⟨_, rfl, hOa.rd.at hk hs (by (repeat' first | exact HSub.nil _ | exact HSub.hd | exact HSub.in0 | exact HSub.refl _ | refine HSub.skip ?_ | refine HSub.skipN ?_))⟩) fun w v w' _ _ _ hR => ?_
      subst hR
      skip
      refine r_call0 (by first | trivial | exact ⟨rfl, rfl⟩) rfl (by first | rfl | exact ⟨rfl, rfl⟩) rfl (fun w hk hs => c_refAt w _ ma (a0 % 8) (a1 % 8) rta ⟨_, rfl, hOb.rd.at hk hs (by (repeat' first | exact HSub.nil _ | exact HSub.hd | exact HSub.in0 | exact HSub.refl _ | refine HSub.skip ?_ | refine HSub.skipN ?_))⟩) fun w v w' _ _ _ hR => ?_
      subst hR
      (repeat' (first | refine JO.nil ?_ | (apply r_assign; (iterate 3 exact rfl)) | (apply r_pickT; (iterate 4 exact rfl)) | (apply r_eqWT; (iterate 4 exact rfl); (first | exact rfl | assumption))))
      refine JX.part (F' := [(12, .bool true), (7, .bool true), (4, .pointer (some ⟨b4, 0, none⟩))]) (H' := [(b4, .cells #[iv n0, iv n1] 52)] ++ ([])) (by repeat first | exact trivial | refine ⟨rfl, ?_⟩) (by (repeat' first | exact HSub.refl _ | exact HSub.nil _ | refine HSub.at 0 rfl ?_ | refine HSub.at 1 rfl ?_ | refine HSub.at 2 rfl ?_ | refine HSub.at 3 rfl ?_ | refine HSub.at 4 rfl ?_ | refine HSub.at 5 rfl ?_ | refine HSub.at 6 rfl ?_ | refine HSub.at 7 rfl ?_ | refine HSub.at 8 rfl ?_ | refine HSub.at 9 rfl ?_ | refine HSub.at 10 rfl ?_ | refine HSub.at 11 rfl ?_ | refine HSub.at 12 rfl ?_ | refine HSub.at 13 rfl ?_ | refine HSub.at 14 rfl ?_ | refine HSub.at 15 rfl ?_ | refine HSub.at 16 rfl ?_ | refine HSub.at 17 rfl ?_ | refine HSub.at 18 rfl ?_ | refine HSub.at 19 rfl ?_ | refine HSub.segH ?_ | refine HSub.skip ?_ | refine HSub.skipN ?_)) ?_
      refine JX.thenN ?_
      (repeat' (first | refine JC.seq ?_ | refine JC.opsD ?_))
      refine r_idxArr (j := 0) rfl (by first | rfl | exact ⟨rfl, rfl⟩) rfl rfl (by decide) ?_
      (repeat' (first | (apply r_load; (iterate 4 exact rfl); exact at0; exact rfl)))
      refine r_idxArr (j := 1) rfl (by first | rfl | exact ⟨rfl, rfl⟩) rfl rfl (by decide) ?_
      (repeat' (first | (apply r_load; (iterate 4 exact rfl); exact at0; exact rfl)))
      refine r_idxArr (j := 0) rfl (by first | rfl | exact ⟨rfl, rfl⟩) rfl rfl (by decide) ?_
      (repeat' (first | (apply r_load; (iterate 4 exact rfl); exact at0; exact rfl)))
      refine r_idxArr (j := 1) rfl (by first | rfl | exact ⟨rfl, rfl⟩) rfl rfl (by decide) ?_
      (repeat' (first | (apply r_load; (iterate 4 exact rfl); exact at0; exact rfl)))
      refine r_callA (A := [_]) (B := []) rfl (by first | trivial | exact ⟨rfl, rfl⟩) rfl (by first | rfl | exact ⟨rfl, rfl⟩) rfl (fun w hk hs => c_ZeroA n0 n1 w) fun w v w' _ _ _ hR => ?_
      obtain ⟨mc, hmc⟩ : ∃ m, m = zeroA n0 n1 := ⟨_, rfl⟩
      have rtc : RtZ mc := by rw [hmc]; exact zeroA_rt _ _
      rw [← hmc] at hR
      obtain ⟨Nc, hNc, Ec, rfl, hOc⟩ := hR
      obtain ⟨Ac, cc, rfl⟩ := hOc.form
      refine ⟨Nc, hNc, ?_⟩
      skip
      refine r_callA (A := [_]) (B := Nc ++ ([])) rfl (by first | trivial | exact ⟨rfl, rfl⟩) rfl (by first | rfl | exact ⟨rfl, rfl⟩) rfl (fun w hk hs => c_refZeroA n0 n1 w) fun w v w' _ _ _ hR => ?_
      obtain ⟨md, hmd⟩ : ∃ m, m = zeroA n0 n1 := ⟨_, rfl⟩
      have rtd : RtZ md := by rw [hmd]; exact zeroA_rt _ _
      rw [← hmd] at hR
      obtain ⟨Nd, hNd, Ed, rfl, hOd⟩ := hR
      obtain ⟨Ad, cd, rfl⟩ := hOd.form
      refine ⟨Nd, hNd, ?_⟩
      skip
      refine r_call0 (by first | trivial | exact ⟨rfl, rfl⟩) rfl (by first | rfl | exact ⟨rfl, rfl⟩) rfl (fun w hk hs => same_t (m := mc) rtc ⟨_, rfl, hOc.rd.at hk hs (by (repeat' first | exact HSub.nil _ | exact HSub.hd | exact HSub.in0 | exact HSub.refl _ | refine HSub.skip ?_ | refine HSub.skipN ?_))⟩ (by rw [hmc, ← hmd]; exact ⟨_, rfl, hOd.rd.at hk hs (by (repeat' first | exact HSub.nil _ | exact HSub.hd | exact HSub.in0 | exact HSub.refl _ | refine HSub.skip ?_ | refine HSub.skipN ?_))⟩)) fun w v w' _ _ _ hR => ?_
      subst hR
      (repeat' (first | (apply r_move; (iterate 3 exact rfl))))
      refine r_idxArr (j := 0) rfl (by first | rfl | exact ⟨rfl, rfl⟩) rfl rfl (by decide) ?_
      (repeat' (first | (apply r_load; (iterate 4 exact rfl); exact at0; exact rfl)))
      refine r_idxArr (j := 0) rfl (by first | rfl | exact ⟨rfl, rfl⟩) rfl rfl (by decide) ?_
      (repeat' (first | (apply r_load; (iterate 4 exact rfl); exact at0; exact rfl)))
      refine r_callA (A := [_]) (B := Nd ++ (Nc ++ ([]))) rfl (by first | trivial | exact ⟨rfl, rfl⟩) rfl (by first | rfl | exact ⟨rfl, rfl⟩) rfl (fun w hk hs => c_OneA n0 w) fun w v w' _ _ _ hR => ?_
      obtain ⟨me, hme⟩ : ∃ m, m = oneA n0 := ⟨_, rfl⟩
      have rte : RtZ me := by rw [hme]; exact oneA_rt _
      rw [← hme] at hR
      obtain ⟨Ne, hNe, Ee, rfl, hOe⟩ := hR
      obtain ⟨Ae, ce, rfl⟩ := hOe.form
      refine ⟨Ne, hNe, ?_⟩
      skip
      refine r_callA (A := [_]) (B := Ne ++ (Nd ++ (Nc ++ ([])))) rfl (by first | trivial | exact ⟨rfl, rfl⟩) rfl (by first | rfl | exact ⟨rfl, rfl⟩) rfl (fun w hk hs => c_refOneA n0 w) fun w v w' _ _ _ hR => ?_
      obtain ⟨mf, hmf⟩ : ∃ m, m = oneA n0 := ⟨_, rfl⟩
      have rtf : RtZ mf := by rw [hmf]; exact oneA_rt _
      rw [← hmf] at hR
      obtain ⟨Nf, hNf, Ef, rfl, hOf⟩ := hR
      obtain ⟨Af, cf, rfl⟩ := hOf.form
      refine ⟨Nf, hNf, ?_⟩
      skip
      refine r_call0 (by first | trivial | exact ⟨rfl, rfl⟩) rfl (by first | rfl | exact ⟨rfl, rfl⟩) rfl (fun w hk hs => same_t (m := me) rte ⟨_, rfl, hOe.rd.at hk hs (by (repeat' first | exact HSub.nil _ | exact HSub.hd | exact HSub.in0 | exact HSub.refl _ | refine HSub.skip ?_ | refine HSub.skipN ?_))⟩ (by rw [hme, ← hmf]; exact ⟨_, rfl, hOf.rd.at hk hs (by (repeat' first | exact HSub.nil _ | exact HSub.hd | exact HSub.in0 | exact HSub.refl _ | refine HSub.skip ?_ | refine HSub.skipN ?_))⟩)) fun w v w' _ _ _ hR => ?_
      subst hR
      (repeat' (first | (apply r_move; (iterate 3 exact rfl)) | (apply r_pickT; (iterate 4 exact rfl))))
      refine r_idxArr (j := 0) rfl (by first | rfl | exact ⟨rfl, rfl⟩) rfl rfl (by decide) ?_
      (repeat' (first | (apply r_load; (iterate 4 exact rfl); exact at0; exact rfl) | (apply r_mod; (iterate 4 exact rfl); omega)))
      refine r_idxArr (j := 1) rfl (by first | rfl | exact ⟨rfl, rfl⟩) rfl rfl (by decide) ?_
      (repeat' (first | (apply r_load; (iterate 4 exact rfl); exact at0; exact rfl) | (apply r_mod; (iterate 4 exact rfl); omega)))
      refine r_idxArr (j := 0) rfl (by first | rfl | exact ⟨rfl, rfl⟩) rfl rfl (by decide) ?_
      (repeat' (first | (apply r_load; (iterate 4 exact rfl); exact at0; exact rfl) | (apply r_mod; (iterate 4 exact rfl); omega)))
      refine r_idxArr (j := 1) rfl (by first | rfl | exact ⟨rfl, rfl⟩) rfl rfl (by decide) ?_
      (repeat' (first | (apply r_load; (iterate 4 exact rfl); exact at0; exact rfl) | (apply r_mod; (iterate 4 exact rfl); omega)))
      refine r_callA (A := [_]) (B := Nf ++ (Ne ++ (Nd ++ (Nc ++ ([]))))) rfl (by first | trivial | exact ⟨rfl, rfl⟩) rfl (by first | rfl | exact ⟨rfl, rfl⟩) rfl (fun w hk hs => c_ZeroA (n0.tmod 210) (n1.tmod 210) w) fun w v w' _ _ _ hR => ?_
      obtain ⟨mg, hmg⟩ : ∃ m, m = zeroA (n0.tmod 210) (n1.tmod 210) := ⟨_, rfl⟩
      have rtg : RtZ mg := by rw [hmg]; exact zeroA_rt _ _
      rw [← hmg] at hR
      obtain ⟨Ng, hNg, Eg, rfl, hOg⟩ := hR
      obtain ⟨Ag, cg, rfl⟩ := hOg.form
      refine ⟨Ng, hNg, ?_⟩
      skip
      refine r_callA (A := [_]) (B := Ng ++ (Nf ++ (Ne ++ (Nd ++ (Nc ++ ([])))))) rfl (by first | trivial | exact ⟨rfl, rfl⟩) rfl (by first | rfl | exact ⟨rfl, rfl⟩) rfl (fun w hk hs => c_refZeroA (n0.tmod 210) (n1.tmod 210) w) fun w v w' _ _ _ hR => ?_
      obtain ⟨mh, hmh⟩ : ∃ m, m = zeroA (n0.tmod 210) (n1.tmod 210) := ⟨_, rfl⟩
      have rth : RtZ mh := by rw [hmh]; exact zeroA_rt _ _
      rw [← hmh] at hR
      obtain ⟨Nh, hNh, Eh, rfl, hOh⟩ := hR
      obtain ⟨Ah, ch, rfl⟩ := hOh.form
      refine ⟨Nh, hNh, ?_⟩
      skip
      refine r_call0 (by first | trivial | exact ⟨rfl, rfl⟩) rfl (by first | rfl | exact ⟨rfl, rfl⟩) rfl (fun w hk hs => same_t (m := mg) rtg ⟨_, rfl, hOg.rd.at hk hs (by (repeat' first | exact HSub.nil _ | exact HSub.hd | exact HSub.in0 | exact HSub.refl _ | refine HSub.skip ?_ | refine HSub.skipN ?_))⟩ (by rw [hmg, ← hmh]; exact ⟨_, rfl, hOh.rd.at hk hs (by (repeat' first | exact HSub.nil _ | exact HSub.hd | exact HSub.in0 | exact HSub.refl _ | refine HSub.skip ?_ | refine HSub.skipN ?_))⟩)) fun w v w' _ _ _ hR => ?_
      subst hR
      (repeat' (first | (apply r_move; (iterate 3 exact rfl)) | (apply r_pickT; (iterate 4 exact rfl))))
      refine r_idxArr (j := 1) rfl (by first | rfl | exact ⟨rfl, rfl⟩) rfl rfl (by decide) ?_
      (repeat' (first | (apply r_load; (iterate 4 exact rfl); exact at0; exact rfl) | (apply r_mod; (iterate 4 exact rfl); omega)))
      refine r_idxArr (j := 1) rfl (by first | rfl | exact ⟨rfl, rfl⟩) rfl rfl (by decide) ?_
      (repeat' (first | (apply r_load; (iterate 4 exact rfl); exact at0; exact rfl) | (apply r_mod; (iterate 4 exact rfl); omega)))
      refine r_callA (A := [_]) (B := Nh ++ (Ng ++ (Nf ++ (Ne ++ (Nd ++ (Nc ++ ([]))))))) rfl (by first | trivial | exact ⟨rfl, rfl⟩) rfl (by first | rfl | exact ⟨rfl, rfl⟩) rfl (fun w hk hs => c_OneA (n1.tmod 210) w) fun w v w' _ _ _ hR => ?_
      obtain ⟨mi, hmi⟩ : ∃ m, m = oneA (n1.tmod 210) := ⟨_, rfl⟩
      have rti : RtZ mi := by rw [hmi]; exact oneA_rt _
      rw [← hmi] at hR
      obtain ⟨Ni, hNi, Ei, rfl, hOi⟩ := hR
      obtain ⟨Ai, ci, rfl⟩ := hOi.form
      refine ⟨Ni, hNi, ?_⟩
      skip
      refine r_callA (A := [_]) (B := Ni ++ (Nh ++ (Ng ++ (Nf ++ (Ne ++ (Nd ++ (Nc ++ ([])))))))) rfl (by first | trivial | exact ⟨rfl, rfl⟩) rfl (by first | rfl | exact ⟨rfl, rfl⟩) rfl (fun w hk hs => c_refOneA (n1.tmod 210) w) fun w v w' _ _ _ hR => ?_
      obtain ⟨mj, hmj⟩ : ∃ m, m = oneA (n1.tmod 210) := ⟨_, rfl⟩
      have rtj : RtZ mj := by rw [hmj]; exact oneA_rt _
      rw [← hmj] at hR
      obtain ⟨Nj, hNj, Ej, rfl, hOj⟩ := hR
      obtain ⟨Aj, cj, rfl⟩ := hOj.form
      refine ⟨Nj, hNj, ?_⟩
      skip
      refine r_call0 (by first | trivial | exact ⟨rfl, rfl⟩) rfl (by first | rfl | exact ⟨rfl, rfl⟩) rfl (fun w hk hs => same_t (m := mi) rti ⟨_, rfl, hOi.rd.at hk hs (by (repeat' first | exact HSub.nil _ | exact HSub.hd | exact HSub.in0 | exact HSub.refl _ | refine HSub.skip ?_ | refine HSub.skipN ?_))⟩ (by rw [hmi, ← hmj]; exact ⟨_, rfl, hOj.rd.at hk hs (by (repeat' first | exact HSub.nil _ | exact HSub.hd | exact HSub.in0 | exact HSub.refl _ | refine HSub.skip ?_ | refine HSub.skipN ?_))⟩)) fun w v w' _ _ _ hR => ?_
      subst hR
      (repeat' (first | refine JO.nil ?_ | (apply r_assign; (iterate 3 exact rfl)) | (apply r_pickT; (iterate 4 exact rfl))))
      refine JX.thenN ?_
      (repeat' (first | refine JC.seq ?_ | refine JC.ops ?_ | refine JO.nil ?_ | (apply r_move; (iterate 3 exact rfl)) | (apply r_assign; (iterate 3 exact rfl)) | (apply r_pickT; (iterate 4 exact rfl))))
      refine JX.thenN ?_
      (repeat' (first | refine JC.ret ?_))
      exact JX.ret1 rfl (fun a w' st => ⟨st.kp, rfl⟩)

end Go.Proofs.YtdlmnloikakjpaaDoor

/-
  LawMatrixBuilds: for every input the call of 'cocycle/cocyclelaw02.MatrixBuilds' returns true, and every argument reads afterwards as it read before. Conditions: none. The card.
-/
namespace Go.Proofs.YtdlmnloikakjpaaDoor.matrixBuilds
open Go Go.RowKit Go.ChangeShapes Go.WideShapes Go.ChangeAt
set_option linter.unusedSimpArgs false
set_option linter.unusedVariables false
set_option linter.unusedSectionVars false

set_option maxRecDepth 100000 in
theorem lifted (os : Os) (started : os.Started) (H : Type) (enc : TypeId × Value → H) :
    ReturnsInHanded {} Tryd.checked os 6 .any (fun w args => (Rows.matrixBuildsSpec.pre enc Tryd.prog Tryd.f6 [] false w args ∧ laidMetH Tryd.prog Rows.matrixBuildsRow.laid w) ∧ sizedMet enc Tryd.prog Tryd.f6 (OpenSpec.ofChange Rows.matrixBuildsSpec) false w args)
      (Rows.matrixBuildsSpec.post enc Tryd.prog Tryd.f6 false true false false) := by
  refine returnsInHanded_of_change_and (C := Tryd.checked) (X := fun w _ => laidMetH Tryd.prog Rows.matrixBuildsRow.laid w) (fun _ _ _ hh h => h.of_heap hh) own started (by kernel_rfl) Tryd.func6
    (ChangeSpec.witness_shaped (enc := enc) (C := Tryd.checked) (os := os) (X := fun w _ => laidMetH Tryd.prog Rows.matrixBuildsRow.laid w) false (World.laidAll Tryd.prog os Rows.matrixBuildsRow.laid) #[.slice none 0 0, .agg #[.int .i64 0, .int .i64 0], .agg #[.int .i64 0, .int .i64 0]] 8 (World.laidAll_os _ _ _)
      (World.shaped_of_ZipB (by kernel_rfl) (by kernel_rfl)) (by kernel_rfl) (by kernel_rfl) (by kernel_rfl)
      (by rw [MakeChecks.laidMetH_plain _ _ _ (by kernel_rfl)]; exact laidMet_laidAll _ (by kernel_rfl) (by kernel_rfl))) ?_
  intro W base args ds gs before hval0 hW _ hwt0 hL _
  have hval : ∀ (j : Nat) t v, Tryd.f6.params[j]? = some t → args[j]? = some v → Value.okWide Tryd.prog W .any base t v := hval0
  have hW' := hW
  obtain ⟨p, q, hA0, hV, rfl, hfz, hnd⟩ := hW
  have hA : DataW.TrodAll enc Tryd.prog W 0 (fun _ => true) true Tryd.f6.params.toList args.toList ds p := hA0
  have hwt : (DataW.weightsEach Tryd.prog (Tryd.f6.params.toList ++ Rows.matrixBuildsSpec.plain.varTypes Tryd.prog) (ds ++ gs)).all (· ≤ reachBytes) = true := hwt0
  have hwt1 := fun n hn => of_decide_eq_true (List.all_eq_true.1 hwt n hn)
  rw [Tryd.params6] at hA hval hwt1
  obtain ⟨v0, vs0, d0, ds0, p0, q0, hargs, rfl, rfl, h0, r0⟩ := trodAll_cons hA
  obtain ⟨v1, vs1, d1, ds1, p1, q1, rfl, rfl, rfl, h1, r1⟩ := trodAll_cons r0
  obtain ⟨v2, vs2, d2, ds2, p2, q2, rfl, rfl, rfl, h2, r2⟩ := trodAll_cons r1
  obtain ⟨rfl, rfl, rfl⟩ := trodAll_nil r2
  obtain rfl : args = #[v0, v1, v2] := by cases args; simp_all
  obtain ⟨rfl, rfl⟩ := trodVars_none hV
  have k0 := h0
  have lt0 : ∀ x ∈ p0, x.block < W.heap.size := by obtain ⟨m, hm⟩ := k0; exact DataW.trod_lt m _ _ _ hm
  obtain ⟨X0, s0⟩ := open_lists (hval 0 51 v0 rfl rfl) h0
  have k1 := h1
  have lt1 : ∀ x ∈ p1, x.block < W.heap.size := by obtain ⟨m, hm⟩ := k1; exact DataW.trod_lt m _ _ _ hm
  obtain ⟨x1, y1, rfl, s1, t1⟩ := open_pair (hval 1 52 v1 rfl rfl) h1
  have k2 := h2
  have lt2 : ∀ x ∈ p2, x.block < W.heap.size := by obtain ⟨m, hm⟩ := k2; exact DataW.trod_lt m _ _ _ hm
  obtain ⟨x2, y2, rfl, s2, t2⟩ := open_pair (hval 2 52 v2 rfl rfl) h2
  clear hA0 hval0
  refine (c_MatrixBuilds W v0 X0 x1 y1 x2 y2 s0 s1 t1 s2 t2).mono fun e W' he => ?_
  cases e with
  | panicked _ => exact he.elim
  | outgrown => exact he.elim
  | returned u =>
    obtain ⟨hk, rfl⟩ := he
    have bel := hk.below
    exact ⟨_, rfl, _, _, _, [], _, [], hW', trodAll_mk1 (shut_bool Tryd.underlying4 _), (trodAll_cons_mk (Below.trod laidOut (by kernel_rfl) (of_decide_eq_true (by kernel_rfl)) k0 bel lt0) (trodAll_cons_mk (Below.trod laidOut (by kernel_rfl) (of_decide_eq_true (by kernel_rfl)) k1 bel lt1) (trodAll_cons_mk (Below.trod laidOut (by kernel_rfl) (of_decide_eq_true (by kernel_rfl)) k2 bel lt2) trodAll_mk0))), rfl, bel.frame _, fun h => by cases h⟩

theorem holds : Rows.MatrixBuildsSaid :=
  OpenClaim.holds_of_wide 6 Tryd.f6 rfl rfl rfl rfl rfl rfl rfl ⟨rfl, rfl, rfl, rfl, rfl⟩ rfl rfl rfl rfl rfl (by kernel_rfl) Tryd.func6 (by kernel_rfl)
    (of_decide_eq_true (by kernel_rfl)) (by unfold Func.isWrapper; first | (rw [if_pos (by decide +kernel)]; kernel_rfl) | (rw [if_neg (by decide +kernel)]; exact ⟨rfl, rfl⟩))
    (fun os started H enc _ => lifted os started H enc)

theorem proved : Rows.MatrixBuildsCardSaid :=
  Claim7.holds_tied_plain_at .later [] [.data, .pinned] true (true, "1e720b878859d18141ea40e2dc597df34bde83979d72dc5a8b5bc54d7198a929") false holds (fun _ h => by cases h) (by kernel_rfl) (fun _ h => by cases h) matrixBuilds_row_tie rfl ⟨rfl, rfl⟩ (by kernel_rfl) rfl
    (fun f fn hf hfn => by
      obtain rfl : f = 6 := Option.some.inj ((show Tryd.prog.funcNamed "cocycle/cocyclelaw02.MatrixBuilds" = some 6 by kernel_rfl).symm.trans hf) |>.symm
      obtain rfl : fn = Tryd.f6 := (Option.some.inj (Tryd.func6.symm.trans hfn)).symm
      exact ⟨by kernel_rfl, fun j t ht => by
        rw [Tryd.params6] at ht
        have hm : t ∈ [51, 52] := by simpa using Array.mem_of_getElem? ht
        have hall : ([51, 52].all fun u => !Tryd.prog.wantsStandIn u) = true := by kernel_rfl
        exact (show Tryd.prog.wantsStandIn t = false by simpa using List.all_eq_true.1 hall t hm)⟩)
    (by kernel_rfl)

end Go.Proofs.YtdlmnloikakjpaaDoor.matrixBuilds

