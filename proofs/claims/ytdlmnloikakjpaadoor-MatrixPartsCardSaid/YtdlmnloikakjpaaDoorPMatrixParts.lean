import Derived.Test.YtdlmnloikakjpaaDoorMh
import Derived.Test.YtdlmnloikakjpaaDoorMj
import Derived.Test.YtdlmnloikakjpaaDoorTie
import Derived.Test.YtdlmnloikakjpaaDoorCards
import Derived.Shelf.Lay
import Derived.Lay
import Derived.LaidOnce
import Derived.SevenTiedAt
/- The law MatrixParts. ROWZ -/
namespace Go.Proofs.YtdlmnloikakjpaaDoor
open Go Go.RowKit
set_option linter.unusedSimpArgs false
set_option linter.unusedVariables false
set_option linter.unusedSectionVars false

theorem zero_len (r c : Nat) : (zeroZ r c).e.length = r * c := tbz_len r c fun _ _ => 0
theorem join_wide2 (r c : Nat) : (joinA (zeroZ r 195) (zeroZ r c)).2 = decide (c ≤ 5) := by
  unfold joinA
  by_cases h : c ≤ 5
  · rw [if_pos ⟨rfl, show 195 + c ≤ 200 by omega⟩, decide_eq_true h]
  · rw [if_neg (fun h2 => h (by have : 195 + c ≤ 200 := h2.2; omega)), decide_eq_false h]
theorem join_wide1 (r c : Nat) (h : ¬ c ≤ 5) : (joinA (zeroZ r 195) (zeroZ r c)).1 = zM := by
  unfold joinA
  rw [if_neg (fun h2 => h (by have : 195 + c ≤ 200 := h2.2; omega))]
theorem part_join_l {a b : ZM} (ha : RtZ a) : partZ (joinZ a b) 0 0 a.r a.c = a := by
  refine Eq.trans ?_ (zof_of ha)
  refine zof_congr (r := a.r) (c := a.c) fun i j hi hj => ?_
  rw [Nat.zero_add, Nat.zero_add]
  exact (zof_at (r := a.r) (c := a.c + b.c) hi (by omega)).trans (if_pos hj)
theorem part_join_r {a b : ZM} (hb : RtZ b) (h : b.r = a.r) : partZ (joinZ a b) 0 a.c a.r b.c = b := by
  refine Eq.trans ?_ (zof_of hb)
  rw [h]
  refine zof_congr (r := a.r) (c := b.c) fun i j hi hj => ?_
  rw [Nat.zero_add]
  refine (zof_at (r := a.r) (c := a.c + b.c) hi (by omega)).trans ?_
  rw [if_neg (by omega), Nat.add_sub_cancel_left]
theorem shc (C : Nat) : C % 7 ≤ 6 := by have := Nat.mod_lt C (show 0 < 7 by omega); omega
theorem same_t {w : World} {v u : Value} {m : ZM} (hm : RtZ m) (hv : IsM w v m) (hu : IsM w u m) : Calls Tryd.prog 22 #[v, u] w (Ret fun v w' => Kp [] w w' ∧ v = .bool true) :=
  calls_mono (c_same w v u m.xm m.xm hv.x hu.x (by have := hm.le; simp [ZM.xm]; omega) (by have := hm.le; simp [ZM.xm]; omega)) fun v w' h => ⟨h.1, by obtain ⟨b, rfl, hb⟩ := h.2; rw [hb.2 rfl]⟩

set_option maxHeartbeats 16000000 in
theorem c_MatrixParts (w : World) (v0 v1 : Value) (R0 C0 : Nat) (L0 : List Int) (R1 C1 : Nat) (L1 : List Int) (q0 q1 q2 q3 : Int) (hv0 : IsS w v0 R0 C0 L0) (hv1 : IsS w v1 R1 C1 L1) (hq0 : I64 q0) (hq1 : I64 q1) (hq2 : I64 q2) (hq3 : I64 q3) :
    Calls Tryd.prog 3 #[v0, v1, .agg #[iv q0, iv q1, iv q2, iv q3]] w (Ret fun v w' => Kp [] w w' ∧ v = .bool true) := by
  have hs0 := hv0
  have hc0 := shc C0
  have hr0 := shc R0
  have hL0 := hv0.2.2.1
  obtain ⟨_, _, _, E0, rfl, _⟩ := hv0
  have hs1 := hv1
  have hc1 := shc C1
  have hr1 := shc R1
  have hL1 := hv1.2.2.1
  obtain ⟨_, _, _, E1, rfl, _⟩ := hv1
  refine calls_of_S [⟨9, 2, [], []⟩, ⟨10, 2, [], []⟩, ⟨15, 2, [0, 1, 3, 4, 5, 6, 2, 7, 8, 9, 10, 11, 12, 13, 14], []⟩] [] (by simp) [] Tryd.func3 rfl mixed (by kernel_rfl) Tryd.ntmps3 Tryd.results3 rfl ⟨by simp, by simp⟩ (by simp) ?_
  simp only [toS, textOps, toSOp, kindAt, kindOf, odAt, sopsAt, ordOf, zipF]
  (repeat' (first | refine JC.seq ?_ | refine JC.ops ?_ | refine JO.nil ?_ | (apply r_assign; exact rfl; exact rfl; exact rfl) | (apply r_boxA; exact rfl; exact rfl; exact rfl; exact rfl; intro _)))
  rename_i bs0 bs1 bq
  refine JX.thenN ?_
  (repeat' (first | refine JC.seq ?_ | refine JC.ops ?_))
  refine r_call0 trivial rfl rfl rfl (fun w _ _ => c_sanity w) fun w v w' _ _ _ hR => ?_
  subst hR
  (repeat' (first | refine JO.nil ?_ | (apply r_assign; exact rfl; exact rfl; exact rfl)))
  refine JX.part (F' := [(7, .bool true), (5, .pointer (some ⟨bq, 0, none⟩)), (4, .pointer (some ⟨bs1, 0, none⟩)), (3, .pointer (some ⟨bs0, 0, none⟩))]) (H' := [(bq, .cells #[iv q0, iv q1, iv q2, iv q3] 25), (bs1, .cells #[.int .u8 (R1 : Int), .int .u8 (C1 : Int), E1] 24), (bs0, .cells #[.int .u8 (R0 : Int), .int .u8 (C0 : Int), E0] 24)] ++ ([])) (by repeat first | exact trivial | refine ⟨rfl, ?_⟩) (by (repeat' first | exact HSub.refl _ | exact HSub.nil _ | refine HSub.at 0 rfl ?_ | refine HSub.at 1 rfl ?_ | refine HSub.at 2 rfl ?_ | refine HSub.at 3 rfl ?_ | refine HSub.at 4 rfl ?_ | refine HSub.at 5 rfl ?_ | refine HSub.at 6 rfl ?_ | refine HSub.at 7 rfl ?_ | refine HSub.at 8 rfl ?_ | refine HSub.at 9 rfl ?_ | refine HSub.at 10 rfl ?_ | refine HSub.at 11 rfl ?_ | refine HSub.at 12 rfl ?_ | refine HSub.at 13 rfl ?_ | refine HSub.at 14 rfl ?_ | refine HSub.at 15 rfl ?_ | refine HSub.at 16 rfl ?_ | refine HSub.at 17 rfl ?_ | refine HSub.at 18 rfl ?_ | refine HSub.at 19 rfl ?_ | refine HSub.segH ?_ | refine HSub.skip ?_ | refine HSub.skipN ?_)) ?_
  refine JX.thenN ?_
  (repeat' (first | refine JC.seq ?_ | refine JC.ops ?_ | (apply r_loadN; exact rfl; exact rfl; exact rfl; exact rfl; (first | exact at0 | exact at1 | exact at2 | exact at3 | exact at4 | exact at5 | exact at6 | exact at7 | exact at8 | exact at9); exact rfl)))
  refine r_callA (A := [_, _, _]) (B := []) rfl (by first | trivial | exact ⟨rfl, rfl⟩) rfl (by first | rfl | exact ⟨rfl, rfl⟩) rfl (fun w hk hs => c_Mat w _ R0 C0 L0 (hs0.mono hk)) fun w v w' _ _ _ hR => ?_
  obtain ⟨ma, hma⟩ : ∃ m, m = shMat R0 C0 L0 := ⟨_, rfl⟩
  have rta : RtZ ma := by rw [hma]; exact RtZ.shMat _ _ _
  have bda : BdZ 8 ma := by rw [hma]; exact BdZ.sh hL0 _ _
  rw [← hma] at hR
  obtain ⟨Na, hNa, Ea, rfl, hOa⟩ := hR
  obtain ⟨Aa, ca, rfl⟩ := hOa.form
  refine ⟨Na, hNa, ?_⟩
  (repeat' (first | refine JO.nil ?_ | (apply r_storeN; exact rfl; (first | exact trivial | exact ⟨rfl, rfl⟩); exact rfl; exact rfl; (first | exact at0 | exact at1 | exact at2 | exact at3 | exact at4 | exact at5 | exact at6 | exact at7 | exact at8 | exact at9); exact rfl; exact rfl; exact rfl) | (apply r_allocZ; exact rfl; exact rfl; exact rfl; intro _) | (apply r_storeN; exact rfl; (first | exact trivial | exact ⟨rfl, rfl⟩); exact rfl; exact rfl; (first | exact at0 | exact at1 | exact at2 | exact at3 | exact at4 | exact at5 | exact at6 | exact at7 | exact at8 | exact at9); exact rfl; exact rfl; exact rfl)))
  rename_i ba
  refine JX.part (F' := [(8, .pointer (some ⟨ba, 0, none⟩)), (7, .bool true), (5, .pointer (some ⟨bq, 0, none⟩)), (4, .pointer (some ⟨bs1, 0, none⟩))]) (H' := [(ba, .cells #[nv ma.r, nv ma.c, .slice Aa ma.e.length ca] 29), (bq, .cells #[iv q0, iv q1, iv q2, iv q3] 25), (bs1, .cells #[.int .u8 (R1 : Int), .int .u8 (C1 : Int), E1] 24)] ++ (Na ++ ([]))) (by repeat first | exact trivial | refine ⟨rfl, ?_⟩) (by (repeat' first | exact HSub.refl _ | exact HSub.nil _ | refine HSub.at 0 rfl ?_ | refine HSub.at 1 rfl ?_ | refine HSub.at 2 rfl ?_ | refine HSub.at 3 rfl ?_ | refine HSub.at 4 rfl ?_ | refine HSub.at 5 rfl ?_ | refine HSub.at 6 rfl ?_ | refine HSub.at 7 rfl ?_ | refine HSub.at 8 rfl ?_ | refine HSub.at 9 rfl ?_ | refine HSub.at 10 rfl ?_ | refine HSub.at 11 rfl ?_ | refine HSub.at 12 rfl ?_ | refine HSub.at 13 rfl ?_ | refine HSub.at 14 rfl ?_ | refine HSub.at 15 rfl ?_ | refine HSub.at 16 rfl ?_ | refine HSub.at 17 rfl ?_ | refine HSub.at 18 rfl ?_ | refine HSub.at 19 rfl ?_ | refine HSub.segH ?_ | refine HSub.skip ?_ | refine HSub.skipN ?_)) ?_
  refine JX.thenN ?_
  (repeat' (first | refine JC.seq ?_ | refine JC.ops ?_ | (apply r_fieldAddr; exact rfl; exact rfl; exact rfl) | (apply r_load; exact rfl; exact rfl; exact rfl; exact rfl; (first | exact at0 | exact at1 | exact at2 | exact at3 | exact at4 | exact at5 | exact at6 | exact at7 | exact at8 | exact at9); exact rfl) | (apply r_loadN; exact rfl; exact rfl; exact rfl; exact rfl; (first | exact at0 | exact at1 | exact at2 | exact at3 | exact at4 | exact at5 | exact at6 | exact at7 | exact at8 | exact at9); exact rfl)))
  have car : ma.r = R0 % 7 := by rw [hma]; rfl
  have cac : ma.c = C0 % 7 := by rw [hma]; rfl
  refine r_modK (i := C1) 7 rfl rfl rfl rfl (by omega) ?_
  (repeat' (first | (apply r_convN; exact rfl; exact rfl; exact rfl; omega)))
  refine r_callA (A := [_, _, _]) (B := Na ++ ([])) rfl (by first | trivial | exact ⟨rfl, rfl⟩) rfl (by first | rfl | exact ⟨rfl, rfl⟩) rfl (fun w hk hs => c_With w _ R1 C1 (ma.r) (C1 % 7) L1 (hs1.mono hk) (by omega) (by omega)) fun w v w' _ _ _ hR => ?_
  obtain ⟨mb, hmb⟩ : ∃ m, m = shZ L1 (ma.r) (C1 % 7) := ⟨_, rfl⟩
  have rtb : RtZ mb := by rw [hmb]; exact RtZ.sh _ (by omega) (by omega)
  have bdb : BdZ 8 mb := by rw [hmb]; exact BdZ.sh hL1 _ _
  rw [← hmb] at hR
  obtain ⟨Nb, hNb, Eb, rfl, hOb⟩ := hR
  obtain ⟨Ab, cb, rfl⟩ := hOb.form
  refine ⟨Nb, hNb, ?_⟩
  (repeat' (first | refine JO.nil ?_ | (apply r_storeN; exact rfl; (first | exact trivial | exact ⟨rfl, rfl⟩); exact rfl; exact rfl; (first | exact at0 | exact at1 | exact at2 | exact at3 | exact at4 | exact at5 | exact at6 | exact at7 | exact at8 | exact at9); exact rfl; exact rfl; exact rfl) | (apply r_allocZ; exact rfl; exact rfl; exact rfl; intro _) | (apply r_storeN; exact rfl; (first | exact trivial | exact ⟨rfl, rfl⟩); exact rfl; exact rfl; (first | exact at0 | exact at1 | exact at2 | exact at3 | exact at4 | exact at5 | exact at6 | exact at7 | exact at8 | exact at9); exact rfl; exact rfl; exact rfl)))
  rename_i bb
  refine JX.part (F' := [(9, .pointer (some ⟨bb, 0, none⟩)), (8, .pointer (some ⟨ba, 0, none⟩)), (7, .bool true), (5, .pointer (some ⟨bq, 0, none⟩)), (4, .pointer (some ⟨bs1, 0, none⟩))]) (H' := [(bb, .cells #[nv mb.r, nv mb.c, .slice Ab mb.e.length cb] 29), (ba, .cells #[nv ma.r, nv ma.c, .slice Aa ma.e.length ca] 29), (bq, .cells #[iv q0, iv q1, iv q2, iv q3] 25), (bs1, .cells #[.int .u8 (R1 : Int), .int .u8 (C1 : Int), E1] 24)] ++ (Nb ++ (Na ++ ([])))) (by repeat first | exact trivial | refine ⟨rfl, ?_⟩) (by (repeat' first | exact HSub.refl _ | exact HSub.nil _ | refine HSub.at 0 rfl ?_ | refine HSub.at 1 rfl ?_ | refine HSub.at 2 rfl ?_ | refine HSub.at 3 rfl ?_ | refine HSub.at 4 rfl ?_ | refine HSub.at 5 rfl ?_ | refine HSub.at 6 rfl ?_ | refine HSub.at 7 rfl ?_ | refine HSub.at 8 rfl ?_ | refine HSub.at 9 rfl ?_ | refine HSub.at 10 rfl ?_ | refine HSub.at 11 rfl ?_ | refine HSub.at 12 rfl ?_ | refine HSub.at 13 rfl ?_ | refine HSub.at 14 rfl ?_ | refine HSub.at 15 rfl ?_ | refine HSub.at 16 rfl ?_ | refine HSub.at 17 rfl ?_ | refine HSub.at 18 rfl ?_ | refine HSub.at 19 rfl ?_ | refine HSub.segH ?_ | refine HSub.skip ?_ | refine HSub.skipN ?_)) ?_
  refine JX.thenN ?_
  (repeat' (first | refine JC.seq ?_ | refine JC.ops ?_ | (apply r_loadN; exact rfl; exact rfl; exact rfl; exact rfl; (first | exact at0 | exact at1 | exact at2 | exact at3 | exact at4 | exact at5 | exact at6 | exact at7 | exact at8 | exact at9); exact rfl)))
  have cbr : mb.r = ma.r := by rw [hmb]; rfl
  have cbc : mb.c = C1 % 7 := by rw [hmb]; rfl
  refine r_callA (A := [_, _, _, _]) (B := Nb ++ (Na ++ ([]))) rfl (by first | trivial | exact ⟨rfl, rfl⟩) rfl (by first | rfl | exact ⟨rfl, rfl⟩) rfl (fun w hk hs => c_Join w _ _ ma mb rta rtb (by omega) (by omega) ⟨_, rfl, hOa.rd.at hk hs (by (repeat' first | exact HSub.nil _ | exact HSub.hd | exact HSub.in0 | exact HSub.refl _ | refine HSub.skip ?_ | refine HSub.skipN ?_))⟩ ⟨_, rfl, hOb.rd.at hk hs (by (repeat' first | exact HSub.nil _ | exact HSub.hd | exact HSub.in0 | exact HSub.refl _ | refine HSub.skip ?_ | refine HSub.skipN ?_))⟩) fun w v w' _ _ _ hR => ?_
  obtain ⟨mj, hmj⟩ : ∃ m, m = joinZ ma mb := ⟨_, rfl⟩
  have rtj : RtZ mj := by rw [hmj]; exact zof_rt rta.r (by show ma.c + mb.c ≤ 200; omega)
  have bdj : BdZ 8 mj := by rw [hmj]; exact BdZ.join bda bdb
  rw [← hmj] at hR
  obtain ⟨Nj, uj, rfl, hNj, Ej, rfl, hOj⟩ := hR
  obtain ⟨Aj, cj, rfl⟩ := hOj.form
  refine ⟨Nj, hNj, ?_⟩
  (repeat' (first | refine JO.nil ?_ | (apply r_move; exact rfl; exact rfl; exact rfl) | (apply r_assign; exact rfl; exact rfl; exact rfl) | (apply r_extract; exact rfl; exact rfl; exact rfl; exact rfl) | (apply r_storeN; exact rfl; (first | exact trivial | exact ⟨rfl, rfl⟩); exact rfl; exact rfl; (first | exact at0 | exact at1 | exact at2 | exact at3 | exact at4 | exact at5 | exact at6 | exact at7 | exact at8 | exact at9); exact rfl; exact rfl; exact rfl) | (apply r_allocZ; exact rfl; exact rfl; exact rfl; intro _) | (apply r_storeN; exact rfl; (first | exact trivial | exact ⟨rfl, rfl⟩); exact rfl; exact rfl; (first | exact at0 | exact at1 | exact at2 | exact at3 | exact at4 | exact at5 | exact at6 | exact at7 | exact at8 | exact at9); exact rfl; exact rfl; exact rfl)))
  rename_i bj
  refine JX.part (F' := [(11, .bool true), (10, .pointer (some ⟨bj, 0, none⟩)), (9, .pointer (some ⟨bb, 0, none⟩)), (8, .pointer (some ⟨ba, 0, none⟩)), (7, .bool true), (5, .pointer (some ⟨bq, 0, none⟩)), (4, .pointer (some ⟨bs1, 0, none⟩))]) (H' := [(bj, .cells #[nv mj.r, nv mj.c, .slice Aj mj.e.length cj] 29), (bb, .cells #[nv mb.r, nv mb.c, .slice Ab mb.e.length cb] 29), (ba, .cells #[nv ma.r, nv ma.c, .slice Aa ma.e.length ca] 29), (bq, .cells #[iv q0, iv q1, iv q2, iv q3] 25), (bs1, .cells #[.int .u8 (R1 : Int), .int .u8 (C1 : Int), E1] 24)] ++ (Nj ++ (Nb ++ (Na ++ ([]))))) (by repeat first | exact trivial | refine ⟨rfl, ?_⟩) (by (repeat' first | exact HSub.refl _ | exact HSub.nil _ | refine HSub.at 0 rfl ?_ | refine HSub.at 1 rfl ?_ | refine HSub.at 2 rfl ?_ | refine HSub.at 3 rfl ?_ | refine HSub.at 4 rfl ?_ | refine HSub.at 5 rfl ?_ | refine HSub.at 6 rfl ?_ | refine HSub.at 7 rfl ?_ | refine HSub.at 8 rfl ?_ | refine HSub.at 9 rfl ?_ | refine HSub.at 10 rfl ?_ | refine HSub.at 11 rfl ?_ | refine HSub.at 12 rfl ?_ | refine HSub.at 13 rfl ?_ | refine HSub.at 14 rfl ?_ | refine HSub.at 15 rfl ?_ | refine HSub.at 16 rfl ?_ | refine HSub.at 17 rfl ?_ | refine HSub.at 18 rfl ?_ | refine HSub.at 19 rfl ?_ | refine HSub.segH ?_ | refine HSub.skip ?_ | refine HSub.skipN ?_)) ?_
  refine JX.thenN ?_
  (repeat' (first | refine JC.seq ?_ | refine JC.ops ?_ | (apply r_fieldAddr; exact rfl; exact rfl; exact rfl) | (apply r_load; exact rfl; exact rfl; exact rfl; exact rfl; (first | exact at0 | exact at1 | exact at2 | exact at3 | exact at4 | exact at5 | exact at6 | exact at7 | exact at8 | exact at9); exact rfl) | (apply r_loadN; exact rfl; exact rfl; exact rfl; exact rfl; (first | exact at0 | exact at1 | exact at2 | exact at3 | exact at4 | exact at5 | exact at6 | exact at7 | exact at8 | exact at9); exact rfl)))
  have cjr : mj.r = ma.r := by rw [hmj]; rfl
  have cjc : mj.c = ma.c + mb.c := by rw [hmj]; rfl
  refine r_callA (A := [_, _, _, _, _]) (B := Nj ++ (Nb ++ (Na ++ ([])))) rfl (by first | trivial | exact ⟨rfl, rfl⟩) rfl (by first | rfl | exact ⟨rfl, rfl⟩) rfl (fun w hk hs => c_Part w _ mj 0 0 ma.r ma.c rtj (by omega) (by omega) ⟨_, rfl, hOj.rd.at hk hs (by (repeat' first | exact HSub.nil _ | exact HSub.hd | exact HSub.in0 | exact HSub.refl _ | refine HSub.skip ?_ | refine HSub.skipN ?_))⟩) fun w v w' _ _ _ hR => ?_
  obtain ⟨ml, hml⟩ : ∃ m, m = partZ mj 0 0 ma.r ma.c := ⟨_, rfl⟩
  have rtl : RtZ ml := by rw [hml]; exact zof_rt rta.r rta.c
  have bdl : BdZ 8 ml := by rw [hml]; exact BdZ.part bdj _ _ _ _
  rw [← hml] at hR
  obtain ⟨Nl, ul, rfl, hNl, El, rfl, hOl⟩ := hR
  obtain ⟨Al, cl, rfl⟩ := hOl.form
  refine ⟨Nl, hNl, ?_⟩
  (repeat' (first | refine JO.nil ?_ | (apply r_move; exact rfl; exact rfl; exact rfl) | (apply r_assign; exact rfl; exact rfl; exact rfl) | (apply r_extract; exact rfl; exact rfl; exact rfl; exact rfl) | (apply r_storeN; exact rfl; (first | exact trivial | exact ⟨rfl, rfl⟩); exact rfl; exact rfl; (first | exact at0 | exact at1 | exact at2 | exact at3 | exact at4 | exact at5 | exact at6 | exact at7 | exact at8 | exact at9); exact rfl; exact rfl; exact rfl) | (apply r_allocZ; exact rfl; exact rfl; exact rfl; intro _) | (apply r_storeN; exact rfl; (first | exact trivial | exact ⟨rfl, rfl⟩); exact rfl; exact rfl; (first | exact at0 | exact at1 | exact at2 | exact at3 | exact at4 | exact at5 | exact at6 | exact at7 | exact at8 | exact at9); exact rfl; exact rfl; exact rfl)))
  rename_i bl
  refine JX.part (F' := [(13, .bool true), (12, .pointer (some ⟨bl, 0, none⟩)), (11, .bool true), (10, .pointer (some ⟨bj, 0, none⟩)), (9, .pointer (some ⟨bb, 0, none⟩)), (8, .pointer (some ⟨ba, 0, none⟩)), (7, .bool true), (5, .pointer (some ⟨bq, 0, none⟩)), (4, .pointer (some ⟨bs1, 0, none⟩))]) (H' := [(bl, .cells #[nv ml.r, nv ml.c, .slice Al ml.e.length cl] 29), (bj, .cells #[nv mj.r, nv mj.c, .slice Aj mj.e.length cj] 29), (bb, .cells #[nv mb.r, nv mb.c, .slice Ab mb.e.length cb] 29), (ba, .cells #[nv ma.r, nv ma.c, .slice Aa ma.e.length ca] 29), (bq, .cells #[iv q0, iv q1, iv q2, iv q3] 25), (bs1, .cells #[.int .u8 (R1 : Int), .int .u8 (C1 : Int), E1] 24)] ++ (Nl ++ (Nj ++ (Nb ++ (Na ++ ([])))))) (by repeat first | exact trivial | refine ⟨rfl, ?_⟩) (by (repeat' first | exact HSub.refl _ | exact HSub.nil _ | refine HSub.at 0 rfl ?_ | refine HSub.at 1 rfl ?_ | refine HSub.at 2 rfl ?_ | refine HSub.at 3 rfl ?_ | refine HSub.at 4 rfl ?_ | refine HSub.at 5 rfl ?_ | refine HSub.at 6 rfl ?_ | refine HSub.at 7 rfl ?_ | refine HSub.at 8 rfl ?_ | refine HSub.at 9 rfl ?_ | refine HSub.at 10 rfl ?_ | refine HSub.at 11 rfl ?_ | refine HSub.at 12 rfl ?_ | refine HSub.at 13 rfl ?_ | refine HSub.at 14 rfl ?_ | refine HSub.at 15 rfl ?_ | refine HSub.at 16 rfl ?_ | refine HSub.at 17 rfl ?_ | refine HSub.at 18 rfl ?_ | refine HSub.at 19 rfl ?_ | refine HSub.segH ?_ | refine HSub.skip ?_ | refine HSub.skipN ?_)) ?_
  refine JX.thenN ?_
  (repeat' (first | refine JC.seq ?_ | refine JC.ops ?_ | (apply r_fieldAddr; exact rfl; exact rfl; exact rfl) | (apply r_load; exact rfl; exact rfl; exact rfl; exact rfl; (first | exact at0 | exact at1 | exact at2 | exact at3 | exact at4 | exact at5 | exact at6 | exact at7 | exact at8 | exact at9); exact rfl) | (apply r_loadN; exact rfl; exact rfl; exact rfl; exact rfl; (first | exact at0 | exact at1 | exact at2 | exact at3 | exact at4 | exact at5 | exact at6 | exact at7 | exact at8 | exact at9); exact rfl)))
  refine r_callA (A := [_, _, _, _, _, _]) (B := Nl ++ (Nj ++ (Nb ++ (Na ++ ([]))))) rfl (by first | trivial | exact ⟨rfl, rfl⟩) rfl (by first | rfl | exact ⟨rfl, rfl⟩) rfl (fun w hk hs => c_Part w _ mj 0 ma.c ma.r mb.c rtj (by omega) (by omega) ⟨_, rfl, hOj.rd.at hk hs (by (repeat' first | exact HSub.nil _ | exact HSub.hd | exact HSub.in0 | exact HSub.refl _ | refine HSub.skip ?_ | refine HSub.skipN ?_))⟩) fun w v w' _ _ _ hR => ?_
  obtain ⟨mr, hmr⟩ : ∃ m, m = partZ mj 0 ma.c ma.r mb.c := ⟨_, rfl⟩
  have rtr : RtZ mr := by rw [hmr]; exact zof_rt rta.r rtb.c
  have bdr : BdZ 8 mr := by rw [hmr]; exact BdZ.part bdj _ _ _ _
  rw [← hmr] at hR
  obtain ⟨Nr, ur, rfl, hNr, Er, rfl, hOr⟩ := hR
  obtain ⟨Ar, cr, rfl⟩ := hOr.form
  refine ⟨Nr, hNr, ?_⟩
  (repeat' (first | refine JO.nil ?_ | (apply r_move; exact rfl; exact rfl; exact rfl) | (apply r_assign; exact rfl; exact rfl; exact rfl) | (apply r_extract; exact rfl; exact rfl; exact rfl; exact rfl) | (apply r_storeN; exact rfl; (first | exact trivial | exact ⟨rfl, rfl⟩); exact rfl; exact rfl; (first | exact at0 | exact at1 | exact at2 | exact at3 | exact at4 | exact at5 | exact at6 | exact at7 | exact at8 | exact at9); exact rfl; exact rfl; exact rfl) | (apply r_allocZ; exact rfl; exact rfl; exact rfl; intro _) | (apply r_storeN; exact rfl; (first | exact trivial | exact ⟨rfl, rfl⟩); exact rfl; exact rfl; (first | exact at0 | exact at1 | exact at2 | exact at3 | exact at4 | exact at5 | exact at6 | exact at7 | exact at8 | exact at9); exact rfl; exact rfl; exact rfl)))
  rename_i br
  refine JX.part (F' := [(15, .bool true), (14, .pointer (some ⟨br, 0, none⟩)), (13, .bool true), (12, .pointer (some ⟨bl, 0, none⟩)), (11, .bool true), (10, .pointer (some ⟨bj, 0, none⟩)), (9, .pointer (some ⟨bb, 0, none⟩)), (8, .pointer (some ⟨ba, 0, none⟩)), (7, .bool true), (5, .pointer (some ⟨bq, 0, none⟩)), (4, .pointer (some ⟨bs1, 0, none⟩))]) (H' := [(br, .cells #[nv mr.r, nv mr.c, .slice Ar mr.e.length cr] 29), (bl, .cells #[nv ml.r, nv ml.c, .slice Al ml.e.length cl] 29), (bj, .cells #[nv mj.r, nv mj.c, .slice Aj mj.e.length cj] 29), (bb, .cells #[nv mb.r, nv mb.c, .slice Ab mb.e.length cb] 29), (ba, .cells #[nv ma.r, nv ma.c, .slice Aa ma.e.length ca] 29), (bq, .cells #[iv q0, iv q1, iv q2, iv q3] 25), (bs1, .cells #[.int .u8 (R1 : Int), .int .u8 (C1 : Int), E1] 24)] ++ (Nr ++ (Nl ++ (Nj ++ (Nb ++ (Na ++ ([]))))))) (by repeat first | exact trivial | refine ⟨rfl, ?_⟩) (by (repeat' first | exact HSub.refl _ | exact HSub.nil _ | refine HSub.at 0 rfl ?_ | refine HSub.at 1 rfl ?_ | refine HSub.at 2 rfl ?_ | refine HSub.at 3 rfl ?_ | refine HSub.at 4 rfl ?_ | refine HSub.at 5 rfl ?_ | refine HSub.at 6 rfl ?_ | refine HSub.at 7 rfl ?_ | refine HSub.at 8 rfl ?_ | refine HSub.at 9 rfl ?_ | refine HSub.at 10 rfl ?_ | refine HSub.at 11 rfl ?_ | refine HSub.at 12 rfl ?_ | refine HSub.at 13 rfl ?_ | refine HSub.at 14 rfl ?_ | refine HSub.at 15 rfl ?_ | refine HSub.at 16 rfl ?_ | refine HSub.at 17 rfl ?_ | refine HSub.at 18 rfl ?_ | refine HSub.at 19 rfl ?_ | refine HSub.segH ?_ | refine HSub.skip ?_ | refine HSub.skipN ?_)) ?_
  refine JX.thenN ?_
  (repeat' (first | refine JC.seq ?_ | refine JC.ops ?_ | (apply r_move; exact rfl; exact rfl; exact rfl) | (apply r_loadN; exact rfl; exact rfl; exact rfl; exact rfl; (first | exact at0 | exact at1 | exact at2 | exact at3 | exact at4 | exact at5 | exact at6 | exact at7 | exact at8 | exact at9); exact rfl) | (apply r_pickF; exact rfl; exact rfl; exact rfl; exact rfl) | (apply r_not; exact rfl; exact rfl; exact rfl)))
  have ela : ml = ma := by rw [hml, hmj]; exact part_join_l rta
  refine r_call0 (by first | trivial | exact ⟨rfl, rfl⟩) rfl (by first | rfl | exact ⟨rfl, rfl⟩) rfl (fun w hk hs => c_EqualT w _ _ ml rtl ⟨_, rfl, hOl.rd.at hk hs (by (repeat' first | exact HSub.nil _ | exact HSub.hd | exact HSub.in0 | exact HSub.refl _ | refine HSub.skip ?_ | refine HSub.skipN ?_))⟩ (by rw [ela]; exact ⟨_, rfl, hOa.rd.at hk hs (by (repeat' first | exact HSub.nil _ | exact HSub.hd | exact HSub.in0 | exact HSub.refl _ | refine HSub.skip ?_ | refine HSub.skipN ?_))⟩)) fun w v w' _ _ _ hR => ?_
  subst hR
  (repeat' (first | (apply r_move; exact rfl; exact rfl; exact rfl) | (apply r_loadN; exact rfl; exact rfl; exact rfl; exact rfl; (first | exact at0 | exact at1 | exact at2 | exact at3 | exact at4 | exact at5 | exact at6 | exact at7 | exact at8 | exact at9); exact rfl) | (apply r_pickF; exact rfl; exact rfl; exact rfl; exact rfl) | (apply r_not; exact rfl; exact rfl; exact rfl)))
  have erb : mr = mb := by rw [hmr, hmj, show ma.r = mb.r by omega]; rw [← show ma.r = mb.r by omega]; exact part_join_r rtb (by omega)
  refine r_call0 (by first | trivial | exact ⟨rfl, rfl⟩) rfl (by first | rfl | exact ⟨rfl, rfl⟩) rfl (fun w hk hs => c_EqualT w _ _ mr rtr ⟨_, rfl, hOr.rd.at hk hs (by (repeat' first | exact HSub.nil _ | exact HSub.hd | exact HSub.in0 | exact HSub.refl _ | refine HSub.skip ?_ | refine HSub.skipN ?_))⟩ (by rw [erb]; exact ⟨_, rfl, hOb.rd.at hk hs (by (repeat' first | exact HSub.nil _ | exact HSub.hd | exact HSub.in0 | exact HSub.refl _ | refine HSub.skip ?_ | refine HSub.skipN ?_))⟩)) fun w v w' _ _ _ hR => ?_
  subst hR
  (repeat' (first | refine JO.nil ?_ | (apply r_pickF; exact rfl; exact rfl; exact rfl; exact rfl) | (apply r_not; exact rfl; exact rfl; exact rfl)))
  refine JX.thenN ?_
  (repeat' (first | refine JC.skip ?_ | refine JC.condF rfl ?_))
  refine JX.part (F' := [(10, .pointer (some ⟨bj, 0, none⟩)), (9, .pointer (some ⟨bb, 0, none⟩)), (8, .pointer (some ⟨ba, 0, none⟩)), (7, .bool true), (5, .pointer (some ⟨bq, 0, none⟩)), (4, .pointer (some ⟨bs1, 0, none⟩))]) (H' := [(bj, .cells #[nv mj.r, nv mj.c, .slice Aj mj.e.length cj] 29), (bb, .cells #[nv mb.r, nv mb.c, .slice Ab mb.e.length cb] 29), (ba, .cells #[nv ma.r, nv ma.c, .slice Aa ma.e.length ca] 29), (bq, .cells #[iv q0, iv q1, iv q2, iv q3] 25), (bs1, .cells #[.int .u8 (R1 : Int), .int .u8 (C1 : Int), E1] 24)] ++ (Nj ++ (Nb ++ (Na ++ ([]))))) (by repeat first | exact trivial | refine ⟨rfl, ?_⟩) (by (repeat' first | exact HSub.refl _ | exact HSub.nil _ | refine HSub.at 0 rfl ?_ | refine HSub.at 1 rfl ?_ | refine HSub.at 2 rfl ?_ | refine HSub.at 3 rfl ?_ | refine HSub.at 4 rfl ?_ | refine HSub.at 5 rfl ?_ | refine HSub.at 6 rfl ?_ | refine HSub.at 7 rfl ?_ | refine HSub.at 8 rfl ?_ | refine HSub.at 9 rfl ?_ | refine HSub.at 10 rfl ?_ | refine HSub.at 11 rfl ?_ | refine HSub.at 12 rfl ?_ | refine HSub.at 13 rfl ?_ | refine HSub.at 14 rfl ?_ | refine HSub.at 15 rfl ?_ | refine HSub.at 16 rfl ?_ | refine HSub.at 17 rfl ?_ | refine HSub.at 18 rfl ?_ | refine HSub.at 19 rfl ?_ | refine HSub.segH ?_ | refine HSub.skip ?_ | refine HSub.skipN ?_)) ?_
  refine JX.thenN ?_
  (repeat' (first | refine JC.seq ?_ | refine JC.opsD ?_ | (apply r_loadN; exact rfl; exact rfl; exact rfl; exact rfl; (first | exact at0 | exact at1 | exact at2 | exact at3 | exact at4 | exact at5 | exact at6 | exact at7 | exact at8 | exact at9); exact rfl)))
  refine r_callA (A := [_, _, _, _, _]) (B := Nj ++ (Nb ++ (Na ++ ([])))) rfl (by first | trivial | exact ⟨rfl, rfl⟩) rfl (by first | rfl | exact ⟨rfl, rfl⟩) rfl (fun w hk hs => c_Mat w _ R1 C1 L1 (hs1.mono hk)) fun w v w' _ _ _ hR => ?_
  obtain ⟨mx, hmx⟩ : ∃ m, m = shMat R1 C1 L1 := ⟨_, rfl⟩
  have rtx : RtZ mx := by rw [hmx]; exact RtZ.shMat _ _ _
  have bdx : BdZ 8 mx := by rw [hmx]; exact BdZ.sh hL1 _ _
  rw [← hmx] at hR
  obtain ⟨Nx, hNx, Ex, rfl, hOx⟩ := hR
  obtain ⟨Ax, cx, rfl⟩ := hOx.form
  refine ⟨Nx, hNx, ?_⟩
  skip
  refine r_callA (A := [_, _, _, _, _]) (B := Nx ++ (Nj ++ (Nb ++ (Na ++ ([]))))) rfl (by first | trivial | exact ⟨rfl, rfl⟩) rfl (by first | rfl | exact ⟨rfl, rfl⟩) rfl (fun w hk hs => c_JoinA w _ _ ma mx rta rtx ⟨_, rfl, hOa.rd.at hk hs (by (repeat' first | exact HSub.nil _ | exact HSub.hd | exact HSub.in0 | exact HSub.refl _ | refine HSub.skip ?_ | refine HSub.skipN ?_))⟩ ⟨_, rfl, hOx.rd.at hk hs (by (repeat' first | exact HSub.nil _ | exact HSub.hd | exact HSub.in0 | exact HSub.refl _ | refine HSub.skip ?_ | refine HSub.skipN ?_))⟩) fun w v w' _ _ _ hR => ?_
  obtain ⟨mc, hmc⟩ : ∃ m, m = (joinA ma mx).1 := ⟨_, rfl⟩
  obtain ⟨zc, hzc⟩ : ∃ z, z = (joinA ma mx).2 := ⟨_, rfl⟩
  have rtc : RtZ mc := by rw [hmc]; exact joinA_rt rta
  rw [← hmc, ← hzc] at hR
  obtain ⟨Nc, uc, rfl, hNc, Ec, rfl, hOc⟩ := hR
  obtain ⟨Ac, cc, rfl⟩ := hOc.form
  refine ⟨Nc, hNc, ?_⟩
  (repeat' (first | refine JO.nil ?_ | (apply r_move; exact rfl; exact rfl; exact rfl) | (apply r_assign; exact rfl; exact rfl; exact rfl) | (apply r_extract; exact rfl; exact rfl; exact rfl; exact rfl) | (apply r_storeN; exact rfl; (first | exact trivial | exact ⟨rfl, rfl⟩); exact rfl; exact rfl; (first | exact at0 | exact at1 | exact at2 | exact at3 | exact at4 | exact at5 | exact at6 | exact at7 | exact at8 | exact at9); exact rfl; exact rfl; exact rfl) | (apply r_allocZ; exact rfl; exact rfl; exact rfl; intro _) | (apply r_storeN; exact rfl; (first | exact trivial | exact ⟨rfl, rfl⟩); exact rfl; exact rfl; (first | exact at0 | exact at1 | exact at2 | exact at3 | exact at4 | exact at5 | exact at6 | exact at7 | exact at8 | exact at9); exact rfl; exact rfl; exact rfl)))
  rename_i bc
  refine JX.part (F' := [(17, .bool zc), (16, .pointer (some ⟨bc, 0, none⟩)), (10, .pointer (some ⟨bj, 0, none⟩)), (9, .pointer (some ⟨bb, 0, none⟩)), (8, .pointer (some ⟨ba, 0, none⟩)), (7, .bool true), (5, .pointer (some ⟨bq, 0, none⟩)), (4, .pointer (some ⟨bs1, 0, none⟩))]) (H' := [(bc, .cells #[nv mc.r, nv mc.c, .slice Ac mc.e.length cc] 29), (bj, .cells #[nv mj.r, nv mj.c, .slice Aj mj.e.length cj] 29), (bb, .cells #[nv mb.r, nv mb.c, .slice Ab mb.e.length cb] 29), (ba, .cells #[nv ma.r, nv ma.c, .slice Aa ma.e.length ca] 29), (bq, .cells #[iv q0, iv q1, iv q2, iv q3] 25), (bs1, .cells #[.int .u8 (R1 : Int), .int .u8 (C1 : Int), E1] 24)] ++ (Nc ++ (Nj ++ (Nb ++ (Na ++ ([])))))) (by repeat first | exact trivial | refine ⟨rfl, ?_⟩) (by (repeat' first | exact HSub.refl _ | exact HSub.nil _ | refine HSub.at 0 rfl ?_ | refine HSub.at 1 rfl ?_ | refine HSub.at 2 rfl ?_ | refine HSub.at 3 rfl ?_ | refine HSub.at 4 rfl ?_ | refine HSub.at 5 rfl ?_ | refine HSub.at 6 rfl ?_ | refine HSub.at 7 rfl ?_ | refine HSub.at 8 rfl ?_ | refine HSub.at 9 rfl ?_ | refine HSub.at 10 rfl ?_ | refine HSub.at 11 rfl ?_ | refine HSub.at 12 rfl ?_ | refine HSub.at 13 rfl ?_ | refine HSub.at 14 rfl ?_ | refine HSub.at 15 rfl ?_ | refine HSub.at 16 rfl ?_ | refine HSub.at 17 rfl ?_ | refine HSub.at 18 rfl ?_ | refine HSub.at 19 rfl ?_ | refine HSub.segH ?_ | refine HSub.skip ?_ | refine HSub.skipN ?_)) ?_
  refine JX.thenN ?_
  (repeat' (first | refine JC.seq ?_ | refine JC.opsD ?_ | (apply r_loadN; exact rfl; exact rfl; exact rfl; exact rfl; (first | exact at0 | exact at1 | exact at2 | exact at3 | exact at4 | exact at5 | exact at6 | exact at7 | exact at8 | exact at9); exact rfl)))
  refine r_callA (A := [_, _, _, _, _, _]) (B := Nc ++ (Nj ++ (Nb ++ (Na ++ ([]))))) rfl (by first | trivial | exact ⟨rfl, rfl⟩) rfl (by first | rfl | exact ⟨rfl, rfl⟩) rfl (fun w hk hs => c_Mat w _ R1 C1 L1 (hs1.mono hk)) fun w v w' _ _ _ hR => ?_
  obtain ⟨my, hmy⟩ : ∃ m, m = shMat R1 C1 L1 := ⟨_, rfl⟩
  have rty : RtZ my := by rw [hmy]; exact RtZ.shMat _ _ _
  have bdy : BdZ 8 my := by rw [hmy]; exact BdZ.sh hL1 _ _
  rw [← hmy] at hR
  obtain ⟨Ny, hNy, Ey, rfl, hOy⟩ := hR
  obtain ⟨Ay, cy, rfl⟩ := hOy.form
  refine ⟨Ny, hNy, ?_⟩
  skip
  refine r_callA (A := [_, _, _, _, _, _]) (B := Ny ++ (Nc ++ (Nj ++ (Nb ++ (Na ++ ([])))))) rfl (by first | trivial | exact ⟨rfl, rfl⟩) rfl (by first | rfl | exact ⟨rfl, rfl⟩) rfl (fun w hk hs => c_refJoinA w _ _ ma my rta rty ⟨_, rfl, hOa.rd.at hk hs (by (repeat' first | exact HSub.nil _ | exact HSub.hd | exact HSub.in0 | exact HSub.refl _ | refine HSub.skip ?_ | refine HSub.skipN ?_))⟩ ⟨_, rfl, hOy.rd.at hk hs (by (repeat' first | exact HSub.nil _ | exact HSub.hd | exact HSub.in0 | exact HSub.refl _ | refine HSub.skip ?_ | refine HSub.skipN ?_))⟩) fun w v w' _ _ _ hR => ?_
  obtain ⟨md, hmd⟩ : ∃ m, m = (joinA ma my).1 := ⟨_, rfl⟩
  obtain ⟨zd, hzd⟩ : ∃ z, z = (joinA ma my).2 := ⟨_, rfl⟩
  have rtd : RtZ md := by rw [hmd]; exact joinA_rt rta
  rw [← hmd, ← hzd] at hR
  obtain ⟨Nd, ud, rfl, hNd, Ed, rfl, hOd⟩ := hR
  obtain ⟨Ad, cd, rfl⟩ := hOd.form
  refine ⟨Nd, hNd, ?_⟩
  (repeat' (first | refine JO.nil ?_ | (apply r_move; exact rfl; exact rfl; exact rfl) | (apply r_assign; exact rfl; exact rfl; exact rfl) | (apply r_extract; exact rfl; exact rfl; exact rfl; exact rfl) | (apply r_storeN; exact rfl; (first | exact trivial | exact ⟨rfl, rfl⟩); exact rfl; exact rfl; (first | exact at0 | exact at1 | exact at2 | exact at3 | exact at4 | exact at5 | exact at6 | exact at7 | exact at8 | exact at9); exact rfl; exact rfl; exact rfl) | (apply r_allocZ; exact rfl; exact rfl; exact rfl; intro _) | (apply r_storeN; exact rfl; (first | exact trivial | exact ⟨rfl, rfl⟩); exact rfl; exact rfl; (first | exact at0 | exact at1 | exact at2 | exact at3 | exact at4 | exact at5 | exact at6 | exact at7 | exact at8 | exact at9); exact rfl; exact rfl; exact rfl)))
  rename_i bd
  refine JX.part (F' := [(19, .bool zd), (18, .pointer (some ⟨bd, 0, none⟩)), (17, .bool zc), (16, .pointer (some ⟨bc, 0, none⟩)), (10, .pointer (some ⟨bj, 0, none⟩)), (9, .pointer (some ⟨bb, 0, none⟩)), (8, .pointer (some ⟨ba, 0, none⟩)), (7, .bool true), (5, .pointer (some ⟨bq, 0, none⟩))]) (H' := [(bd, .cells #[nv md.r, nv md.c, .slice Ad md.e.length cd] 29), (bc, .cells #[nv mc.r, nv mc.c, .slice Ac mc.e.length cc] 29), (bj, .cells #[nv mj.r, nv mj.c, .slice Aj mj.e.length cj] 29), (bb, .cells #[nv mb.r, nv mb.c, .slice Ab mb.e.length cb] 29), (ba, .cells #[nv ma.r, nv ma.c, .slice Aa ma.e.length ca] 29), (bq, .cells #[iv q0, iv q1, iv q2, iv q3] 25)] ++ (Nd ++ (Nc ++ (Nj ++ (Nb ++ (Na ++ ([]))))))) (by repeat first | exact trivial | refine ⟨rfl, ?_⟩) (by (repeat' first | exact HSub.refl _ | exact HSub.nil _ | refine HSub.at 0 rfl ?_ | refine HSub.at 1 rfl ?_ | refine HSub.at 2 rfl ?_ | refine HSub.at 3 rfl ?_ | refine HSub.at 4 rfl ?_ | refine HSub.at 5 rfl ?_ | refine HSub.at 6 rfl ?_ | refine HSub.at 7 rfl ?_ | refine HSub.at 8 rfl ?_ | refine HSub.at 9 rfl ?_ | refine HSub.at 10 rfl ?_ | refine HSub.at 11 rfl ?_ | refine HSub.at 12 rfl ?_ | refine HSub.at 13 rfl ?_ | refine HSub.at 14 rfl ?_ | refine HSub.at 15 rfl ?_ | refine HSub.at 16 rfl ?_ | refine HSub.at 17 rfl ?_ | refine HSub.at 18 rfl ?_ | refine HSub.at 19 rfl ?_ | refine HSub.segH ?_ | refine HSub.skip ?_ | refine HSub.skipN ?_)) ?_
  refine JX.thenN ?_
  (repeat' (first | refine JC.seq ?_ | refine JC.ops ?_ | (apply r_loadN; exact rfl; exact rfl; exact rfl; exact rfl; (first | exact at0 | exact at1 | exact at2 | exact at3 | exact at4 | exact at5 | exact at6 | exact at7 | exact at8 | exact at9); exact rfl)))
  refine r_idxArr (j := 0) rfl (by first | rfl | exact ⟨rfl, rfl⟩) rfl rfl (by decide) ?_
  (repeat' (first | (apply r_load; exact rfl; exact rfl; exact rfl; exact rfl; (first | exact at0 | exact at1 | exact at2 | exact at3 | exact at4 | exact at5 | exact at6 | exact at7 | exact at8 | exact at9); exact rfl)))
  refine r_idxArr (j := 1) rfl (by first | rfl | exact ⟨rfl, rfl⟩) rfl rfl (by decide) ?_
  (repeat' (first | (apply r_load; exact rfl; exact rfl; exact rfl; exact rfl; (first | exact at0 | exact at1 | exact at2 | exact at3 | exact at4 | exact at5 | exact at6 | exact at7 | exact at8 | exact at9); exact rfl)))
  refine r_idxArr (j := 2) rfl (by first | rfl | exact ⟨rfl, rfl⟩) rfl rfl (by decide) ?_
  (repeat' (first | (apply r_load; exact rfl; exact rfl; exact rfl; exact rfl; (first | exact at0 | exact at1 | exact at2 | exact at3 | exact at4 | exact at5 | exact at6 | exact at7 | exact at8 | exact at9); exact rfl)))
  refine r_idxArr (j := 3) rfl (by first | rfl | exact ⟨rfl, rfl⟩) rfl rfl (by decide) ?_
  (repeat' (first | (apply r_load; exact rfl; exact rfl; exact rfl; exact rfl; (first | exact at0 | exact at1 | exact at2 | exact at3 | exact at4 | exact at5 | exact at6 | exact at7 | exact at8 | exact at9); exact rfl)))
  refine r_callA (A := [_, _, _, _, _, _]) (B := Nd ++ (Nc ++ (Nj ++ (Nb ++ (Na ++ ([])))))) rfl (by first | trivial | exact ⟨rfl, rfl⟩) rfl (by first | rfl | exact ⟨rfl, rfl⟩) rfl (fun w hk hs => c_PartA w _ mj q0 q1 q2 q3 rtj ⟨_, rfl, hOj.rd.at hk hs (by (repeat' first | exact HSub.nil _ | exact HSub.hd | exact HSub.in0 | exact HSub.refl _ | refine HSub.skip ?_ | refine HSub.skipN ?_))⟩ hq2 hq3) fun w v w' _ _ _ hR => ?_
  obtain ⟨me, hme⟩ : ∃ m, m = (partA mj q0 q1 q2 q3).1 := ⟨_, rfl⟩
  obtain ⟨ze, hze⟩ : ∃ z, z = (partA mj q0 q1 q2 q3).2 := ⟨_, rfl⟩
  have rte : RtZ me := by rw [hme]; exact partA_rt rtj
  rw [← hme, ← hze] at hR
  obtain ⟨Ne, ue, rfl, hNe, Ee, rfl, hOe⟩ := hR
  obtain ⟨Ae, ce, rfl⟩ := hOe.form
  refine ⟨Ne, hNe, ?_⟩
  (repeat' (first | refine JO.nil ?_ | (apply r_move; exact rfl; exact rfl; exact rfl) | (apply r_assign; exact rfl; exact rfl; exact rfl) | (apply r_extract; exact rfl; exact rfl; exact rfl; exact rfl) | (apply r_storeN; exact rfl; (first | exact trivial | exact ⟨rfl, rfl⟩); exact rfl; exact rfl; (first | exact at0 | exact at1 | exact at2 | exact at3 | exact at4 | exact at5 | exact at6 | exact at7 | exact at8 | exact at9); exact rfl; exact rfl; exact rfl) | (apply r_allocZ; exact rfl; exact rfl; exact rfl; intro _) | (apply r_storeN; exact rfl; (first | exact trivial | exact ⟨rfl, rfl⟩); exact rfl; exact rfl; (first | exact at0 | exact at1 | exact at2 | exact at3 | exact at4 | exact at5 | exact at6 | exact at7 | exact at8 | exact at9); exact rfl; exact rfl; exact rfl)))
  rename_i be
  refine JX.part (F' := [(21, .bool ze), (20, .pointer (some ⟨be, 0, none⟩)), (19, .bool zd), (18, .pointer (some ⟨bd, 0, none⟩)), (17, .bool zc), (16, .pointer (some ⟨bc, 0, none⟩)), (10, .pointer (some ⟨bj, 0, none⟩)), (9, .pointer (some ⟨bb, 0, none⟩)), (8, .pointer (some ⟨ba, 0, none⟩)), (7, .bool true), (5, .pointer (some ⟨bq, 0, none⟩))]) (H' := [(be, .cells #[nv me.r, nv me.c, .slice Ae me.e.length ce] 29), (bd, .cells #[nv md.r, nv md.c, .slice Ad md.e.length cd] 29), (bc, .cells #[nv mc.r, nv mc.c, .slice Ac mc.e.length cc] 29), (bj, .cells #[nv mj.r, nv mj.c, .slice Aj mj.e.length cj] 29), (bb, .cells #[nv mb.r, nv mb.c, .slice Ab mb.e.length cb] 29), (ba, .cells #[nv ma.r, nv ma.c, .slice Aa ma.e.length ca] 29), (bq, .cells #[iv q0, iv q1, iv q2, iv q3] 25)] ++ (Ne ++ (Nd ++ (Nc ++ (Nj ++ (Nb ++ (Na ++ ([])))))))) (by repeat first | exact trivial | refine ⟨rfl, ?_⟩) (by (repeat' first | exact HSub.refl _ | exact HSub.nil _ | refine HSub.at 0 rfl ?_ | refine HSub.at 1 rfl ?_ | refine HSub.at 2 rfl ?_ | refine HSub.at 3 rfl ?_ | refine HSub.at 4 rfl ?_ | refine HSub.at 5 rfl ?_ | refine HSub.at 6 rfl ?_ | refine HSub.at 7 rfl ?_ | refine HSub.at 8 rfl ?_ | refine HSub.at 9 rfl ?_ | refine HSub.at 10 rfl ?_ | refine HSub.at 11 rfl ?_ | refine HSub.at 12 rfl ?_ | refine HSub.at 13 rfl ?_ | refine HSub.at 14 rfl ?_ | refine HSub.at 15 rfl ?_ | refine HSub.at 16 rfl ?_ | refine HSub.at 17 rfl ?_ | refine HSub.at 18 rfl ?_ | refine HSub.at 19 rfl ?_ | refine HSub.segH ?_ | refine HSub.skip ?_ | refine HSub.skipN ?_)) ?_
  refine JX.thenN ?_
  (repeat' (first | refine JC.seq ?_ | refine JC.ops ?_ | (apply r_loadN; exact rfl; exact rfl; exact rfl; exact rfl; (first | exact at0 | exact at1 | exact at2 | exact at3 | exact at4 | exact at5 | exact at6 | exact at7 | exact at8 | exact at9); exact rfl)))
  refine r_idxArr (j := 0) rfl (by first | rfl | exact ⟨rfl, rfl⟩) rfl rfl (by decide) ?_
  (repeat' (first | (apply r_load; exact rfl; exact rfl; exact rfl; exact rfl; (first | exact at0 | exact at1 | exact at2 | exact at3 | exact at4 | exact at5 | exact at6 | exact at7 | exact at8 | exact at9); exact rfl)))
  refine r_idxArr (j := 1) rfl (by first | rfl | exact ⟨rfl, rfl⟩) rfl rfl (by decide) ?_
  (repeat' (first | (apply r_load; exact rfl; exact rfl; exact rfl; exact rfl; (first | exact at0 | exact at1 | exact at2 | exact at3 | exact at4 | exact at5 | exact at6 | exact at7 | exact at8 | exact at9); exact rfl)))
  refine r_idxArr (j := 2) rfl (by first | rfl | exact ⟨rfl, rfl⟩) rfl rfl (by decide) ?_
  (repeat' (first | (apply r_load; exact rfl; exact rfl; exact rfl; exact rfl; (first | exact at0 | exact at1 | exact at2 | exact at3 | exact at4 | exact at5 | exact at6 | exact at7 | exact at8 | exact at9); exact rfl)))
  refine r_idxArr (j := 3) rfl (by first | rfl | exact ⟨rfl, rfl⟩) rfl rfl (by decide) ?_
  (repeat' (first | (apply r_load; exact rfl; exact rfl; exact rfl; exact rfl; (first | exact at0 | exact at1 | exact at2 | exact at3 | exact at4 | exact at5 | exact at6 | exact at7 | exact at8 | exact at9); exact rfl)))
  refine r_callA (A := [_, _, _, _, _, _, _]) (B := Ne ++ (Nd ++ (Nc ++ (Nj ++ (Nb ++ (Na ++ ([]))))))) rfl (by first | trivial | exact ⟨rfl, rfl⟩) rfl (by first | rfl | exact ⟨rfl, rfl⟩) rfl (fun w hk hs => c_refPartA w _ mj q0 q1 q2 q3 rtj ⟨_, rfl, hOj.rd.at hk hs (by (repeat' first | exact HSub.nil _ | exact HSub.hd | exact HSub.in0 | exact HSub.refl _ | refine HSub.skip ?_ | refine HSub.skipN ?_))⟩ hq2 hq3) fun w v w' _ _ _ hR => ?_
  obtain ⟨mf, hmf⟩ : ∃ m, m = (partA mj q0 q1 q2 q3).1 := ⟨_, rfl⟩
  obtain ⟨zf, hzf⟩ : ∃ z, z = (partA mj q0 q1 q2 q3).2 := ⟨_, rfl⟩
  have rtf : RtZ mf := by rw [hmf]; exact partA_rt rtj
  rw [← hmf, ← hzf] at hR
  obtain ⟨Nf, uf, rfl, hNf, Ef, rfl, hOf⟩ := hR
  obtain ⟨Af, cf, rfl⟩ := hOf.form
  refine ⟨Nf, hNf, ?_⟩
  (repeat' (first | refine JO.nil ?_ | (apply r_move; exact rfl; exact rfl; exact rfl) | (apply r_assign; exact rfl; exact rfl; exact rfl) | (apply r_extract; exact rfl; exact rfl; exact rfl; exact rfl) | (apply r_storeN; exact rfl; (first | exact trivial | exact ⟨rfl, rfl⟩); exact rfl; exact rfl; (first | exact at0 | exact at1 | exact at2 | exact at3 | exact at4 | exact at5 | exact at6 | exact at7 | exact at8 | exact at9); exact rfl; exact rfl; exact rfl) | (apply r_allocZ; exact rfl; exact rfl; exact rfl; intro _) | (apply r_storeN; exact rfl; (first | exact trivial | exact ⟨rfl, rfl⟩); exact rfl; exact rfl; (first | exact at0 | exact at1 | exact at2 | exact at3 | exact at4 | exact at5 | exact at6 | exact at7 | exact at8 | exact at9); exact rfl; exact rfl; exact rfl)))
  rename_i bf
  refine JX.part (F' := [(23, .bool zf), (22, .pointer (some ⟨bf, 0, none⟩)), (21, .bool ze), (20, .pointer (some ⟨be, 0, none⟩)), (19, .bool zd), (18, .pointer (some ⟨bd, 0, none⟩)), (17, .bool zc), (16, .pointer (some ⟨bc, 0, none⟩)), (10, .pointer (some ⟨bj, 0, none⟩)), (9, .pointer (some ⟨bb, 0, none⟩)), (8, .pointer (some ⟨ba, 0, none⟩)), (7, .bool true), (5, .pointer (some ⟨bq, 0, none⟩))]) (H' := [(bf, .cells #[nv mf.r, nv mf.c, .slice Af mf.e.length cf] 29), (be, .cells #[nv me.r, nv me.c, .slice Ae me.e.length ce] 29), (bd, .cells #[nv md.r, nv md.c, .slice Ad md.e.length cd] 29), (bc, .cells #[nv mc.r, nv mc.c, .slice Ac mc.e.length cc] 29), (bj, .cells #[nv mj.r, nv mj.c, .slice Aj mj.e.length cj] 29), (bb, .cells #[nv mb.r, nv mb.c, .slice Ab mb.e.length cb] 29), (ba, .cells #[nv ma.r, nv ma.c, .slice Aa ma.e.length ca] 29), (bq, .cells #[iv q0, iv q1, iv q2, iv q3] 25)] ++ (Nf ++ (Ne ++ (Nd ++ (Nc ++ (Nj ++ (Nb ++ (Na ++ ([]))))))))) (by repeat first | exact trivial | refine ⟨rfl, ?_⟩) (by (repeat' first | exact HSub.refl _ | exact HSub.nil _ | refine HSub.at 0 rfl ?_ | refine HSub.at 1 rfl ?_ | refine HSub.at 2 rfl ?_ | refine HSub.at 3 rfl ?_ | refine HSub.at 4 rfl ?_ | refine HSub.at 5 rfl ?_ | refine HSub.at 6 rfl ?_ | refine HSub.at 7 rfl ?_ | refine HSub.at 8 rfl ?_ | refine HSub.at 9 rfl ?_ | refine HSub.at 10 rfl ?_ | refine HSub.at 11 rfl ?_ | refine HSub.at 12 rfl ?_ | refine HSub.at 13 rfl ?_ | refine HSub.at 14 rfl ?_ | refine HSub.at 15 rfl ?_ | refine HSub.at 16 rfl ?_ | refine HSub.at 17 rfl ?_ | refine HSub.at 18 rfl ?_ | refine HSub.at 19 rfl ?_ | refine HSub.segH ?_ | refine HSub.skip ?_ | refine HSub.skipN ?_)) ?_
  refine JX.thenN ?_
  (repeat' (first | refine JC.seq ?_ | refine JC.ops ?_ | (apply r_loadN; exact rfl; exact rfl; exact rfl; exact rfl; (first | exact at0 | exact at1 | exact at2 | exact at3 | exact at4 | exact at5 | exact at6 | exact at7 | exact at8 | exact at9); exact rfl)))
  refine r_idxArr (j := 0) rfl (by first | rfl | exact ⟨rfl, rfl⟩) rfl rfl (by decide) ?_
  (repeat' (first | (apply r_load; exact rfl; exact rfl; exact rfl; exact rfl; (first | exact at0 | exact at1 | exact at2 | exact at3 | exact at4 | exact at5 | exact at6 | exact at7 | exact at8 | exact at9); exact rfl)))
  refine r_and7 rfl (by first | rfl | exact ⟨rfl, rfl⟩) rfl rfl ?_
  skip
  refine r_idxArr (j := 1) rfl (by first | rfl | exact ⟨rfl, rfl⟩) rfl rfl (by decide) ?_
  (repeat' (first | (apply r_load; exact rfl; exact rfl; exact rfl; exact rfl; (first | exact at0 | exact at1 | exact at2 | exact at3 | exact at4 | exact at5 | exact at6 | exact at7 | exact at8 | exact at9); exact rfl)))
  refine r_and7 rfl (by first | rfl | exact ⟨rfl, rfl⟩) rfl rfl ?_
  skip
  refine r_idxArr (j := 2) rfl (by first | rfl | exact ⟨rfl, rfl⟩) rfl rfl (by decide) ?_
  (repeat' (first | (apply r_load; exact rfl; exact rfl; exact rfl; exact rfl; (first | exact at0 | exact at1 | exact at2 | exact at3 | exact at4 | exact at5 | exact at6 | exact at7 | exact at8 | exact at9); exact rfl)))
  refine r_and7 rfl (by first | rfl | exact ⟨rfl, rfl⟩) rfl rfl ?_
  skip
  refine r_idxArr (j := 3) rfl (by first | rfl | exact ⟨rfl, rfl⟩) rfl rfl (by decide) ?_
  (repeat' (first | (apply r_load; exact rfl; exact rfl; exact rfl; exact rfl; (first | exact at0 | exact at1 | exact at2 | exact at3 | exact at4 | exact at5 | exact at6 | exact at7 | exact at8 | exact at9); exact rfl)))
  refine r_and7 rfl (by first | rfl | exact ⟨rfl, rfl⟩) rfl rfl ?_
  skip
  refine r_callA (A := [_, _, _, _, _, _, _, _]) (B := Nf ++ (Ne ++ (Nd ++ (Nc ++ (Nj ++ (Nb ++ (Na ++ ([])))))))) rfl (by first | trivial | exact ⟨rfl, rfl⟩) rfl (by first | rfl | exact ⟨rfl, rfl⟩) rfl (fun w hk hs => c_PartA w _ mj (q0 % 8) (q1 % 8) (q2 % 8) (q3 % 8) rtj ⟨_, rfl, hOj.rd.at hk hs (by (repeat' first | exact HSub.nil _ | exact HSub.hd | exact HSub.in0 | exact HSub.refl _ | refine HSub.skip ?_ | refine HSub.skipN ?_))⟩ (i64_mod8 _) (i64_mod8 _)) fun w v w' _ _ _ hR => ?_
  obtain ⟨mg, hmg⟩ : ∃ m, m = (partA mj (q0 % 8) (q1 % 8) (q2 % 8) (q3 % 8)).1 := ⟨_, rfl⟩
  obtain ⟨zg, hzg⟩ : ∃ z, z = (partA mj (q0 % 8) (q1 % 8) (q2 % 8) (q3 % 8)).2 := ⟨_, rfl⟩
  have rtg : RtZ mg := by rw [hmg]; exact partA_rt rtj
  rw [← hmg, ← hzg] at hR
  obtain ⟨Ng, ug, rfl, hNg, Eg, rfl, hOg⟩ := hR
  obtain ⟨Ag, cg, rfl⟩ := hOg.form
  refine ⟨Ng, hNg, ?_⟩
  (repeat' (first | refine JO.nil ?_ | (apply r_move; exact rfl; exact rfl; exact rfl) | (apply r_assign; exact rfl; exact rfl; exact rfl) | (apply r_extract; exact rfl; exact rfl; exact rfl; exact rfl) | (apply r_storeN; exact rfl; (first | exact trivial | exact ⟨rfl, rfl⟩); exact rfl; exact rfl; (first | exact at0 | exact at1 | exact at2 | exact at3 | exact at4 | exact at5 | exact at6 | exact at7 | exact at8 | exact at9); exact rfl; exact rfl; exact rfl) | (apply r_allocZ; exact rfl; exact rfl; exact rfl; intro _) | (apply r_storeN; exact rfl; (first | exact trivial | exact ⟨rfl, rfl⟩); exact rfl; exact rfl; (first | exact at0 | exact at1 | exact at2 | exact at3 | exact at4 | exact at5 | exact at6 | exact at7 | exact at8 | exact at9); exact rfl; exact rfl; exact rfl)))
  rename_i bg
  refine JX.part (F' := [(25, .bool zg), (24, .pointer (some ⟨bg, 0, none⟩)), (23, .bool zf), (22, .pointer (some ⟨bf, 0, none⟩)), (21, .bool ze), (20, .pointer (some ⟨be, 0, none⟩)), (19, .bool zd), (18, .pointer (some ⟨bd, 0, none⟩)), (17, .bool zc), (16, .pointer (some ⟨bc, 0, none⟩)), (10, .pointer (some ⟨bj, 0, none⟩)), (9, .pointer (some ⟨bb, 0, none⟩)), (8, .pointer (some ⟨ba, 0, none⟩)), (7, .bool true), (5, .pointer (some ⟨bq, 0, none⟩))]) (H' := [(bg, .cells #[nv mg.r, nv mg.c, .slice Ag mg.e.length cg] 29), (bf, .cells #[nv mf.r, nv mf.c, .slice Af mf.e.length cf] 29), (be, .cells #[nv me.r, nv me.c, .slice Ae me.e.length ce] 29), (bd, .cells #[nv md.r, nv md.c, .slice Ad md.e.length cd] 29), (bc, .cells #[nv mc.r, nv mc.c, .slice Ac mc.e.length cc] 29), (bj, .cells #[nv mj.r, nv mj.c, .slice Aj mj.e.length cj] 29), (bb, .cells #[nv mb.r, nv mb.c, .slice Ab mb.e.length cb] 29), (ba, .cells #[nv ma.r, nv ma.c, .slice Aa ma.e.length ca] 29), (bq, .cells #[iv q0, iv q1, iv q2, iv q3] 25)] ++ (Ng ++ (Nf ++ (Ne ++ (Nd ++ (Nc ++ (Nj ++ (Nb ++ (Na ++ ([])))))))))) (by repeat first | exact trivial | refine ⟨rfl, ?_⟩) (by (repeat' first | exact HSub.refl _ | exact HSub.nil _ | refine HSub.at 0 rfl ?_ | refine HSub.at 1 rfl ?_ | refine HSub.at 2 rfl ?_ | refine HSub.at 3 rfl ?_ | refine HSub.at 4 rfl ?_ | refine HSub.at 5 rfl ?_ | refine HSub.at 6 rfl ?_ | refine HSub.at 7 rfl ?_ | refine HSub.at 8 rfl ?_ | refine HSub.at 9 rfl ?_ | refine HSub.at 10 rfl ?_ | refine HSub.at 11 rfl ?_ | refine HSub.at 12 rfl ?_ | refine HSub.at 13 rfl ?_ | refine HSub.at 14 rfl ?_ | refine HSub.at 15 rfl ?_ | refine HSub.at 16 rfl ?_ | refine HSub.at 17 rfl ?_ | refine HSub.at 18 rfl ?_ | refine HSub.at 19 rfl ?_ | refine HSub.segH ?_ | refine HSub.skip ?_ | refine HSub.skipN ?_)) ?_
  refine JX.thenN ?_
  (repeat' (first | refine JC.seq ?_ | refine JC.ops ?_ | (apply r_loadN; exact rfl; exact rfl; exact rfl; exact rfl; (first | exact at0 | exact at1 | exact at2 | exact at3 | exact at4 | exact at5 | exact at6 | exact at7 | exact at8 | exact at9); exact rfl)))
  refine r_idxArr (j := 0) rfl (by first | rfl | exact ⟨rfl, rfl⟩) rfl rfl (by decide) ?_
  (repeat' (first | (apply r_load; exact rfl; exact rfl; exact rfl; exact rfl; (first | exact at0 | exact at1 | exact at2 | exact at3 | exact at4 | exact at5 | exact at6 | exact at7 | exact at8 | exact at9); exact rfl)))
  refine r_and7 rfl (by first | rfl | exact ⟨rfl, rfl⟩) rfl rfl ?_
  skip
  refine r_idxArr (j := 1) rfl (by first | rfl | exact ⟨rfl, rfl⟩) rfl rfl (by decide) ?_
  (repeat' (first | (apply r_load; exact rfl; exact rfl; exact rfl; exact rfl; (first | exact at0 | exact at1 | exact at2 | exact at3 | exact at4 | exact at5 | exact at6 | exact at7 | exact at8 | exact at9); exact rfl)))
  refine r_and7 rfl (by first | rfl | exact ⟨rfl, rfl⟩) rfl rfl ?_
  skip
  refine r_idxArr (j := 2) rfl (by first | rfl | exact ⟨rfl, rfl⟩) rfl rfl (by decide) ?_
  (repeat' (first | (apply r_load; exact rfl; exact rfl; exact rfl; exact rfl; (first | exact at0 | exact at1 | exact at2 | exact at3 | exact at4 | exact at5 | exact at6 | exact at7 | exact at8 | exact at9); exact rfl)))
  refine r_and7 rfl (by first | rfl | exact ⟨rfl, rfl⟩) rfl rfl ?_
  skip
  refine r_idxArr (j := 3) rfl (by first | rfl | exact ⟨rfl, rfl⟩) rfl rfl (by decide) ?_
  (repeat' (first | (apply r_load; exact rfl; exact rfl; exact rfl; exact rfl; (first | exact at0 | exact at1 | exact at2 | exact at3 | exact at4 | exact at5 | exact at6 | exact at7 | exact at8 | exact at9); exact rfl)))
  refine r_and7 rfl (by first | rfl | exact ⟨rfl, rfl⟩) rfl rfl ?_
  skip
  refine r_callA (A := [_, _, _, _, _, _, _, _, _]) (B := Ng ++ (Nf ++ (Ne ++ (Nd ++ (Nc ++ (Nj ++ (Nb ++ (Na ++ ([]))))))))) rfl (by first | trivial | exact ⟨rfl, rfl⟩) rfl (by first | rfl | exact ⟨rfl, rfl⟩) rfl (fun w hk hs => c_refPartA w _ mj (q0 % 8) (q1 % 8) (q2 % 8) (q3 % 8) rtj ⟨_, rfl, hOj.rd.at hk hs (by (repeat' first | exact HSub.nil _ | exact HSub.hd | exact HSub.in0 | exact HSub.refl _ | refine HSub.skip ?_ | refine HSub.skipN ?_))⟩ (i64_mod8 _) (i64_mod8 _)) fun w v w' _ _ _ hR => ?_
  obtain ⟨mh, hmh⟩ : ∃ m, m = (partA mj (q0 % 8) (q1 % 8) (q2 % 8) (q3 % 8)).1 := ⟨_, rfl⟩
  obtain ⟨zh, hzh⟩ : ∃ z, z = (partA mj (q0 % 8) (q1 % 8) (q2 % 8) (q3 % 8)).2 := ⟨_, rfl⟩
  have rth : RtZ mh := by rw [hmh]; exact partA_rt rtj
  rw [← hmh, ← hzh] at hR
  obtain ⟨Nh, uh, rfl, hNh, Eh, rfl, hOh⟩ := hR
  obtain ⟨Ah, ch, rfl⟩ := hOh.form
  refine ⟨Nh, hNh, ?_⟩
  (repeat' (first | refine JO.nil ?_ | (apply r_move; exact rfl; exact rfl; exact rfl) | (apply r_assign; exact rfl; exact rfl; exact rfl) | (apply r_extract; exact rfl; exact rfl; exact rfl; exact rfl) | (apply r_storeN; exact rfl; (first | exact trivial | exact ⟨rfl, rfl⟩); exact rfl; exact rfl; (first | exact at0 | exact at1 | exact at2 | exact at3 | exact at4 | exact at5 | exact at6 | exact at7 | exact at8 | exact at9); exact rfl; exact rfl; exact rfl) | (apply r_allocZ; exact rfl; exact rfl; exact rfl; intro _) | (apply r_storeN; exact rfl; (first | exact trivial | exact ⟨rfl, rfl⟩); exact rfl; exact rfl; (first | exact at0 | exact at1 | exact at2 | exact at3 | exact at4 | exact at5 | exact at6 | exact at7 | exact at8 | exact at9); exact rfl; exact rfl; exact rfl)))
  rename_i bh
  refine JX.part (F' := [(27, .bool zh), (26, .pointer (some ⟨bh, 0, none⟩)), (25, .bool zg), (24, .pointer (some ⟨bg, 0, none⟩)), (23, .bool zf), (22, .pointer (some ⟨bf, 0, none⟩)), (21, .bool ze), (20, .pointer (some ⟨be, 0, none⟩)), (19, .bool zd), (18, .pointer (some ⟨bd, 0, none⟩)), (17, .bool zc), (16, .pointer (some ⟨bc, 0, none⟩)), (9, .pointer (some ⟨bb, 0, none⟩)), (8, .pointer (some ⟨ba, 0, none⟩)), (7, .bool true)]) (H' := [(bh, .cells #[nv mh.r, nv mh.c, .slice Ah mh.e.length ch] 29), (bg, .cells #[nv mg.r, nv mg.c, .slice Ag mg.e.length cg] 29), (bf, .cells #[nv mf.r, nv mf.c, .slice Af mf.e.length cf] 29), (be, .cells #[nv me.r, nv me.c, .slice Ae me.e.length ce] 29), (bd, .cells #[nv md.r, nv md.c, .slice Ad md.e.length cd] 29), (bc, .cells #[nv mc.r, nv mc.c, .slice Ac mc.e.length cc] 29), (bb, .cells #[nv mb.r, nv mb.c, .slice Ab mb.e.length cb] 29), (ba, .cells #[nv ma.r, nv ma.c, .slice Aa ma.e.length ca] 29)] ++ (Nh ++ (Ng ++ (Nf ++ (Ne ++ (Nd ++ (Nc ++ (Nb ++ (Na ++ ([])))))))))) (by repeat first | exact trivial | refine ⟨rfl, ?_⟩) (by (repeat' first | exact HSub.refl _ | exact HSub.nil _ | refine HSub.at 0 rfl ?_ | refine HSub.at 1 rfl ?_ | refine HSub.at 2 rfl ?_ | refine HSub.at 3 rfl ?_ | refine HSub.at 4 rfl ?_ | refine HSub.at 5 rfl ?_ | refine HSub.at 6 rfl ?_ | refine HSub.at 7 rfl ?_ | refine HSub.at 8 rfl ?_ | refine HSub.at 9 rfl ?_ | refine HSub.at 10 rfl ?_ | refine HSub.at 11 rfl ?_ | refine HSub.at 12 rfl ?_ | refine HSub.at 13 rfl ?_ | refine HSub.at 14 rfl ?_ | refine HSub.at 15 rfl ?_ | refine HSub.at 16 rfl ?_ | refine HSub.at 17 rfl ?_ | refine HSub.at 18 rfl ?_ | refine HSub.at 19 rfl ?_ | refine HSub.segH ?_ | refine HSub.skip ?_ | refine HSub.skipN ?_)) ?_
  refine JX.thenN ?_
  (repeat' (first | refine JC.seq ?_ | refine JC.opsD ?_ | (apply r_fieldAddr; exact rfl; exact rfl; exact rfl) | (apply r_load; exact rfl; exact rfl; exact rfl; exact rfl; (first | exact at0 | exact at1 | exact at2 | exact at3 | exact at4 | exact at5 | exact at6 | exact at7 | exact at8 | exact at9); exact rfl)))
  refine r_callA (A := [_, _, _, _, _, _, _, _]) (B := Nh ++ (Ng ++ (Nf ++ (Ne ++ (Nd ++ (Nc ++ (Nb ++ (Na ++ ([]))))))))) rfl (by first | trivial | exact ⟨rfl, rfl⟩) rfl (by first | rfl | exact ⟨rfl, rfl⟩) rfl (fun w hk hs => c_Zero (ma.r) (195) (by omega) (by omega) w) fun w v w' _ _ _ hR => ?_
  obtain ⟨Nv, Ev, hNv, rfl, hOv⟩ := hR
  obtain ⟨Av, cv, rfl⟩ := hOv.form
  refine ⟨Nv, hNv, ?_⟩
  have hOv2 : OwnZ Nv (.slice Av (ma.r * 195) cv) (zeroZ (ma.r) (195)).e.length (zeroZ (ma.r) (195)).e := by
    rw [zero_len]; exact hOv
  skip
  refine r_callA (A := [_, _, _, _, _, _, _, _]) (B := Nv ++ (Nh ++ (Ng ++ (Nf ++ (Ne ++ (Nd ++ (Nc ++ (Nb ++ (Na ++ ([])))))))))) rfl (by first | trivial | exact ⟨rfl, rfl⟩) rfl (by first | rfl | exact ⟨rfl, rfl⟩) rfl (fun w hk hs => c_Zero (ma.r) (mb.c) (by omega) (by omega) w) fun w v w' _ _ _ hR => ?_
  obtain ⟨Nw, Ew, hNw, rfl, hOw⟩ := hR
  obtain ⟨Aw, cw, rfl⟩ := hOw.form
  refine ⟨Nw, hNw, ?_⟩
  have hOw2 : OwnZ Nw (.slice Aw (ma.r * mb.c) cw) (zeroZ (ma.r) (mb.c)).e.length (zeroZ (ma.r) (mb.c)).e := by
    rw [zero_len]; exact hOw
  skip
  refine r_callA (A := [_, _, _, _, _, _, _, _]) (B := Nw ++ (Nv ++ (Nh ++ (Ng ++ (Nf ++ (Ne ++ (Nd ++ (Nc ++ (Nb ++ (Na ++ ([]))))))))))) rfl (by first | trivial | exact ⟨rfl, rfl⟩) rfl (by first | rfl | exact ⟨rfl, rfl⟩) rfl (fun w hk hs => c_JoinA w _ _ (zeroZ ma.r 195) (zeroZ ma.r mb.c) (zof_rt rta.r (by omega)) (zof_rt rta.r rtb.c) ⟨_, rfl, hOv2.rd.at hk hs (by (repeat' first | exact HSub.nil _ | exact HSub.hd | exact HSub.in0 | exact HSub.refl _ | refine HSub.skip ?_ | refine HSub.skipN ?_))⟩ ⟨_, rfl, hOw2.rd.at hk hs (by (repeat' first | exact HSub.nil _ | exact HSub.hd | exact HSub.in0 | exact HSub.refl _ | refine HSub.skip ?_ | refine HSub.skipN ?_))⟩) fun w v w' _ _ _ hR => ?_
  obtain ⟨mk, hmk⟩ : ∃ m, m = (joinA (zeroZ ma.r 195) (zeroZ ma.r mb.c)).1 := ⟨_, rfl⟩
  obtain ⟨zk, hzk⟩ : ∃ z, z = (joinA (zeroZ ma.r 195) (zeroZ ma.r mb.c)).2 := ⟨_, rfl⟩
  have rtk : RtZ mk := by rw [hmk]; exact joinA_rt (zof_rt rta.r (by omega))
  rw [← hmk, ← hzk] at hR
  obtain ⟨Nk, uk, rfl, hNk, Ek, rfl, hOk⟩ := hR
  obtain ⟨Ak, ck, rfl⟩ := hOk.form
  refine ⟨Nk, hNk, ?_⟩
  (repeat' (first | refine JO.nil ?_ | (apply r_move; exact rfl; exact rfl; exact rfl) | (apply r_assign; exact rfl; exact rfl; exact rfl) | (apply r_extract; exact rfl; exact rfl; exact rfl; exact rfl) | (apply r_storeN; exact rfl; (first | exact trivial | exact ⟨rfl, rfl⟩); exact rfl; exact rfl; (first | exact at0 | exact at1 | exact at2 | exact at3 | exact at4 | exact at5 | exact at6 | exact at7 | exact at8 | exact at9); exact rfl; exact rfl; exact rfl) | (apply r_allocZ; exact rfl; exact rfl; exact rfl; intro _) | (apply r_storeN; exact rfl; (first | exact trivial | exact ⟨rfl, rfl⟩); exact rfl; exact rfl; (first | exact at0 | exact at1 | exact at2 | exact at3 | exact at4 | exact at5 | exact at6 | exact at7 | exact at8 | exact at9); exact rfl; exact rfl; exact rfl)))
  rename_i bk
  refine JX.part (F' := [(29, .bool zk), (28, .pointer (some ⟨bk, 0, none⟩)), (27, .bool zh), (26, .pointer (some ⟨bh, 0, none⟩)), (25, .bool zg), (24, .pointer (some ⟨bg, 0, none⟩)), (23, .bool zf), (22, .pointer (some ⟨bf, 0, none⟩)), (21, .bool ze), (20, .pointer (some ⟨be, 0, none⟩)), (19, .bool zd), (18, .pointer (some ⟨bd, 0, none⟩)), (17, .bool zc), (16, .pointer (some ⟨bc, 0, none⟩)), (9, .pointer (some ⟨bb, 0, none⟩)), (8, .pointer (some ⟨ba, 0, none⟩)), (7, .bool true)]) (H' := [(bk, .cells #[nv mk.r, nv mk.c, .slice Ak mk.e.length ck] 29), (bh, .cells #[nv mh.r, nv mh.c, .slice Ah mh.e.length ch] 29), (bg, .cells #[nv mg.r, nv mg.c, .slice Ag mg.e.length cg] 29), (bf, .cells #[nv mf.r, nv mf.c, .slice Af mf.e.length cf] 29), (be, .cells #[nv me.r, nv me.c, .slice Ae me.e.length ce] 29), (bd, .cells #[nv md.r, nv md.c, .slice Ad md.e.length cd] 29), (bc, .cells #[nv mc.r, nv mc.c, .slice Ac mc.e.length cc] 29), (bb, .cells #[nv mb.r, nv mb.c, .slice Ab mb.e.length cb] 29), (ba, .cells #[nv ma.r, nv ma.c, .slice Aa ma.e.length ca] 29)] ++ (Nk ++ (Nh ++ (Ng ++ (Nf ++ (Ne ++ (Nd ++ (Nc ++ (Nb ++ (Na ++ ([]))))))))))) (by repeat first | exact trivial | refine ⟨rfl, ?_⟩) (by (repeat' first | exact HSub.refl _ | exact HSub.nil _ | refine HSub.at 0 rfl ?_ | refine HSub.at 1 rfl ?_ | refine HSub.at 2 rfl ?_ | refine HSub.at 3 rfl ?_ | refine HSub.at 4 rfl ?_ | refine HSub.at 5 rfl ?_ | refine HSub.at 6 rfl ?_ | refine HSub.at 7 rfl ?_ | refine HSub.at 8 rfl ?_ | refine HSub.at 9 rfl ?_ | refine HSub.at 10 rfl ?_ | refine HSub.at 11 rfl ?_ | refine HSub.at 12 rfl ?_ | refine HSub.at 13 rfl ?_ | refine HSub.at 14 rfl ?_ | refine HSub.at 15 rfl ?_ | refine HSub.at 16 rfl ?_ | refine HSub.at 17 rfl ?_ | refine HSub.at 18 rfl ?_ | refine HSub.at 19 rfl ?_ | refine HSub.segH ?_ | refine HSub.skip ?_ | refine HSub.skipN ?_)) ?_
  refine JX.thenN ?_
  (repeat' (first | refine JC.seq ?_ | refine JC.ops ?_ | (apply r_move; exact rfl; exact rfl; exact rfl) | (apply r_loadN; exact rfl; exact rfl; exact rfl; exact rfl; (first | exact at0 | exact at1 | exact at2 | exact at3 | exact at4 | exact at5 | exact at6 | exact at7 | exact at8 | exact at9); exact rfl)))
  have hcd : mc = md := by rw [hmc, hmd, hmx, hmy]
  have zcd : zc = zd := by rw [hzc, hzd, hmx, hmy]
  have hef : me = mf := by rw [hme, hmf]
  have zef : ze = zf := by rw [hze, hzf]
  have hgh : mg = mh := by rw [hmg, hmh]
  have zgh : zg = zh := by rw [hzg, hzh]
  have hk5 : zk = decide (mb.c ≤ 5) := by rw [hzk]; exact join_wide2 _ _
  have hkz : ¬ mb.c ≤ 5 → mk = zM := fun h => by rw [hmk]; exact join_wide1 _ _ h
  by_cases h5 : mb.c ≤ 5
  · rw [decide_eq_true h5] at hk5
    subst hk5
    refine r_call0 (by first | trivial | exact ⟨rfl, rfl⟩) rfl (by first | rfl | exact ⟨rfl, rfl⟩) rfl (fun w hk hs => same_t (m := mc) rtc ⟨_, rfl, hOc.rd.at hk hs (by (repeat' first | exact HSub.nil _ | exact HSub.hd | exact HSub.in0 | exact HSub.refl _ | refine HSub.skip ?_ | refine HSub.skipN ?_))⟩ (by rw [hcd]; exact ⟨_, rfl, hOd.rd.at hk hs (by (repeat' first | exact HSub.nil _ | exact HSub.hd | exact HSub.in0 | exact HSub.refl _ | refine HSub.skip ?_ | refine HSub.skipN ?_))⟩)) fun w v w' _ _ _ hR => ?_
    subst hR
    (repeat' (first | (apply r_move; exact rfl; exact rfl; exact rfl) | (apply r_pickT; exact rfl; exact rfl; exact rfl; exact rfl) | (apply r_eqB; exact rfl; exact rfl; exact rfl; exact rfl)))
    rw [zcd]
    simp only [BEq.rfl]
    (repeat' (first | (apply r_loadN; exact rfl; exact rfl; exact rfl; exact rfl; (first | exact at0 | exact at1 | exact at2 | exact at3 | exact at4 | exact at5 | exact at6 | exact at7 | exact at8 | exact at9); exact rfl)))
    refine r_call0 (by first | trivial | exact ⟨rfl, rfl⟩) rfl (by first | rfl | exact ⟨rfl, rfl⟩) rfl (fun w hk hs => same_t (m := me) rte ⟨_, rfl, hOe.rd.at hk hs (by (repeat' first | exact HSub.nil _ | exact HSub.hd | exact HSub.in0 | exact HSub.refl _ | refine HSub.skip ?_ | refine HSub.skipN ?_))⟩ (by rw [hef]; exact ⟨_, rfl, hOf.rd.at hk hs (by (repeat' first | exact HSub.nil _ | exact HSub.hd | exact HSub.in0 | exact HSub.refl _ | refine HSub.skip ?_ | refine HSub.skipN ?_))⟩)) fun w v w' _ _ _ hR => ?_
    subst hR
    (repeat' (first | (apply r_move; exact rfl; exact rfl; exact rfl) | (apply r_pickT; exact rfl; exact rfl; exact rfl; exact rfl) | (apply r_eqB; exact rfl; exact rfl; exact rfl; exact rfl)))
    rw [zef]
    simp only [BEq.rfl]
    (repeat' (first | (apply r_loadN; exact rfl; exact rfl; exact rfl; exact rfl; (first | exact at0 | exact at1 | exact at2 | exact at3 | exact at4 | exact at5 | exact at6 | exact at7 | exact at8 | exact at9); exact rfl)))
    refine r_call0 (by first | trivial | exact ⟨rfl, rfl⟩) rfl (by first | rfl | exact ⟨rfl, rfl⟩) rfl (fun w hk hs => same_t (m := mg) rtg ⟨_, rfl, hOg.rd.at hk hs (by (repeat' first | exact HSub.nil _ | exact HSub.hd | exact HSub.in0 | exact HSub.refl _ | refine HSub.skip ?_ | refine HSub.skipN ?_))⟩ (by rw [hgh]; exact ⟨_, rfl, hOh.rd.at hk hs (by (repeat' first | exact HSub.nil _ | exact HSub.hd | exact HSub.in0 | exact HSub.refl _ | refine HSub.skip ?_ | refine HSub.skipN ?_))⟩)) fun w v w' _ _ _ hR => ?_
    subst hR
    (repeat' (first | (apply r_move; exact rfl; exact rfl; exact rfl) | (apply r_pickT; exact rfl; exact rfl; exact rfl; exact rfl) | (apply r_eqB; exact rfl; exact rfl; exact rfl; exact rfl)))
    rw [zgh]
    simp only [BEq.rfl]
    (repeat' (first | refine JO.nil ?_ | (apply r_move; exact rfl; exact rfl; exact rfl) | (apply r_fieldAddr; exact rfl; exact rfl; exact rfl) | (apply r_assign; exact rfl; exact rfl; exact rfl) | (apply r_load; exact rfl; exact rfl; exact rfl; exact rfl; (first | exact at0 | exact at1 | exact at2 | exact at3 | exact at4 | exact at5 | exact at6 | exact at7 | exact at8 | exact at9); exact rfl) | (apply r_pickT; exact rfl; exact rfl; exact rfl; exact rfl) | (apply r_leq; exact rfl; exact rfl; exact rfl; exact rfl; all_goals intro hc; all_goals try (exfalso; omega)) | (apply r_eqBS; exact rfl; exact rfl; exact rfl; exact rfl) | (apply r_skip; exact rfl; exact rfl; (first | (intro h; cases h; done) | (intro _; rfl)))))
    all_goals try (exfalso; omega)
    refine JX.thenN ?_
    (repeat' (first | refine JC.ret ?_))
    exact JX.ret1 rfl (fun a w' st => ⟨st.kp, rfl⟩)
  · rw [decide_eq_false h5] at hk5
    subst hk5
    refine r_call0 (by first | trivial | exact ⟨rfl, rfl⟩) rfl (by first | rfl | exact ⟨rfl, rfl⟩) rfl (fun w hk hs => same_t (m := mc) rtc ⟨_, rfl, hOc.rd.at hk hs (by (repeat' first | exact HSub.nil _ | exact HSub.hd | exact HSub.in0 | exact HSub.refl _ | refine HSub.skip ?_ | refine HSub.skipN ?_))⟩ (by rw [hcd]; exact ⟨_, rfl, hOd.rd.at hk hs (by (repeat' first | exact HSub.nil _ | exact HSub.hd | exact HSub.in0 | exact HSub.refl _ | refine HSub.skip ?_ | refine HSub.skipN ?_))⟩)) fun w v w' _ _ _ hR => ?_
    subst hR
    (repeat' (first | (apply r_move; exact rfl; exact rfl; exact rfl) | (apply r_pickT; exact rfl; exact rfl; exact rfl; exact rfl) | (apply r_eqB; exact rfl; exact rfl; exact rfl; exact rfl)))
    rw [zcd]
    simp only [BEq.rfl]
    (repeat' (first | (apply r_loadN; exact rfl; exact rfl; exact rfl; exact rfl; (first | exact at0 | exact at1 | exact at2 | exact at3 | exact at4 | exact at5 | exact at6 | exact at7 | exact at8 | exact at9); exact rfl)))
    refine r_call0 (by first | trivial | exact ⟨rfl, rfl⟩) rfl (by first | rfl | exact ⟨rfl, rfl⟩) rfl (fun w hk hs => same_t (m := me) rte ⟨_, rfl, hOe.rd.at hk hs (by (repeat' first | exact HSub.nil _ | exact HSub.hd | exact HSub.in0 | exact HSub.refl _ | refine HSub.skip ?_ | refine HSub.skipN ?_))⟩ (by rw [hef]; exact ⟨_, rfl, hOf.rd.at hk hs (by (repeat' first | exact HSub.nil _ | exact HSub.hd | exact HSub.in0 | exact HSub.refl _ | refine HSub.skip ?_ | refine HSub.skipN ?_))⟩)) fun w v w' _ _ _ hR => ?_
    subst hR
    (repeat' (first | (apply r_move; exact rfl; exact rfl; exact rfl) | (apply r_pickT; exact rfl; exact rfl; exact rfl; exact rfl) | (apply r_eqB; exact rfl; exact rfl; exact rfl; exact rfl)))
    rw [zef]
    simp only [BEq.rfl]
    (repeat' (first | (apply r_loadN; exact rfl; exact rfl; exact rfl; exact rfl; (first | exact at0 | exact at1 | exact at2 | exact at3 | exact at4 | exact at5 | exact at6 | exact at7 | exact at8 | exact at9); exact rfl)))
    refine r_call0 (by first | trivial | exact ⟨rfl, rfl⟩) rfl (by first | rfl | exact ⟨rfl, rfl⟩) rfl (fun w hk hs => same_t (m := mg) rtg ⟨_, rfl, hOg.rd.at hk hs (by (repeat' first | exact HSub.nil _ | exact HSub.hd | exact HSub.in0 | exact HSub.refl _ | refine HSub.skip ?_ | refine HSub.skipN ?_))⟩ (by rw [hgh]; exact ⟨_, rfl, hOh.rd.at hk hs (by (repeat' first | exact HSub.nil _ | exact HSub.hd | exact HSub.in0 | exact HSub.refl _ | refine HSub.skip ?_ | refine HSub.skipN ?_))⟩)) fun w v w' _ _ _ hR => ?_
    subst hR
    (repeat' (first | (apply r_move; exact rfl; exact rfl; exact rfl) | (apply r_pickT; exact rfl; exact rfl; exact rfl; exact rfl) | (apply r_eqB; exact rfl; exact rfl; exact rfl; exact rfl)))
    rw [zgh]
    simp only [BEq.rfl]
    (repeat' (first | (apply r_move; exact rfl; exact rfl; exact rfl) | (apply r_fieldAddr; exact rfl; exact rfl; exact rfl) | (apply r_load; exact rfl; exact rfl; exact rfl; exact rfl; (first | exact at0 | exact at1 | exact at2 | exact at3 | exact at4 | exact at5 | exact at6 | exact at7 | exact at8 | exact at9); exact rfl) | (apply r_loadN; exact rfl; exact rfl; exact rfl; exact rfl; (first | exact at0 | exact at1 | exact at2 | exact at3 | exact at4 | exact at5 | exact at6 | exact at7 | exact at8 | exact at9); exact rfl) | (apply r_pickT; exact rfl; exact rfl; exact rfl; exact rfl) | (apply r_leq; exact rfl; exact rfl; exact rfl; exact rfl; all_goals intro hc; all_goals try (exfalso; omega)) | (apply r_eqBS; exact rfl; exact rfl; exact rfl; exact rfl) | (apply r_buildL; exact rfl; exact rfl; exact rfl; exact rfl; exact rfl)))
    all_goals try (exfalso; omega)
    refine r_call0 (by first | trivial | exact ⟨rfl, rfl⟩) rfl (by first | rfl | exact ⟨rfl, rfl⟩) rfl (fun w hk hs => same_t (m := mk) rtk ⟨_, rfl, hOk.rd.at hk hs (by (repeat' first | exact HSub.nil _ | exact HSub.hd | exact HSub.in0 | exact HSub.refl _ | refine HSub.skip ?_ | refine HSub.skipN ?_))⟩ (by rw [hkz h5]; exact OwnM.new OwnM.zero (New.nil w w))) fun w v w' _ _ _ hR => ?_
    subst hR
    (repeat' (first | refine JO.nil ?_ | (apply r_assign; exact rfl; exact rfl; exact rfl) | (apply r_pickT; exact rfl; exact rfl; exact rfl; exact rfl) | (apply r_pickF; exact rfl; exact rfl; exact rfl; exact rfl)))
    refine JX.thenN ?_
    (repeat' (first | refine JC.ret ?_))
    exact JX.ret1 rfl (fun a w' st => ⟨st.kp, rfl⟩)

end Go.Proofs.YtdlmnloikakjpaaDoor

/-
  LawMatrixParts: for every input the call of 'cocycle/cocyclelaw02.MatrixParts' returns true, and every argument reads afterwards as it read before. Conditions: none. The card.
-/
namespace Go.Proofs.YtdlmnloikakjpaaDoor.matrixParts
open Go Go.RowKit Go.ChangeShapes Go.WideShapes Go.ChangeAt
set_option linter.unusedSimpArgs false
set_option linter.unusedVariables false
set_option linter.unusedSectionVars false

set_option maxRecDepth 100000 in
theorem lifted (os : Os) (started : os.Started) (H : Type) (enc : TypeId × Value → H) :
    ReturnsInHanded {} Tryd.checked os 3 .any (fun w args => (Rows.matrixPartsSpec.pre enc Tryd.prog Tryd.f3 [] false w args ∧ laidMetH Tryd.prog Rows.matrixPartsRow.laid w) ∧ sizedMet enc Tryd.prog Tryd.f3 (OpenSpec.ofChange Rows.matrixPartsSpec) false w args)
      (Rows.matrixPartsSpec.post enc Tryd.prog Tryd.f3 false true false false) := by
  refine returnsInHanded_of_change_and (C := Tryd.checked) (X := fun w _ => laidMetH Tryd.prog Rows.matrixPartsRow.laid w) (fun _ _ _ hh h => h.of_heap hh) own started (by kernel_rfl) Tryd.func3
    (ChangeSpec.witness_shaped (enc := enc) (C := Tryd.checked) (os := os) (X := fun w _ => laidMetH Tryd.prog Rows.matrixPartsRow.laid w) false (World.laidAll Tryd.prog os Rows.matrixPartsRow.laid) #[.agg #[.int .u8 0, .int .u8 0, .slice none 0 0], .agg #[.int .u8 0, .int .u8 0, .slice none 0 0], .agg #[.int .i64 0, .int .i64 0, .int .i64 0, .int .i64 0]] 8 (World.laidAll_os _ _ _)
      (World.shaped_of_ZipB (by kernel_rfl) (by kernel_rfl)) (by kernel_rfl) (by kernel_rfl) (by kernel_rfl)
      (by rw [MakeChecks.laidMetH_plain _ _ _ (by kernel_rfl)]; exact laidMet_laidAll _ (by kernel_rfl) (by kernel_rfl))) ?_
  intro W base args ds gs before hval0 hW _ hwt0 hL _
  have hval : ∀ (j : Nat) t v, Tryd.f3.params[j]? = some t → args[j]? = some v → Value.okWide Tryd.prog W .any base t v := hval0
  have hW' := hW
  obtain ⟨p, q, hA0, hV, rfl, hfz, hnd⟩ := hW
  have hA : DataW.TrodAll enc Tryd.prog W 0 (fun _ => true) true Tryd.f3.params.toList args.toList ds p := hA0
  have hwt : (DataW.weightsEach Tryd.prog (Tryd.f3.params.toList ++ Rows.matrixPartsSpec.plain.varTypes Tryd.prog) (ds ++ gs)).all (· ≤ reachBytes) = true := hwt0
  have hwt1 := fun n hn => of_decide_eq_true (List.all_eq_true.1 hwt n hn)
  rw [Tryd.params3] at hA hval hwt1
  obtain ⟨v0, vs0, d0, ds0, p0, q0, hargs, rfl, rfl, h0, r0⟩ := trodAll_cons hA
  obtain ⟨v1, vs1, d1, ds1, p1, q1, rfl, rfl, rfl, h1, r1⟩ := trodAll_cons r0
  obtain ⟨v2, vs2, d2, ds2, p2, q2, rfl, rfl, rfl, h2, r2⟩ := trodAll_cons r1
  obtain ⟨rfl, rfl, rfl⟩ := trodAll_nil r2
  obtain rfl : args = #[v0, v1, v2] := by cases args; simp_all
  obtain ⟨rfl, rfl⟩ := trodVars_none hV
  have k0 := h0
  have lt0 : ∀ x ∈ p0, x.block < W.heap.size := by obtain ⟨m, hm⟩ := k0; exact DataW.trod_lt m _ _ _ hm
  obtain ⟨R0, C0, L0, s0⟩ := open_shape (hval 0 24 v0 rfl rfl) h0
  have k1 := h1
  have lt1 : ∀ x ∈ p1, x.block < W.heap.size := by obtain ⟨m, hm⟩ := k1; exact DataW.trod_lt m _ _ _ hm
  obtain ⟨R1, C1, L1, s1⟩ := open_shape (hval 1 24 v1 rfl rfl) h1
  have k2 := h2
  have lt2 : ∀ x ∈ p2, x.block < W.heap.size := by obtain ⟨m, hm⟩ := k2; exact DataW.trod_lt m _ _ _ hm
  obtain ⟨x2, y2, z2, u2, rfl, s2, t2, r2', j2⟩ := open_quad (hval 2 25 v2 rfl rfl) h2
  clear hA0 hval0
  refine (c_MatrixParts W v0 v1 R0 C0 L0 R1 C1 L1 x2 y2 z2 u2 s0 s1 s2 t2 r2' j2).mono fun e W' he => ?_
  cases e with
  | panicked _ => exact he.elim
  | outgrown => exact he.elim
  | returned u =>
    obtain ⟨hk, rfl⟩ := he
    have bel := hk.below
    exact ⟨_, rfl, _, _, _, [], _, [], hW', trodAll_mk1 (shut_bool Tryd.underlying4 _), (trodAll_cons_mk (Below.trod laidOut (by kernel_rfl) (of_decide_eq_true (by kernel_rfl)) k0 bel lt0) (trodAll_cons_mk (Below.trod laidOut (by kernel_rfl) (of_decide_eq_true (by kernel_rfl)) k1 bel lt1) (trodAll_cons_mk (Below.trod laidOut (by kernel_rfl) (of_decide_eq_true (by kernel_rfl)) k2 bel lt2) trodAll_mk0))), rfl, bel.frame _, fun h => by cases h⟩

theorem holds : Rows.MatrixPartsSaid :=
  OpenClaim.holds_of_wide 3 Tryd.f3 rfl rfl rfl rfl rfl rfl rfl ⟨rfl, rfl, rfl, rfl, rfl⟩ rfl rfl rfl rfl rfl (by kernel_rfl) Tryd.func3 (by kernel_rfl)
    (of_decide_eq_true (by kernel_rfl)) (by unfold Func.isWrapper; first | (rw [if_pos (by decide +kernel)]; kernel_rfl) | (rw [if_neg (by decide +kernel)]; exact ⟨rfl, rfl⟩))
    (fun os started H enc _ => lifted os started H enc)

theorem proved : Rows.MatrixPartsCardSaid :=
  Claim7.holds_tied_plain_at .later [] [.data, .pinned] true (true, "1e720b878859d18141ea40e2dc597df34bde83979d72dc5a8b5bc54d7198a929") false holds (fun _ h => by cases h) (by kernel_rfl) (fun _ h => by cases h) matrixParts_row_tie rfl ⟨rfl, rfl⟩ (by kernel_rfl) rfl
    (fun f fn hf hfn => by
      obtain rfl : f = 3 := Option.some.inj ((show Tryd.prog.funcNamed "cocycle/cocyclelaw02.MatrixParts" = some 3 by kernel_rfl).symm.trans hf) |>.symm
      obtain rfl : fn = Tryd.f3 := (Option.some.inj (Tryd.func3.symm.trans hfn)).symm
      exact ⟨by kernel_rfl, fun j t ht => by
        rw [Tryd.params3] at ht
        have hm : t ∈ [24, 25] := by simpa using Array.mem_of_getElem? ht
        have hall : ([24, 25].all fun u => !Tryd.prog.wantsStandIn u) = true := by kernel_rfl
        exact (show Tryd.prog.wantsStandIn t = false by simpa using List.all_eq_true.1 hall t hm)⟩)
    (by kernel_rfl)

end Go.Proofs.YtdlmnloikakjpaaDoor.matrixParts

