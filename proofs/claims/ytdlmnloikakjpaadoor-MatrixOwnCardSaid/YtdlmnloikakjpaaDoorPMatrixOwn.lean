import Derived.Test.YtdlmnloikakjpaaDoorMh
import Derived.Test.YtdlmnloikakjpaaDoorMj
import Derived.Test.YtdlmnloikakjpaaDoorTie
import Derived.Test.YtdlmnloikakjpaaDoorCards
import Derived.Shelf.Lay
import Derived.Lay
import Derived.LaidOnce
import Derived.SevenTiedAt
/- The law MatrixOwn. ROWZ -/
namespace Go.Proofs.YtdlmnloikakjpaaDoor
open Go Go.RowKit
set_option linter.unusedSimpArgs false
set_option linter.unusedVariables false
set_option linter.unusedSectionVars false

theorem shc (C : Nat) : C % 7 ≤ 6 := by have := Nat.mod_lt C (show 0 < 7 by omega); omega
def Ow (N : SHeap) (A : Option Addr) (n c : Nat) : Prop := ∃ xs : List Int, OwnZ N (.slice A n c) n xs

set_option maxHeartbeats 16000000 in
theorem c_MatrixOwn (w : World) (v0 v1 : Value) (R0 C0 : Nat) (L0 : List Int) (R1 C1 : Nat) (L1 : List Int) (hv0 : IsS w v0 R0 C0 L0) (hv1 : IsS w v1 R1 C1 L1) :
    Calls Tryd.prog 11 #[v0, v1] w (Ret fun v w' => Kp [] w w' ∧ v = .bool true) := by
  have hs0 := hv0
  have hc0 := shc C0
  have hr0 := shc R0
  have hL0 := hv0.2.2.1
  obtain ⟨_, _, _, E0, rfl, _⟩ := hv0
  have hs1 := hv1
  have hc1 := shc C1
  have hr1 := shc R1
  have hL1 := hv1.2.2.1
  obtain ⟨_, _, _, E1, rfl, _⟩ := hv1
  refine calls_of_S [⟨15, 2, [], []⟩, ⟨16, 1, [], []⟩] [] (by simp) [] Tryd.func11 rfl mixed (by kernel_rfl) Tryd.ntmps11 Tryd.results11 rfl ⟨by simp, by simp⟩ (by simp) ?_
  simp only [toS, textOps, toSOp, kindAt, kindOf, odAt, sopsAt, ordOf, zipF]
  (repeat' (first | refine JC.seq ?_ | refine JC.ops ?_ | refine JO.nil ?_ | (apply r_assign; exact rfl; exact rfl; exact rfl) | (apply r_boxA; exact rfl; exact rfl; exact rfl; exact rfl; intro _)))
  rename_i bs0 bs1
  refine JX.thenN ?_
  (repeat' (first | refine JC.seq ?_ | refine JC.ops ?_))
  refine r_call0 trivial rfl rfl rfl (fun w _ _ => c_sanity w) fun w v w' _ _ _ hR => ?_
  subst hR
  (repeat' (first | refine JO.nil ?_ | (apply r_assign; exact rfl; exact rfl; exact rfl)))
  refine JX.part (F' := [(5, .bool true), (3, .pointer (some ⟨bs1, 0, none⟩)), (2, .pointer (some ⟨bs0, 0, none⟩))]) (H' := [(bs1, .cells #[.int .u8 (R1 : Int), .int .u8 (C1 : Int), E1] 24), (bs0, .cells #[.int .u8 (R0 : Int), .int .u8 (C0 : Int), E0] 24)] ++ ([])) (by repeat first | exact trivial | refine ⟨rfl, ?_⟩) (by (repeat' first | exact HSub.refl _ | exact HSub.nil _ | refine HSub.at 0 rfl ?_ | refine HSub.at 1 rfl ?_ | refine HSub.at 2 rfl ?_ | refine HSub.at 3 rfl ?_ | refine HSub.at 4 rfl ?_ | refine HSub.at 5 rfl ?_ | refine HSub.at 6 rfl ?_ | refine HSub.at 7 rfl ?_ | refine HSub.at 8 rfl ?_ | refine HSub.at 9 rfl ?_ | refine HSub.at 10 rfl ?_ | refine HSub.at 11 rfl ?_ | refine HSub.at 12 rfl ?_ | refine HSub.at 13 rfl ?_ | refine HSub.at 14 rfl ?_ | refine HSub.at 15 rfl ?_ | refine HSub.at 16 rfl ?_ | refine HSub.at 17 rfl ?_ | refine HSub.at 18 rfl ?_ | refine HSub.at 19 rfl ?_ | refine HSub.segH ?_ | refine HSub.skip ?_ | refine HSub.skipN ?_)) ?_
  refine JX.thenN ?_
  (repeat' (first | refine JC.seq ?_ | refine JC.ops ?_ | (apply r_loadN; exact rfl; exact rfl; exact rfl; exact rfl; (first | exact at0 | exact at1 | exact at2 | exact at3 | exact at4 | exact at5 | exact at6 | exact at7 | exact at8 | exact at9); exact rfl)))
  refine r_callA (A := [_, _]) (B := []) rfl (by first | trivial | exact ⟨rfl, rfl⟩) rfl (by first | rfl | exact ⟨rfl, rfl⟩) rfl (fun w hk hs => c_Mat w _ R0 C0 L0 (hs0.mono hk)) fun w v w' _ _ _ hR => ?_
  obtain ⟨ma, hma⟩ : ∃ m, m = shMat R0 C0 L0 := ⟨_, rfl⟩
  have rta : RtZ ma := by rw [hma]; exact RtZ.shMat _ _ _
  have bda : BdZ 8 ma := by rw [hma]; exact BdZ.sh hL0 _ _
  rw [← hma] at hR
  obtain ⟨Na, hNa, Ea, rfl, hOa⟩ := hR
  obtain ⟨Aa, ca, rfl⟩ := hOa.form
  refine ⟨Na, hNa, ?_⟩
  (repeat' (first | refine JO.nil ?_ | (apply r_storeN; exact rfl; (first | exact trivial | exact ⟨rfl, rfl⟩); exact rfl; exact rfl; (first | exact at0 | exact at1 | exact at2 | exact at3 | exact at4 | exact at5 | exact at6 | exact at7 | exact at8 | exact at9); exact rfl; exact rfl; exact rfl) | (apply r_allocZ; exact rfl; exact rfl; exact rfl; intro _) | (apply r_storeN; exact rfl; (first | exact trivial | exact ⟨rfl, rfl⟩); exact rfl; exact rfl; (first | exact at0 | exact at1 | exact at2 | exact at3 | exact at4 | exact at5 | exact at6 | exact at7 | exact at8 | exact at9); exact rfl; exact rfl; exact rfl)))
  rename_i ba
  refine JX.part (F' := [(6, .pointer (some ⟨ba, 0, none⟩)), (5, .bool true), (3, .pointer (some ⟨bs1, 0, none⟩)), (2, .pointer (some ⟨bs0, 0, none⟩))]) (H' := [(ba, .cells #[nv ma.r, nv ma.c, .slice Aa ma.e.length ca] 29), (bs1, .cells #[.int .u8 (R1 : Int), .int .u8 (C1 : Int), E1] 24), (bs0, .cells #[.int .u8 (R0 : Int), .int .u8 (C0 : Int), E0] 24)] ++ (Na ++ ([]))) (by repeat first | exact trivial | refine ⟨rfl, ?_⟩) (by (repeat' first | exact HSub.refl _ | exact HSub.nil _ | refine HSub.at 0 rfl ?_ | refine HSub.at 1 rfl ?_ | refine HSub.at 2 rfl ?_ | refine HSub.at 3 rfl ?_ | refine HSub.at 4 rfl ?_ | refine HSub.at 5 rfl ?_ | refine HSub.at 6 rfl ?_ | refine HSub.at 7 rfl ?_ | refine HSub.at 8 rfl ?_ | refine HSub.at 9 rfl ?_ | refine HSub.at 10 rfl ?_ | refine HSub.at 11 rfl ?_ | refine HSub.at 12 rfl ?_ | refine HSub.at 13 rfl ?_ | refine HSub.at 14 rfl ?_ | refine HSub.at 15 rfl ?_ | refine HSub.at 16 rfl ?_ | refine HSub.at 17 rfl ?_ | refine HSub.at 18 rfl ?_ | refine HSub.at 19 rfl ?_ | refine HSub.segH ?_ | refine HSub.skip ?_ | refine HSub.skipN ?_)) ?_
  refine JX.thenN ?_
  (repeat' (first | refine JC.seq ?_ | refine JC.ops ?_ | (apply r_fieldAddr; exact rfl; exact rfl; exact rfl) | (apply r_load; exact rfl; exact rfl; exact rfl; exact rfl; (first | exact at0 | exact at1 | exact at2 | exact at3 | exact at4 | exact at5 | exact at6 | exact at7 | exact at8 | exact at9); exact rfl) | (apply r_loadN; exact rfl; exact rfl; exact rfl; exact rfl; (first | exact at0 | exact at1 | exact at2 | exact at3 | exact at4 | exact at5 | exact at6 | exact at7 | exact at8 | exact at9); exact rfl)))
  have car : ma.r = R0 % 7 := by rw [hma]; rfl
  have cac : ma.c = C0 % 7 := by rw [hma]; rfl
  refine r_callA (A := [_, _, _]) (B := Na ++ ([])) rfl (by first | trivial | exact ⟨rfl, rfl⟩) rfl (by first | rfl | exact ⟨rfl, rfl⟩) rfl (fun w hk hs => c_With w _ R1 C1 (ma.r) (ma.c) L1 (hs1.mono hk) (by omega) (by omega)) fun w v w' _ _ _ hR => ?_
  obtain ⟨mb, hmb⟩ : ∃ m, m = shZ L1 (ma.r) (ma.c) := ⟨_, rfl⟩
  have rtb : RtZ mb := by rw [hmb]; exact RtZ.sh _ (by omega) (by omega)
  have bdb : BdZ 8 mb := by rw [hmb]; exact BdZ.sh hL1 _ _
  rw [← hmb] at hR
  obtain ⟨Nb, hNb, Eb, rfl, hOb⟩ := hR
  obtain ⟨Ab, cb, rfl⟩ := hOb.form
  refine ⟨Nb, hNb, ?_⟩
  (repeat' (first | refine JO.nil ?_ | (apply r_storeN; exact rfl; (first | exact trivial | exact ⟨rfl, rfl⟩); exact rfl; exact rfl; (first | exact at0 | exact at1 | exact at2 | exact at3 | exact at4 | exact at5 | exact at6 | exact at7 | exact at8 | exact at9); exact rfl; exact rfl; exact rfl) | (apply r_allocZ; exact rfl; exact rfl; exact rfl; intro _) | (apply r_storeN; exact rfl; (first | exact trivial | exact ⟨rfl, rfl⟩); exact rfl; exact rfl; (first | exact at0 | exact at1 | exact at2 | exact at3 | exact at4 | exact at5 | exact at6 | exact at7 | exact at8 | exact at9); exact rfl; exact rfl; exact rfl)))
  rename_i bb
  refine JX.part (F' := [(7, .pointer (some ⟨bb, 0, none⟩)), (6, .pointer (some ⟨ba, 0, none⟩)), (5, .bool true), (3, .pointer (some ⟨bs1, 0, none⟩)), (2, .pointer (some ⟨bs0, 0, none⟩))]) (H' := [(bb, .cells #[nv mb.r, nv mb.c, .slice Ab mb.e.length cb] 29), (ba, .cells #[nv ma.r, nv ma.c, .slice Aa ma.e.length ca] 29), (bs1, .cells #[.int .u8 (R1 : Int), .int .u8 (C1 : Int), E1] 24), (bs0, .cells #[.int .u8 (R0 : Int), .int .u8 (C0 : Int), E0] 24)] ++ (Nb ++ (Na ++ ([])))) (by repeat first | exact trivial | refine ⟨rfl, ?_⟩) (by (repeat' first | exact HSub.refl _ | exact HSub.nil _ | refine HSub.at 0 rfl ?_ | refine HSub.at 1 rfl ?_ | refine HSub.at 2 rfl ?_ | refine HSub.at 3 rfl ?_ | refine HSub.at 4 rfl ?_ | refine HSub.at 5 rfl ?_ | refine HSub.at 6 rfl ?_ | refine HSub.at 7 rfl ?_ | refine HSub.at 8 rfl ?_ | refine HSub.at 9 rfl ?_ | refine HSub.at 10 rfl ?_ | refine HSub.at 11 rfl ?_ | refine HSub.at 12 rfl ?_ | refine HSub.at 13 rfl ?_ | refine HSub.at 14 rfl ?_ | refine HSub.at 15 rfl ?_ | refine HSub.at 16 rfl ?_ | refine HSub.at 17 rfl ?_ | refine HSub.at 18 rfl ?_ | refine HSub.at 19 rfl ?_ | refine HSub.segH ?_ | refine HSub.skip ?_ | refine HSub.skipN ?_)) ?_
  refine JX.thenN ?_
  (repeat' (first | refine JC.seq ?_ | refine JC.ops ?_ | (apply r_loadN; exact rfl; exact rfl; exact rfl; exact rfl; (first | exact at0 | exact at1 | exact at2 | exact at3 | exact at4 | exact at5 | exact at6 | exact at7 | exact at8 | exact at9); exact rfl)))
  have cbr : mb.r = ma.r := by rw [hmb]; rfl
  have cbc : mb.c = ma.c := by rw [hmb]; rfl
  refine r_callA (A := [_, _, _, _]) (B := Nb ++ (Na ++ ([]))) rfl (by first | trivial | exact ⟨rfl, rfl⟩) rfl (by first | rfl | exact ⟨rfl, rfl⟩) rfl (fun w hk hs => c_MAdd 8 w _ _ ma mb rta rtb (by omega) (by omega) (by omega) (bda.mono (by decide)) (bdb.mono (by decide)) ⟨_, rfl, hOa.rd.at hk hs (by (repeat' first | exact HSub.nil _ | exact HSub.hd | exact HSub.in0 | exact HSub.refl _ | refine HSub.skip ?_ | refine HSub.skipN ?_))⟩ ⟨_, rfl, hOb.rd.at hk hs (by (repeat' first | exact HSub.nil _ | exact HSub.hd | exact HSub.in0 | exact HSub.refl _ | refine HSub.skip ?_ | refine HSub.skipN ?_))⟩) fun w v w' _ _ _ hR => ?_
  obtain ⟨mg, hmg⟩ : ∃ m, m = addZ ma mb := ⟨_, rfl⟩
  have rtg : RtZ mg := by rw [hmg]; exact zof_rt rta.r rta.c
  have bdg : BdZ 9 mg := by rw [hmg]; exact (BdZ.add (K := 8) (bda.mono (by decide)) (bdb.mono (by decide))).mono (by decide)
  rw [← hmg] at hR
  obtain ⟨Ng, ug, rfl, hNg, Eg, rfl, hOg⟩ := hR
  obtain ⟨Ag, cg, rfl⟩ := hOg.form
  refine ⟨Ng, hNg, ?_⟩
  (repeat' (first | refine JO.nil ?_ | (apply r_move; exact rfl; exact rfl; exact rfl) | (apply r_assign; exact rfl; exact rfl; exact rfl) | (apply r_extract; exact rfl; exact rfl; exact rfl; exact rfl) | (apply r_storeN; exact rfl; (first | exact trivial | exact ⟨rfl, rfl⟩); exact rfl; exact rfl; (first | exact at0 | exact at1 | exact at2 | exact at3 | exact at4 | exact at5 | exact at6 | exact at7 | exact at8 | exact at9); exact rfl; exact rfl; exact rfl) | (apply r_allocZ; exact rfl; exact rfl; exact rfl; intro _) | (apply r_storeN; exact rfl; (first | exact trivial | exact ⟨rfl, rfl⟩); exact rfl; exact rfl; (first | exact at0 | exact at1 | exact at2 | exact at3 | exact at4 | exact at5 | exact at6 | exact at7 | exact at8 | exact at9); exact rfl; exact rfl; exact rfl)))
  rename_i bg
  refine JX.part (F' := [(9, .bool true), (8, .pointer (some ⟨bg, 0, none⟩)), (7, .pointer (some ⟨bb, 0, none⟩)), (6, .pointer (some ⟨ba, 0, none⟩)), (5, .bool true), (3, .pointer (some ⟨bs1, 0, none⟩)), (2, .pointer (some ⟨bs0, 0, none⟩))]) (H' := [(bg, .cells #[nv mg.r, nv mg.c, .slice Ag mg.e.length cg] 29), (bb, .cells #[nv mb.r, nv mb.c, .slice Ab mb.e.length cb] 29), (ba, .cells #[nv ma.r, nv ma.c, .slice Aa ma.e.length ca] 29), (bs1, .cells #[.int .u8 (R1 : Int), .int .u8 (C1 : Int), E1] 24), (bs0, .cells #[.int .u8 (R0 : Int), .int .u8 (C0 : Int), E0] 24)] ++ (Ng ++ (Nb ++ (Na ++ ([]))))) (by repeat first | exact trivial | refine ⟨rfl, ?_⟩) (by (repeat' first | exact HSub.refl _ | exact HSub.nil _ | refine HSub.at 0 rfl ?_ | refine HSub.at 1 rfl ?_ | refine HSub.at 2 rfl ?_ | refine HSub.at 3 rfl ?_ | refine HSub.at 4 rfl ?_ | refine HSub.at 5 rfl ?_ | refine HSub.at 6 rfl ?_ | refine HSub.at 7 rfl ?_ | refine HSub.at 8 rfl ?_ | refine HSub.at 9 rfl ?_ | refine HSub.at 10 rfl ?_ | refine HSub.at 11 rfl ?_ | refine HSub.at 12 rfl ?_ | refine HSub.at 13 rfl ?_ | refine HSub.at 14 rfl ?_ | refine HSub.at 15 rfl ?_ | refine HSub.at 16 rfl ?_ | refine HSub.at 17 rfl ?_ | refine HSub.at 18 rfl ?_ | refine HSub.at 19 rfl ?_ | refine HSub.segH ?_ | refine HSub.skip ?_ | refine HSub.skipN ?_)) ?_
  refine JX.thenN ?_
  (repeat' (first | refine JC.seq ?_ | refine JC.ops ?_ | (apply r_loadN; exact rfl; exact rfl; exact rfl; exact rfl; (first | exact at0 | exact at1 | exact at2 | exact at3 | exact at4 | exact at5 | exact at6 | exact at7 | exact at8 | exact at9); exact rfl)))
  have cgr : mg.r = ma.r := by rw [hmg]; rfl
  have cgc : mg.c = ma.c := by rw [hmg]; rfl
  refine r_callA (A := [_, _, _, _, _]) (B := Ng ++ (Nb ++ (Na ++ ([])))) rfl (by first | trivial | exact ⟨rfl, rfl⟩) rfl (by first | rfl | exact ⟨rfl, rfl⟩) rfl (fun w hk hs => c_Transpose w _ ma rta ⟨_, rfl, hOa.rd.at hk hs (by (repeat' first | exact HSub.nil _ | exact HSub.hd | exact HSub.in0 | exact HSub.refl _ | refine HSub.skip ?_ | refine HSub.skipN ?_))⟩) fun w v w' _ _ _ hR => ?_
  obtain ⟨mt, hmt⟩ : ∃ m, m = trZ ma := ⟨_, rfl⟩
  have rtt : RtZ mt := by rw [hmt]; exact zof_rt rta.c rta.r
  have bdt : BdZ 8 mt := by rw [hmt]; exact BdZ.tr bda
  rw [← hmt] at hR
  obtain ⟨Nt, hNt, Et, rfl, hOt⟩ := hR
  obtain ⟨At, ct, rfl⟩ := hOt.form
  refine ⟨Nt, hNt, ?_⟩
  (repeat' (first | refine JO.nil ?_ | (apply r_storeN; exact rfl; (first | exact trivial | exact ⟨rfl, rfl⟩); exact rfl; exact rfl; (first | exact at0 | exact at1 | exact at2 | exact at3 | exact at4 | exact at5 | exact at6 | exact at7 | exact at8 | exact at9); exact rfl; exact rfl; exact rfl) | (apply r_allocZ; exact rfl; exact rfl; exact rfl; intro _) | (apply r_storeN; exact rfl; (first | exact trivial | exact ⟨rfl, rfl⟩); exact rfl; exact rfl; (first | exact at0 | exact at1 | exact at2 | exact at3 | exact at4 | exact at5 | exact at6 | exact at7 | exact at8 | exact at9); exact rfl; exact rfl; exact rfl)))
  rename_i bt
  refine JX.part (F' := [(10, .pointer (some ⟨bt, 0, none⟩)), (9, .bool true), (8, .pointer (some ⟨bg, 0, none⟩)), (7, .pointer (some ⟨bb, 0, none⟩)), (6, .pointer (some ⟨ba, 0, none⟩)), (5, .bool true), (3, .pointer (some ⟨bs1, 0, none⟩)), (2, .pointer (some ⟨bs0, 0, none⟩))]) (H' := [(bt, .cells #[nv mt.r, nv mt.c, .slice At mt.e.length ct] 29), (bg, .cells #[nv mg.r, nv mg.c, .slice Ag mg.e.length cg] 29), (bb, .cells #[nv mb.r, nv mb.c, .slice Ab mb.e.length cb] 29), (ba, .cells #[nv ma.r, nv ma.c, .slice Aa ma.e.length ca] 29), (bs1, .cells #[.int .u8 (R1 : Int), .int .u8 (C1 : Int), E1] 24), (bs0, .cells #[.int .u8 (R0 : Int), .int .u8 (C0 : Int), E0] 24)] ++ (Nt ++ (Ng ++ (Nb ++ (Na ++ ([])))))) (by repeat first | exact trivial | refine ⟨rfl, ?_⟩) (by (repeat' first | exact HSub.refl _ | exact HSub.nil _ | refine HSub.at 0 rfl ?_ | refine HSub.at 1 rfl ?_ | refine HSub.at 2 rfl ?_ | refine HSub.at 3 rfl ?_ | refine HSub.at 4 rfl ?_ | refine HSub.at 5 rfl ?_ | refine HSub.at 6 rfl ?_ | refine HSub.at 7 rfl ?_ | refine HSub.at 8 rfl ?_ | refine HSub.at 9 rfl ?_ | refine HSub.at 10 rfl ?_ | refine HSub.at 11 rfl ?_ | refine HSub.at 12 rfl ?_ | refine HSub.at 13 rfl ?_ | refine HSub.at 14 rfl ?_ | refine HSub.at 15 rfl ?_ | refine HSub.at 16 rfl ?_ | refine HSub.at 17 rfl ?_ | refine HSub.at 18 rfl ?_ | refine HSub.at 19 rfl ?_ | refine HSub.segH ?_ | refine HSub.skip ?_ | refine HSub.skipN ?_)) ?_
  refine JX.thenN ?_
  (repeat' (first | refine JC.seq ?_ | refine JC.ops ?_ | (apply r_loadN; exact rfl; exact rfl; exact rfl; exact rfl; (first | exact at0 | exact at1 | exact at2 | exact at3 | exact at4 | exact at5 | exact at6 | exact at7 | exact at8 | exact at9); exact rfl)))
  refine r_callA (A := [_, _, _, _, _, _]) (B := Nt ++ (Ng ++ (Nb ++ (Na ++ ([]))))) rfl (by first | trivial | exact ⟨rfl, rfl⟩) rfl (by first | rfl | exact ⟨rfl, rfl⟩) rfl (fun w hk hs => c_Join w _ _ ma mb rta rtb (by omega) (by omega) ⟨_, rfl, hOa.rd.at hk hs (by (repeat' first | exact HSub.nil _ | exact HSub.hd | exact HSub.in0 | exact HSub.refl _ | refine HSub.skip ?_ | refine HSub.skipN ?_))⟩ ⟨_, rfl, hOb.rd.at hk hs (by (repeat' first | exact HSub.nil _ | exact HSub.hd | exact HSub.in0 | exact HSub.refl _ | refine HSub.skip ?_ | refine HSub.skipN ?_))⟩) fun w v w' _ _ _ hR => ?_
  obtain ⟨mj, hmj⟩ : ∃ m, m = joinZ ma mb := ⟨_, rfl⟩
  have rtj : RtZ mj := by rw [hmj]; exact zof_rt rta.r (by show ma.c + mb.c ≤ 200; omega)
  have bdj : BdZ 8 mj := by rw [hmj]; exact BdZ.join bda bdb
  rw [← hmj] at hR
  obtain ⟨Nj, uj, rfl, hNj, Ej, rfl, hOj⟩ := hR
  obtain ⟨Aj, cj, rfl⟩ := hOj.form
  refine ⟨Nj, hNj, ?_⟩
  (repeat' (first | refine JO.nil ?_ | (apply r_move; exact rfl; exact rfl; exact rfl) | (apply r_assign; exact rfl; exact rfl; exact rfl) | (apply r_extract; exact rfl; exact rfl; exact rfl; exact rfl) | (apply r_storeN; exact rfl; (first | exact trivial | exact ⟨rfl, rfl⟩); exact rfl; exact rfl; (first | exact at0 | exact at1 | exact at2 | exact at3 | exact at4 | exact at5 | exact at6 | exact at7 | exact at8 | exact at9); exact rfl; exact rfl; exact rfl) | (apply r_allocZ; exact rfl; exact rfl; exact rfl; intro _) | (apply r_storeN; exact rfl; (first | exact trivial | exact ⟨rfl, rfl⟩); exact rfl; exact rfl; (first | exact at0 | exact at1 | exact at2 | exact at3 | exact at4 | exact at5 | exact at6 | exact at7 | exact at8 | exact at9); exact rfl; exact rfl; exact rfl)))
  rename_i bj
  refine JX.part (F' := [(12, .bool true), (11, .pointer (some ⟨bj, 0, none⟩)), (10, .pointer (some ⟨bt, 0, none⟩)), (9, .bool true), (8, .pointer (some ⟨bg, 0, none⟩)), (7, .pointer (some ⟨bb, 0, none⟩)), (6, .pointer (some ⟨ba, 0, none⟩)), (5, .bool true), (3, .pointer (some ⟨bs1, 0, none⟩)), (2, .pointer (some ⟨bs0, 0, none⟩))]) (H' := [(bj, .cells #[nv mj.r, nv mj.c, .slice Aj mj.e.length cj] 29), (bt, .cells #[nv mt.r, nv mt.c, .slice At mt.e.length ct] 29), (bg, .cells #[nv mg.r, nv mg.c, .slice Ag mg.e.length cg] 29), (bb, .cells #[nv mb.r, nv mb.c, .slice Ab mb.e.length cb] 29), (ba, .cells #[nv ma.r, nv ma.c, .slice Aa ma.e.length ca] 29), (bs1, .cells #[.int .u8 (R1 : Int), .int .u8 (C1 : Int), E1] 24), (bs0, .cells #[.int .u8 (R0 : Int), .int .u8 (C0 : Int), E0] 24)] ++ (Nj ++ (Nt ++ (Ng ++ (Nb ++ (Na ++ ([]))))))) (by repeat first | exact trivial | refine ⟨rfl, ?_⟩) (by (repeat' first | exact HSub.refl _ | exact HSub.nil _ | refine HSub.at 0 rfl ?_ | refine HSub.at 1 rfl ?_ | refine HSub.at 2 rfl ?_ | refine HSub.at 3 rfl ?_ | refine HSub.at 4 rfl ?_ | refine HSub.at 5 rfl ?_ | refine HSub.at 6 rfl ?_ | refine HSub.at 7 rfl ?_ | refine HSub.at 8 rfl ?_ | refine HSub.at 9 rfl ?_ | refine HSub.at 10 rfl ?_ | refine HSub.at 11 rfl ?_ | refine HSub.at 12 rfl ?_ | refine HSub.at 13 rfl ?_ | refine HSub.at 14 rfl ?_ | refine HSub.at 15 rfl ?_ | refine HSub.at 16 rfl ?_ | refine HSub.at 17 rfl ?_ | refine HSub.at 18 rfl ?_ | refine HSub.at 19 rfl ?_ | refine HSub.segH ?_ | refine HSub.skip ?_ | refine HSub.skipN ?_)) ?_
  refine JX.thenN ?_
  (repeat' (first | refine JC.seq ?_ | refine JC.ops ?_ | (apply r_fieldAddr; exact rfl; exact rfl; exact rfl) | (apply r_load; exact rfl; exact rfl; exact rfl; exact rfl; (first | exact at0 | exact at1 | exact at2 | exact at3 | exact at4 | exact at5 | exact at6 | exact at7 | exact at8 | exact at9); exact rfl) | (apply r_loadN; exact rfl; exact rfl; exact rfl; exact rfl; (first | exact at0 | exact at1 | exact at2 | exact at3 | exact at4 | exact at5 | exact at6 | exact at7 | exact at8 | exact at9); exact rfl)))
  refine r_callA (A := [_, _, _, _, _, _, _]) (B := Nj ++ (Nt ++ (Ng ++ (Nb ++ (Na ++ ([])))))) rfl (by first | trivial | exact ⟨rfl, rfl⟩) rfl (by first | rfl | exact ⟨rfl, rfl⟩) rfl (fun w hk hs => c_Part w _ ma 0 0 ma.r ma.c rta (by omega) (by omega) ⟨_, rfl, hOa.rd.at hk hs (by (repeat' first | exact HSub.nil _ | exact HSub.hd | exact HSub.in0 | exact HSub.refl _ | refine HSub.skip ?_ | refine HSub.skipN ?_))⟩) fun w v w' _ _ _ hR => ?_
  obtain ⟨mp, hmp⟩ : ∃ m, m = partZ ma 0 0 ma.r ma.c := ⟨_, rfl⟩
  have rtp : RtZ mp := by rw [hmp]; exact zof_rt rta.r rta.c
  have bdp : BdZ 8 mp := by rw [hmp]; exact BdZ.part bda _ _ _ _
  rw [← hmp] at hR
  obtain ⟨Np, up, rfl, hNp, Ep, rfl, hOp⟩ := hR
  obtain ⟨Ap, cp, rfl⟩ := hOp.form
  refine ⟨Np, hNp, ?_⟩
  (repeat' (first | refine JO.nil ?_ | (apply r_move; exact rfl; exact rfl; exact rfl) | (apply r_assign; exact rfl; exact rfl; exact rfl) | (apply r_extract; exact rfl; exact rfl; exact rfl; exact rfl) | (apply r_storeN; exact rfl; (first | exact trivial | exact ⟨rfl, rfl⟩); exact rfl; exact rfl; (first | exact at0 | exact at1 | exact at2 | exact at3 | exact at4 | exact at5 | exact at6 | exact at7 | exact at8 | exact at9); exact rfl; exact rfl; exact rfl) | (apply r_allocZ; exact rfl; exact rfl; exact rfl; intro _) | (apply r_storeN; exact rfl; (first | exact trivial | exact ⟨rfl, rfl⟩); exact rfl; exact rfl; (first | exact at0 | exact at1 | exact at2 | exact at3 | exact at4 | exact at5 | exact at6 | exact at7 | exact at8 | exact at9); exact rfl; exact rfl; exact rfl)))
  rename_i bp
  refine JX.part (F' := [(14, .bool true), (13, .pointer (some ⟨bp, 0, none⟩)), (12, .bool true), (11, .pointer (some ⟨bj, 0, none⟩)), (10, .pointer (some ⟨bt, 0, none⟩)), (9, .bool true), (8, .pointer (some ⟨bg, 0, none⟩)), (7, .pointer (some ⟨bb, 0, none⟩)), (6, .pointer (some ⟨ba, 0, none⟩)), (5, .bool true), (3, .pointer (some ⟨bs1, 0, none⟩)), (2, .pointer (some ⟨bs0, 0, none⟩))]) (H' := [(bp, .cells #[nv mp.r, nv mp.c, .slice Ap mp.e.length cp] 29), (bj, .cells #[nv mj.r, nv mj.c, .slice Aj mj.e.length cj] 29), (bt, .cells #[nv mt.r, nv mt.c, .slice At mt.e.length ct] 29), (bg, .cells #[nv mg.r, nv mg.c, .slice Ag mg.e.length cg] 29), (bb, .cells #[nv mb.r, nv mb.c, .slice Ab mb.e.length cb] 29), (ba, .cells #[nv ma.r, nv ma.c, .slice Aa ma.e.length ca] 29), (bs1, .cells #[.int .u8 (R1 : Int), .int .u8 (C1 : Int), E1] 24), (bs0, .cells #[.int .u8 (R0 : Int), .int .u8 (C0 : Int), E0] 24)] ++ (Np ++ (Nj ++ (Nt ++ (Ng ++ (Nb ++ (Na ++ ([])))))))) (by repeat first | exact trivial | refine ⟨rfl, ?_⟩) (by (repeat' first | exact HSub.refl _ | exact HSub.nil _ | refine HSub.at 0 rfl ?_ | refine HSub.at 1 rfl ?_ | refine HSub.at 2 rfl ?_ | refine HSub.at 3 rfl ?_ | refine HSub.at 4 rfl ?_ | refine HSub.at 5 rfl ?_ | refine HSub.at 6 rfl ?_ | refine HSub.at 7 rfl ?_ | refine HSub.at 8 rfl ?_ | refine HSub.at 9 rfl ?_ | refine HSub.at 10 rfl ?_ | refine HSub.at 11 rfl ?_ | refine HSub.at 12 rfl ?_ | refine HSub.at 13 rfl ?_ | refine HSub.at 14 rfl ?_ | refine HSub.at 15 rfl ?_ | refine HSub.at 16 rfl ?_ | refine HSub.at 17 rfl ?_ | refine HSub.at 18 rfl ?_ | refine HSub.at 19 rfl ?_ | refine HSub.segH ?_ | refine HSub.skip ?_ | refine HSub.skipN ?_)) ?_
  refine JX.thenN ?_
  (repeat' (first | refine JC.seq ?_ | refine JC.ops ?_ | (apply r_loadN; exact rfl; exact rfl; exact rfl; exact rfl; (first | exact at0 | exact at1 | exact at2 | exact at3 | exact at4 | exact at5 | exact at6 | exact at7 | exact at8 | exact at9); exact rfl)))
  refine r_buildG (sz := 3) (vs := [.agg #[nv mg.r, nv mg.c, .slice Ag mg.e.length cg], .agg #[nv mt.r, nv mt.c, .slice At mt.e.length ct], .agg #[nv mj.r, nv mj.c, .slice Aj mj.e.length cj], .agg #[nv mp.r, nv mp.c, .slice Ap mp.e.length cp]]) (cl := [nv mg.r, nv mg.c, .slice Ag mg.e.length cg, nv mt.r, nv mt.c, .slice At mt.e.length ct, nv mj.r, nv mj.c, .slice Aj mj.e.length cj, nv mp.r, nv mp.c, .slice Ap mp.e.length cp]) rfl rfl rfl rfl rfl
    (fun v hv => by
      simp only [List.mem_cons, List.not_mem_nil, or_false] at hv
      rcases hv with rfl | rfl | rfl | rfl <;> rfl) rfl (by decide) (by decide) (fun b15 => ?_)
  (repeat' (first | refine JO.nil ?_ | (apply r_assign; exact rfl; exact rfl; exact rfl)))
  refine JX.part (F' := [(15, .slice (some ⟨b15, 0, none⟩) 4 4), (7, .pointer (some ⟨bb, 0, none⟩)), (6, .pointer (some ⟨ba, 0, none⟩)), (5, .bool true), (3, .pointer (some ⟨bs1, 0, none⟩)), (2, .pointer (some ⟨bs0, 0, none⟩))]) (H' := [(b15, .cells ⟨[nv mg.r, nv mg.c, .slice Ag mg.e.length cg, nv mt.r, nv mt.c, .slice At mt.e.length ct, nv mj.r, nv mj.c, .slice Aj mj.e.length cj, nv mp.r, nv mp.c, .slice Ap mp.e.length cp]⟩ 29), (bb, .cells #[nv mb.r, nv mb.c, .slice Ab mb.e.length cb] 29), (ba, .cells #[nv ma.r, nv ma.c, .slice Aa ma.e.length ca] 29), (bs1, .cells #[.int .u8 (R1 : Int), .int .u8 (C1 : Int), E1] 24), (bs0, .cells #[.int .u8 (R0 : Int), .int .u8 (C0 : Int), E0] 24)] ++ (Np ++ (Nj ++ (Nt ++ (Ng ++ (Nb ++ (Na ++ ([])))))))) (by repeat first | exact trivial | refine ⟨rfl, ?_⟩) (by (repeat' first | exact HSub.refl _ | exact HSub.nil _ | refine HSub.at 0 rfl ?_ | refine HSub.at 1 rfl ?_ | refine HSub.at 2 rfl ?_ | refine HSub.at 3 rfl ?_ | refine HSub.at 4 rfl ?_ | refine HSub.at 5 rfl ?_ | refine HSub.at 6 rfl ?_ | refine HSub.at 7 rfl ?_ | refine HSub.at 8 rfl ?_ | refine HSub.at 9 rfl ?_ | refine HSub.at 10 rfl ?_ | refine HSub.at 11 rfl ?_ | refine HSub.at 12 rfl ?_ | refine HSub.at 13 rfl ?_ | refine HSub.at 14 rfl ?_ | refine HSub.at 15 rfl ?_ | refine HSub.at 16 rfl ?_ | refine HSub.at 17 rfl ?_ | refine HSub.at 18 rfl ?_ | refine HSub.at 19 rfl ?_ | refine HSub.segH ?_ | refine HSub.skip ?_ | refine HSub.skipN ?_)) ?_
  refine JX.thenN ?_
  (repeat' (first | refine JC.seq ?_ | refine JC.ops ?_ | refine JO.nil ?_ | (apply r_assign; exact rfl; exact rfl; exact rfl)))
  have hwg : Ow Ng Ag mg.e.length cg := ⟨_, hOg⟩
  have hleg := rtg.le
  clear hOg
  have hwt : Ow Nt At mt.e.length ct := ⟨_, hOt⟩
  have hlet := rtt.le
  clear hOt
  have hwj : Ow Nj Aj mj.e.length cj := ⟨_, hOj⟩
  have hlej := rtj.le
  clear hOj
  have hwp : Ow Np Ap mp.e.length cp := ⟨_, hOp⟩
  have hlep := rtp.le
  clear hOp
  generalize mg.e.length = ng at *
  generalize mt.e.length = nt at *
  generalize mj.e.length = nj at *
  generalize mp.e.length = np at *
  (repeat' (first | refine JX.thenN ?_ | refine JC.block ?_))
  refine JC.loopH (ι := Nat × SHeap × SHeap × SHeap × SHeap) ⟨fun z => [(16, nv z.1), (15, .slice (some ⟨b15, 0, none⟩) 4 4), (7, .pointer (some ⟨bb, 0, none⟩)), (6, .pointer (some ⟨ba, 0, none⟩)), (5, .bool true), (3, .pointer (some ⟨bs1, 0, none⟩)), (2, .pointer (some ⟨bs0, 0, none⟩))], fun z => [(b15, .cells ⟨[nv mg.r, nv mg.c, .slice Ag ng cg, nv mt.r, nv mt.c, .slice At nt ct, nv mj.r, nv mj.c, .slice Aj nj cj, nv mp.r, nv mp.c, .slice Ap np cp]⟩ 29), (bb, .cells #[nv mb.r, nv mb.c, .slice Ab mb.e.length cb] 29), (ba, .cells #[nv ma.r, nv ma.c, .slice Aa ma.e.length ca] 29), (bs1, .cells #[.int .u8 (R1 : Int), .int .u8 (C1 : Int), E1] 24), (bs0, .cells #[.int .u8 (R0 : Int), .int .u8 (C0 : Int), E0] 24)] ++ (z.2.1 ++ (z.2.2.1 ++ (z.2.2.2.1 ++ (z.2.2.2.2 ++ (Nb ++ (Na ++ [])))))), fun z => z.1 ≤ 4 ∧ Ow z.2.1 Ap np cp ∧ Ow z.2.2.1 Aj nj cj ∧ Ow z.2.2.2.1 At nt ct ∧ Ow z.2.2.2.2 Ag ng cg, fun z => 4 - z.1⟩ (0, Np, Nj, Nt, Ng) ⟨by dsimp only; omega, hwp, hwj, hwt, hwg⟩ (by repeat first | exact trivial | refine ⟨rfl, ?_⟩) (HSub.refl _) (fun z hz => ?_)
  clear hwg hwt hwj hwp
  obtain ⟨k, Np, Nj, Nt, Ng⟩ := z
  obtain ⟨hk, hwp, hwj, hwt, hwg⟩ := hz
  dsimp only at hk hwp hwj hwt hwg ⊢
  rcases (show k = 0 ∨ k = 1 ∨ k = 2 ∨ k = 3 ∨ k = 4 by omega) with rfl | rfl | rfl | rfl | rfl
  · (repeat' (first | refine JC.seq ?_ | refine JC.ops ?_ | refine JO.nil ?_ | refine JX.thenN ?_ | (apply r_move; exact rfl; exact rfl; exact rfl) | (apply r_assign; exact rfl; exact rfl; exact rfl) | (apply r_len; exact rfl; exact rfl; exact rfl) | (apply r_lss; exact rfl; exact rfl; exact rfl; exact rfl; all_goals intro hc; all_goals try (exfalso; omega)) | refine JC.skip ?_ | refine JC.condT rfl ?_ | refine JC.block ?_))
    refine JC.loopH (ι := Nat × SHeap) ⟨fun z => [(17, nv z.1), (16, nv 0), (15, .slice (some ⟨b15, 0, none⟩) 4 4), (7, .pointer (some ⟨bb, 0, none⟩)), (6, .pointer (some ⟨ba, 0, none⟩)), (5, .bool true), (3, .pointer (some ⟨bs1, 0, none⟩)), (2, .pointer (some ⟨bs0, 0, none⟩))], fun z => [(b15, .cells ⟨[nv mg.r, nv mg.c, .slice Ag ng cg, nv mt.r, nv mt.c, .slice At nt ct, nv mj.r, nv mj.c, .slice Aj nj cj, nv mp.r, nv mp.c, .slice Ap np cp]⟩ 29), (bb, .cells #[nv mb.r, nv mb.c, .slice Ab mb.e.length cb] 29), (ba, .cells #[nv ma.r, nv ma.c, .slice Aa ma.e.length ca] 29), (bs1, .cells #[.int .u8 (R1 : Int), .int .u8 (C1 : Int), E1] 24), (bs0, .cells #[.int .u8 (R0 : Int), .int .u8 (C0 : Int), E0] 24)] ++ (Np ++ (Nj ++ (Nt ++ (z.2 ++ (Nb ++ (Na ++ [])))))), fun z => z.1 ≤ ng ∧ Ow z.2 Ag ng cg, fun z => ng - z.1⟩ (0, Ng) ⟨by dsimp only; omega, hwg⟩ (by repeat first | exact trivial | refine ⟨rfl, ?_⟩) (HSub.refl _) (fun z hz => ?_)
    clear hwg
    obtain ⟨q, Ng⟩ := z
    obtain ⟨hq, xs, hO⟩ := hz
    dsimp only at hq hO ⊢
    by_cases hqn : q < ng
    · (repeat' (first | refine JC.seq ?_ | refine JC.ops ?_ | refine JC.opsD ?_ | refine JO.nil ?_ | refine JX.thenN ?_ | (apply r_move; exact rfl; exact rfl; exact rfl) | (apply r_fieldAddr; exact rfl; exact rfl; exact rfl) | (apply r_load; exact rfl; exact rfl; exact rfl; exact rfl; (first | exact at0 | exact at1 | exact at2 | exact at3 | exact at4 | exact at5 | exact at6 | exact at7 | exact at8 | exact at9); exact rfl) | (apply r_lenZ; exact rfl; exact rfl; exact rfl; (first | assumption | exact WZ.rd (by assumption) rfl [] | exact OwnZ.rd (by assumption))) | (apply r_index; exact rfl; exact rfl; exact rfl; exact fun _ => rfl; exact rfl; omega) | (apply r_lss; exact rfl; exact rfl; exact rfl; exact rfl; all_goals intro hc; all_goals try (exfalso; omega)) | refine JC.skip ?_ | refine JC.condT rfl ?_ | refine JC.block ?_))
      refine r_call0 (by first | trivial | exact ⟨rfl, rfl⟩) rfl (by first | rfl | exact ⟨rfl, rfl⟩) rfl (fun w hk hs => c_From w 77 (by decide) (by decide)) fun w v w' _ _ _ hR => ?_
      subst hR
      (repeat' (first | (apply r_idxZ; exact rfl; exact rfl; exact rfl; exact rfl; (first | assumption | exact WZ.rd (by assumption) rfl [] | exact OwnZ.rd (by assumption)); (first | assumption | omega))))
      refine r_stZ (A := [_, _, _, _, _] ++ (Np ++ Nj ++ Nt)) (u := 77) hO (by simp only [List.append_assoc]; rfl) rfl (by first | trivial | exact ⟨rfl, rfl⟩) rfl rfl hqn (fun N' hO' => ?_)
      simp only [List.append_assoc]
      (repeat' (first | refine JC.ops ?_ | refine JO.nil ?_ | refine JX.thenN ?_ | (apply r_move; exact rfl; exact rfl; exact rfl) | (apply r_assign; exact rfl; exact rfl; exact rfl) | (apply r_add1; exact rfl; exact rfl; exact rfl; exact rfl; omega) | refine JX.blockN ?_))
      exact JX.roundH (q + 1, N') ⟨by dsimp only; omega, _, hO'⟩ (by dsimp only; omega) (by repeat first | exact trivial | refine ⟨rfl, ?_⟩) (HSub.refl _)
    · (repeat' (first | refine JC.seq ?_ | refine JC.ops ?_ | refine JO.nil ?_ | refine JX.thenN ?_ | (apply r_move; exact rfl; exact rfl; exact rfl) | (apply r_fieldAddr; exact rfl; exact rfl; exact rfl) | (apply r_assign; exact rfl; exact rfl; exact rfl) | (apply r_load; exact rfl; exact rfl; exact rfl; exact rfl; (first | exact at0 | exact at1 | exact at2 | exact at3 | exact at4 | exact at5 | exact at6 | exact at7 | exact at8 | exact at9); exact rfl) | (apply r_lenZ; exact rfl; exact rfl; exact rfl; (first | assumption | exact WZ.rd (by assumption) rfl [] | exact OwnZ.rd (by assumption))) | (apply r_index; exact rfl; exact rfl; exact rfl; exact fun _ => rfl; exact rfl; omega) | (apply r_add1; exact rfl; exact rfl; exact rfl; exact rfl; omega) | (apply r_lss; exact rfl; exact rfl; exact rfl; exact rfl; all_goals intro hc; all_goals try (exfalso; omega)) | refine JX.thenE ?_ | refine JC.exit ?_ | refine JC.condF rfl ?_ | refine JX.blockN ?_ | refine JX.blockE ?_))
      exact JX.roundH (1, Np, Nj, Nt, Ng) ⟨by dsimp only; omega, hwp, hwj, hwt, ⟨xs, hO⟩⟩ (by dsimp only; omega) (by repeat first | exact trivial | refine ⟨rfl, ?_⟩) (HSub.refl _)
  · (repeat' (first | refine JC.seq ?_ | refine JC.ops ?_ | refine JO.nil ?_ | refine JX.thenN ?_ | (apply r_move; exact rfl; exact rfl; exact rfl) | (apply r_assign; exact rfl; exact rfl; exact rfl) | (apply r_len; exact rfl; exact rfl; exact rfl) | (apply r_lss; exact rfl; exact rfl; exact rfl; exact rfl; all_goals intro hc; all_goals try (exfalso; omega)) | refine JC.skip ?_ | refine JC.condT rfl ?_ | refine JC.block ?_))
    refine JC.loopH (ι := Nat × SHeap) ⟨fun z => [(17, nv z.1), (16, nv 1), (15, .slice (some ⟨b15, 0, none⟩) 4 4), (7, .pointer (some ⟨bb, 0, none⟩)), (6, .pointer (some ⟨ba, 0, none⟩)), (5, .bool true), (3, .pointer (some ⟨bs1, 0, none⟩)), (2, .pointer (some ⟨bs0, 0, none⟩))], fun z => [(b15, .cells ⟨[nv mg.r, nv mg.c, .slice Ag ng cg, nv mt.r, nv mt.c, .slice At nt ct, nv mj.r, nv mj.c, .slice Aj nj cj, nv mp.r, nv mp.c, .slice Ap np cp]⟩ 29), (bb, .cells #[nv mb.r, nv mb.c, .slice Ab mb.e.length cb] 29), (ba, .cells #[nv ma.r, nv ma.c, .slice Aa ma.e.length ca] 29), (bs1, .cells #[.int .u8 (R1 : Int), .int .u8 (C1 : Int), E1] 24), (bs0, .cells #[.int .u8 (R0 : Int), .int .u8 (C0 : Int), E0] 24)] ++ (Np ++ (Nj ++ (z.2 ++ (Ng ++ (Nb ++ (Na ++ [])))))), fun z => z.1 ≤ nt ∧ Ow z.2 At nt ct, fun z => nt - z.1⟩ (0, Nt) ⟨by dsimp only; omega, hwt⟩ (by repeat first | exact trivial | refine ⟨rfl, ?_⟩) (HSub.refl _) (fun z hz => ?_)
    clear hwt
    obtain ⟨q, Nt⟩ := z
    obtain ⟨hq, xs, hO⟩ := hz
    dsimp only at hq hO ⊢
    by_cases hqn : q < nt
    · (repeat' (first | refine JC.seq ?_ | refine JC.ops ?_ | refine JC.opsD ?_ | refine JO.nil ?_ | refine JX.thenN ?_ | (apply r_move; exact rfl; exact rfl; exact rfl) | (apply r_fieldAddr; exact rfl; exact rfl; exact rfl) | (apply r_load; exact rfl; exact rfl; exact rfl; exact rfl; (first | exact at0 | exact at1 | exact at2 | exact at3 | exact at4 | exact at5 | exact at6 | exact at7 | exact at8 | exact at9); exact rfl) | (apply r_lenZ; exact rfl; exact rfl; exact rfl; (first | assumption | exact WZ.rd (by assumption) rfl [] | exact OwnZ.rd (by assumption))) | (apply r_index; exact rfl; exact rfl; exact rfl; exact fun _ => rfl; exact rfl; omega) | (apply r_lss; exact rfl; exact rfl; exact rfl; exact rfl; all_goals intro hc; all_goals try (exfalso; omega)) | refine JC.skip ?_ | refine JC.condT rfl ?_ | refine JC.block ?_))
      refine r_call0 (by first | trivial | exact ⟨rfl, rfl⟩) rfl (by first | rfl | exact ⟨rfl, rfl⟩) rfl (fun w hk hs => c_From w 77 (by decide) (by decide)) fun w v w' _ _ _ hR => ?_
      subst hR
      (repeat' (first | (apply r_idxZ; exact rfl; exact rfl; exact rfl; exact rfl; (first | assumption | exact WZ.rd (by assumption) rfl [] | exact OwnZ.rd (by assumption)); (first | assumption | omega))))
      refine r_stZ (A := [_, _, _, _, _] ++ (Np ++ Nj)) (u := 77) hO (by simp only [List.append_assoc]; rfl) rfl (by first | trivial | exact ⟨rfl, rfl⟩) rfl rfl hqn (fun N' hO' => ?_)
      simp only [List.append_assoc]
      (repeat' (first | refine JC.ops ?_ | refine JO.nil ?_ | refine JX.thenN ?_ | (apply r_move; exact rfl; exact rfl; exact rfl) | (apply r_assign; exact rfl; exact rfl; exact rfl) | (apply r_add1; exact rfl; exact rfl; exact rfl; exact rfl; omega) | refine JX.blockN ?_))
      exact JX.roundH (q + 1, N') ⟨by dsimp only; omega, _, hO'⟩ (by dsimp only; omega) (by repeat first | exact trivial | refine ⟨rfl, ?_⟩) (HSub.refl _)
    · (repeat' (first | refine JC.seq ?_ | refine JC.ops ?_ | refine JO.nil ?_ | refine JX.thenN ?_ | (apply r_move; exact rfl; exact rfl; exact rfl) | (apply r_fieldAddr; exact rfl; exact rfl; exact rfl) | (apply r_assign; exact rfl; exact rfl; exact rfl) | (apply r_load; exact rfl; exact rfl; exact rfl; exact rfl; (first | exact at0 | exact at1 | exact at2 | exact at3 | exact at4 | exact at5 | exact at6 | exact at7 | exact at8 | exact at9); exact rfl) | (apply r_lenZ; exact rfl; exact rfl; exact rfl; (first | assumption | exact WZ.rd (by assumption) rfl [] | exact OwnZ.rd (by assumption))) | (apply r_index; exact rfl; exact rfl; exact rfl; exact fun _ => rfl; exact rfl; omega) | (apply r_add1; exact rfl; exact rfl; exact rfl; exact rfl; omega) | (apply r_lss; exact rfl; exact rfl; exact rfl; exact rfl; all_goals intro hc; all_goals try (exfalso; omega)) | refine JX.thenE ?_ | refine JC.exit ?_ | refine JC.condF rfl ?_ | refine JX.blockN ?_ | refine JX.blockE ?_))
      exact JX.roundH (2, Np, Nj, Nt, Ng) ⟨by dsimp only; omega, hwp, hwj, ⟨xs, hO⟩, hwg⟩ (by dsimp only; omega) (by repeat first | exact trivial | refine ⟨rfl, ?_⟩) (HSub.refl _)
  · (repeat' (first | refine JC.seq ?_ | refine JC.ops ?_ | refine JO.nil ?_ | refine JX.thenN ?_ | (apply r_move; exact rfl; exact rfl; exact rfl) | (apply r_assign; exact rfl; exact rfl; exact rfl) | (apply r_len; exact rfl; exact rfl; exact rfl) | (apply r_lss; exact rfl; exact rfl; exact rfl; exact rfl; all_goals intro hc; all_goals try (exfalso; omega)) | refine JC.skip ?_ | refine JC.condT rfl ?_ | refine JC.block ?_))
    refine JC.loopH (ι := Nat × SHeap) ⟨fun z => [(17, nv z.1), (16, nv 2), (15, .slice (some ⟨b15, 0, none⟩) 4 4), (7, .pointer (some ⟨bb, 0, none⟩)), (6, .pointer (some ⟨ba, 0, none⟩)), (5, .bool true), (3, .pointer (some ⟨bs1, 0, none⟩)), (2, .pointer (some ⟨bs0, 0, none⟩))], fun z => [(b15, .cells ⟨[nv mg.r, nv mg.c, .slice Ag ng cg, nv mt.r, nv mt.c, .slice At nt ct, nv mj.r, nv mj.c, .slice Aj nj cj, nv mp.r, nv mp.c, .slice Ap np cp]⟩ 29), (bb, .cells #[nv mb.r, nv mb.c, .slice Ab mb.e.length cb] 29), (ba, .cells #[nv ma.r, nv ma.c, .slice Aa ma.e.length ca] 29), (bs1, .cells #[.int .u8 (R1 : Int), .int .u8 (C1 : Int), E1] 24), (bs0, .cells #[.int .u8 (R0 : Int), .int .u8 (C0 : Int), E0] 24)] ++ (Np ++ (z.2 ++ (Nt ++ (Ng ++ (Nb ++ (Na ++ [])))))), fun z => z.1 ≤ nj ∧ Ow z.2 Aj nj cj, fun z => nj - z.1⟩ (0, Nj) ⟨by dsimp only; omega, hwj⟩ (by repeat first | exact trivial | refine ⟨rfl, ?_⟩) (HSub.refl _) (fun z hz => ?_)
    clear hwj
    obtain ⟨q, Nj⟩ := z
    obtain ⟨hq, xs, hO⟩ := hz
    dsimp only at hq hO ⊢
    by_cases hqn : q < nj
    · (repeat' (first | refine JC.seq ?_ | refine JC.ops ?_ | refine JC.opsD ?_ | refine JO.nil ?_ | refine JX.thenN ?_ | (apply r_move; exact rfl; exact rfl; exact rfl) | (apply r_fieldAddr; exact rfl; exact rfl; exact rfl) | (apply r_load; exact rfl; exact rfl; exact rfl; exact rfl; (first | exact at0 | exact at1 | exact at2 | exact at3 | exact at4 | exact at5 | exact at6 | exact at7 | exact at8 | exact at9); exact rfl) | (apply r_lenZ; exact rfl; exact rfl; exact rfl; (first | assumption | exact WZ.rd (by assumption) rfl [] | exact OwnZ.rd (by assumption))) | (apply r_index; exact rfl; exact rfl; exact rfl; exact fun _ => rfl; exact rfl; omega) | (apply r_lss; exact rfl; exact rfl; exact rfl; exact rfl; all_goals intro hc; all_goals try (exfalso; omega)) | refine JC.skip ?_ | refine JC.condT rfl ?_ | refine JC.block ?_))
      refine r_call0 (by first | trivial | exact ⟨rfl, rfl⟩) rfl (by first | rfl | exact ⟨rfl, rfl⟩) rfl (fun w hk hs => c_From w 77 (by decide) (by decide)) fun w v w' _ _ _ hR => ?_
      subst hR
      (repeat' (first | (apply r_idxZ; exact rfl; exact rfl; exact rfl; exact rfl; (first | assumption | exact WZ.rd (by assumption) rfl [] | exact OwnZ.rd (by assumption)); (first | assumption | omega))))
      refine r_stZ (A := [_, _, _, _, _] ++ (Np)) (u := 77) hO (by simp only [List.append_assoc]; rfl) rfl (by first | trivial | exact ⟨rfl, rfl⟩) rfl rfl hqn (fun N' hO' => ?_)
      simp only [List.append_assoc]
      (repeat' (first | refine JC.ops ?_ | refine JO.nil ?_ | refine JX.thenN ?_ | (apply r_move; exact rfl; exact rfl; exact rfl) | (apply r_assign; exact rfl; exact rfl; exact rfl) | (apply r_add1; exact rfl; exact rfl; exact rfl; exact rfl; omega) | refine JX.blockN ?_))
      exact JX.roundH (q + 1, N') ⟨by dsimp only; omega, _, hO'⟩ (by dsimp only; omega) (by repeat first | exact trivial | refine ⟨rfl, ?_⟩) (HSub.refl _)
    · (repeat' (first | refine JC.seq ?_ | refine JC.ops ?_ | refine JO.nil ?_ | refine JX.thenN ?_ | (apply r_move; exact rfl; exact rfl; exact rfl) | (apply r_fieldAddr; exact rfl; exact rfl; exact rfl) | (apply r_assign; exact rfl; exact rfl; exact rfl) | (apply r_load; exact rfl; exact rfl; exact rfl; exact rfl; (first | exact at0 | exact at1 | exact at2 | exact at3 | exact at4 | exact at5 | exact at6 | exact at7 | exact at8 | exact at9); exact rfl) | (apply r_lenZ; exact rfl; exact rfl; exact rfl; (first | assumption | exact WZ.rd (by assumption) rfl [] | exact OwnZ.rd (by assumption))) | (apply r_index; exact rfl; exact rfl; exact rfl; exact fun _ => rfl; exact rfl; omega) | (apply r_add1; exact rfl; exact rfl; exact rfl; exact rfl; omega) | (apply r_lss; exact rfl; exact rfl; exact rfl; exact rfl; all_goals intro hc; all_goals try (exfalso; omega)) | refine JX.thenE ?_ | refine JC.exit ?_ | refine JC.condF rfl ?_ | refine JX.blockN ?_ | refine JX.blockE ?_))
      exact JX.roundH (3, Np, Nj, Nt, Ng) ⟨by dsimp only; omega, hwp, ⟨xs, hO⟩, hwt, hwg⟩ (by dsimp only; omega) (by repeat first | exact trivial | refine ⟨rfl, ?_⟩) (HSub.refl _)
  · (repeat' (first | refine JC.seq ?_ | refine JC.ops ?_ | refine JO.nil ?_ | refine JX.thenN ?_ | (apply r_move; exact rfl; exact rfl; exact rfl) | (apply r_assign; exact rfl; exact rfl; exact rfl) | (apply r_len; exact rfl; exact rfl; exact rfl) | (apply r_lss; exact rfl; exact rfl; exact rfl; exact rfl; all_goals intro hc; all_goals try (exfalso; omega)) | refine JC.skip ?_ | refine JC.condT rfl ?_ | refine JC.block ?_))
    refine JC.loopH (ι := Nat × SHeap) ⟨fun z => [(17, nv z.1), (16, nv 3), (15, .slice (some ⟨b15, 0, none⟩) 4 4), (7, .pointer (some ⟨bb, 0, none⟩)), (6, .pointer (some ⟨ba, 0, none⟩)), (5, .bool true), (3, .pointer (some ⟨bs1, 0, none⟩)), (2, .pointer (some ⟨bs0, 0, none⟩))], fun z => [(b15, .cells ⟨[nv mg.r, nv mg.c, .slice Ag ng cg, nv mt.r, nv mt.c, .slice At nt ct, nv mj.r, nv mj.c, .slice Aj nj cj, nv mp.r, nv mp.c, .slice Ap np cp]⟩ 29), (bb, .cells #[nv mb.r, nv mb.c, .slice Ab mb.e.length cb] 29), (ba, .cells #[nv ma.r, nv ma.c, .slice Aa ma.e.length ca] 29), (bs1, .cells #[.int .u8 (R1 : Int), .int .u8 (C1 : Int), E1] 24), (bs0, .cells #[.int .u8 (R0 : Int), .int .u8 (C0 : Int), E0] 24)] ++ (z.2 ++ (Nj ++ (Nt ++ (Ng ++ (Nb ++ (Na ++ [])))))), fun z => z.1 ≤ np ∧ Ow z.2 Ap np cp, fun z => np - z.1⟩ (0, Np) ⟨by dsimp only; omega, hwp⟩ (by repeat first | exact trivial | refine ⟨rfl, ?_⟩) (HSub.refl _) (fun z hz => ?_)
    clear hwp
    obtain ⟨q, Np⟩ := z
    obtain ⟨hq, xs, hO⟩ := hz
    dsimp only at hq hO ⊢
    by_cases hqn : q < np
    · (repeat' (first | refine JC.seq ?_ | refine JC.ops ?_ | refine JC.opsD ?_ | refine JO.nil ?_ | refine JX.thenN ?_ | (apply r_move; exact rfl; exact rfl; exact rfl) | (apply r_fieldAddr; exact rfl; exact rfl; exact rfl) | (apply r_load; exact rfl; exact rfl; exact rfl; exact rfl; (first | exact at0 | exact at1 | exact at2 | exact at3 | exact at4 | exact at5 | exact at6 | exact at7 | exact at8 | exact at9); exact rfl) | (apply r_lenZ; exact rfl; exact rfl; exact rfl; (first | assumption | exact WZ.rd (by assumption) rfl [] | exact OwnZ.rd (by assumption))) | (apply r_index; exact rfl; exact rfl; exact rfl; exact fun _ => rfl; exact rfl; omega) | (apply r_lss; exact rfl; exact rfl; exact rfl; exact rfl; all_goals intro hc; all_goals try (exfalso; omega)) | refine JC.skip ?_ | refine JC.condT rfl ?_ | refine JC.block ?_))
      refine r_call0 (by first | trivial | exact ⟨rfl, rfl⟩) rfl (by first | rfl | exact ⟨rfl, rfl⟩) rfl (fun w hk hs => c_From w 77 (by decide) (by decide)) fun w v w' _ _ _ hR => ?_
      subst hR
      (repeat' (first | (apply r_idxZ; exact rfl; exact rfl; exact rfl; exact rfl; (first | assumption | exact WZ.rd (by assumption) rfl [] | exact OwnZ.rd (by assumption)); (first | assumption | omega))))
      refine r_stZ (A := [_, _, _, _, _]) (u := 77) hO rfl rfl (by first | trivial | exact ⟨rfl, rfl⟩) rfl rfl hqn (fun N' hO' => ?_)
      (repeat' (first | refine JC.ops ?_ | refine JO.nil ?_ | refine JX.thenN ?_ | (apply r_move; exact rfl; exact rfl; exact rfl) | (apply r_assign; exact rfl; exact rfl; exact rfl) | (apply r_add1; exact rfl; exact rfl; exact rfl; exact rfl; omega) | refine JX.blockN ?_))
      exact JX.roundH (q + 1, N') ⟨by dsimp only; omega, _, hO'⟩ (by dsimp only; omega) (by repeat first | exact trivial | refine ⟨rfl, ?_⟩) (HSub.refl _)
    · (repeat' (first | refine JC.seq ?_ | refine JC.ops ?_ | refine JO.nil ?_ | refine JX.thenN ?_ | (apply r_move; exact rfl; exact rfl; exact rfl) | (apply r_fieldAddr; exact rfl; exact rfl; exact rfl) | (apply r_assign; exact rfl; exact rfl; exact rfl) | (apply r_load; exact rfl; exact rfl; exact rfl; exact rfl; (first | exact at0 | exact at1 | exact at2 | exact at3 | exact at4 | exact at5 | exact at6 | exact at7 | exact at8 | exact at9); exact rfl) | (apply r_lenZ; exact rfl; exact rfl; exact rfl; (first | assumption | exact WZ.rd (by assumption) rfl [] | exact OwnZ.rd (by assumption))) | (apply r_index; exact rfl; exact rfl; exact rfl; exact fun _ => rfl; exact rfl; omega) | (apply r_add1; exact rfl; exact rfl; exact rfl; exact rfl; omega) | (apply r_lss; exact rfl; exact rfl; exact rfl; exact rfl; all_goals intro hc; all_goals try (exfalso; omega)) | refine JX.thenE ?_ | refine JC.exit ?_ | refine JC.condF rfl ?_ | refine JX.blockN ?_ | refine JX.blockE ?_))
      exact JX.roundH (4, Np, Nj, Nt, Ng) ⟨by dsimp only; omega, ⟨xs, hO⟩, hwj, hwt, hwg⟩ (by dsimp only; omega) (by repeat first | exact trivial | refine ⟨rfl, ?_⟩) (HSub.refl _)
  · (repeat' (first | refine JC.seq ?_ | refine JC.ops ?_ | refine JC.opsD ?_ | refine JO.nil ?_ | refine JX.thenN ?_ | (apply r_move; exact rfl; exact rfl; exact rfl) | (apply r_loadN; exact rfl; exact rfl; exact rfl; exact rfl; (first | exact at0 | exact at1 | exact at2 | exact at3 | exact at4 | exact at5 | exact at6 | exact at7 | exact at8 | exact at9); exact rfl) | (apply r_len; exact rfl; exact rfl; exact rfl) | (apply r_lss; exact rfl; exact rfl; exact rfl; exact rfl; all_goals intro hc; all_goals try (exfalso; omega)) | refine JX.thenE ?_ | refine JC.exit ?_ | refine JC.condF rfl ?_ | refine JX.blockE ?_))
    refine r_callA (A := [_, _, _, _, _]) (B := Np ++ (Nj ++ (Nt ++ (Ng ++ (Nb ++ (Na ++ ([]))))))) rfl (by first | trivial | exact ⟨rfl, rfl⟩) rfl (by first | rfl | exact ⟨rfl, rfl⟩) rfl (fun w hk hs => c_Mat w _ R0 C0 L0 (hs0.mono hk)) fun w v w' _ _ _ hR => ?_
    rw [← hma] at hR
    obtain ⟨Nxa, hNxa, Exa, rfl, hOxa⟩ := hR
    obtain ⟨Axa, cxa, rfl⟩ := hOxa.form
    refine ⟨Nxa, hNxa, ?_⟩
    skip
    refine r_call0 (by first | trivial | exact ⟨rfl, rfl⟩) rfl (by first | rfl | exact ⟨rfl, rfl⟩) rfl (fun w hk hs => c_same w _ _ ma.xm ma.xm (IsM.x ⟨_, rfl, hOa.rd.at hk hs (by (repeat' first | exact HSub.nil _ | exact HSub.hd | exact HSub.in0 | exact HSub.refl _ | refine HSub.skip ?_ | refine HSub.skipN ?_))⟩) (IsM.x ⟨_, rfl, hOxa.rd.at hk hs (by (repeat' first | exact HSub.nil _ | exact HSub.hd | exact HSub.in0 | exact HSub.refl _ | refine HSub.skip ?_ | refine HSub.skipN ?_))⟩) (by have := rta.le; simp [ZM.xm]; omega) (by have := rta.le; simp [ZM.xm]; omega)) fun w v w' _ _ _ hR => ?_
    obtain ⟨b', rfl, hb'⟩ := hR
    obtain rfl := hb'.2 rfl
    (repeat' (first | (apply r_move; exact rfl; exact rfl; exact rfl) | (apply r_fieldAddr; exact rfl; exact rfl; exact rfl) | (apply r_load; exact rfl; exact rfl; exact rfl; exact rfl; (first | exact at0 | exact at1 | exact at2 | exact at3 | exact at4 | exact at5 | exact at6 | exact at7 | exact at8 | exact at9); exact rfl) | (apply r_loadN; exact rfl; exact rfl; exact rfl; exact rfl; (first | exact at0 | exact at1 | exact at2 | exact at3 | exact at4 | exact at5 | exact at6 | exact at7 | exact at8 | exact at9); exact rfl) | (apply r_pickT; exact rfl; exact rfl; exact rfl; exact rfl)))
    refine r_callA (A := [_, _, _, _, _]) (B := Nxa ++ (Np ++ (Nj ++ (Nt ++ (Ng ++ (Nb ++ (Na ++ ([])))))))) rfl (by first | trivial | exact ⟨rfl, rfl⟩) rfl (by first | rfl | exact ⟨rfl, rfl⟩) rfl (fun w hk hs => c_With w _ R1 C1 ma.r ma.c L1 (hs1.mono hk) (by omega) (by omega)) fun w v w' _ _ _ hR => ?_
    rw [← hmb] at hR
    obtain ⟨Nxb, hNxb, Exb, rfl, hOxb⟩ := hR
    obtain ⟨Axb, cxb, rfl⟩ := hOxb.form
    refine ⟨Nxb, hNxb, ?_⟩
    skip
    refine r_call0 (by first | trivial | exact ⟨rfl, rfl⟩) rfl (by first | rfl | exact ⟨rfl, rfl⟩) rfl (fun w hk hs => c_same w _ _ mb.xm mb.xm (IsM.x ⟨_, rfl, hOb.rd.at hk hs (by (repeat' first | exact HSub.nil _ | exact HSub.hd | exact HSub.in0 | exact HSub.refl _ | refine HSub.skip ?_ | refine HSub.skipN ?_))⟩) (IsM.x ⟨_, rfl, hOxb.rd.at hk hs (by (repeat' first | exact HSub.nil _ | exact HSub.hd | exact HSub.in0 | exact HSub.refl _ | refine HSub.skip ?_ | refine HSub.skipN ?_))⟩) (by have := rtb.le; simp [ZM.xm]; omega) (by have := rtb.le; simp [ZM.xm]; omega)) fun w v w' _ _ _ hR => ?_
    obtain ⟨b', rfl, hb'⟩ := hR
    obtain rfl := hb'.2 rfl
    (repeat' (first | refine JO.nil ?_ | refine JX.thenN ?_ | (apply r_assign; exact rfl; exact rfl; exact rfl) | (apply r_pickT; exact rfl; exact rfl; exact rfl; exact rfl) | refine JC.ret ?_))
    exact JX.ret1 rfl (fun a w' st => ⟨st.kp, rfl⟩)

end Go.Proofs.YtdlmnloikakjpaaDoor

/-
  LawMatrixOwn: for every input the call of 'cocycle/cocyclelaw02.MatrixOwn' returns true, and every argument reads afterwards as it read before. Conditions: none. The card.
-/
namespace Go.Proofs.YtdlmnloikakjpaaDoor.matrixOwn
open Go Go.RowKit Go.ChangeShapes Go.WideShapes Go.ChangeAt
set_option linter.unusedSimpArgs false
set_option linter.unusedVariables false
set_option linter.unusedSectionVars false

set_option maxRecDepth 100000 in
theorem lifted (os : Os) (started : os.Started) (H : Type) (enc : TypeId × Value → H) :
    ReturnsInHanded {} Tryd.checked os 11 .any (fun w args => (Rows.matrixOwnSpec.pre enc Tryd.prog Tryd.f11 [] false w args ∧ laidMetH Tryd.prog Rows.matrixOwnRow.laid w) ∧ sizedMet enc Tryd.prog Tryd.f11 (OpenSpec.ofChange Rows.matrixOwnSpec) false w args)
      (Rows.matrixOwnSpec.post enc Tryd.prog Tryd.f11 false true false false) := by
  refine returnsInHanded_of_change_and (C := Tryd.checked) (X := fun w _ => laidMetH Tryd.prog Rows.matrixOwnRow.laid w) (fun _ _ _ hh h => h.of_heap hh) own started (by kernel_rfl) Tryd.func11
    (ChangeSpec.witness_shaped (enc := enc) (C := Tryd.checked) (os := os) (X := fun w _ => laidMetH Tryd.prog Rows.matrixOwnRow.laid w) false (World.laidAll Tryd.prog os Rows.matrixOwnRow.laid) #[.agg #[.int .u8 0, .int .u8 0, .slice none 0 0], .agg #[.int .u8 0, .int .u8 0, .slice none 0 0]] 8 (World.laidAll_os _ _ _)
      (World.shaped_of_ZipB (by kernel_rfl) (by kernel_rfl)) (by kernel_rfl) (by kernel_rfl) (by kernel_rfl)
      (by rw [MakeChecks.laidMetH_plain _ _ _ (by kernel_rfl)]; exact laidMet_laidAll _ (by kernel_rfl) (by kernel_rfl))) ?_
  intro W base args ds gs before hval0 hW _ hwt0 hL _
  have hval : ∀ (j : Nat) t v, Tryd.f11.params[j]? = some t → args[j]? = some v → Value.okWide Tryd.prog W .any base t v := hval0
  have hW' := hW
  obtain ⟨p, q, hA0, hV, rfl, hfz, hnd⟩ := hW
  have hA : DataW.TrodAll enc Tryd.prog W 0 (fun _ => true) true Tryd.f11.params.toList args.toList ds p := hA0
  have hwt : (DataW.weightsEach Tryd.prog (Tryd.f11.params.toList ++ Rows.matrixOwnSpec.plain.varTypes Tryd.prog) (ds ++ gs)).all (· ≤ reachBytes) = true := hwt0
  have hwt1 := fun n hn => of_decide_eq_true (List.all_eq_true.1 hwt n hn)
  rw [Tryd.params11] at hA hval hwt1
  obtain ⟨v0, vs0, d0, ds0, p0, q0, hargs, rfl, rfl, h0, r0⟩ := trodAll_cons hA
  obtain ⟨v1, vs1, d1, ds1, p1, q1, rfl, rfl, rfl, h1, r1⟩ := trodAll_cons r0
  obtain ⟨rfl, rfl, rfl⟩ := trodAll_nil r1
  obtain rfl : args = #[v0, v1] := by cases args; simp_all
  obtain ⟨rfl, rfl⟩ := trodVars_none hV
  have k0 := h0
  have lt0 : ∀ x ∈ p0, x.block < W.heap.size := by obtain ⟨m, hm⟩ := k0; exact DataW.trod_lt m _ _ _ hm
  obtain ⟨R0, C0, L0, s0⟩ := open_shape (hval 0 24 v0 rfl rfl) h0
  have k1 := h1
  have lt1 : ∀ x ∈ p1, x.block < W.heap.size := by obtain ⟨m, hm⟩ := k1; exact DataW.trod_lt m _ _ _ hm
  obtain ⟨R1, C1, L1, s1⟩ := open_shape (hval 1 24 v1 rfl rfl) h1
  clear hA0 hval0
  refine (c_MatrixOwn W v0 v1 R0 C0 L0 R1 C1 L1 s0 s1).mono fun e W' he => ?_
  cases e with
  | panicked _ => exact he.elim
  | outgrown => exact he.elim
  | returned u =>
    obtain ⟨hk, rfl⟩ := he
    have bel := hk.below
    exact ⟨_, rfl, _, _, _, [], _, [], hW', trodAll_mk1 (shut_bool Tryd.underlying4 _), (trodAll_cons_mk (Below.trod laidOut (by kernel_rfl) (of_decide_eq_true (by kernel_rfl)) k0 bel lt0) (trodAll_cons_mk (Below.trod laidOut (by kernel_rfl) (of_decide_eq_true (by kernel_rfl)) k1 bel lt1) trodAll_mk0)), rfl, bel.frame _, fun h => by cases h⟩

theorem holds : Rows.MatrixOwnSaid :=
  OpenClaim.holds_of_wide 11 Tryd.f11 rfl rfl rfl rfl rfl rfl rfl ⟨rfl, rfl, rfl, rfl, rfl⟩ rfl rfl rfl rfl rfl (by kernel_rfl) Tryd.func11 (by kernel_rfl)
    (of_decide_eq_true (by kernel_rfl)) (by unfold Func.isWrapper; first | (rw [if_pos (by decide +kernel)]; kernel_rfl) | (rw [if_neg (by decide +kernel)]; exact ⟨rfl, rfl⟩))
    (fun os started H enc _ => lifted os started H enc)

theorem proved : Rows.MatrixOwnCardSaid :=
  Claim7.holds_tied_plain_at .later [] [.data, .pinned] true (true, "1e720b878859d18141ea40e2dc597df34bde83979d72dc5a8b5bc54d7198a929") false holds (fun _ h => by cases h) (by kernel_rfl) (fun _ h => by cases h) matrixOwn_row_tie rfl ⟨rfl, rfl⟩ (by kernel_rfl) rfl
    (fun f fn hf hfn => by
      obtain rfl : f = 11 := Option.some.inj ((show Tryd.prog.funcNamed "cocycle/cocyclelaw02.MatrixOwn" = some 11 by kernel_rfl).symm.trans hf) |>.symm
      obtain rfl : fn = Tryd.f11 := (Option.some.inj (Tryd.func11.symm.trans hfn)).symm
      exact ⟨by kernel_rfl, fun j t ht => by
        rw [Tryd.params11] at ht
        have hm : t ∈ [24] := by simpa using Array.mem_of_getElem? ht
        have hall : ([24].all fun u => !Tryd.prog.wantsStandIn u) = true := by kernel_rfl
        exact (show Tryd.prog.wantsStandIn t = false by simpa using List.all_eq_true.1 hall t hm)⟩)
    (by kernel_rfl)

end Go.Proofs.YtdlmnloikakjpaaDoor.matrixOwn

