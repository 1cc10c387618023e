import Derived.Test.YtdlmnloikakjpaaGreatDoorMg
import Derived.Test.YtdlmnloikakjpaaGreatDoorMh
import Derived.Test.YtdlmnloikakjpaaGreatDoorMi
import Derived.Test.YtdlmnloikakjpaaGreatDoorMk
import Derived.Test.YtdlmnloikakjpaaGreatDoorMj
import Derived.Test.YtdlmnloikakjpaaGreatDoorTie
import Derived.Test.YtdlmnloikakjpaaGreatDoorCards
import Derived.Shelf.Lay
import Derived.Lay
import Derived.LaidOnce
import Derived.SevenTiedAt
/- The law MatrixWrong. ROWZ -/
namespace Go.Proofs.YtdlmnloikakjpaaGreatDoor
open Go Go.RowKit
set_option linter.unusedSimpArgs false
set_option linter.unusedVariables false
set_option linter.unusedSectionVars false

theorem shc (C : Nat) : C % 7 ≤ 6 := by have := Nat.mod_lt C (show 0 < 7 by omega); omega
theorem Qdd {w : World} {v u : Value} {m : ZM} (hm : RtZ m) (hv : IsM w v m) (hu : IsM w u m) : Calls Tryz.prog 15 #[v, u] w (Ret fun v w' => Kp [] w w' ∧ v = .bool true) :=
 Q14 (Qnv w v u m.xm m.xm hv.x hu.x (Q75 hm) (Q75 hm)) fun v w' h => ⟨h.1, by obtain ⟨b, rfl, hb⟩ := h.2; rw [hb.2 rfl]⟩

set_option maxHeartbeats 16000000 in
theorem Qay (w : World) (v0 : Value) (R0 C0 : Nat) (L0 : List Int) (p0 p1 q0 q1 : Int) (hv0 : IsS w v0 R0 C0 L0) (hp0 : I64 p0) (hp1 : I64 p1) (hq0 : I64 q0) (hq1 : I64 q1) :
  Calls Tryz.prog 3 #[v0, .agg #[iv p0, iv p1], .agg #[iv q0, iv q1]] w (Ret fun v w' => Kp [] w w' ∧ v = .bool true) := by
 have hs0 := hv0
 have hc0 := shc C0
 have hr0 := shc R0
 have hL0 := hv0.2.2.1
 obtain ⟨_, _, _, E0, rfl, _⟩ := hv0
 refine Q0a [⟨16, 0, [0, 2, 1, 3, 4, 5, 6, 7, 8, 9, 10, 11, 12, 13, 14, 15, 16, 17, 18, 19, 20, 21, 22, 23, 24, 25, 26, 27, 29, 28, 30, 31, 32, 33, 34, 35, 36, 37, 38, 39, 40, 41, 42, 43, 44, 45, 46, 48, 47, 49, 50, 51], []⟩, ⟨21, 2, [], []⟩, ⟨22, 2, [], []⟩, ⟨23, 0, [0, 1, 2, 3, 4, 5, 6, 7, 8, 9, 10, 11, 12, 13, 14, 16, 17, 18, 19, 20, 15, 21, 22, 23], []⟩] [] (by simp) [] Tryz.func3 rfl mixed (by kernel_rfl) Tryz.ntmps3 Tryz.results3 rfl ⟨by simp, by simp⟩ (by simp) ?_
 simp only [toS, textOps, toSOp, kindAt, kindOf, odAt, sopsAt, ordOf, zipF]
 (repeat' (first | refine JC.seq ?_ | refine JC.ops ?_ | refine JO.nil ?_ | (apply Q02; (iterate 3 exact rfl)) | (apply Q0x; (iterate 4 exact rfl); intro _)))
 rename_i bs0 bp0 bq0
 refine Q00 ?_
 (repeat' (first | refine JC.seq ?_ | refine JC.ops ?_))
 refine Q09 trivial rfl rfl rfl (fun w _ _ => Qj2 w) fun w v w' _ _ _ hR => ?_
 subst hR
 (repeat' (first | refine JO.nil ?_ | (apply Q02; (iterate 3 exact rfl))))
 refine JX.part (F' := [(7, .bool true), (5, .pointer (some ⟨bq0, 0, none⟩)), (4, .pointer (some ⟨bp0, 0, none⟩)), (3, .pointer (some ⟨bs0, 0, none⟩))]) (H' := [(bq0, .cells #[iv q0, iv q1] 25), (bp0, .cells #[iv p0, iv p1] 25), (bs0, .cells #[.int .u8 (R0 : Int), .int .u8 (C0 : Int), E0] 24)] ++ ([])) (by repeat first | exact trivial | refine ⟨rfl, ?_⟩) (by (repeat' first | exact HSub.refl _ | exact HSub.nil _ | refine HSub.at 0 rfl ?_ | refine HSub.at 1 rfl ?_ | refine HSub.at 2 rfl ?_ | refine HSub.at 3 rfl ?_ | refine HSub.at 4 rfl ?_ | refine HSub.at 5 rfl ?_ | refine HSub.at 6 rfl ?_ | refine HSub.at 7 rfl ?_ | refine HSub.at 8 rfl ?_ | refine HSub.at 9 rfl ?_ | refine HSub.at 10 rfl ?_ | refine HSub.at 11 rfl ?_ | refine HSub.at 12 rfl ?_ | refine HSub.at 13 rfl ?_ | refine HSub.at 14 rfl ?_ | refine HSub.at 15 rfl ?_ | refine HSub.at 16 rfl ?_ | refine HSub.at 17 rfl ?_ | refine HSub.at 18 rfl ?_ | refine HSub.at 19 rfl ?_ | refine Q0l ?_ | refine HSub.skip ?_ | refine Q01 ?_)) ?_
 refine Q00 ?_
 (repeat' (first | refine JC.seq ?_ | refine JC.ops ?_ | (apply Q0d; (iterate 4 exact rfl); exact at2; exact rfl)))
 refine Q0h (A := [_, _, _]) (B := []) rfl (by first | trivial | exact ⟨rfl, rfl⟩) rfl (by first | rfl | exact ⟨rfl, rfl⟩) rfl (fun w hk hs => Qop w _ R0 C0 L0 (hs0.mono hk)) fun w v w' _ _ _ hR => ?_
 obtain ⟨ma, hma⟩ : ∃ m, m = shMat R0 C0 L0 := ⟨_, rfl⟩
 have rta : RtZ ma := by rw [hma]; exact Qhn _ _ _
 have bda : BdZ 8 ma := by rw [hma]; exact Qoc hL0 _ _
 rw [← hma] at hR
 obtain ⟨Na, hNa, Ea, rfl, hOa⟩ := hR
 obtain ⟨Aa, ca, rfl⟩ := hOa.form
 refine ⟨Na, hNa, ?_⟩
 (repeat' (first | refine JO.nil ?_ | (apply Q05; exact rfl; (first | exact trivial | exact ⟨rfl, rfl⟩); exact rfl; exact rfl; exact at0; (iterate 3 exact rfl)) | (apply Q0e; (iterate 3 exact rfl); intro _) | (apply Q05; exact rfl; (first | exact trivial | exact ⟨rfl, rfl⟩); exact rfl; exact rfl; exact at0; (iterate 3 exact rfl))))
 rename_i ba
 refine JX.part (F' := [(8, .pointer (some ⟨ba, 0, none⟩)), (7, .bool true), (5, .pointer (some ⟨bq0, 0, none⟩)), (4, .pointer (some ⟨bp0, 0, none⟩))]) (H' := [(ba, .cells #[nv ma.r, nv ma.c, .slice Aa ma.e.length ca] 29), (bq0, .cells #[iv q0, iv q1] 25), (bp0, .cells #[iv p0, iv p1] 25)] ++ (Na ++ ([]))) (by repeat first | exact trivial | refine ⟨rfl, ?_⟩) (by (repeat' first | exact HSub.refl _ | exact HSub.nil _ | refine HSub.at 0 rfl ?_ | refine HSub.at 1 rfl ?_ | refine HSub.at 2 rfl ?_ | refine HSub.at 3 rfl ?_ | refine HSub.at 4 rfl ?_ | refine HSub.at 5 rfl ?_ | refine HSub.at 6 rfl ?_ | refine HSub.at 7 rfl ?_ | refine HSub.at 8 rfl ?_ | refine HSub.at 9 rfl ?_ | refine HSub.at 10 rfl ?_ | refine HSub.at 11 rfl ?_ | refine HSub.at 12 rfl ?_ | refine HSub.at 13 rfl ?_ | refine HSub.at 14 rfl ?_ | refine HSub.at 15 rfl ?_ | refine HSub.at 16 rfl ?_ | refine HSub.at 17 rfl ?_ | refine HSub.at 18 rfl ?_ | refine HSub.at 19 rfl ?_ | refine Q0l ?_ | refine HSub.skip ?_ | refine Q01 ?_)) ?_
 refine Q00 ?_
 (repeat' (first | refine JC.seq ?_ | refine JC.ops ?_ | (apply Q0d; (iterate 4 exact rfl); (first | exact at0 | exact at2); exact rfl)))
 have car : ma.r = R0 % 7 := by rw [hma]; rfl
 have cac : ma.c = C0 % 7 := by rw [hma]; rfl
 have hBa : BX 0 ma.xm := BX.zero (by omega) (by omega) rta bda
 refine Q0h (A := [_, _, _]) (B := Na ++ ([])) rfl (by first | trivial | exact ⟨rfl, rfl⟩) rfl (by first | rfl | exact ⟨rfl, rfl⟩) rfl (fun w hk hs => Qk7 w _ 0 ma.xm p0 p1 hp0 hp1 hBa (by omega) (IsM.x ⟨_, rfl, hOa.rd.at hk hs (by (repeat' first | exact HSub.nil _ | exact HSub.hd | exact Q03 | exact HSub.refl _ | refine HSub.skip ?_ | refine Q01 ?_))⟩)) fun w v w' _ _ _ hR => ?_
 obtain ⟨xb, hBb, Nb, hNb, Eb, rfl, hOb⟩ := hR
 obtain ⟨Ab, cb, rfl⟩ := hOb.form
 refine ⟨Nb, hNb, ?_⟩
 (repeat' (first | refine JO.nil ?_ | (apply Q05; exact rfl; (first | exact trivial | exact ⟨rfl, rfl⟩); exact rfl; exact rfl; exact at0; (iterate 3 exact rfl)) | (apply Q0e; (iterate 3 exact rfl); intro _) | (apply Q05; exact rfl; (first | exact trivial | exact ⟨rfl, rfl⟩); exact rfl; exact rfl; exact at0; (iterate 3 exact rfl))))
 rename_i bb
 refine JX.part (F' := [(9, .pointer (some ⟨bb, 0, none⟩)), (8, .pointer (some ⟨ba, 0, none⟩)), (7, .bool true), (5, .pointer (some ⟨bq0, 0, none⟩))]) (H' := [(bb, .cells #[iv xb.R, iv xb.C, .slice Ab xb.E.length cb] 29), (ba, .cells #[nv ma.r, nv ma.c, .slice Aa ma.e.length ca] 29), (bq0, .cells #[iv q0, iv q1] 25)] ++ (Nb ++ (Na ++ ([])))) (by repeat first | exact trivial | refine ⟨rfl, ?_⟩) (by (repeat' first | exact HSub.refl _ | exact HSub.nil _ | refine HSub.at 0 rfl ?_ | refine HSub.at 1 rfl ?_ | refine HSub.at 2 rfl ?_ | refine HSub.at 3 rfl ?_ | refine HSub.at 4 rfl ?_ | refine HSub.at 5 rfl ?_ | refine HSub.at 6 rfl ?_ | refine HSub.at 7 rfl ?_ | refine HSub.at 8 rfl ?_ | refine HSub.at 9 rfl ?_ | refine HSub.at 10 rfl ?_ | refine HSub.at 11 rfl ?_ | refine HSub.at 12 rfl ?_ | refine HSub.at 13 rfl ?_ | refine HSub.at 14 rfl ?_ | refine HSub.at 15 rfl ?_ | refine HSub.at 16 rfl ?_ | refine HSub.at 17 rfl ?_ | refine HSub.at 18 rfl ?_ | refine HSub.at 19 rfl ?_ | refine Q0l ?_ | refine HSub.skip ?_ | refine Q01 ?_)) ?_
 refine Q00 ?_
 (repeat' (first | refine JC.seq ?_ | refine JC.ops ?_ | (apply Q0d; (iterate 4 exact rfl); (first | exact at0 | exact at2); exact rfl)))
 refine Q0h (A := [_, _, _]) (B := Nb ++ (Na ++ ([]))) rfl (by first | trivial | exact ⟨rfl, rfl⟩) rfl (by first | rfl | exact ⟨rfl, rfl⟩) rfl (fun w hk hs => Qk7 w _ 1 xb q0 q1 hq0 hq1 hBb (by omega) ⟨_, rfl, hOb.rd.at hk hs (by (repeat' first | exact HSub.nil _ | exact HSub.hd | exact Q03 | exact HSub.refl _ | refine HSub.skip ?_ | refine Q01 ?_))⟩) fun w v w' _ _ _ hR => ?_
 obtain ⟨xc, hBc, Nc, hNc, Ec, rfl, hOc⟩ := hR
 obtain ⟨Ac, cc, rfl⟩ := hOc.form
 refine ⟨Nc, hNc, ?_⟩
 (repeat' (first | refine JO.nil ?_ | (apply Q05; exact rfl; (first | exact trivial | exact ⟨rfl, rfl⟩); exact rfl; exact rfl; exact at0; (iterate 3 exact rfl)) | (apply Q0e; (iterate 3 exact rfl); intro _) | (apply Q05; exact rfl; (first | exact trivial | exact ⟨rfl, rfl⟩); exact rfl; exact rfl; exact at0; (iterate 3 exact rfl))))
 rename_i bc
 refine JX.part (F' := [(10, .pointer (some ⟨bc, 0, none⟩)), (9, .pointer (some ⟨bb, 0, none⟩)), (8, .pointer (some ⟨ba, 0, none⟩)), (7, .bool true)]) (H' := [(bc, .cells #[iv xc.R, iv xc.C, .slice Ac xc.E.length cc] 29), (bb, .cells #[iv xb.R, iv xb.C, .slice Ab xb.E.length cb] 29), (ba, .cells #[nv ma.r, nv ma.c, .slice Aa ma.e.length ca] 29)] ++ (Nc ++ (Nb ++ (Na ++ ([]))))) (by repeat first | exact trivial | refine ⟨rfl, ?_⟩) (by (repeat' first | exact HSub.refl _ | exact HSub.nil _ | refine HSub.at 0 rfl ?_ | refine HSub.at 1 rfl ?_ | refine HSub.at 2 rfl ?_ | refine HSub.at 3 rfl ?_ | refine HSub.at 4 rfl ?_ | refine HSub.at 5 rfl ?_ | refine HSub.at 6 rfl ?_ | refine HSub.at 7 rfl ?_ | refine HSub.at 8 rfl ?_ | refine HSub.at 9 rfl ?_ | refine HSub.at 10 rfl ?_ | refine HSub.at 11 rfl ?_ | refine HSub.at 12 rfl ?_ | refine HSub.at 13 rfl ?_ | refine HSub.at 14 rfl ?_ | refine HSub.at 15 rfl ?_ | refine HSub.at 16 rfl ?_ | refine HSub.at 17 rfl ?_ | refine HSub.at 18 rfl ?_ | refine HSub.at 19 rfl ?_ | refine Q0l ?_ | refine HSub.skip ?_ | refine Q01 ?_)) ?_
 refine Q00 ?_
 (repeat' (first | refine JC.seq ?_ | refine JC.ops ?_ | (apply Q0d; (iterate 4 exact rfl); (first | exact at0 | exact at1 | exact at2); exact rfl)))
 refine Q7j (sz := 3) (vs := [.agg #[nv ma.r, nv ma.c, .slice Aa ma.e.length ca], .agg #[iv xb.R, iv xb.C, .slice Ab xb.E.length cb], .agg #[iv xc.R, iv xc.C, .slice Ac xc.E.length cc]]) (cl := [nv ma.r, nv ma.c, .slice Aa ma.e.length ca, iv xb.R, iv xb.C, .slice Ab xb.E.length cb, iv xc.R, iv xc.C, .slice Ac xc.E.length cc]) rfl rfl rfl rfl rfl
  (fun v hv => by
   simp only [List.mem_cons, List.not_mem_nil, or_false] at hv
   rcases hv with rfl | rfl | rfl <;> rfl) (by first | rfl | trivial | exact ⟨rfl, rfl⟩) (by decide) (by decide) (fun b11 => ?_)
 (repeat' (first | refine JO.nil ?_ | (apply Q02; (iterate 3 exact rfl))))
 obtain ⟨X, hX0, hX1, hX2⟩ : ∃ X : Nat → XM, X 0 = ma.xm ∧ X 1 = xb ∧ X 2 = xc := ⟨fun k => match k with | 0 => ma.xm | 1 => xb | _ => xc, rfl, rfl, rfl⟩
 obtain ⟨V, hV0, hV1, hV2⟩ : ∃ V : Nat → Value, V 0 = .slice Aa ma.e.length ca ∧ V 1 = .slice Ab xb.E.length cb ∧ V 2 = .slice Ac xc.E.length cc := ⟨fun k => match k with | 0 => .slice Aa ma.e.length ca | 1 => .slice Ab xb.E.length cb | _ => .slice Ac xc.E.length cc, rfl, rfl, rfl⟩
 have hBX : ∀ k, k < 3 → BX 2 (X k) := fun k hk => by
  rcases (show k = 0 ∨ k = 1 ∨ k = 2 by omega) with rfl | rfl | rfl
  ·rw [hX0]; exact hBa.up.up
  ·rw [hX1]; exact hBb.up
  ·rw [hX2]; exact hBc
 have hRX : ∀ (c : Cx) (k : Nat), k < 3 → RdX c (Nc ++ (Nb ++ (Na ++ []))) (V k) (X k).E.length (X k).E := fun c k hk => by
  rcases (show k = 0 ∨ k = 1 ∨ k = 2 by omega) with rfl | rfl | rfl
  ·rw [hX0, hV0, show ma.xm.E.length = ma.e.length from List.length_map ..]; exact Rd.up hOa.rd (by exact Q01 (Q01 Q03))
  ·rw [hX1, hV1]; exact Rd.up hOb.rd (by exact Q01 Q03)
  ·rw [hX2, hV2]; exact Rd.up hOc.rd (by exact Q03)
 generalize Nc ++ (Nb ++ (Na ++ [])) = NN at hRX ⊢
 refine JX.part (F' := [(11, .slice (some ⟨b11, 0, none⟩) 3 3), (7, .bool true)]) (H' := [(b11, .cells ⟨[nv ma.r, nv ma.c, .slice Aa ma.e.length ca, iv xb.R, iv xb.C, .slice Ab xb.E.length cb, iv xc.R, iv xc.C, .slice Ac xc.E.length cc]⟩ 29)] ++ (NN ++ [])) (by repeat first | exact trivial | refine ⟨rfl, ?_⟩) (by exact HSub.at 0 rfl (by simpa using HSub.sub (List.sublist_append_right [_, _, _] NN))) ?_
 (repeat' (first | refine JC.seq ?_ | refine JC.ops ?_ | refine JO.nil ?_ | refine Q00 ?_ | (apply Q02; (iterate 3 exact rfl)) | refine JC.block ?_))
 have hL : ∀ k, k < 3 → ∀ j, j < 3 → (⟨[nv ma.r, nv ma.c, .slice Aa ma.e.length ca, iv xb.R, iv xb.C, .slice Ab xb.E.length cb, iv xc.R, iv xc.C, .slice Ac xc.E.length cc]⟩ : Array Value)[0 + k * 3 + j]? = (#[iv (X k).R, iv (X k).C, V k] : Array Value)[j]? := fun k hk j hj => by
  rcases (show k = 0 ∨ k = 1 ∨ k = 2 by omega) with rfl | rfl | rfl
  ·rw [hX0, hV0]
   rcases (show j = 0 ∨ j = 1 ∨ j = 2 by omega) with rfl | rfl | rfl <;> rfl
  ·rw [hX1, hV1]
   rcases (show j = 0 ∨ j = 1 ∨ j = 2 by omega) with rfl | rfl | rfl <;> rfl
  ·rw [hX2, hV2]
   rcases (show j = 0 ∨ j = 1 ∨ j = 2 by omega) with rfl | rfl | rfl <;> rfl
 generalize hLs : (⟨[nv ma.r, nv ma.c, .slice Aa ma.e.length ca, iv xb.R, iv xb.C, .slice Ab xb.E.length cb, iv xc.R, iv xc.C, .slice Ac xc.E.length cc]⟩ : Array Value) = LS at hL ⊢
 clear hX0 hX1 hX2 hV0 hV1 hV2 hLs hBa hBb hBc hOa hOb hOc
 refine Q0k (ι := Nat) ⟨fun k => [(12, nv k), (11, .slice (some ⟨b11, 0, none⟩) 3 3), (7, .bool true)], fun _ => [(b11, .cells LS 29)] ++ (NN ++ []), fun k => k ≤ 3, fun k => 3 - k⟩ 0 (by dsimp only; omega) (by repeat first | exact trivial | refine ⟨rfl, ?_⟩) (HSub.refl _) (fun k hk => ?_)
 dsimp only at hk ⊢
 by_cases hk3 : k < 3
 ·have hBx := hBX k hk3
  have hRx := fun c => hRX c k hk3
  have hLx := hL k hk3
  generalize X k = x at hBx hRx hLx
  generalize V k = vx at hRx hLx
  obtain ⟨Ax, cx, rfl⟩ := (hRx ⟨Tryz.prog, 0, w, [], by simp⟩).form
  obtain ⟨d, zd, hD1, hD2⟩ := Qj1 hBx
  obtain ⟨mi, zi, rti, hI1, hI2⟩ := Qiy hBx
  obtain ⟨mp, zp, rtp, hP1, hP2⟩ := Qgb hBx
  obtain ⟨zr, hr1, hr2⟩ := Qef hBx
  obtain ⟨mt, rtt, hT1, hT2⟩ := Qkn hBx
  obtain ⟨za, ha1, ha2⟩ := Qmg hBx
  (repeat' (first | refine JC.seq ?_ | refine JC.ops ?_ | refine JO.nil ?_ | refine Q00 ?_ | (apply Q04; (iterate 3 exact rfl)) | (apply Q5t; (iterate 3 exact rfl); exact fun _ => rfl; exact rfl; omega) | (apply Q0m; (iterate 4 exact rfl); all_goals intro hc; all_goals try (exfalso; omega)) | refine JC.skip ?_ | refine Q08 rfl ?_ | refine JC.block ?_))
  refine Q85 (n := 3) (vs := #[iv x.R, iv x.C, .slice Ax x.E.length cx]) 0 rfl rfl rfl rfl rfl rfl hLx ?_
  (repeat' (first | refine JO.nil ?_ | (apply Q05; exact rfl; (first | exact trivial | exact ⟨rfl, rfl⟩); exact rfl; exact rfl; exact at0; (iterate 3 exact rfl)) | (apply Q0e; (iterate 3 exact rfl); intro _) | (apply Q05; exact rfl; (first | exact trivial | exact ⟨rfl, rfl⟩); exact rfl; exact rfl; exact at0; (iterate 3 exact rfl))))
  rename_i bx
  refine JX.part (F' := [(13, .pointer (some ⟨bx, 0, none⟩)), (12, nv k), (11, .slice (some ⟨b11, 0, none⟩) 3 3), (7, .bool true)]) (H' := [(bx, .cells #[iv x.R, iv x.C, .slice Ax x.E.length cx] 29), (b11, .cells LS 29)] ++ (NN ++ ([]))) (by repeat first | exact trivial | refine ⟨rfl, ?_⟩) (by (repeat' first | exact HSub.refl _ | exact HSub.nil _ | refine HSub.at 0 rfl ?_ | refine HSub.at 1 rfl ?_ | refine HSub.at 2 rfl ?_ | refine HSub.at 3 rfl ?_ | refine HSub.at 4 rfl ?_ | refine HSub.at 5 rfl ?_ | refine HSub.at 6 rfl ?_ | refine HSub.at 7 rfl ?_ | refine HSub.at 8 rfl ?_ | refine HSub.at 9 rfl ?_ | refine HSub.at 10 rfl ?_ | refine HSub.at 11 rfl ?_ | refine HSub.at 12 rfl ?_ | refine HSub.at 13 rfl ?_ | refine HSub.at 14 rfl ?_ | refine HSub.at 15 rfl ?_ | refine HSub.at 16 rfl ?_ | refine HSub.at 17 rfl ?_ | refine HSub.at 18 rfl ?_ | refine HSub.at 19 rfl ?_ | refine Q0l ?_ | refine HSub.skip ?_ | refine Q01 ?_)) ?_
  refine Q00 ?_
  (repeat' (first | refine JC.seq ?_ | refine JC.ops ?_ | (apply Q0d; (iterate 4 exact rfl); exact at0; exact rfl)))
  refine Q09 (by first | trivial | exact ⟨rfl, rfl⟩) rfl (by first | rfl | exact ⟨rfl, rfl⟩) rfl (fun w hk hs => hD1 w _ ⟨_, rfl, (hRx _).at hk hs (by (repeat' first | exact HSub.nil _ | exact HSub.hd | exact Q03 | exact HSub.refl _ | refine HSub.skip ?_ | refine Q01 ?_))⟩) fun w v w' _ _ _ hR => ?_
  subst hR
  (repeat' (first | refine JO.nil ?_ | (apply Q04; (iterate 3 exact rfl)) | (apply Q02; (iterate 3 exact rfl)) | (apply Q0v; (iterate 4 exact rfl)) | (apply Q05; exact rfl; (first | exact trivial | exact ⟨rfl, rfl⟩); exact rfl; exact rfl; exact at0; (iterate 3 exact rfl)) | (apply Q0e; (iterate 3 exact rfl); intro _) | (apply Q05; exact rfl; (first | exact trivial | exact ⟨rfl, rfl⟩); exact rfl; exact rfl; exact at0; (iterate 3 exact rfl))))
  rename_i bd
  refine JX.part (F' := [(15, .bool zd), (14, .pointer (some ⟨bd, 0, none⟩)), (13, .pointer (some ⟨bx, 0, none⟩)), (12, nv k), (11, .slice (some ⟨b11, 0, none⟩) 3 3), (7, .bool true)]) (H' := [(bd, .cells (wc d) 34), (bx, .cells #[iv x.R, iv x.C, .slice Ax x.E.length cx] 29), (b11, .cells LS 29)] ++ (NN ++ ([]))) (by repeat first | exact trivial | refine ⟨rfl, ?_⟩) (by (repeat' first | exact HSub.refl _ | exact HSub.nil _ | refine HSub.at 0 rfl ?_ | refine HSub.at 1 rfl ?_ | refine HSub.at 2 rfl ?_ | refine HSub.at 3 rfl ?_ | refine HSub.at 4 rfl ?_ | refine HSub.at 5 rfl ?_ | refine HSub.at 6 rfl ?_ | refine HSub.at 7 rfl ?_ | refine HSub.at 8 rfl ?_ | refine HSub.at 9 rfl ?_ | refine HSub.at 10 rfl ?_ | refine HSub.at 11 rfl ?_ | refine HSub.at 12 rfl ?_ | refine HSub.at 13 rfl ?_ | refine HSub.at 14 rfl ?_ | refine HSub.at 15 rfl ?_ | refine HSub.at 16 rfl ?_ | refine HSub.at 17 rfl ?_ | refine HSub.at 18 rfl ?_ | refine HSub.at 19 rfl ?_ | refine Q0l ?_ | refine HSub.skip ?_ | refine Q01 ?_)) ?_
  refine Q00 ?_
  (repeat' (first | refine JC.seq ?_ | refine JC.ops ?_ | (apply Q0d; (iterate 4 exact rfl); exact at1; exact rfl)))
  refine Q09 (by first | trivial | exact ⟨rfl, rfl⟩) rfl (by first | rfl | exact ⟨rfl, rfl⟩) rfl (fun w hk hs => hD2 w _ ⟨_, rfl, (hRx _).at hk hs (by (repeat' first | exact HSub.nil _ | exact HSub.hd | exact Q03 | exact HSub.refl _ | refine HSub.skip ?_ | refine Q01 ?_))⟩) fun w v w' _ _ _ hR => ?_
  subst hR
  (repeat' (first | refine JO.nil ?_ | (apply Q04; (iterate 3 exact rfl)) | (apply Q02; (iterate 3 exact rfl)) | (apply Q0v; (iterate 4 exact rfl)) | (apply Q05; exact rfl; (first | exact trivial | exact ⟨rfl, rfl⟩); exact rfl; exact rfl; exact at0; (iterate 3 exact rfl)) | (apply Q0e; (iterate 3 exact rfl); intro _) | (apply Q05; exact rfl; (first | exact trivial | exact ⟨rfl, rfl⟩); exact rfl; exact rfl; exact at0; (iterate 3 exact rfl))))
  rename_i be
  refine JX.part (F' := [(17, .bool zd), (16, .pointer (some ⟨be, 0, none⟩)), (15, .bool zd), (14, .pointer (some ⟨bd, 0, none⟩)), (13, .pointer (some ⟨bx, 0, none⟩)), (12, nv k), (11, .slice (some ⟨b11, 0, none⟩) 3 3), (7, .bool true)]) (H' := [(be, .cells (wc d) 34), (bd, .cells (wc d) 34), (bx, .cells #[iv x.R, iv x.C, .slice Ax x.E.length cx] 29), (b11, .cells LS 29)] ++ (NN ++ ([]))) (by repeat first | exact trivial | refine ⟨rfl, ?_⟩) (by (repeat' first | exact HSub.refl _ | exact HSub.nil _ | refine HSub.at 0 rfl ?_ | refine HSub.at 1 rfl ?_ | refine HSub.at 2 rfl ?_ | refine HSub.at 3 rfl ?_ | refine HSub.at 4 rfl ?_ | refine HSub.at 5 rfl ?_ | refine HSub.at 6 rfl ?_ | refine HSub.at 7 rfl ?_ | refine HSub.at 8 rfl ?_ | refine HSub.at 9 rfl ?_ | refine HSub.at 10 rfl ?_ | refine HSub.at 11 rfl ?_ | refine HSub.at 12 rfl ?_ | refine HSub.at 13 rfl ?_ | refine HSub.at 14 rfl ?_ | refine HSub.at 15 rfl ?_ | refine HSub.at 16 rfl ?_ | refine HSub.at 17 rfl ?_ | refine HSub.at 18 rfl ?_ | refine HSub.at 19 rfl ?_ | refine Q0l ?_ | refine HSub.skip ?_ | refine Q01 ?_)) ?_
  refine Q00 ?_
  (repeat' (first | refine JC.seq ?_ | refine JC.ops ?_ | (apply Q0d; (iterate 4 exact rfl); exact at2; exact rfl)))
  refine Q0h (A := [_, _, _, _]) (B := NN ++ ([])) rfl (by first | trivial | exact ⟨rfl, rfl⟩) rfl (by first | rfl | exact ⟨rfl, rfl⟩) rfl (fun w hk hs => hI1 w _ ⟨_, rfl, (hRx _).at hk hs (by (repeat' first | exact HSub.nil _ | exact HSub.hd | exact Q03 | exact HSub.refl _ | refine HSub.skip ?_ | refine Q01 ?_))⟩) fun w v w' _ _ _ hR => ?_
  obtain ⟨Nf, uf, rfl, hNf, Ef, rfl, hOf⟩ := hR
  obtain ⟨Af, cf, rfl⟩ := hOf.form
  refine ⟨Nf, hNf, ?_⟩
  (repeat' (first | refine JO.nil ?_ | (apply Q04; (iterate 3 exact rfl)) | (apply Q02; (iterate 3 exact rfl)) | (apply Q0v; (iterate 4 exact rfl)) | (apply Q05; exact rfl; (first | exact trivial | exact ⟨rfl, rfl⟩); exact rfl; exact rfl; exact at0; (iterate 3 exact rfl)) | (apply Q0e; (iterate 3 exact rfl); intro _) | (apply Q05; exact rfl; (first | exact trivial | exact ⟨rfl, rfl⟩); exact rfl; exact rfl; exact at0; (iterate 3 exact rfl))))
  rename_i bf
  refine JX.part (F' := [(19, .bool zi), (18, .pointer (some ⟨bf, 0, none⟩)), (17, .bool zd), (16, .pointer (some ⟨be, 0, none⟩)), (15, .bool zd), (14, .pointer (some ⟨bd, 0, none⟩)), (13, .pointer (some ⟨bx, 0, none⟩)), (12, nv k), (11, .slice (some ⟨b11, 0, none⟩) 3 3), (7, .bool true)]) (H' := [(bf, .cells #[nv mi.r, nv mi.c, .slice Af mi.e.length cf] 29), (be, .cells (wc d) 34), (bd, .cells (wc d) 34), (bx, .cells #[iv x.R, iv x.C, .slice Ax x.E.length cx] 29), (b11, .cells LS 29)] ++ (Nf ++ (NN ++ ([])))) (by repeat first | exact trivial | refine ⟨rfl, ?_⟩) (by (repeat' first | exact HSub.refl _ | exact HSub.nil _ | refine HSub.at 0 rfl ?_ | refine HSub.at 1 rfl ?_ | refine HSub.at 2 rfl ?_ | refine HSub.at 3 rfl ?_ | refine HSub.at 4 rfl ?_ | refine HSub.at 5 rfl ?_ | refine HSub.at 6 rfl ?_ | refine HSub.at 7 rfl ?_ | refine HSub.at 8 rfl ?_ | refine HSub.at 9 rfl ?_ | refine HSub.at 10 rfl ?_ | refine HSub.at 11 rfl ?_ | refine HSub.at 12 rfl ?_ | refine HSub.at 13 rfl ?_ | refine HSub.at 14 rfl ?_ | refine HSub.at 15 rfl ?_ | refine HSub.at 16 rfl ?_ | refine HSub.at 17 rfl ?_ | refine HSub.at 18 rfl ?_ | refine HSub.at 19 rfl ?_ | refine Q0l ?_ | refine HSub.skip ?_ | refine Q01 ?_)) ?_
  refine Q00 ?_
  (repeat' (first | refine JC.seq ?_ | refine JC.ops ?_ | (apply Q0d; (iterate 4 exact rfl); exact at3; exact rfl)))
  refine Q0h (A := [_, _, _, _, _]) (B := Nf ++ (NN ++ ([]))) rfl (by first | trivial | exact ⟨rfl, rfl⟩) rfl (by first | rfl | exact ⟨rfl, rfl⟩) rfl (fun w hk hs => hI2 w _ ⟨_, rfl, (hRx _).at hk hs (by (repeat' first | exact HSub.nil _ | exact HSub.hd | exact Q03 | exact HSub.refl _ | refine HSub.skip ?_ | refine Q01 ?_))⟩) fun w v w' _ _ _ hR => ?_
  obtain ⟨Ng, ug, rfl, hNg, Eg, rfl, hOg⟩ := hR
  obtain ⟨Ag, cg, rfl⟩ := hOg.form
  refine ⟨Ng, hNg, ?_⟩
  (repeat' (first | refine JO.nil ?_ | (apply Q04; (iterate 3 exact rfl)) | (apply Q02; (iterate 3 exact rfl)) | (apply Q0v; (iterate 4 exact rfl)) | (apply Q05; exact rfl; (first | exact trivial | exact ⟨rfl, rfl⟩); exact rfl; exact rfl; exact at0; (iterate 3 exact rfl)) | (apply Q0e; (iterate 3 exact rfl); intro _) | (apply Q05; exact rfl; (first | exact trivial | exact ⟨rfl, rfl⟩); exact rfl; exact rfl; exact at0; (iterate 3 exact rfl))))
  rename_i bg
  refine JX.part (F' := [(21, .bool zi), (20, .pointer (some ⟨bg, 0, none⟩)), (19, .bool zi), (18, .pointer (some ⟨bf, 0, none⟩)), (17, .bool zd), (16, .pointer (some ⟨be, 0, none⟩)), (15, .bool zd), (14, .pointer (some ⟨bd, 0, none⟩)), (13, .pointer (some ⟨bx, 0, none⟩)), (12, nv k), (11, .slice (some ⟨b11, 0, none⟩) 3 3), (7, .bool true)]) (H' := [(bg, .cells #[nv mi.r, nv mi.c, .slice Ag mi.e.length cg] 29), (bf, .cells #[nv mi.r, nv mi.c, .slice Af mi.e.length cf] 29), (be, .cells (wc d) 34), (bd, .cells (wc d) 34), (bx, .cells #[iv x.R, iv x.C, .slice Ax x.E.length cx] 29), (b11, .cells LS 29)] ++ (Ng ++ (Nf ++ (NN ++ ([]))))) (by repeat first | exact trivial | refine ⟨rfl, ?_⟩) (by (repeat' first | exact HSub.refl _ | exact HSub.nil _ | refine HSub.at 0 rfl ?_ | refine HSub.at 1 rfl ?_ | refine HSub.at 2 rfl ?_ | refine HSub.at 3 rfl ?_ | refine HSub.at 4 rfl ?_ | refine HSub.at 5 rfl ?_ | refine HSub.at 6 rfl ?_ | refine HSub.at 7 rfl ?_ | refine HSub.at 8 rfl ?_ | refine HSub.at 9 rfl ?_ | refine HSub.at 10 rfl ?_ | refine HSub.at 11 rfl ?_ | refine HSub.at 12 rfl ?_ | refine HSub.at 13 rfl ?_ | refine HSub.at 14 rfl ?_ | refine HSub.at 15 rfl ?_ | refine HSub.at 16 rfl ?_ | refine HSub.at 17 rfl ?_ | refine HSub.at 18 rfl ?_ | refine HSub.at 19 rfl ?_ | refine Q0l ?_ | refine HSub.skip ?_ | refine Q01 ?_)) ?_
  refine Q00 ?_
  (repeat' (first | refine JC.seq ?_ | refine JC.ops ?_ | (apply Q0d; (iterate 4 exact rfl); exact at4; exact rfl)))
  refine Q0h (A := [_, _, _, _, _, _]) (B := Ng ++ (Nf ++ (NN ++ ([])))) rfl (by first | trivial | exact ⟨rfl, rfl⟩) rfl (by first | rfl | exact ⟨rfl, rfl⟩) rfl (fun w hk hs => hP1 w _ ⟨_, rfl, (hRx _).at hk hs (by (repeat' first | exact HSub.nil _ | exact HSub.hd | exact Q03 | exact HSub.refl _ | refine HSub.skip ?_ | refine Q01 ?_))⟩) fun w v w' _ _ _ hR => ?_
  obtain ⟨Nh, uh, rfl, hNh, Eh, rfl, hOh⟩ := hR
  obtain ⟨Ah, ch, rfl⟩ := hOh.form
  refine ⟨Nh, hNh, ?_⟩
  (repeat' (first | refine JO.nil ?_ | (apply Q04; (iterate 3 exact rfl)) | (apply Q02; (iterate 3 exact rfl)) | (apply Q0v; (iterate 4 exact rfl)) | (apply Q05; exact rfl; (first | exact trivial | exact ⟨rfl, rfl⟩); exact rfl; exact rfl; exact at0; (iterate 3 exact rfl)) | (apply Q0e; (iterate 3 exact rfl); intro _) | (apply Q05; exact rfl; (first | exact trivial | exact ⟨rfl, rfl⟩); exact rfl; exact rfl; exact at0; (iterate 3 exact rfl))))
  rename_i bh
  refine JX.part (F' := [(23, .bool zp), (22, .pointer (some ⟨bh, 0, none⟩)), (21, .bool zi), (20, .pointer (some ⟨bg, 0, none⟩)), (19, .bool zi), (18, .pointer (some ⟨bf, 0, none⟩)), (17, .bool zd), (16, .pointer (some ⟨be, 0, none⟩)), (15, .bool zd), (14, .pointer (some ⟨bd, 0, none⟩)), (13, .pointer (some ⟨bx, 0, none⟩)), (12, nv k), (11, .slice (some ⟨b11, 0, none⟩) 3 3), (7, .bool true)]) (H' := [(bh, .cells #[nv mp.r, nv mp.c, .slice Ah mp.e.length ch] 29), (bg, .cells #[nv mi.r, nv mi.c, .slice Ag mi.e.length cg] 29), (bf, .cells #[nv mi.r, nv mi.c, .slice Af mi.e.length cf] 29), (be, .cells (wc d) 34), (bd, .cells (wc d) 34), (bx, .cells #[iv x.R, iv x.C, .slice Ax x.E.length cx] 29), (b11, .cells LS 29)] ++ (Nh ++ (Ng ++ (Nf ++ (NN ++ ([])))))) (by repeat first | exact trivial | refine ⟨rfl, ?_⟩) (by (repeat' first | exact HSub.refl _ | exact HSub.nil _ | refine HSub.at 0 rfl ?_ | refine HSub.at 1 rfl ?_ | refine HSub.at 2 rfl ?_ | refine HSub.at 3 rfl ?_ | refine HSub.at 4 rfl ?_ | refine HSub.at 5 rfl ?_ | refine HSub.at 6 rfl ?_ | refine HSub.at 7 rfl ?_ | refine HSub.at 8 rfl ?_ | refine HSub.at 9 rfl ?_ | refine HSub.at 10 rfl ?_ | refine HSub.at 11 rfl ?_ | refine HSub.at 12 rfl ?_ | refine HSub.at 13 rfl ?_ | refine HSub.at 14 rfl ?_ | refine HSub.at 15 rfl ?_ | refine HSub.at 16 rfl ?_ | refine HSub.at 17 rfl ?_ | refine HSub.at 18 rfl ?_ | refine HSub.at 19 rfl ?_ | refine Q0l ?_ | refine HSub.skip ?_ | refine Q01 ?_)) ?_
  refine Q00 ?_
  (repeat' (first | refine JC.seq ?_ | refine JC.ops ?_ | (apply Q0d; (iterate 4 exact rfl); exact at5; exact rfl)))
  refine Q0h (A := [_, _, _, _, _, _, _]) (B := Nh ++ (Ng ++ (Nf ++ (NN ++ ([]))))) rfl (by first | trivial | exact ⟨rfl, rfl⟩) rfl (by first | rfl | exact ⟨rfl, rfl⟩) rfl (fun w hk hs => hP2 w _ ⟨_, rfl, (hRx _).at hk hs (by (repeat' first | exact HSub.nil _ | exact HSub.hd | exact Q03 | exact HSub.refl _ | refine HSub.skip ?_ | refine Q01 ?_))⟩) fun w v w' _ _ _ hR => ?_
  obtain ⟨Nj, uj, rfl, hNj, Ej, rfl, hOj⟩ := hR
  obtain ⟨Aj, cj, rfl⟩ := hOj.form
  refine ⟨Nj, hNj, ?_⟩
  (repeat' (first | refine JO.nil ?_ | (apply Q04; (iterate 3 exact rfl)) | (apply Q02; (iterate 3 exact rfl)) | (apply Q0v; (iterate 4 exact rfl)) | (apply Q05; exact rfl; (first | exact trivial | exact ⟨rfl, rfl⟩); exact rfl; exact rfl; exact at0; (iterate 3 exact rfl)) | (apply Q0e; (iterate 3 exact rfl); intro _) | (apply Q05; exact rfl; (first | exact trivial | exact ⟨rfl, rfl⟩); exact rfl; exact rfl; exact at0; (iterate 3 exact rfl))))
  rename_i bj
  refine JX.part (F' := [(25, .bool zp), (24, .pointer (some ⟨bj, 0, none⟩)), (23, .bool zp), (22, .pointer (some ⟨bh, 0, none⟩)), (21, .bool zi), (20, .pointer (some ⟨bg, 0, none⟩)), (19, .bool zi), (18, .pointer (some ⟨bf, 0, none⟩)), (17, .bool zd), (16, .pointer (some ⟨be, 0, none⟩)), (15, .bool zd), (14, .pointer (some ⟨bd, 0, none⟩)), (13, .pointer (some ⟨bx, 0, none⟩)), (12, nv k), (11, .slice (some ⟨b11, 0, none⟩) 3 3), (7, .bool true)]) (H' := [(bj, .cells #[nv mp.r, nv mp.c, .slice Aj mp.e.length cj] 29), (bh, .cells #[nv mp.r, nv mp.c, .slice Ah mp.e.length ch] 29), (bg, .cells #[nv mi.r, nv mi.c, .slice Ag mi.e.length cg] 29), (bf, .cells #[nv mi.r, nv mi.c, .slice Af mi.e.length cf] 29), (be, .cells (wc d) 34), (bd, .cells (wc d) 34), (bx, .cells #[iv x.R, iv x.C, .slice Ax x.E.length cx] 29), (b11, .cells LS 29)] ++ (Nj ++ (Nh ++ (Ng ++ (Nf ++ (NN ++ ([]))))))) (by repeat first | exact trivial | refine ⟨rfl, ?_⟩) (by (repeat' first | exact HSub.refl _ | exact HSub.nil _ | refine HSub.at 0 rfl ?_ | refine HSub.at 1 rfl ?_ | refine HSub.at 2 rfl ?_ | refine HSub.at 3 rfl ?_ | refine HSub.at 4 rfl ?_ | refine HSub.at 5 rfl ?_ | refine HSub.at 6 rfl ?_ | refine HSub.at 7 rfl ?_ | refine HSub.at 8 rfl ?_ | refine HSub.at 9 rfl ?_ | refine HSub.at 10 rfl ?_ | refine HSub.at 11 rfl ?_ | refine HSub.at 12 rfl ?_ | refine HSub.at 13 rfl ?_ | refine HSub.at 14 rfl ?_ | refine HSub.at 15 rfl ?_ | refine HSub.at 16 rfl ?_ | refine HSub.at 17 rfl ?_ | refine HSub.at 18 rfl ?_ | refine HSub.at 19 rfl ?_ | refine Q0l ?_ | refine HSub.skip ?_ | refine Q01 ?_)) ?_
  refine Q00 ?_
  (repeat' (first | refine JC.seq ?_ | refine JC.opsD ?_ | (apply Q0d; (iterate 4 exact rfl); exact at6; exact rfl)))
  refine Q09 (by first | trivial | exact ⟨rfl, rfl⟩) rfl (by first | rfl | exact ⟨rfl, rfl⟩) rfl (fun w hk hs => hr1 w _ ⟨_, rfl, (hRx _).at hk hs (by (repeat' first | exact HSub.nil _ | exact HSub.hd | exact Q03 | exact HSub.refl _ | refine HSub.skip ?_ | refine Q01 ?_))⟩) fun w v w' _ _ _ hR => ?_
  subst hR
  skip
  refine Q09 (by first | trivial | exact ⟨rfl, rfl⟩) rfl (by first | rfl | exact ⟨rfl, rfl⟩) rfl (fun w hk hs => hr2 w _ ⟨_, rfl, (hRx _).at hk hs (by (repeat' first | exact HSub.nil _ | exact HSub.hd | exact Q03 | exact HSub.refl _ | refine HSub.skip ?_ | refine Q01 ?_))⟩) fun w v w' _ _ _ hR => ?_
  subst hR
  (repeat' (first | (apply Q04; (iterate 3 exact rfl)) | (apply Q0d; (iterate 4 exact rfl); (first | exact at2 | exact at3 | exact at4 | exact at5); exact rfl) | (apply Q0q; (iterate 4 exact rfl)) | (apply Qjs; (iterate 4 exact rfl); (first | exact rfl | assumption)) | (apply Qbj; (iterate 4 exact rfl))))
  refine Q09 (by first | trivial | exact ⟨rfl, rfl⟩) rfl (by first | rfl | exact ⟨rfl, rfl⟩) rfl (fun w hk hs => Qdd (m := mi) rti ⟨_, rfl, hOf.rd.at hk hs (by (repeat' first | exact HSub.nil _ | exact HSub.hd | exact Q03 | exact HSub.refl _ | refine HSub.skip ?_ | refine Q01 ?_))⟩ ⟨_, rfl, hOg.rd.at hk hs (by (repeat' first | exact HSub.nil _ | exact HSub.hd | exact Q03 | exact HSub.refl _ | refine HSub.skip ?_ | refine Q01 ?_))⟩) fun w v w' _ _ _ hR => ?_
  subst hR
  (repeat' (first | (apply Q04; (iterate 3 exact rfl)) | (apply Q0d; (iterate 4 exact rfl); exact at6; exact rfl) | (apply Q0q; (iterate 4 exact rfl)) | (apply Q1e; (iterate 3 exact rfl)) | (apply Qbj; (iterate 4 exact rfl))))
  refine Q0h (A := [_, _, _, _, _, _, _, _]) (B := Nj ++ (Nh ++ (Ng ++ (Nf ++ (NN ++ ([])))))) rfl (by first | trivial | exact ⟨rfl, rfl⟩) rfl (by first | rfl | exact ⟨rfl, rfl⟩) rfl (fun w hk hs => hT1 w _ ⟨_, rfl, (hRx _).at hk hs (by (repeat' first | exact HSub.nil _ | exact HSub.hd | exact Q03 | exact HSub.refl _ | refine HSub.skip ?_ | refine Q01 ?_))⟩) fun w v w' _ _ _ hR => ?_
  obtain ⟨Nl, hNl, El, rfl, hOl⟩ := hR
  obtain ⟨Al, cl, rfl⟩ := hOl.form
  refine ⟨Nl, hNl, ?_⟩
  skip
  refine Q0h (A := [_, _, _, _, _, _, _, _]) (B := Nl ++ (Nj ++ (Nh ++ (Ng ++ (Nf ++ (NN ++ ([]))))))) rfl (by first | trivial | exact ⟨rfl, rfl⟩) rfl (by first | rfl | exact ⟨rfl, rfl⟩) rfl (fun w hk hs => hT2 w _ ⟨_, rfl, (hRx _).at hk hs (by (repeat' first | exact HSub.nil _ | exact HSub.hd | exact Q03 | exact HSub.refl _ | refine HSub.skip ?_ | refine Q01 ?_))⟩) fun w v w' _ _ _ hR => ?_
  obtain ⟨Nn, hNn, En, rfl, hOn⟩ := hR
  obtain ⟨An, cn, rfl⟩ := hOn.form
  refine ⟨Nn, hNn, ?_⟩
  skip
  refine Q09 (by first | trivial | exact ⟨rfl, rfl⟩) rfl (by first | rfl | exact ⟨rfl, rfl⟩) rfl (fun w hk hs => Qdd (m := mt) rtt ⟨_, rfl, hOl.rd.at hk hs (by (repeat' first | exact HSub.nil _ | exact HSub.hd | exact Q03 | exact HSub.refl _ | refine HSub.skip ?_ | refine Q01 ?_))⟩ ⟨_, rfl, hOn.rd.at hk hs (by (repeat' first | exact HSub.nil _ | exact HSub.hd | exact Q03 | exact HSub.refl _ | refine HSub.skip ?_ | refine Q01 ?_))⟩) fun w v w' _ _ _ hR => ?_
  subst hR
  (repeat' (first | (apply Q04; (iterate 3 exact rfl)) | (apply Q0d; (iterate 4 exact rfl); (first | exact at0 | exact at1); exact rfl) | (apply Q0q; (iterate 4 exact rfl)) | (apply Q1e; (iterate 3 exact rfl))))
  refine Q09 (by first | trivial | exact ⟨rfl, rfl⟩) rfl (by first | rfl | exact ⟨rfl, rfl⟩) rfl (fun w hk hs => Qdd (m := mp) rtp ⟨_, rfl, hOh.rd.at hk hs (by (repeat' first | exact HSub.nil _ | exact HSub.hd | exact Q03 | exact HSub.refl _ | refine HSub.skip ?_ | refine Q01 ?_))⟩ ⟨_, rfl, hOj.rd.at hk hs (by (repeat' first | exact HSub.nil _ | exact HSub.hd | exact Q03 | exact HSub.refl _ | refine HSub.skip ?_ | refine Q01 ?_))⟩) fun w v w' _ _ _ hR => ?_
  subst hR
  (repeat' (first | (apply Q04; (iterate 3 exact rfl)) | (apply Q0d; (iterate 4 exact rfl); exact at6; exact rfl) | (apply Q0q; (iterate 4 exact rfl)) | (apply Q1e; (iterate 3 exact rfl)) | (apply Qbj; (iterate 4 exact rfl))))
  refine Q09 (by first | trivial | exact ⟨rfl, rfl⟩) rfl (by first | rfl | exact ⟨rfl, rfl⟩) rfl (fun w hk hs => ha1 w _ ⟨_, rfl, (hRx _).at hk hs (by (repeat' first | exact HSub.nil _ | exact HSub.hd | exact Q03 | exact HSub.refl _ | refine HSub.skip ?_ | refine Q01 ?_))⟩) fun w v w' _ _ _ hR => ?_
  subst hR
  skip
  refine Q09 (by first | trivial | exact ⟨rfl, rfl⟩) rfl (by first | rfl | exact ⟨rfl, rfl⟩) rfl (fun w hk hs => ha2 w _ ⟨_, rfl, (hRx _).at hk hs (by (repeat' first | exact HSub.nil _ | exact HSub.hd | exact Q03 | exact HSub.refl _ | refine HSub.skip ?_ | refine Q01 ?_))⟩) fun w v w' _ _ _ hR => ?_
  subst hR
  (repeat' (first | refine JO.nil ?_ | (apply Q0q; (iterate 4 exact rfl)) | (apply Qjs; (iterate 4 exact rfl); (first | exact rfl | assumption))))
  refine JX.part (F' := [(133, .bool false), (13, .pointer (some ⟨bx, 0, none⟩)), (12, nv k), (11, .slice (some ⟨b11, 0, none⟩) 3 3), (7, .bool true)]) (H' := [(bx, .cells #[iv x.R, iv x.C, .slice Ax x.E.length cx] 29), (b11, .cells LS 29)] ++ (NN ++ [])) (by repeat first | exact trivial | refine ⟨rfl, ?_⟩) (by (repeat' first | exact HSub.refl _ | exact HSub.nil _ | refine HSub.at 0 rfl ?_ | refine HSub.at 1 rfl ?_ | refine HSub.at 2 rfl ?_ | refine HSub.at 3 rfl ?_ | refine HSub.at 4 rfl ?_ | refine HSub.at 5 rfl ?_ | refine HSub.at 6 rfl ?_ | refine HSub.at 7 rfl ?_ | refine HSub.at 8 rfl ?_ | refine HSub.at 9 rfl ?_ | refine HSub.at 10 rfl ?_ | refine HSub.at 11 rfl ?_ | refine HSub.at 12 rfl ?_ | refine HSub.at 13 rfl ?_ | refine HSub.at 14 rfl ?_ | refine HSub.at 15 rfl ?_ | refine HSub.at 16 rfl ?_ | refine HSub.at 17 rfl ?_ | refine HSub.at 18 rfl ?_ | refine HSub.at 19 rfl ?_ | refine Q0l ?_ | refine HSub.skip ?_ | refine Q01 ?_)) ?_
  clear hD1 hD2 hI1 hI2 hP1 hP2 hr1 hr2 hT1 hT2 ha1 ha2
  refine Q00 ?_
  (repeat' (first | refine JC.seq ?_ | refine JC.ops ?_ | refine JO.nil ?_ | refine Q00 ?_ | (apply Q02; (iterate 3 exact rfl)) | refine JC.skip ?_ | refine Q07 rfl ?_ | refine JC.block ?_))
  refine Q0k (ι := Nat) ⟨fun m => [(26, nv m), (13, .pointer (some ⟨bx, 0, none⟩)), (12, nv k), (11, .slice (some ⟨b11, 0, none⟩) 3 3), (7, .bool true)], fun _ => [(bx, .cells #[iv x.R, iv x.C, .slice Ax x.E.length cx] 29), (b11, .cells LS 29)] ++ (NN ++ []), fun m => m ≤ 3, fun m => 3 - m⟩ 0 (by dsimp only; omega) (by repeat first | exact trivial | refine ⟨rfl, ?_⟩) (HSub.refl _) (fun m hm => ?_)
  dsimp only at hm ⊢
  by_cases hm3 : m < 3
  ·have hBy := hBX m hm3
   have hRy := fun c => hRX c m hm3
   have hLy := hL m hm3
   generalize X m = y at hBy hRy hLy
   generalize V m = vy at hRy hLy
   obtain ⟨Ay, cy, rfl⟩ := (hRy ⟨Tryz.prog, 0, w, [], by simp⟩).form
   obtain ⟨mu, zu, rtu, hA1, hA2⟩ := Qjc hBx hBy
   obtain ⟨zq, he1, he2⟩ := Qlr hBx hBy
   (repeat' (first | refine JC.seq ?_ | refine JC.ops ?_ | refine JC.opsD ?_ | refine JO.nil ?_ | refine Q00 ?_ | (apply Q04; (iterate 3 exact rfl)) | (apply Q0d; (iterate 4 exact rfl); exact at0; exact rfl) | (apply Q5t; (iterate 3 exact rfl); exact fun _ => rfl; exact rfl; omega) | (apply Q0m; (iterate 4 exact rfl); all_goals intro hc; all_goals try (exfalso; omega)) | refine JC.skip ?_ | refine Q08 rfl ?_ | refine JC.block ?_))
   refine Q85 (n := 3) (vs := #[iv y.R, iv y.C, .slice Ay y.E.length cy]) 1 rfl rfl rfl rfl rfl rfl hLy ?_
   skip
   refine Q0h (A := [_, _]) (B := NN ++ ([])) rfl (by first | trivial | exact ⟨rfl, rfl⟩) rfl (by first | rfl | exact ⟨rfl, rfl⟩) rfl (fun w hk hs => hA1 w _ _ ⟨_, rfl, (hRx _).at hk hs (by (repeat' first | exact HSub.nil _ | exact HSub.hd | exact Q03 | exact HSub.refl _ | refine HSub.skip ?_ | refine Q01 ?_))⟩ ⟨_, rfl, (hRy _).at hk hs (by (repeat' first | exact HSub.nil _ | exact HSub.hd | exact Q03 | exact HSub.refl _ | refine HSub.skip ?_ | refine Q01 ?_))⟩) fun w v w' _ _ _ hR => ?_
   obtain ⟨No, uo, rfl, hNo, Eo, rfl, hOo⟩ := hR
   obtain ⟨Ao, co, rfl⟩ := hOo.form
   refine ⟨No, hNo, ?_⟩
   (repeat' (first | refine JO.nil ?_ | (apply Q04; (iterate 3 exact rfl)) | (apply Q02; (iterate 3 exact rfl)) | (apply Q0v; (iterate 4 exact rfl)) | (apply Q05; exact rfl; (first | exact trivial | exact ⟨rfl, rfl⟩); exact rfl; exact rfl; exact at0; (iterate 3 exact rfl)) | (apply Q0e; (iterate 3 exact rfl); intro _) | (apply Q05; exact rfl; (first | exact trivial | exact ⟨rfl, rfl⟩); exact rfl; exact rfl; exact at0; (iterate 3 exact rfl))))
   rename_i bo
   refine JX.part (F' := [(28, .bool zu), (27, .pointer (some ⟨bo, 0, none⟩)), (26, nv m), (13, .pointer (some ⟨bx, 0, none⟩)), (12, nv k), (11, .slice (some ⟨b11, 0, none⟩) 3 3), (7, .bool true)]) (H' := [(bo, .cells #[nv mu.r, nv mu.c, .slice Ao mu.e.length co] 29), (bx, .cells #[iv x.R, iv x.C, .slice Ax x.E.length cx] 29), (b11, .cells LS 29)] ++ (No ++ (NN ++ ([])))) (by repeat first | exact trivial | refine ⟨rfl, ?_⟩) (by (repeat' first | exact HSub.refl _ | exact HSub.nil _ | refine HSub.at 0 rfl ?_ | refine HSub.at 1 rfl ?_ | refine HSub.at 2 rfl ?_ | refine HSub.at 3 rfl ?_ | refine HSub.at 4 rfl ?_ | refine HSub.at 5 rfl ?_ | refine HSub.at 6 rfl ?_ | refine HSub.at 7 rfl ?_ | refine HSub.at 8 rfl ?_ | refine HSub.at 9 rfl ?_ | refine HSub.at 10 rfl ?_ | refine HSub.at 11 rfl ?_ | refine HSub.at 12 rfl ?_ | refine HSub.at 13 rfl ?_ | refine HSub.at 14 rfl ?_ | refine HSub.at 15 rfl ?_ | refine HSub.at 16 rfl ?_ | refine HSub.at 17 rfl ?_ | refine HSub.at 18 rfl ?_ | refine HSub.at 19 rfl ?_ | refine Q0l ?_ | refine HSub.skip ?_ | refine Q01 ?_)) ?_
   refine Q00 ?_
   (repeat' (first | refine JC.seq ?_ | refine JC.opsD ?_ | (apply Q04; (iterate 3 exact rfl)) | (apply Q0d; (iterate 4 exact rfl); exact at1; exact rfl) | (apply Q5t; (iterate 3 exact rfl); exact fun _ => rfl; exact rfl; omega)))
   refine Q85 (n := 3) (vs := #[iv y.R, iv y.C, .slice Ay y.E.length cy]) 2 rfl rfl rfl rfl rfl rfl hLy ?_
   skip
   refine Q0h (A := [_, _, _]) (B := No ++ (NN ++ ([]))) rfl (by first | trivial | exact ⟨rfl, rfl⟩) rfl (by first | rfl | exact ⟨rfl, rfl⟩) rfl (fun w hk hs => hA2 w _ _ ⟨_, rfl, (hRx _).at hk hs (by (repeat' first | exact HSub.nil _ | exact HSub.hd | exact Q03 | exact HSub.refl _ | refine HSub.skip ?_ | refine Q01 ?_))⟩ ⟨_, rfl, (hRy _).at hk hs (by (repeat' first | exact HSub.nil _ | exact HSub.hd | exact Q03 | exact HSub.refl _ | refine HSub.skip ?_ | refine Q01 ?_))⟩) fun w v w' _ _ _ hR => ?_
   obtain ⟨Nq, uq, rfl, hNq, Eq, rfl, hOq⟩ := hR
   obtain ⟨Aq, cq, rfl⟩ := hOq.form
   refine ⟨Nq, hNq, ?_⟩
   (repeat' (first | refine JO.nil ?_ | (apply Q04; (iterate 3 exact rfl)) | (apply Q02; (iterate 3 exact rfl)) | (apply Q0v; (iterate 4 exact rfl)) | (apply Q05; exact rfl; (first | exact trivial | exact ⟨rfl, rfl⟩); exact rfl; exact rfl; exact at0; (iterate 3 exact rfl)) | (apply Q0e; (iterate 3 exact rfl); intro _) | (apply Q05; exact rfl; (first | exact trivial | exact ⟨rfl, rfl⟩); exact rfl; exact rfl; exact at0; (iterate 3 exact rfl))))
   rename_i bq
   refine JX.part (F' := [(30, .bool zu), (29, .pointer (some ⟨bq, 0, none⟩)), (28, .bool zu), (27, .pointer (some ⟨bo, 0, none⟩)), (26, nv m), (13, .pointer (some ⟨bx, 0, none⟩)), (12, nv k), (11, .slice (some ⟨b11, 0, none⟩) 3 3), (7, .bool true)]) (H' := [(bq, .cells #[nv mu.r, nv mu.c, .slice Aq mu.e.length cq] 29), (bo, .cells #[nv mu.r, nv mu.c, .slice Ao mu.e.length co] 29), (bx, .cells #[iv x.R, iv x.C, .slice Ax x.E.length cx] 29), (b11, .cells LS 29)] ++ (Nq ++ (No ++ (NN ++ ([]))))) (by repeat first | exact trivial | refine ⟨rfl, ?_⟩) (by (repeat' first | exact HSub.refl _ | exact HSub.nil _ | refine HSub.at 0 rfl ?_ | refine HSub.at 1 rfl ?_ | refine HSub.at 2 rfl ?_ | refine HSub.at 3 rfl ?_ | refine HSub.at 4 rfl ?_ | refine HSub.at 5 rfl ?_ | refine HSub.at 6 rfl ?_ | refine HSub.at 7 rfl ?_ | refine HSub.at 8 rfl ?_ | refine HSub.at 9 rfl ?_ | refine HSub.at 10 rfl ?_ | refine HSub.at 11 rfl ?_ | refine HSub.at 12 rfl ?_ | refine HSub.at 13 rfl ?_ | refine HSub.at 14 rfl ?_ | refine HSub.at 15 rfl ?_ | refine HSub.at 16 rfl ?_ | refine HSub.at 17 rfl ?_ | refine HSub.at 18 rfl ?_ | refine HSub.at 19 rfl ?_ | refine Q0l ?_ | refine HSub.skip ?_ | refine Q01 ?_)) ?_
   refine Q00 ?_
   (repeat' (first | refine JC.seq ?_ | refine JC.opsD ?_ | (apply Q0d; (iterate 4 exact rfl); (first | exact at0 | exact at1); exact rfl)))
   refine Q09 (by first | trivial | exact ⟨rfl, rfl⟩) rfl (by first | rfl | exact ⟨rfl, rfl⟩) rfl (fun w hk hs => Qdd (m := mu) rtu ⟨_, rfl, hOo.rd.at hk hs (by (repeat' first | exact HSub.nil _ | exact HSub.hd | exact Q03 | exact HSub.refl _ | refine HSub.skip ?_ | refine Q01 ?_))⟩ ⟨_, rfl, hOq.rd.at hk hs (by (repeat' first | exact HSub.nil _ | exact HSub.hd | exact Q03 | exact HSub.refl _ | refine HSub.skip ?_ | refine Q01 ?_))⟩) fun w v w' _ _ _ hR => ?_
   subst hR
   (repeat' (first | (apply Q04; (iterate 3 exact rfl)) | (apply Q0d; (iterate 4 exact rfl); exact at2; exact rfl) | (apply Q5t; (iterate 3 exact rfl); exact fun _ => rfl; exact rfl; omega) | (apply Q0q; (iterate 4 exact rfl)) | (apply Q1e; (iterate 3 exact rfl)) | (apply Qbj; (iterate 4 exact rfl))))
   refine Q85 (n := 3) (vs := #[iv y.R, iv y.C, .slice Ay y.E.length cy]) 3 rfl rfl rfl rfl rfl rfl hLy ?_
   (repeat' (first | (apply Q04; (iterate 3 exact rfl)) | (apply Q0d; (iterate 4 exact rfl); exact at2; exact rfl) | (apply Q5t; (iterate 3 exact rfl); exact fun _ => rfl; exact rfl; omega)))
   refine Q85 (n := 3) (vs := #[iv y.R, iv y.C, .slice Ay y.E.length cy]) 3 rfl rfl rfl rfl rfl rfl hLy ?_
   skip
   refine Q09 (by first | trivial | exact ⟨rfl, rfl⟩) rfl (by first | rfl | exact ⟨rfl, rfl⟩) rfl (fun w hk hs => he1 w _ _ ⟨_, rfl, (hRx _).at hk hs (by (repeat' first | exact HSub.nil _ | exact HSub.hd | exact Q03 | exact HSub.refl _ | refine HSub.skip ?_ | refine Q01 ?_))⟩ ⟨_, rfl, (hRy _).at hk hs (by (repeat' first | exact HSub.nil _ | exact HSub.hd | exact Q03 | exact HSub.refl _ | refine HSub.skip ?_ | refine Q01 ?_))⟩) fun w v w' _ _ _ hR => ?_
   subst hR
   skip
   refine Q09 (by first | trivial | exact ⟨rfl, rfl⟩) rfl (by first | rfl | exact ⟨rfl, rfl⟩) rfl (fun w hk hs => he2 w _ _ ⟨_, rfl, (hRx _).at hk hs (by (repeat' first | exact HSub.nil _ | exact HSub.hd | exact Q03 | exact HSub.refl _ | refine HSub.skip ?_ | refine Q01 ?_))⟩ ⟨_, rfl, (hRy _).at hk hs (by (repeat' first | exact HSub.nil _ | exact HSub.hd | exact Q03 | exact HSub.refl _ | refine HSub.skip ?_ | refine Q01 ?_))⟩) fun w v w' _ _ _ hR => ?_
   subst hR
   (repeat' (first | refine JC.ops ?_ | refine JO.nil ?_ | refine Q00 ?_ | (apply Q04; (iterate 3 exact rfl)) | (apply Q02; (iterate 3 exact rfl)) | (apply Q0r; (iterate 4 exact rfl); omega) | (apply Q0q; (iterate 4 exact rfl)) | (apply Qbj; (iterate 4 exact rfl)) | refine JC.skip ?_ | refine Q07 rfl ?_ | refine Q0b ?_))
   exact Q0c (m + 1) (by dsimp only; omega) (by dsimp only; omega) (by repeat first | exact trivial | refine ⟨rfl, ?_⟩) (by (repeat' first | exact HSub.refl _ | exact HSub.nil _ | refine HSub.at 0 rfl ?_ | refine HSub.at 1 rfl ?_ | refine HSub.at 2 rfl ?_ | refine HSub.at 3 rfl ?_ | refine HSub.at 4 rfl ?_ | refine HSub.at 5 rfl ?_ | refine HSub.at 6 rfl ?_ | refine HSub.at 7 rfl ?_ | refine HSub.at 8 rfl ?_ | refine HSub.at 9 rfl ?_ | refine HSub.at 10 rfl ?_ | refine HSub.at 11 rfl ?_ | refine HSub.at 12 rfl ?_ | refine HSub.at 13 rfl ?_ | refine HSub.at 14 rfl ?_ | refine HSub.at 15 rfl ?_ | refine HSub.at 16 rfl ?_ | refine HSub.at 17 rfl ?_ | refine HSub.at 18 rfl ?_ | refine HSub.at 19 rfl ?_ | refine Q0l ?_ | refine HSub.skip ?_ | refine Q01 ?_))
  ·(repeat' (first | refine JC.seq ?_ | refine JC.ops ?_ | refine JO.nil ?_ | refine Q00 ?_ | (apply Q04; (iterate 3 exact rfl)) | (apply Q02; (iterate 3 exact rfl)) | (apply Q0r; (iterate 4 exact rfl); omega) | (apply Q0m; (iterate 4 exact rfl); all_goals intro hc; all_goals try (exfalso; omega)) | refine Q0i ?_ | refine JC.exit ?_ | refine Q07 rfl ?_ | refine Q0b ?_ | refine Q0f ?_))
   exact Q0c (k + 1) (by dsimp only; omega) (by dsimp only; omega) (by repeat first | exact trivial | refine ⟨rfl, ?_⟩) (by (repeat' first | exact HSub.refl _ | exact HSub.nil _ | refine HSub.at 0 rfl ?_ | refine HSub.at 1 rfl ?_ | refine HSub.at 2 rfl ?_ | refine HSub.at 3 rfl ?_ | refine HSub.at 4 rfl ?_ | refine HSub.at 5 rfl ?_ | refine HSub.at 6 rfl ?_ | refine HSub.at 7 rfl ?_ | refine HSub.at 8 rfl ?_ | refine HSub.at 9 rfl ?_ | refine HSub.at 10 rfl ?_ | refine HSub.at 11 rfl ?_ | refine HSub.at 12 rfl ?_ | refine HSub.at 13 rfl ?_ | refine HSub.at 14 rfl ?_ | refine HSub.at 15 rfl ?_ | refine HSub.at 16 rfl ?_ | refine HSub.at 17 rfl ?_ | refine HSub.at 18 rfl ?_ | refine HSub.at 19 rfl ?_ | refine Q0l ?_ | refine HSub.skip ?_ | refine Q01 ?_))
 ·(repeat' (first | refine JC.seq ?_ | refine JC.ops ?_ | refine JO.nil ?_ | refine Q00 ?_ | (apply Q04; (iterate 3 exact rfl)) | (apply Q02; (iterate 3 exact rfl)) | (apply Q0m; (iterate 4 exact rfl); all_goals intro hc; all_goals try (exfalso; omega)) | refine Q0i ?_ | refine JC.exit ?_ | refine JC.ret ?_ | refine Q07 rfl ?_ | refine Q0f ?_))
  exact Q0j rfl (fun a w' st => ⟨st.kp, rfl⟩)

end Go.Proofs.YtdlmnloikakjpaaGreatDoor

/-
 LawMatrixWrong: for every input the call of 'cocycle/cocyclelaw02.MatrixWrong' returns true, and every argument reads afterwards as it read before. Conditions: none. The card.
-/
namespace Go.Proofs.YtdlmnloikakjpaaGreatDoor.matrixWrong
open Go Go.RowKit Go.ChangeShapes Go.WideShapes Go.ChangeAt
set_option linter.unusedSimpArgs false
set_option linter.unusedVariables false
set_option linter.unusedSectionVars false

set_option maxRecDepth 100000 in
theorem lifted (os : Os) (started : os.Started) (H : Type) (enc : TypeId × Value → H) :
  ReturnsInHanded {} Tryz.checked os 3 .any (fun w args => (Rows.matrixWrongSpec.pre enc Tryz.prog Tryz.f3 [] false w args ∧ laidMetH Tryz.prog Rows.matrixWrongRow.laid w) ∧ sizedMet enc Tryz.prog Tryz.f3 (OpenSpec.ofChange Rows.matrixWrongSpec) false w args)
   (Rows.matrixWrongSpec.post enc Tryz.prog Tryz.f3 false true false false) := by
 refine returnsInHanded_of_change_and (C := Tryz.checked) (X := fun w _ => laidMetH Tryz.prog Rows.matrixWrongRow.laid w) (fun _ _ _ hh h => h.of_heap hh) own started (by kernel_rfl) Tryz.func3
  (ChangeSpec.witness_shaped (enc := enc) (C := Tryz.checked) (os := os) (X := fun w _ => laidMetH Tryz.prog Rows.matrixWrongRow.laid w) false (World.laidAll Tryz.prog os Rows.matrixWrongRow.laid) #[.agg #[.int .u8 0, .int .u8 0, .slice none 0 0], .agg #[.int .i64 0, .int .i64 0], .agg #[.int .i64 0, .int .i64 0]] 8 (World.laidAll_os _ _ _)
   (World.shaped_of_ZipB (by kernel_rfl) (by kernel_rfl)) (by kernel_rfl) (by kernel_rfl) (by kernel_rfl)
   (by rw [MakeChecks.laidMetH_plain _ _ _ (by kernel_rfl)]; exact laidMet_laidAll _ (by kernel_rfl) (by kernel_rfl))) ?_
 intro W base args ds gs before hval0 hW _ hwt0 hL _
 have hval : ∀ (j : Nat) t v, Tryz.f3.params[j]? = some t → args[j]? = some v → Value.okWide Tryz.prog W .any base t v := hval0
 have hW' := hW
 obtain ⟨p, q, hA0, hV, rfl, hfz, hnd⟩ := hW
 have hA : DataW.TrodAll enc Tryz.prog W 0 (fun _ => true) true Tryz.f3.params.toList args.toList ds p := hA0
 have hwt : (DataW.weightsEach Tryz.prog (Tryz.f3.params.toList ++ Rows.matrixWrongSpec.plain.varTypes Tryz.prog) (ds ++ gs)).all (· ≤ reachBytes) = true := hwt0
 have hwt1 := fun n hn => of_decide_eq_true (List.all_eq_true.1 hwt n hn)
 rw [Tryz.params3] at hA hval hwt1
 obtain ⟨v0, vs0, d0, ds0, p0, q0, hargs, rfl, rfl, h0, r0⟩ := trodAll_cons hA
 obtain ⟨v1, vs1, d1, ds1, p1, q1, rfl, rfl, rfl, h1, r1⟩ := trodAll_cons r0
 obtain ⟨v2, vs2, d2, ds2, p2, q2, rfl, rfl, rfl, h2, r2⟩ := trodAll_cons r1
 obtain ⟨rfl, rfl, rfl⟩ := trodAll_nil r2
 obtain rfl : args = #[v0, v1, v2] := by cases args; simp_all
 obtain ⟨rfl, rfl⟩ := trodVars_none hV
 have k0 := h0
 have lt0 : ∀ x ∈ p0, x.block < W.heap.size := by obtain ⟨m, hm⟩ := k0; exact DataW.trod_lt m _ _ _ hm
 obtain ⟨R0, C0, L0, s0⟩ := Qej (hval 0 24 v0 rfl rfl) h0
 have k1 := h1
 have lt1 : ∀ x ∈ p1, x.block < W.heap.size := by obtain ⟨m, hm⟩ := k1; exact DataW.trod_lt m _ _ _ hm
 obtain ⟨x1, y1, rfl, s1, t1⟩ := Qbr (hval 1 25 v1 rfl rfl) h1
 have k2 := h2
 have lt2 : ∀ x ∈ p2, x.block < W.heap.size := by obtain ⟨m, hm⟩ := k2; exact DataW.trod_lt m _ _ _ hm
 obtain ⟨x2, y2, rfl, s2, t2⟩ := Qbr (hval 2 25 v2 rfl rfl) h2
 clear hA0 hval0
 refine (Qay W v0 R0 C0 L0 x1 y1 x2 y2 s0 s1 t1 s2 t2).mono fun e W' he => ?_
 cases e with
 | panicked _ => exact he.elim
 | outgrown => exact he.elim
 | returned u =>
  obtain ⟨hk, rfl⟩ := he
  have bel := hk.below
  exact ⟨_, rfl, _, _, _, [], _, [], hW', trodAll_mk1 (shut_bool Tryz.underlying4 _), (trodAll_cons_mk (Below.trod laidOut (by kernel_rfl) (of_decide_eq_true (by kernel_rfl)) k0 bel lt0) (trodAll_cons_mk (Below.trod laidOut (by kernel_rfl) (of_decide_eq_true (by kernel_rfl)) k1 bel lt1) (trodAll_cons_mk (Below.trod laidOut (by kernel_rfl) (of_decide_eq_true (by kernel_rfl)) k2 bel lt2) trodAll_mk0))), rfl, bel.frame _, fun h => by cases h⟩

theorem holds : Rows.MatrixWrongSaid :=
 OpenClaim.holds_of_wide 3 Tryz.f3 rfl rfl rfl rfl rfl rfl rfl ⟨rfl, rfl, rfl, rfl, rfl⟩ rfl rfl rfl rfl rfl (by kernel_rfl) Tryz.func3 (by kernel_rfl)
  (of_decide_eq_true (by kernel_rfl)) (by unfold Func.isWrapper; first | (rw [if_pos (by decide +kernel)]; kernel_rfl) | (rw [if_neg (by decide +kernel)]; exact ⟨rfl, rfl⟩))
  (fun os started H enc _ => lifted os started H enc)

theorem proved : Rows.MatrixWrongCardSaid :=
 Claim7.holds_tied_plain_at .later [] [.data, .pinned] true (true, "92388b50f3a93ba5a08d8d18c12c023c2934921ad2ebd158828173a27f7aee81") false holds (fun _ h => by cases h) (by kernel_rfl) (fun _ h => by cases h) matrixWrong_row_tie rfl ⟨rfl, rfl⟩ (by kernel_rfl) rfl
  (fun f fn hf hfn => by
   obtain rfl : f = 3 := Option.some.inj ((show Tryz.prog.funcNamed "cocycle/cocyclelaw02.MatrixWrong" = some 3 by kernel_rfl).symm.trans hf) |>.symm
   obtain rfl : fn = Tryz.f3 := (Option.some.inj (Tryz.func3.symm.trans hfn)).symm
   exact ⟨by kernel_rfl, fun j t ht => by
    rw [Tryz.params3] at ht
    have hm : t ∈ [24, 25] := by simpa using Array.mem_of_getElem? ht
    have hall : ([24, 25].all fun u => !Tryz.prog.wantsStandIn u) = true := by kernel_rfl
    exact (show Tryz.prog.wantsStandIn t = false by simpa using List.all_eq_true.1 hall t hm)⟩)
  (by kernel_rfl)

end Go.Proofs.YtdlmnloikakjpaaGreatDoor.matrixWrong

