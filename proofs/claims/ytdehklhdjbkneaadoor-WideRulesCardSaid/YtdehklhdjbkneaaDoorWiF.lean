/- The rules of a commutative ring. Written by genW7.py. -/
import Derived.Test.YtdehklhdjbkneaaDoorWiE
namespace Go.Proofs.YtdehklhdjbkneaaDoor
open Go Go.RowKit
set_option linter.unusedSimpArgs false
set_option linter.unusedVariables false
set_option linter.unusedSectionVars false

set_option maxHeartbeats 8000000 in
theorem c_WideRules (w : World) (v0 v1 v2 : Value) (h0 : IsNum w v0) (h1 : IsNum w v1) (h2 : IsNum w v2) :
    Calls Tryd.prog 7 #[v0, v1, v2] w (Ret fun v w' => Kp [] w w' ∧ v = .bool true) := by
  obtain ⟨x0, x1, x2, rfl⟩ := h0.form
  obtain ⟨y0, y1, y2, rfl⟩ := h1.form
  obtain ⟨z0, z1, z2, rfl⟩ := h2.form
  refine calls_of_S [⟨5, 1, [0, 1, 3, 4, 2, 5, 6, 7, 8, 9, 11, 13, 14, 15, 10, 12, 16, 17, 18, 19, 20, 21, 22, 25, 23, 24, 26, 27, 28, 29, 30, 32, 34, 31, 33, 35, 36, 37, 38, 39], []⟩, ⟨6, 1, [0, 1, 3, 4, 2, 5, 6, 7, 8, 9, 11, 13, 14, 15, 10, 12, 16, 17, 18, 19, 20, 21, 24, 25, 22, 23, 26, 27, 28, 29], []⟩, ⟨7, 1, [0, 1, 2, 3, 4, 5, 6, 7, 8, 9, 10, 13, 14, 16, 17, 11, 12, 15, 18, 19, 20, 21, 22], []⟩] [] (by simp) [] Tryd.func7 rfl mixed (by kernel_rfl) Tryd.ntmps7 Tryd.results7 rfl ⟨by simp, by simp⟩ (by simp) ?_
  simp only [toS, textOps, toSOp, kindAt, kindOf, odAt, sopsAt, ordOf, zipF]
  (repeat' (first | refine JC.seq ?_ | refine JC.ops ?_ | refine JO.nil ?_ | refine JX.thenN ?_ | (apply r_assign; exact rfl; exact rfl; exact rfl) | (apply r_boxA; exact rfl; exact rfl; exact rfl; exact rfl; intro _)))
  refine r_call0 (by first | trivial | exact ⟨rfl, rfl⟩) rfl rfl rfl (fun w hk hs => c_sanity w) fun w v w' _ _ _ hR => ?_
  subst hR
  (repeat' (first | refine JC.seq ?_ | refine JC.ops ?_ | refine JO.nil ?_ | refine JX.thenN ?_ | (apply r_assign; exact rfl; exact rfl; exact rfl) | (apply r_loadN; exact rfl; exact rfl; exact rfl; exact rfl; (first | exact at0 | exact at1 | exact at2 | exact at3 | exact at4 | exact at5 | exact at6 | exact at7 | exact at8 | exact at9); exact rfl)))
  refine r_call0 (by first | trivial | exact ⟨rfl, rfl⟩) rfl rfl rfl (fun w hk hs => c_Num w _ (h0.mono hk)) fun w v w' _ _ _ hR => ?_
  obtain ⟨a, p0, l0, rfl, hl0, hn0⟩ := hR
  have Za : IsZ (wv p0 l0) a 40 := ⟨p0, l0, rfl, hl0, hn0⟩
  (repeat' (first | refine JC.seq ?_ | refine JC.ops ?_ | refine JO.nil ?_ | refine JX.thenN ?_ | (apply r_loadN; exact rfl; exact rfl; exact rfl; exact rfl; (first | exact at0 | exact at1 | exact at2 | exact at3 | exact at4 | exact at5 | exact at6 | exact at7 | exact at8 | exact at9); exact rfl) | (apply r_storeN; exact rfl; (first | exact trivial | exact ⟨rfl, rfl⟩); exact rfl; exact rfl; (first | exact at0 | exact at1 | exact at2 | exact at3 | exact at4 | exact at5 | exact at6 | exact at7 | exact at8 | exact at9); exact rfl; exact rfl; exact rfl) | (apply r_allocZ; exact rfl; exact rfl; exact rfl; intro _) | (apply r_storeN; exact rfl; (first | exact trivial | exact ⟨rfl, rfl⟩); exact rfl; exact rfl; (first | exact at0 | exact at1 | exact at2 | exact at3 | exact at4 | exact at5 | exact at6 | exact at7 | exact at8 | exact at9); exact rfl; exact rfl; exact rfl)))
  refine r_call0 (by first | trivial | exact ⟨rfl, rfl⟩) rfl rfl rfl (fun w hk hs => c_Num w _ (h1.mono hk)) fun w v w' _ _ _ hR => ?_
  obtain ⟨b, p1, l1, rfl, hl1, hn1⟩ := hR
  have Zb : IsZ (wv p1 l1) b 40 := ⟨p1, l1, rfl, hl1, hn1⟩
  (repeat' (first | refine JC.seq ?_ | refine JC.ops ?_ | refine JO.nil ?_ | refine JX.thenN ?_ | (apply r_loadN; exact rfl; exact rfl; exact rfl; exact rfl; (first | exact at0 | exact at1 | exact at2 | exact at3 | exact at4 | exact at5 | exact at6 | exact at7 | exact at8 | exact at9); exact rfl) | (apply r_storeN; exact rfl; (first | exact trivial | exact ⟨rfl, rfl⟩); exact rfl; exact rfl; (first | exact at0 | exact at1 | exact at2 | exact at3 | exact at4 | exact at5 | exact at6 | exact at7 | exact at8 | exact at9); exact rfl; exact rfl; exact rfl) | (apply r_allocZ; exact rfl; exact rfl; exact rfl; intro _) | (apply r_storeN; exact rfl; (first | exact trivial | exact ⟨rfl, rfl⟩); exact rfl; exact rfl; (first | exact at0 | exact at1 | exact at2 | exact at3 | exact at4 | exact at5 | exact at6 | exact at7 | exact at8 | exact at9); exact rfl; exact rfl; exact rfl)))
  refine r_call0 (by first | trivial | exact ⟨rfl, rfl⟩) rfl rfl rfl (fun w hk hs => c_Num w _ (h2.mono hk)) fun w v w' _ _ _ hR => ?_
  obtain ⟨c, p2, l2, rfl, hl2, hn2⟩ := hR
  have Zc : IsZ (wv p2 l2) c 40 := ⟨p2, l2, rfl, hl2, hn2⟩
  (repeat' (first | refine JC.seq ?_ | refine JC.opsD ?_ | refine JO.nil ?_ | refine JX.thenN ?_ | (apply r_loadN; exact rfl; exact rfl; exact rfl; exact rfl; (first | exact at0 | exact at1 | exact at2 | exact at3 | exact at4 | exact at5 | exact at6 | exact at7 | exact at8 | exact at9); exact rfl) | (apply r_storeN; exact rfl; (first | exact trivial | exact ⟨rfl, rfl⟩); exact rfl; exact rfl; (first | exact at0 | exact at1 | exact at2 | exact at3 | exact at4 | exact at5 | exact at6 | exact at7 | exact at8 | exact at9); exact rfl; exact rfl; exact rfl) | (apply r_allocZ; exact rfl; exact rfl; exact rfl; intro _) | (apply r_storeN; exact rfl; (first | exact trivial | exact ⟨rfl, rfl⟩); exact rfl; exact rfl; (first | exact at0 | exact at1 | exact at2 | exact at3 | exact at4 | exact at5 | exact at6 | exact at7 | exact at8 | exact at9); exact rfl; exact rfl; exact rfl)))
  have zA := Za.mono (show 40 ≤ 1000 by decide)
  have zB := Zb.mono (show 40 ≤ 1000 by decide)
  have zC := Zc.mono (show 40 ≤ 1000 by decide)
  have zAB := (Za.sum Zb).mono (show 41 ≤ 1000 by decide)
  have zBC := (Zb.sum Zc).mono (show 41 ≤ 1000 by decide)
  have zNA := Za.neg.mono (show 40 ≤ 1000 by decide)
  have mAB := (Za.mul Zb).mono (show 80 ≤ 1000 by decide)
  have mAC := (Za.mul Zc).mono (show 80 ≤ 1000 by decide)
  have mBC := (Zb.mul Zc).mono (show 80 ≤ 1000 by decide)
  have z1 : IsZ (Wv 1) 1 1000 := (IsZ.i64 (by decide) (by decide)).mono (by decide)
  have z0 : IsZ (wv false []) 0 1000 := ⟨false, [], rfl, Nat.zero_le _, rfl⟩
  have e1 : a + b = b + a := Int.add_comm _ _
  have e2 : a + b + c = a + (b + c) := Int.add_assoc _ _ _
  have e3 : a + -a = 0 := Int.add_right_neg _
  have e4 : a + b - b = - -a := by omega
  have e5 : a * b = b * a := Int.mul_comm _ _
  have e6 : a * b * c = a * (b * c) := Int.mul_assoc _ _ _
  have e7 : a * 1 = a + 0 := by omega
  have e8 : a * (b + c) = a * b + a * c := Int.mul_add _ _ _
  refine r_call0 (by first | trivial | exact ⟨rfl, rfl⟩) rfl rfl rfl (fun w hk hs => c_Add w _ _ a b 1000 zA zB (by decide)) fun w v w' _ _ _ hR => ?_
  subst hR
  skip
  refine r_call0 (by first | trivial | exact ⟨rfl, rfl⟩) rfl rfl rfl (fun w hk hs => c_Add w _ _ b a 1000 zB zA (by decide)) fun w v w' _ _ _ hR => ?_
  subst hR
  (repeat' (first | (apply r_move; exact rfl; exact rfl; exact rfl) | (apply r_loadN; exact rfl; exact rfl; exact rfl; exact rfl; (first | exact at0 | exact at1 | exact at2 | exact at3 | exact at4 | exact at5 | exact at6 | exact at7 | exact at8 | exact at9); exact rfl) | (apply r_eqWT; exact rfl; exact rfl; exact rfl; exact rfl; (first | exact rfl | assumption))))
  refine r_call0 (by first | trivial | exact ⟨rfl, rfl⟩) rfl rfl rfl (fun w hk hs => c_Add w _ _ a b 1000 zA zB (by decide)) fun w v w' _ _ _ hR => ?_
  subst hR
  skip
  refine r_call0 (by first | trivial | exact ⟨rfl, rfl⟩) rfl rfl rfl (fun w hk hs => c_Add w _ _ (a + b) c 1000 zAB zC (by decide)) fun w v w' _ _ _ hR => ?_
  subst hR
  skip
  refine r_call0 (by first | trivial | exact ⟨rfl, rfl⟩) rfl rfl rfl (fun w hk hs => c_Add w _ _ b c 1000 zB zC (by decide)) fun w v w' _ _ _ hR => ?_
  subst hR
  skip
  refine r_call0 (by first | trivial | exact ⟨rfl, rfl⟩) rfl rfl rfl (fun w hk hs => c_Add w _ _ a (b + c) 1000 zA zBC (by decide)) fun w v w' _ _ _ hR => ?_
  subst hR
  (repeat' (first | (apply r_move; exact rfl; exact rfl; exact rfl) | (apply r_loadN; exact rfl; exact rfl; exact rfl; exact rfl; (first | exact at0 | exact at1 | exact at2 | exact at3 | exact at4 | exact at5 | exact at6 | exact at7 | exact at8 | exact at9); exact rfl) | (apply r_pickT; exact rfl; exact rfl; exact rfl; exact rfl) | (apply r_eqWT; exact rfl; exact rfl; exact rfl; exact rfl; (first | exact rfl | assumption)) | (apply r_buildL; exact rfl; exact rfl; exact rfl; exact rfl; exact rfl)))
  refine r_call0 (by first | trivial | exact ⟨rfl, rfl⟩) rfl rfl rfl (fun w hk hs => c_Neg w _ a 1000 zA (by decide)) fun w v w' _ _ _ hR => ?_
  subst hR
  skip
  refine r_call0 (by first | trivial | exact ⟨rfl, rfl⟩) rfl rfl rfl (fun w hk hs => c_Add w _ _ a (-a) 1000 zA zNA (by decide)) fun w v w' _ _ _ hR => ?_
  subst hR
  skip
  refine r_eqWT (a := a + -a) (b := 0) rfl (by first | rfl | exact ⟨rfl, rfl⟩) rfl rfl (by first | rfl | assumption) ?_
  (repeat' (first | (apply r_move; exact rfl; exact rfl; exact rfl) | (apply r_loadN; exact rfl; exact rfl; exact rfl; exact rfl; (first | exact at0 | exact at1 | exact at2 | exact at3 | exact at4 | exact at5 | exact at6 | exact at7 | exact at8 | exact at9); exact rfl) | (apply r_pickT; exact rfl; exact rfl; exact rfl; exact rfl)))
  refine r_call0 (by first | trivial | exact ⟨rfl, rfl⟩) rfl rfl rfl (fun w hk hs => c_Add w _ _ a b 1000 zA zB (by decide)) fun w v w' _ _ _ hR => ?_
  subst hR
  skip
  refine r_call0 (by first | trivial | exact ⟨rfl, rfl⟩) rfl rfl rfl (fun w hk hs => c_Sub w _ _ (a + b) b 1000 zAB zB (by decide)) fun w v w' _ _ _ hR => ?_
  subst hR
  skip
  refine r_call0 (by first | trivial | exact ⟨rfl, rfl⟩) rfl rfl rfl (fun w hk hs => c_Neg w _ a 1000 zA (by decide)) fun w v w' _ _ _ hR => ?_
  subst hR
  skip
  refine r_call0 (by first | trivial | exact ⟨rfl, rfl⟩) rfl rfl rfl (fun w hk hs => c_Neg w _ (-a) 1000 zNA (by decide)) fun w v w' _ _ _ hR => ?_
  subst hR
  (repeat' (first | refine JC.seq ?_ | refine JC.opsD ?_ | refine JO.nil ?_ | refine JX.thenN ?_ | (apply r_assign; exact rfl; exact rfl; exact rfl) | (apply r_loadN; exact rfl; exact rfl; exact rfl; exact rfl; (first | exact at0 | exact at1 | exact at2 | exact at3 | exact at4 | exact at5 | exact at6 | exact at7 | exact at8 | exact at9); exact rfl) | (apply r_pickT; exact rfl; exact rfl; exact rfl; exact rfl) | (apply r_eqWT; exact rfl; exact rfl; exact rfl; exact rfl; (first | exact rfl | assumption))))
  refine r_call0 (by first | trivial | exact ⟨rfl, rfl⟩) rfl rfl rfl (fun w hk hs => c_Mul w _ _ a b 1000 zA zB (by decide)) fun w v w' _ _ _ hR => ?_
  subst hR
  skip
  refine r_call0 (by first | trivial | exact ⟨rfl, rfl⟩) rfl rfl rfl (fun w hk hs => c_Mul w _ _ b a 1000 zB zA (by decide)) fun w v w' _ _ _ hR => ?_
  subst hR
  (repeat' (first | (apply r_move; exact rfl; exact rfl; exact rfl) | (apply r_loadN; exact rfl; exact rfl; exact rfl; exact rfl; (first | exact at0 | exact at1 | exact at2 | exact at3 | exact at4 | exact at5 | exact at6 | exact at7 | exact at8 | exact at9); exact rfl) | (apply r_eqWT; exact rfl; exact rfl; exact rfl; exact rfl; (first | exact rfl | assumption))))
  refine r_call0 (by first | trivial | exact ⟨rfl, rfl⟩) rfl rfl rfl (fun w hk hs => c_Mul w _ _ a b 1000 zA zB (by decide)) fun w v w' _ _ _ hR => ?_
  subst hR
  skip
  refine r_call0 (by first | trivial | exact ⟨rfl, rfl⟩) rfl rfl rfl (fun w hk hs => c_Mul w _ _ (a * b) c 1000 mAB zC (by decide)) fun w v w' _ _ _ hR => ?_
  subst hR
  skip
  refine r_call0 (by first | trivial | exact ⟨rfl, rfl⟩) rfl rfl rfl (fun w hk hs => c_Mul w _ _ b c 1000 zB zC (by decide)) fun w v w' _ _ _ hR => ?_
  subst hR
  skip
  refine r_call0 (by first | trivial | exact ⟨rfl, rfl⟩) rfl rfl rfl (fun w hk hs => c_Mul w _ _ a (b * c) 1000 zA mBC (by decide)) fun w v w' _ _ _ hR => ?_
  subst hR
  (repeat' (first | (apply r_move; exact rfl; exact rfl; exact rfl) | (apply r_loadN; exact rfl; exact rfl; exact rfl; exact rfl; (first | exact at0 | exact at1 | exact at2 | exact at3 | exact at4 | exact at5 | exact at6 | exact at7 | exact at8 | exact at9); exact rfl) | (apply r_pickT; exact rfl; exact rfl; exact rfl; exact rfl) | (apply r_eqWT; exact rfl; exact rfl; exact rfl; exact rfl; (first | exact rfl | assumption)) | (apply r_buildL; exact rfl; exact rfl; exact rfl; exact rfl; exact rfl)))
  refine r_call0 (by first | trivial | exact ⟨rfl, rfl⟩) rfl rfl rfl (fun w hk hs => c_From w 1 (by decide) (by decide)) fun w v w' _ _ _ hR => ?_
  subst hR
  skip
  refine r_call0 (by first | trivial | exact ⟨rfl, rfl⟩) rfl rfl rfl (fun w hk hs => c_Mul w _ _ a 1 1000 zA z1 (by decide)) fun w v w' _ _ _ hR => ?_
  subst hR
  skip
  refine r_call0 (by first | trivial | exact ⟨rfl, rfl⟩) rfl rfl rfl (fun w hk hs => c_Add w _ _ a 0 1000 zA z0 (by decide)) fun w v w' _ _ _ hR => ?_
  subst hR
  (repeat' (first | refine JC.seq ?_ | refine JC.opsD ?_ | refine JO.nil ?_ | refine JX.thenN ?_ | (apply r_move; exact rfl; exact rfl; exact rfl) | (apply r_assign; exact rfl; exact rfl; exact rfl) | (apply r_loadN; exact rfl; exact rfl; exact rfl; exact rfl; (first | exact at0 | exact at1 | exact at2 | exact at3 | exact at4 | exact at5 | exact at6 | exact at7 | exact at8 | exact at9); exact rfl) | (apply r_pickT; exact rfl; exact rfl; exact rfl; exact rfl) | (apply r_eqWT; exact rfl; exact rfl; exact rfl; exact rfl; (first | exact rfl | assumption))))
  refine r_call0 (by first | trivial | exact ⟨rfl, rfl⟩) rfl rfl rfl (fun w hk hs => c_Add w _ _ b c 1000 zB zC (by decide)) fun w v w' _ _ _ hR => ?_
  subst hR
  skip
  refine r_call0 (by first | trivial | exact ⟨rfl, rfl⟩) rfl rfl rfl (fun w hk hs => c_Mul w _ _ a (b + c) 1000 zA zBC (by decide)) fun w v w' _ _ _ hR => ?_
  subst hR
  skip
  refine r_call0 (by first | trivial | exact ⟨rfl, rfl⟩) rfl rfl rfl (fun w hk hs => c_Mul w _ _ a b 1000 zA zB (by decide)) fun w v w' _ _ _ hR => ?_
  subst hR
  skip
  refine r_call0 (by first | trivial | exact ⟨rfl, rfl⟩) rfl rfl rfl (fun w hk hs => c_Mul w _ _ a c 1000 zA zC (by decide)) fun w v w' _ _ _ hR => ?_
  subst hR
  skip
  refine r_call0 (by first | trivial | exact ⟨rfl, rfl⟩) rfl rfl rfl (fun w hk hs => c_Add w _ _ (a * b) (a * c) 1000 mAB mAC (by decide)) fun w v w' _ _ _ hR => ?_
  subst hR
  (repeat' (first | refine JO.nil ?_ | refine JX.thenN ?_ | (apply r_assign; exact rfl; exact rfl; exact rfl) | (apply r_pickT; exact rfl; exact rfl; exact rfl; exact rfl) | (apply r_eqWT; exact rfl; exact rfl; exact rfl; exact rfl; (first | exact rfl | assumption)) | refine JC.ret ?_))
  exact JX.ret1 rfl (fun a w' st => ⟨st.kp, rfl⟩)

end Go.Proofs.YtdehklhdjbkneaaDoor
