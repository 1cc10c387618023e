/- The examples of the chapter hold. -/
import Derived.Test.YtdehklhdjbkneaaDoorWiC
namespace Go.Proofs.YtdehklhdjbkneaaDoor
open Go Go.RowKit
set_option linter.unusedSimpArgs false
set_option linter.unusedVariables false
set_option linter.unusedSectionVars false

theorem gcd_ex1 : GcdP (-12) 18 6 1 1 := ⟨by decide, fun h => absurd h (by decide), fun _ => by decide⟩
theorem gcd_ex2 : GcdP 0 (-5) 5 0 (-1) := ⟨by decide, fun h => absurd h (by decide), fun _ => by decide⟩
theorem gcd_ex3 : GcdP (-4) 0 4 (-1) 0 := ⟨by decide, fun _ => by decide, fun h => absurd rfl h⟩
theorem parse_ex1 : PRes [45, 48, 48, 55] = .tuple #[Wv (-7), .bool true] := by rfl
theorem parse_ex2 : PRes [] = .tuple #[Wv 0, .bool false] := by rfl
theorem parse_ex3 : PRes [49, 120] = .tuple #[Wv 0, .bool false] := by rfl
theorem big_ex : Wv (1099511627776 * 1099511627776) = wv false [1, 0, 0, 0, 0, 0, 0, 0, 0, 0, 0] := by
  have h : magU (1099511627776 * 1099511627776) = ([1, 0, 0, 0, 0, 0, 0, 0, 0, 0, 0] : List UInt8) := by
    have h1 : bval (bts ([1, 0, 0, 0, 0, 0, 0, 0, 0, 0, 0] : List UInt8)) = 1099511627776 * 1099511627776 := by decide
    rw [← h1, ← magU_of]
    rfl
  show wv (decide ((1099511627776 * 1099511627776 : Int) < 0)) (magU (1099511627776 * 1099511627776 : Int).natAbs) = _
  rw [show (1099511627776 * 1099511627776 : Int).natAbs = 1099511627776 * 1099511627776 by decide, h]
  rfl
theorem neg_ex : Wv (-300) = wv true [1, 44] := by
  have h : magU 300 = ([1, 44] : List UInt8) := by
    have h1 : bval (bts ([1, 44] : List UInt8)) = 300 := by decide
    rw [← h1, ← magU_of]
    rfl
  show wv (decide ((-300 : Int) < 0)) (magU (-300 : Int).natAbs) = _
  rw [show (-300 : Int).natAbs = 300 by decide, h]
  rfl

theorem r_eqWS {c : Cx} {Q : Exit → Act → World → Prop} {m : Mode} {F : SFrame} {H : SHeap} {r : List SOp} {g : Option (Option Tmp × Bool)} {ns : Bool} {d : Tmp} {ty t t' : TypeId} {x y : Operand} (p : Bool) (l : List UInt8) [TWide c.P t] (hd : dstOk c.n (some d) = true) (hg : guardF F g = some true) (hx : ev F x = some (wv p l)) (hy : ev F y = some (wv p l))
    (h : JO c Q m r ((d, .bool true) :: F) H) : JO c Q m (⟨some d, .binOp .eql t x y t', ty, g, .mov, ns⟩ :: r) F H :=
  r_eqW hd hg hx hy (by rw [beq_self_eq_true, decide_eq_true rfl]; exact h)

set_option maxHeartbeats 8000000 in
theorem c_sanity (w : World) : Calls Tryd.prog 12 #[] w (Ret fun v w' => Kp [] w w' ∧ v = .bool true) := by
  refine calls_of_S [⟨12, 1, [], []⟩] [] (by simp) [] Tryd.func12 rfl mixed (by kernel_rfl) Tryd.ntmps12 Tryd.results12 rfl ⟨by simp, by simp⟩ (by simp) ?_
  simp only [toS, textOps, toSOp, kindAt, kindOf, odAt, sopsAt, ordOf, zipF]
  (repeat' (first | refine JC.seq ?_ | refine JC.ops ?_ | refine JO.nil ?_ | refine JX.thenN ?_ | (apply r_assign; exact rfl; exact rfl; exact rfl)))
  refine r_call0 trivial rfl rfl rfl (fun w hk hs => c_From w 1099511627776 (by decide) (by decide)) fun w v w' _ _ _ hR => ?_
  subst hR
  skip
  refine r_call0 trivial rfl rfl rfl (fun w hk hs => c_From w 1099511627776 (by decide) (by decide)) fun w v w' _ _ _ hR => ?_
  subst hR
  skip
  refine r_call0 trivial rfl rfl rfl (fun w hk hs => c_Mul w _ _ 1099511627776 1099511627776 8 (IsZ.i64 (by decide) (by decide)) (IsZ.i64 (by decide) (by decide)) (by decide)) fun w v w' _ _ _ hR => ?_
  rw [big_ex] at hR
  subst hR
  (repeat' (first | refine JC.seq ?_ | refine JC.ops ?_ | refine JO.nil ?_ | refine JX.thenN ?_ | (apply r_storeN; exact rfl; (first | exact trivial | exact ⟨rfl, rfl⟩); exact rfl; exact rfl; (first | exact at0 | exact at1 | exact at2 | exact at3 | exact at4 | exact at5 | exact at6 | exact at7 | exact at8 | exact at9); exact rfl; exact rfl; exact rfl) | (apply r_allocZ; exact rfl; exact rfl; exact rfl; intro _) | (apply r_storeN; exact rfl; (first | exact trivial | exact ⟨rfl, rfl⟩); exact rfl; exact rfl; (first | exact at0 | exact at1 | exact at2 | exact at3 | exact at4 | exact at5 | exact at6 | exact at7 | exact at8 | exact at9); exact rfl; exact rfl; exact rfl)))
  refine r_call0 trivial rfl rfl rfl (fun w hk hs => c_From w (-300) (by decide) (by decide)) fun w v w' _ _ _ hR => ?_
  rw [neg_ex] at hR
  subst hR
  (repeat' (first | (apply r_buildL; exact rfl; exact rfl; exact rfl; exact rfl; exact rfl)))
  refine r_eqWS true [1, 44] rfl rfl rfl rfl ?_
  (repeat' (first | (apply r_move; exact rfl; exact rfl; exact rfl) | (apply r_loadN; exact rfl; exact rfl; exact rfl; exact rfl; (first | exact at0 | exact at1 | exact at2 | exact at3 | exact at4 | exact at5 | exact at6 | exact at7 | exact at8 | exact at9); exact rfl)))
  refine r_build (l := [(1, sv [1, 0, 0, 0, 0, 0, 0, 0, 0, 0, 0])]) (cs := #[.bool false, sv [1, 0, 0, 0, 0, 0, 0, 0, 0, 0, 0]]) rfl rfl rfl rfl ?_
  skip
  refine r_eqWS false [1, 0, 0, 0, 0, 0, 0, 0, 0, 0, 0] rfl rfl rfl rfl ?_
  (repeat' (first | refine JC.seq ?_ | refine JC.ops ?_ | refine JO.nil ?_ | refine JX.thenN ?_ | (apply r_assign; exact rfl; exact rfl; exact rfl) | (apply r_pickT; exact rfl; exact rfl; exact rfl; exact rfl)))
  refine r_call0 (by first | trivial | exact ⟨rfl, rfl⟩) rfl rfl rfl (fun w hk hs => c_over w (-7) (2) (-4) (1) (by decide) (by decide) (by decide) (by decide) (by decide) (by decide) (by decide)) fun w v w' _ _ _ hR => ?_
  subst hR
  (repeat' (first | refine JC.seq ?_ | refine JC.ops ?_ | refine JO.nil ?_ | refine JX.thenN ?_ | (apply r_assign; exact rfl; exact rfl; exact rfl)))
  refine r_call0 (by first | trivial | exact ⟨rfl, rfl⟩) rfl rfl rfl (fun w hk hs => c_over w (7) (-2) (-3) (1) (by decide) (by decide) (by decide) (by decide) (by decide) (by decide) (by decide)) fun w v w' _ _ _ hR => ?_
  subst hR
  (repeat' (first | refine JC.seq ?_ | refine JC.ops ?_ | refine JO.nil ?_ | refine JX.thenN ?_ | (apply r_assign; exact rfl; exact rfl; exact rfl)))
  refine r_call0 (by first | trivial | exact ⟨rfl, rfl⟩) rfl rfl rfl (fun w hk hs => c_over w (-7) (-2) (4) (1) (by decide) (by decide) (by decide) (by decide) (by decide) (by decide) (by decide)) fun w v w' _ _ _ hR => ?_
  subst hR
  (repeat' (first | refine JC.seq ?_ | refine JC.ops ?_ | refine JO.nil ?_ | refine JX.thenN ?_ | (apply r_assign; exact rfl; exact rfl; exact rfl)))
  refine r_call0 (by first | trivial | exact ⟨rfl, rfl⟩) rfl rfl rfl (fun w hk hs => c_common w (-12) (18) (6) (1) (1) (by decide) (by decide) (by decide) (by decide) (by decide) gcd_ex1) fun w v w' _ _ _ hR => ?_
  subst hR
  (repeat' (first | refine JC.seq ?_ | refine JC.ops ?_ | refine JO.nil ?_ | refine JX.thenN ?_ | (apply r_assign; exact rfl; exact rfl; exact rfl)))
  refine r_call0 (by first | trivial | exact ⟨rfl, rfl⟩) rfl rfl rfl (fun w hk hs => c_common w (0) (-5) (5) (0) (-1) (by decide) (by decide) (by decide) (by decide) (by decide) gcd_ex2) fun w v w' _ _ _ hR => ?_
  subst hR
  (repeat' (first | refine JC.seq ?_ | refine JC.ops ?_ | refine JO.nil ?_ | refine JX.thenN ?_ | (apply r_assign; exact rfl; exact rfl; exact rfl)))
  refine r_call0 (by first | trivial | exact ⟨rfl, rfl⟩) rfl rfl rfl (fun w hk hs => c_common w (-4) (0) (4) (-1) (0) (by decide) (by decide) (by decide) (by decide) (by decide) gcd_ex3) fun w v w' _ _ _ hR => ?_
  subst hR
  (repeat' (first | refine JC.seq ?_ | refine JC.ops ?_ | refine JO.nil ?_ | refine JX.thenN ?_ | (apply r_assign; exact rfl; exact rfl; exact rfl)))
  refine r_call0 (by first | trivial | exact ⟨rfl, rfl⟩) rfl rfl rfl (fun w hk hs => c_Parse w [45, 48, 48, 55] (by decide)) fun w v w' _ _ _ hR => ?_
  rw [parse_ex1] at hR
  subst hR
  (repeat' (first | refine JC.seq ?_ | refine JC.ops ?_ | refine JO.nil ?_ | refine JX.thenN ?_ | (apply r_move; exact rfl; exact rfl; exact rfl) | (apply r_assign; exact rfl; exact rfl; exact rfl) | (apply r_extract; exact rfl; exact rfl; exact rfl; exact rfl) | (apply r_storeN; exact rfl; (first | exact trivial | exact ⟨rfl, rfl⟩); exact rfl; exact rfl; (first | exact at0 | exact at1 | exact at2 | exact at3 | exact at4 | exact at5 | exact at6 | exact at7 | exact at8 | exact at9); exact rfl; exact rfl; exact rfl) | (apply r_allocZ; exact rfl; exact rfl; exact rfl; intro _) | (apply r_storeN; exact rfl; (first | exact trivial | exact ⟨rfl, rfl⟩); exact rfl; exact rfl; (first | exact at0 | exact at1 | exact at2 | exact at3 | exact at4 | exact at5 | exact at6 | exact at7 | exact at8 | exact at9); exact rfl; exact rfl; exact rfl)))
  refine r_call0 (by first | trivial | exact ⟨rfl, rfl⟩) rfl rfl rfl (fun w hk hs => c_Parse w [] (by decide)) fun w v w' _ _ _ hR => ?_
  rw [parse_ex2] at hR
  subst hR
  (repeat' (first | refine JC.seq ?_ | refine JC.ops ?_ | refine JO.nil ?_ | refine JX.thenN ?_ | (apply r_move; exact rfl; exact rfl; exact rfl) | (apply r_assign; exact rfl; exact rfl; exact rfl) | (apply r_extract; exact rfl; exact rfl; exact rfl; exact rfl) | (apply r_storeN; exact rfl; (first | exact trivial | exact ⟨rfl, rfl⟩); exact rfl; exact rfl; (first | exact at0 | exact at1 | exact at2 | exact at3 | exact at4 | exact at5 | exact at6 | exact at7 | exact at8 | exact at9); exact rfl; exact rfl; exact rfl) | (apply r_allocZ; exact rfl; exact rfl; exact rfl; intro _) | (apply r_storeN; exact rfl; (first | exact trivial | exact ⟨rfl, rfl⟩); exact rfl; exact rfl; (first | exact at0 | exact at1 | exact at2 | exact at3 | exact at4 | exact at5 | exact at6 | exact at7 | exact at8 | exact at9); exact rfl; exact rfl; exact rfl)))
  refine r_call0 (by first | trivial | exact ⟨rfl, rfl⟩) rfl rfl rfl (fun w hk hs => c_Parse w [49, 120] (by decide)) fun w v w' _ _ _ hR => ?_
  rw [parse_ex3] at hR
  subst hR
  (repeat' (first | refine JC.seq ?_ | refine JC.opsD ?_ | refine JO.nil ?_ | refine JX.thenN ?_ | (apply r_move; exact rfl; exact rfl; exact rfl) | (apply r_assign; exact rfl; exact rfl; exact rfl) | (apply r_loadN; exact rfl; exact rfl; exact rfl; exact rfl; (first | exact at0 | exact at1 | exact at2 | exact at3 | exact at4 | exact at5 | exact at6 | exact at7 | exact at8 | exact at9); exact rfl) | (apply r_pickT; exact rfl; exact rfl; exact rfl; exact rfl) | (apply r_extract; exact rfl; exact rfl; exact rfl; exact rfl) | (apply r_storeN; exact rfl; (first | exact trivial | exact ⟨rfl, rfl⟩); exact rfl; exact rfl; (first | exact at0 | exact at1 | exact at2 | exact at3 | exact at4 | exact at5 | exact at6 | exact at7 | exact at8 | exact at9); exact rfl; exact rfl; exact rfl) | (apply r_allocZ; exact rfl; exact rfl; exact rfl; intro _) | (apply r_storeN; exact rfl; (first | exact trivial | exact ⟨rfl, rfl⟩); exact rfl; exact rfl; (first | exact at0 | exact at1 | exact at2 | exact at3 | exact at4 | exact at5 | exact at6 | exact at7 | exact at8 | exact at9); exact rfl; exact rfl; exact rfl)))
  refine r_call0 (by first | trivial | exact ⟨rfl, rfl⟩) rfl rfl rfl (fun w hk hs => c_From w (-7) (by decide) (by decide)) fun w v w' _ _ _ hR => ?_
  subst hR
  (repeat' (first | refine JO.nil ?_ | refine JX.thenN ?_ | (apply r_move; exact rfl; exact rfl; exact rfl) | (apply r_assign; exact rfl; exact rfl; exact rfl) | (apply r_pickT; exact rfl; exact rfl; exact rfl; exact rfl) | (apply r_not; exact rfl; exact rfl; exact rfl) | (apply r_eqWT; exact rfl; exact rfl; exact rfl; exact rfl; (first | exact rfl | assumption)) | refine JC.ret ?_))
  exact JX.ret1 rfl (fun a w' st => ⟨st.kp, rfl⟩)

end Go.Proofs.YtdehklhdjbkneaaDoor
