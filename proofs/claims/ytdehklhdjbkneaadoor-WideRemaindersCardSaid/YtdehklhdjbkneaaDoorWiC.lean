/- Wide values compared; the examples of the chapter. -/
import Derived.Test.YtdehklhdjbkneaaDoorWidZ
import Derived.Test.YtdehklhdjbkneaaDoorWiB
import Derived.Laws.StructEq
namespace Go.Proofs.YtdehklhdjbkneaaDoor
open Go Go.RowKit
set_option linter.unusedSimpArgs false
set_option linter.unusedVariables false
set_option linter.unusedSectionVars false

/-- The type of Wide values. -/
class TWide (P : Program) (t : TypeId) : Prop where
  guard : P.eqGuardType P.depth t = false
  eql : ∀ (w : World) (p q : Bool) (l m : List UInt8), (Op.equalIn 10000 t (wv p l) (wv q m)).run P w = .ok (p == q && decide (l = m)) w

instance : TWide Tryd.prog 27 := ⟨Tryd.eqGuardType27, fun w p q l m => by
  have hf : Tryd.prog.underlying 27 = some (.struct (Tryd.prog.fieldsOf 27)) := by rw [Program.fieldsOf, Tryd.underlying27]
  rw [run_equalIn_agg w 9999 27 _ _ hf Tryd.stoodInHeld27]
  simp only [Program.fieldsOf, Tryd.underlying27]
  have h4 : ∀ (w : World) (xs : Array Value) (a b : Value), xs = #[a, b] → (part 4 xs 0).run Tryd.prog w = .ok a w := by
    intro w xs a b e
    subst e
    simp [part, isAgg, run_underlying Tryd.underlying4, Sem.run_bind]
  have h9 : ∀ (w : World) (xs : Array Value) (a b : Value), xs = #[a, b] → (part 9 xs 1).run Tryd.prog w = .ok b w := by
    intro w xs a b e
    subst e
    simp [part, isAgg, run_underlying Tryd.underlying9, Sem.run_bind]
  have g1 := h4 w #[.bool p, sv l] _ _ rfl
  have g2 := h4 w #[.bool q, sv m] _ _ rfl
  have g3 := h9 w #[.bool p, sv l] _ _ rfl
  have g4 := h9 w #[.bool q, sv m] _ _ rfl
  have g5 := run_equalIn_bool' (P := Tryd.prog) w 9998 4 p q Tryd.underlying4
  have g6 := run_equalIn_string (P := Tryd.prog) w 9998 9 ⟨l.toArray⟩ ⟨m.toArray⟩ Tryd.underlying9
  rw [toList_sv, toList_sv] at g6
  have hlm : (l == m) = decide (l = m) := by
    by_cases h : l = m
    · simp [h]
    · simp [h]
  rw [hlm] at g6
  simp only [Op.eqFields]
  rw [if_pos (by decide), if_pos (by decide)]
  simp only [Sem.run_bind, g1, g2, g3, g4, g5, g6, Result.andThen_ok]
  cases hpq : (p == q) with
  | false => simp
  | true =>
    simp only [Bool.not_true, Bool.false_eq_true, if_false, Sem.run_bind, g3, g4, g6, Result.andThen_ok, Bool.true_and]
    cases decide (l = m) <;> simp⟩

theorem Wv_eq {a b : Int} : (decide (a < 0) == decide (b < 0) && decide (magU a.natAbs = magU b.natAbs)) = decide (a = b) := by
  by_cases h : a = b
  · subst h; simp
  · rw [decide_eq_false h]
    by_cases h2 : a.natAbs = b.natAbs
    · have : decide (a < 0) ≠ decide (b < 0) := by
        intro e
        have e2 : (a < 0) ↔ (b < 0) := by simpa using e
        omega
      have h3 : (decide (a < 0) == decide (b < 0)) = false := by simpa using this
      rw [h3]; rfl
    · have : decide (magU a.natAbs = magU b.natAbs) = false := decide_eq_false fun e => h2 (magU_inj e)
      rw [this, Bool.and_false]

section
variable {c : Cx} {Q : Exit → Act → World → Prop} {m : Mode} {F : SFrame} {H : SHeap} {r : List SOp} {g : Option (Option Tmp × Bool)} {ns : Bool} {d : Tmp} {ty t t' : TypeId} {x y : Operand}
theorem r_eqW {p q : Bool} {l k : List UInt8} [hT : TWide c.P t] (hd : dstOk c.n (some d) = true) (hg : guardF F g = some true) (hx : ev F x = some (wv p l)) (hy : ev F y = some (wv q k))
    (h : JO c Q m r ((d, .bool (p == q && decide (l = k))) :: F) H) : JO c Q m (⟨some d, .binOp .eql t x y t', ty, g, .mov, ns⟩ :: r) F H :=
  r_mov hd hg (fun a w fr => by
    simp only [execOp, fr.ev hx, fr.ev hy, Sem.run_bind, run_eqGuard_agg w .eql t x y _ _ hT.guard, Result.andThen_ok, run_eql_struct, hT.eql, Sem.run_pure]) h
theorem r_neW {p q : Bool} {l k : List UInt8} [hT : TWide c.P t] (hd : dstOk c.n (some d) = true) (hg : guardF F g = some true) (hx : ev F x = some (wv p l)) (hy : ev F y = some (wv q k))
    (h : JO c Q m r ((d, .bool (!(p == q && decide (l = k)))) :: F) H) : JO c Q m (⟨some d, .binOp .neq t x y t', ty, g, .mov, ns⟩ :: r) F H :=
  r_mov hd hg (fun a w fr => by
    simp only [execOp, fr.ev hx, fr.ev hy, Sem.run_bind, run_eqGuard_agg w .neq t x y _ _ hT.guard, Result.andThen_ok, run_neq_struct, hT.eql, Sem.run_pure]) h
/-- Canonical numbers that are equal. -/
theorem r_eqWT {a b : Int} [TWide c.P t] (hd : dstOk c.n (some d) = true) (hg : guardF F g = some true) (hx : ev F x = some (Wv a)) (hy : ev F y = some (Wv b)) (hab : a = b)
    (h : JO c Q m r ((d, .bool true) :: F) H) : JO c Q m (⟨some d, .binOp .eql t x y t', ty, g, .mov, ns⟩ :: r) F H :=
  r_eqW hd hg hx hy (by rw [Wv_eq, decide_eq_true hab]; exact h)
theorem r_neWF {a b : Int} [TWide c.P t] (hd : dstOk c.n (some d) = true) (hg : guardF F g = some true) (hx : ev F x = some (Wv a)) (hy : ev F y = some (Wv b)) (hab : a = b)
    (h : JO c Q m r ((d, .bool false) :: F) H) : JO c Q m (⟨some d, .binOp .neq t x y t', ty, g, .mov, ns⟩ :: r) F H :=
  r_neW hd hg hx hy (by rw [Wv_eq, decide_eq_true hab]; exact h)
end

theorem IsZ.i64 {n : Int} (h1 : -9223372036854775808 ≤ n) (h2 : n < 9223372036854775808) : IsZ (Wv n) n 8 := IsZ.can (by
  have : n.natAbs ≤ 9223372036854775808 := by omega
  exact Nat.lt_of_le_of_lt this (by decide))

set_option maxHeartbeats 4000000 in
theorem c_over (w : World) (a b q r : Int) (ha : -1000000 ≤ a ∧ a ≤ 1000000) (hb : -1000000 ≤ b ∧ b ≤ 1000000) (hq : -1000000 ≤ q ∧ q ≤ 1000000) (hr : -1000000 ≤ r ∧ r ≤ 1000000) (hb0 : b ≠ 0) (h1 : a / b = q) (h2 : a % b = r) :
    Calls Tryd.prog 39 #[iv a, iv b, iv q, iv r] w (Ret fun v w' => Kp [] w w' ∧ v = .bool true) := by
  refine calls_of_S [⟨2, 1, [], []⟩] [] (by simp) [] Tryd.func39 rfl mixed (by kernel_rfl) Tryd.ntmps39 Tryd.results39 rfl ⟨by simp, by simp⟩ (by simp) ?_
  simp only [toS, textOps, toSOp, kindAt, kindOf, odAt, sopsAt, ordOf, zipF]
  (repeat' (first | refine JC.seq ?_ | refine JC.ops ?_ | refine JO.nil ?_ | refine JX.thenN ?_ | (apply r_move; exact rfl; exact rfl; exact rfl) | (apply r_assign; exact rfl; exact rfl; exact rfl)))
  refine r_call0 trivial rfl rfl rfl (fun w hk hs => c_From w a (by omega) (by omega)) fun w v w' _ _ _ hR => ?_
  subst hR
  (repeat' (first | (apply r_move; exact rfl; exact rfl; exact rfl)))
  refine r_call0 trivial rfl rfl rfl (fun w hk hs => c_From w b (by omega) (by omega)) fun w v w' _ _ _ hR => ?_
  subst hR
  skip
  refine r_call0 trivial rfl rfl rfl (fun w hk hs => c_Quo w _ _ a b 8 (IsZ.i64 (by omega) (by omega)) (IsZ.i64 (by omega) (by omega)) (by decide)) fun w v w' _ _ _ hR => ?_
  rw [if_neg hb0] at hR
  subst hR
  (repeat' (first | refine JC.seq ?_ | refine JC.opsD ?_ | refine JO.nil ?_ | refine JX.thenN ?_ | (apply r_move; exact rfl; exact rfl; exact rfl) | (apply r_assign; exact rfl; exact rfl; exact rfl) | (apply r_loadN; exact rfl; exact rfl; exact rfl; exact rfl; (first | exact at0 | exact at1 | exact at2 | exact at3 | exact at4 | exact at5 | exact at6 | exact at7 | exact at8 | exact at9); exact rfl) | (apply r_extract; exact rfl; exact rfl; exact rfl; exact rfl) | (apply r_storeN; exact rfl; (first | exact trivial | exact ⟨rfl, rfl⟩); exact rfl; exact rfl; (first | exact at0 | exact at1 | exact at2 | exact at3 | exact at4 | exact at5 | exact at6 | exact at7 | exact at8 | exact at9); exact rfl; exact rfl; exact rfl) | (apply r_allocZ; exact rfl; exact rfl; exact rfl; intro _) | (apply r_storeN; exact rfl; (first | exact trivial | exact ⟨rfl, rfl⟩); exact rfl; exact rfl; (first | exact at0 | exact at1 | exact at2 | exact at3 | exact at4 | exact at5 | exact at6 | exact at7 | exact at8 | exact at9); exact rfl; exact rfl; exact rfl)))
  refine r_call0 (by first | trivial | exact ⟨rfl, rfl⟩) rfl rfl rfl (fun w hk hs => c_From w q (by omega) (by omega)) fun w v w' _ _ _ hR => ?_
  subst hR
  (repeat' (first | (apply r_move; exact rfl; exact rfl; exact rfl) | (apply r_loadN; exact rfl; exact rfl; exact rfl; exact rfl; (first | exact at0 | exact at1 | exact at2 | exact at3 | exact at4 | exact at5 | exact at6 | exact at7 | exact at8 | exact at9); exact rfl) | (apply r_pickT; exact rfl; exact rfl; exact rfl; exact rfl) | (apply r_eqWT; exact rfl; exact rfl; exact rfl; exact rfl; (first | exact rfl | assumption))))
  refine r_call0 (by first | trivial | exact ⟨rfl, rfl⟩) rfl rfl rfl (fun w hk hs => c_From w r (by omega) (by omega)) fun w v w' _ _ _ hR => ?_
  subst hR
  (repeat' (first | refine JO.nil ?_ | refine JX.thenN ?_ | (apply r_assign; exact rfl; exact rfl; exact rfl) | (apply r_pickT; exact rfl; exact rfl; exact rfl; exact rfl) | (apply r_eqWT; exact rfl; exact rfl; exact rfl; exact rfl; (first | exact rfl | assumption)) | refine JC.ret ?_))
  exact JX.ret1 rfl (fun a w' st => ⟨st.kp, rfl⟩)

set_option maxHeartbeats 4000000 in
theorem c_common (w : World) (a b g x y : Int) (ha : -1000000 ≤ a ∧ a ≤ 1000000) (hb : -1000000 ≤ b ∧ b ≤ 1000000) (hg : -1000000 ≤ g ∧ g ≤ 1000000) (hx : -1000000 ≤ x ∧ x ≤ 1000000) (hy : -1000000 ≤ y ∧ y ≤ 1000000) (h : GcdP a b g x y) :
    Calls Tryd.prog 40 #[iv a, iv b, iv g, iv x, iv y] w (Ret fun v w' => Kp [] w w' ∧ v = .bool true) := by
  refine calls_of_S [⟨2, 1, [], []⟩] [] (by simp) [] Tryd.func40 rfl mixed (by kernel_rfl) Tryd.ntmps40 Tryd.results40 rfl ⟨by simp, by simp⟩ (by simp) ?_
  simp only [toS, textOps, toSOp, kindAt, kindOf, odAt, sopsAt, ordOf, zipF]
  (repeat' (first | refine JC.seq ?_ | refine JC.ops ?_ | refine JO.nil ?_ | refine JX.thenN ?_ | (apply r_move; exact rfl; exact rfl; exact rfl) | (apply r_assign; exact rfl; exact rfl; exact rfl)))
  refine r_call0 trivial rfl rfl rfl (fun w hk hs => c_From w a (by omega) (by omega)) fun w v w' _ _ _ hR => ?_
  subst hR
  (repeat' (first | (apply r_move; exact rfl; exact rfl; exact rfl)))
  refine r_call0 trivial rfl rfl rfl (fun w hk hs => c_From w b (by omega) (by omega)) fun w v w' _ _ _ hR => ?_
  subst hR
  skip
  refine r_call0 trivial rfl rfl rfl (fun w hk hs => c_Gcd w _ _ a b 8 (IsZ.i64 (by omega) (by omega)) (IsZ.i64 (by omega) (by omega)) (by decide)) fun w v w' _ _ _ hR => ?_
  obtain ⟨g', x', y', rfl, hG⟩ := hR
  obtain ⟨rfl, rfl, rfl⟩ := hG.unique h
  (repeat' (first | refine JC.seq ?_ | refine JC.opsD ?_ | refine JO.nil ?_ | refine JX.thenN ?_ | (apply r_move; exact rfl; exact rfl; exact rfl) | (apply r_loadN; exact rfl; exact rfl; exact rfl; exact rfl; (first | exact at0 | exact at1 | exact at2 | exact at3 | exact at4 | exact at5 | exact at6 | exact at7 | exact at8 | exact at9); exact rfl) | (apply r_extract; exact rfl; exact rfl; exact rfl; exact rfl) | (apply r_storeN; exact rfl; (first | exact trivial | exact ⟨rfl, rfl⟩); exact rfl; exact rfl; (first | exact at0 | exact at1 | exact at2 | exact at3 | exact at4 | exact at5 | exact at6 | exact at7 | exact at8 | exact at9); exact rfl; exact rfl; exact rfl) | (apply r_allocZ; exact rfl; exact rfl; exact rfl; intro _) | (apply r_storeN; exact rfl; (first | exact trivial | exact ⟨rfl, rfl⟩); exact rfl; exact rfl; (first | exact at0 | exact at1 | exact at2 | exact at3 | exact at4 | exact at5 | exact at6 | exact at7 | exact at8 | exact at9); exact rfl; exact rfl; exact rfl)))
  refine r_call0 (by first | trivial | exact ⟨rfl, rfl⟩) rfl rfl rfl (fun w hk hs => c_From w g' (by omega) (by omega)) fun w v w' _ _ _ hR => ?_
  subst hR
  (repeat' (first | (apply r_move; exact rfl; exact rfl; exact rfl) | (apply r_loadN; exact rfl; exact rfl; exact rfl; exact rfl; (first | exact at0 | exact at1 | exact at2 | exact at3 | exact at4 | exact at5 | exact at6 | exact at7 | exact at8 | exact at9); exact rfl) | (apply r_eqWT; exact rfl; exact rfl; exact rfl; exact rfl; (first | exact rfl | assumption))))
  refine r_call0 (by first | trivial | exact ⟨rfl, rfl⟩) rfl rfl rfl (fun w hk hs => c_From w x' (by omega) (by omega)) fun w v w' _ _ _ hR => ?_
  subst hR
  (repeat' (first | (apply r_move; exact rfl; exact rfl; exact rfl) | (apply r_loadN; exact rfl; exact rfl; exact rfl; exact rfl; (first | exact at0 | exact at1 | exact at2 | exact at3 | exact at4 | exact at5 | exact at6 | exact at7 | exact at8 | exact at9); exact rfl) | (apply r_pickT; exact rfl; exact rfl; exact rfl; exact rfl) | (apply r_eqWT; exact rfl; exact rfl; exact rfl; exact rfl; (first | exact rfl | assumption))))
  refine r_call0 (by first | trivial | exact ⟨rfl, rfl⟩) rfl rfl rfl (fun w hk hs => c_From w y' (by omega) (by omega)) fun w v w' _ _ _ hR => ?_
  subst hR
  (repeat' (first | refine JO.nil ?_ | refine JX.thenN ?_ | (apply r_assign; exact rfl; exact rfl; exact rfl) | (apply r_pickT; exact rfl; exact rfl; exact rfl; exact rfl) | (apply r_eqWT; exact rfl; exact rfl; exact rfl; exact rfl; (first | exact rfl | assumption)) | refine JC.ret ?_))
  exact JX.ret1 rfl (fun a w' st => ⟨st.kp, rfl⟩)

end Go.Proofs.YtdehklhdjbkneaaDoor
