/- strings.TrimLeft, of zero bytes. -/
import Derived.Test.YtdehklhdjbkneaaDoorExZ
namespace Go.Proofs.YtdehklhdjbkneaaDoor
open Go Go.RowKit
set_option linter.unusedSimpArgs false
set_option linter.unusedVariables false
set_option linter.unusedSectionVars false

instance : TStr Tryd.prog 9 := ⟨Tryd.underlying9⟩

section
variable {c : Cx} {Q : Exit → Act → World → Prop} {m : Mode} {F : SFrame} {H : SHeap} {r : List SOp} {g : Option (Option Tmp × Bool)} {ns : Bool} {d : Tmp} {ty t t' : TypeId} {x y : Operand} {l : List UInt8}
theorem r_idxS0 {k : IntKind} {b : UInt8} [TStr c.P t] (hd : dstOk c.n (some d) = true) (hg : guardF F g = some true) (hx : ev F x = some (sv (b :: l))) (hy : ev F y = some (.int k 0))
    (h : JO c Q m r ((d, yv b.toNat) :: F) H) : JO c Q m (⟨some d, .index t x y, ty, g, .mov, ns⟩ :: r) F H := r_idxS (j := 0) hd hg hx hy (by simp) h
theorem r_fromS1 {k : IntKind} {b : UInt8} {lo : Operand} [TStr c.P t] (hd : dstOk c.n (some d) = true) (hg : guardF F g = some true) (hx : ev F x = some (sv (b :: l))) (hy : ev F lo = some (.int k 1))
    (h : JO c Q m r ((d, sv l) :: F) H) : JO c Q m (⟨some d, .slice t x (some lo) none none, ty, g, .mov, ns⟩ :: r) F H := r_fromS (i := 1) hd hg hx hy (by simp) h
theorem r_eqSn {b : UInt8} [TStr c.P t] (hd : dstOk c.n (some d) = true) (hg : guardF F g = some true) (hx : ev F x = some (sv (b :: l))) (hy : ev F y = some (.string ⟨#[]⟩))
    (h : JO c Q m r ((d, .bool false) :: F) H) : JO c Q m (⟨some d, .binOp .eql t x y t', ty, g, .mov, ns⟩ :: r) F H := r_eqS (l := b :: l) (l' := []) hd hg hx hy (by rw [decide_eq_false (by simp)]; exact h)
theorem r_eqSz [TStr c.P t] (hd : dstOk c.n (some d) = true) (hg : guardF F g = some true) (hx : ev F x = some (sv [])) (hy : ev F y = some (.string ⟨#[]⟩))
    (h : JO c Q m r ((d, .bool true) :: F) H) : JO c Q m (⟨some d, .binOp .eql t x y t', ty, g, .mov, ns⟩ :: r) F H := r_eqS (l := []) (l' := []) hd hg hx hy (by rw [decide_eq_true rfl]; exact h)
theorem r_neSn {b : UInt8} [TStr c.P t] (hd : dstOk c.n (some d) = true) (hg : guardF F g = some true) (hx : ev F x = some (sv (b :: l))) (hy : ev F y = some (.string ⟨#[]⟩))
    (h : JO c Q m r ((d, .bool true) :: F) H) : JO c Q m (⟨some d, .binOp .neq t x y t', ty, g, .mov, ns⟩ :: r) F H := r_neS (l := b :: l) (l' := []) hd hg hx hy (by rw [decide_eq_true (by simp)]; exact h)
theorem r_neSz [TStr c.P t] (hd : dstOk c.n (some d) = true) (hg : guardF F g = some true) (hx : ev F x = some (sv [])) (hy : ev F y = some (.string ⟨#[]⟩))
    (h : JO c Q m r ((d, .bool false) :: F) H) : JO c Q m (⟨some d, .binOp .neq t x y t', ty, g, .mov, ns⟩ :: r) F H := r_neS (l := []) (l' := []) hd hg hx hy (by rw [decide_eq_false (by simp)]; exact h)
end

set_option maxHeartbeats 2000000 in
theorem c_trimB (w : World) (l : List UInt8) (b : UInt8) (hl : l.length ≤ 1000000) :
    Calls Tryd.prog 71 #[sv l, yv b.toNat] w (Ret fun v w' => Kp [] w w' ∧ v = sv (l.dropWhile (· == b))) := by
  refine calls_of_S [] [] (by simp) [] Tryd.func71 rfl mixed (by kernel_rfl) Tryd.ntmps71 Tryd.results71 rfl ⟨by simp, by simp⟩ (by simp) ?_
  simp only [toS, textOps, toSOp, kindAt, kindOf, odAt, sopsAt, ordOf, zipF]
  (repeat' (first | refine JC.seq ?_ | refine JC.ops ?_ | refine JO.nil ?_ | refine JX.thenN ?_ | (apply r_assign; exact rfl; exact rfl; exact rfl) | refine JC.block ?_))
  refine JC.loopH (ι := List UInt8) ⟨fun z => [(0, sv z), (1, yv b.toNat)], fun _ => [], fun z => z.length ≤ 1000000 ∧ z.dropWhile (· == b) = l.dropWhile (· == b), fun z => z.length⟩ l ⟨hl, rfl⟩ (by repeat first | exact trivial | refine ⟨rfl, ?_⟩) (by (first | exact HSub.refl _ | (repeat' first | exact HSub.nil _ | exact HSub.refl _ | refine HSub.at 0 rfl ?_ | refine HSub.at 1 rfl ?_ | refine HSub.at 2 rfl ?_ | refine HSub.at 3 rfl ?_ | refine HSub.at 4 rfl ?_ | refine HSub.at 5 rfl ?_ | refine HSub.at 6 rfl ?_ | refine HSub.at 7 rfl ?_))) (fun z hz => ?_)
  obtain ⟨hzl, hz⟩ := hz
  dsimp only at hzl hz ⊢
  rcases z with _ | ⟨x, z⟩
  · have h0 : ((([] : List UInt8).length : Nat) : Int) = 0 := rfl
    (repeat' (first | refine JC.seq ?_ | refine JC.ops ?_ | refine JO.nil ?_ | refine JX.thenN ?_ | (apply r_move; exact rfl; exact rfl; exact rfl) | (apply r_assign; exact rfl; exact rfl; exact rfl) | (apply r_pickF; exact rfl; exact rfl; exact rfl; exact rfl) | (apply r_lenS; exact rfl; exact rfl; exact rfl) | (apply r_gtr; exact rfl; exact rfl; exact rfl; exact rfl; all_goals intro hc; all_goals try (exfalso; omega)) | refine JX.thenE ?_ | refine JC.exit ?_ | refine JC.ret ?_ | refine JC.condF rfl ?_ | refine JX.blockE ?_ | (apply r_skip; exact rfl; exact rfl; (first | (intro h; cases h; done) | (intro _; rfl)))))
    exact JX.ret1 rfl (fun a w' st => ⟨st.kp, by rw [← hz]; rfl⟩)
  · have h0 : (0 : Int) < ((x :: z).length : Nat) := by rw [List.length_cons]; omega
    by_cases hxb : x = b
    · subst hxb
      (repeat' (first | refine JC.seq ?_ | refine JC.ops ?_ | refine JO.nil ?_ | refine JX.thenN ?_ | (apply r_move; exact rfl; exact rfl; exact rfl) | (apply r_assign; exact rfl; exact rfl; exact rfl) | (apply r_pickT; exact rfl; exact rfl; exact rfl; exact rfl) | (apply r_lenS; exact rfl; exact rfl; exact rfl) | (apply r_idxS0; exact rfl; exact rfl; exact rfl; exact rfl) | (apply r_fromS1; exact rfl; exact rfl; exact rfl; exact rfl) | (apply r_gtr; exact rfl; exact rfl; exact rfl; exact rfl; all_goals intro hc; all_goals try (exfalso; omega)) | (apply r_eql; exact rfl; exact rfl; exact rfl; exact rfl; all_goals intro hc; all_goals try (exfalso; omega)) | refine JC.skip ?_ | refine JC.condT rfl ?_ | refine JC.block ?_ | refine JX.blockN ?_))
      exact JX.roundH z ⟨by simp at hzl; omega, by rw [← hz]; simp [List.dropWhile]⟩ (by simp) (by repeat first | exact trivial | refine ⟨rfl, ?_⟩) (by (first | exact HSub.refl _ | (repeat' first | exact HSub.nil _ | exact HSub.refl _ | refine HSub.at 0 rfl ?_ | refine HSub.at 1 rfl ?_ | refine HSub.at 2 rfl ?_ | refine HSub.at 3 rfl ?_ | refine HSub.at 4 rfl ?_ | refine HSub.at 5 rfl ?_ | refine HSub.at 6 rfl ?_ | refine HSub.at 7 rfl ?_)))
    · have hne : ¬ ((x.toNat : Int) = (b.toNat : Int)) := fun e => hxb (UInt8.toNat.inj (by exact_mod_cast e))
      (repeat' (first | refine JC.seq ?_ | refine JC.ops ?_ | refine JO.nil ?_ | refine JX.thenN ?_ | (apply r_move; exact rfl; exact rfl; exact rfl) | (apply r_assign; exact rfl; exact rfl; exact rfl) | (apply r_pickT; exact rfl; exact rfl; exact rfl; exact rfl) | (apply r_lenS; exact rfl; exact rfl; exact rfl) | (apply r_idxS0; exact rfl; exact rfl; exact rfl; exact rfl) | (apply r_gtr; exact rfl; exact rfl; exact rfl; exact rfl; all_goals intro hc; all_goals try (exfalso; omega)) | (apply r_eql; exact rfl; exact rfl; exact rfl; exact rfl; all_goals intro hc; all_goals try (exfalso; omega)) | refine JX.thenE ?_ | refine JC.exit ?_ | refine JC.ret ?_ | refine JC.condF rfl ?_ | refine JX.blockE ?_))
      exact JX.ret1 rfl (fun a w' st => ⟨st.kp, by rw [← hz, List.dropWhile, show (x == b) = false by simpa using hxb]⟩)

set_option maxHeartbeats 2000000 in
theorem c_TrimLeft (w : World) (l : List UInt8) (hl : l.length ≤ 1000000) :
    Calls Tryd.prog 63 #[sv l, sv [0]] w (Ret fun v w' => Kp [] w w' ∧ v = sv (l.dropWhile (· == 0))) := by
  rcases l with _ | ⟨x, l⟩
  · refine calls_of_S [] [] (by simp) [] Tryd.func63 rfl mixed (by kernel_rfl) Tryd.ntmps63 Tryd.results63 rfl ⟨by simp, by simp⟩ (by simp) ?_
    simp only [toS, textOps, toSOp, kindAt, kindOf, odAt, sopsAt, ordOf, zipF]
    (repeat' (first | refine JC.seq ?_ | refine JC.ops ?_ | refine JO.nil ?_ | refine JX.thenN ?_ | (apply r_move; exact rfl; exact rfl; exact rfl) | (apply r_assign; exact rfl; exact rfl; exact rfl) | (apply r_pickT; exact rfl; exact rfl; exact rfl; exact rfl) | (apply r_eqSz; exact rfl; exact rfl; exact rfl; exact rfl) | refine JX.thenR ?_ | refine JC.ret ?_ | refine JC.condT rfl ?_ | (apply r_skip; exact rfl; exact rfl; (first | (intro h; cases h; done) | (intro _; rfl)))))
    exact JX.ret1 rfl (fun a w' st => ⟨st.kp, rfl⟩)
  · refine calls_of_S [] [] (by simp) [] Tryd.func63 rfl mixed (by kernel_rfl) Tryd.ntmps63 Tryd.results63 rfl ⟨by simp, by simp⟩ (by simp) ?_
    simp only [toS, textOps, toSOp, kindAt, kindOf, odAt, sopsAt, ordOf, zipF]
    have h1 : ((([0] : List UInt8).length : Nat) : Int) = 1 := rfl
    have h2 : ((UInt8.toNat 0 : Nat) : Int) = 0 := rfl
    (repeat' (first | refine JC.seq ?_ | refine JC.ops ?_ | refine JO.nil ?_ | refine JX.thenN ?_ | (apply r_move; exact rfl; exact rfl; exact rfl) | (apply r_assign; exact rfl; exact rfl; exact rfl) | (apply r_pickT; exact rfl; exact rfl; exact rfl; exact rfl) | (apply r_pickF; exact rfl; exact rfl; exact rfl; exact rfl) | (apply r_lenS; exact rfl; exact rfl; exact rfl) | (apply r_idxS0; exact rfl; exact rfl; exact rfl; exact rfl) | (apply r_eqSn; exact rfl; exact rfl; exact rfl; exact rfl) | (apply r_lss; exact rfl; exact rfl; exact rfl; exact rfl; all_goals intro hc; all_goals try (exfalso; omega)) | (apply r_eql; exact rfl; exact rfl; exact rfl; exact rfl; all_goals intro hc; all_goals try (exfalso; omega)) | refine JC.skip ?_ | refine JC.condT rfl ?_ | refine JC.condF rfl ?_))
    refine r_call0 trivial rfl rfl rfl (fun w hk hs => c_trimB w (x :: l) 0 hl) fun w v w' _ _ _ hR => ?_
    subst hR
    (repeat' (first | refine JO.nil ?_ | refine JX.thenN ?_ | (apply r_assign; exact rfl; exact rfl; exact rfl) | refine JX.thenR ?_ | refine JC.ret ?_))
    exact JX.ret1 rfl (fun a w' st => ⟨st.kp, rfl⟩)

end Go.Proofs.YtdehklhdjbkneaaDoor
