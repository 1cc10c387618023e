/- Bent: some matrix comes of it. -/
import Derived.Test.YtdoogoglfbohaaaFldY0
import Derived.Test.YtdoogoglfbohaaaExN
namespace Go.Proofs.Ytdoogoglfbohaaa
open Go Go.RowKit
set_option linter.unusedSimpArgs false
set_option linter.unusedVariables false
set_option linter.unusedSectionVars false

section
variable {c : Cx} {Q : Exit → Act → World → Prop} {m : Mode} {F : SFrame} {H : SHeap} {r : List SOp} {g : Option (Option Tmp × Bool)} {ns : Bool} {d : Tmp} {ty t t' : TypeId} {x y : Operand}

/-- Integers that may wrap. -/
theorem r_addW {i j : Int} (hd : dstOk c.n (some d) = true) (hg : guardF F g = some true) (hx : ev F x = some (iv i)) (hy : ev F y = some (iv j))
    (h : ∀ k : Int, JO c Q m r ((d, iv k) :: F) H) : JO c Q m (⟨some d, .binOp .add t x y t', ty, g, .mov, ns⟩ :: r) F H :=
  r_arith (v := iv (IntKind.i64.wrap (i + j))) hd hg hx hy (fun w => by rw [binOp_add]; simp [Op.intArith, iv]) (h _)
theorem r_subW {i j : Int} (hd : dstOk c.n (some d) = true) (hg : guardF F g = some true) (hx : ev F x = some (iv i)) (hy : ev F y = some (iv j))
    (h : ∀ k : Int, JO c Q m r ((d, iv k) :: F) H) : JO c Q m (⟨some d, .binOp .sub t x y t', ty, g, .mov, ns⟩ :: r) F H :=
  r_arith (v := iv (IntKind.i64.wrap (i - j))) hd hg hx hy (fun w => by rw [binOp_sub]; simp [Op.intArith, iv]) (h _)
theorem r_negW {i : Int} (hd : dstOk c.n (some d) = true) (hg : guardF F g = some true) (hx : ev F x = some (iv i))
    (h : ∀ k : Int, JO c Q m r ((d, iv k) :: F) H) : JO c Q m (⟨some d, .unOp .neg t x, ty, g, .mov, ns⟩ :: r) F H :=
  r_mov (v := iv (IntKind.i64.wrap (0 - i))) hd hg (fun a w fr => by simp [execOp, fr.ev hx, Op.unary, Op.intArith, iv]) (h _)
theorem r_appendI {A B N N2 : SHeap} {v v2 : Value} {n k : Nat} {xs ys : List Int} [TSl c.P t 3] [TE c.P 3 1 8 #[iv 0]] (hO : OwnI N v n xs) (h2 : RdI c N2 v2 k ys) (hN2 : HSub N2 H) (hH : H = A ++ (N ++ B)) (hm : m.mayStore ns r) (hd : dstOk c.n (some d) = true) (hg : guardF F g = some true) (hx : ev F x = some v) (hy : ev F y = some v2)
    (hb : n + k ≤ 10000000000) (h : ∀ v' N', OwnI N' v' (n + k) (xs ++ ys) → JO c Q m.spent r ((d, v') :: F) (A ++ (N' ++ B))) :
    JO c Q m (⟨some d, .call ⟨.builtin .append, #[x, y], #[t, t]⟩, ty, g, .seq, ns⟩ :: r) F H :=
  r_appendA (e := 3) (sz := 1) (bytes := 8) (zc := #[iv 0]) (xs := xs.map iv) (news := ys.map iv) (n := n) (mm := k) rfl hO h2 hN2 hH hm hd hg hx hy (fun u hu => by obtain ⟨a, _, rfl⟩ := List.mem_map.1 hu; rfl) (by simp only [maxLen]; omega) (by omega) (fun v' N' h' => h v' N' (by unfold OwnI; rw [List.map_append]; exact h'))
theorem r_appendIL {A B N N2 Hs : SHeap} {v v2 : Value} {n k : Nat} {xs ys : List Int} [TSl c.P t 3] [TE c.P 3 1 8 #[iv 0]] (hO : OwnI N v n xs) (h2 : RdI c N2 v2 k ys) (hN2 : HSub N2 H) (hH : H = A ++ (N ++ B)) (hm : HSub Hs (A ++ B)) (hd : dstOk c.n (some d) = true) (hg : guardF F g = some true) (hx : ev F x = some v) (hy : ev F y = some v2)
    (hb : n + k ≤ 10000000000) (h : ∀ v' N', OwnI N' v' (n + k) (xs ++ ys) → JO c Q (.draw Hs true) r ((d, v') :: F) (A ++ (N' ++ B))) :
    JO c Q (.draw Hs true) (⟨some d, .call ⟨.builtin .append, #[x, y], #[t, t]⟩, ty, g, .seq, ns⟩ :: r) F H :=
  r_appendL (e := 3) (sz := 1) (bytes := 8) (zc := #[iv 0]) (xs := xs.map iv) (news := ys.map iv) (n := n) (mm := k) rfl hO h2 hN2 hH hm hd hg hx hy (fun u hu => by obtain ⟨a, _, rfl⟩ := List.mem_map.1 hu; rfl) (by simp only [maxLen]; omega) (by omega) (fun v' N' h' => h v' N' (by unfold OwnI; rw [List.map_append]; exact h'))
end

theorem HSub.rot3 {N : SHeap} {x y z : Nat × Obj} : HSub (x :: y :: z :: (N ++ [])) (N ++ [x, y, z]) := ⟨[], by
  have : (N ++ [x, y, z]).Perm ([x, y, z] ++ N) := List.perm_append_comm
  simpa using this⟩
theorem own_litI (b n : Nat) (xs : List Int) (vs : List Value) (hv : vs = xs.map iv) (hn : xs.length = n) (h : n ≤ 1000) : OwnI [(b, .cells ⟨vs⟩ 3)] (.slice (some ⟨b, 0, none⟩) n n) n xs := by
  subst hv
  have := OwnRow.mk' (e := 3) (sz := 1) (n := n) (b := b) (cs := ⟨xs.map iv⟩) (by simp [hn]) (by simp only [maxLen]; omega)
  exact this

set_option maxHeartbeats 8000000 in
theorem c_Bent (w : World) (v : Value) (a : FM) (q0 q1 : Int) (ha : IsF w v a) (hl : a.E.length < 900000000) :
    Calls Try.prog 30 #[v, .agg #[iv q0, iv q1]] w (Ret fun v w' => Kp [] w w' ∧ ∃ b : FM, b.E.length ≤ a.E.length + 1 ∧ GivesF b w v w') := by
  obtain ⟨P, R, C, xs⟩ := a
  obtain ⟨E, rfl, hE⟩ := ha
  dsimp only at hE hl
  unfold fmV
  dsimp only
  have h9 := md_lt q0 (show 0 < 9 by omega)
  have h3 := md_lt q1 (show 0 < 3 by omega)
  have hk1 := md_lt q1 (show 0 < max xs.length 1 by omega)
  generalize hn : xs.length = n at *
  refine calls_of_R [17] [⟨1, 1, [0, 1, 2, 3, 4, 5, 7, 8, 6, 9, 10, 11, 12], []⟩] [] (by simp) [] Try.func30 rfl mixed (by kernel_rfl) Try.ntmps30 Try.results30 rfl ⟨by simp, by simp⟩ (by simp) ?_
  simp only [toR, inR, cond_true, cond_false, Nat.reduceBEq, toS, textOps, toSOp, kindAt, kindOf, odAt, sopsAt, ordOf, zipF]
  (repeat' (first | refine JC.seq ?_ | refine JC.ops ?_ | refine JO.nil ?_ | refine JX.thenN ?_ | (apply r_allocZ; exact rfl; exact rfl; exact rfl; intro _) | (apply r_boxA; exact rfl; exact rfl; exact rfl; exact rfl; intro _)))
  rename_i b2 b3 b4
  refine JC.opsDs [(b4, .cells #[iv 0, iv 0, iv 0, .slice none 0 0] 27), (b3, .cells #[iv q0, iv q1] 47), (b2, .cells #[iv P, iv R, iv C, E] 27)] (by (first | exact HSub.refl _ | (repeat' first | exact HSub.nil _ | exact HSub.refl _ | refine HSub.at 0 rfl ?_ | refine HSub.at 1 rfl ?_ | refine HSub.at 2 rfl ?_ | refine HSub.at 3 rfl ?_ | refine HSub.at 4 rfl ?_ | refine HSub.at 5 rfl ?_ | refine HSub.at 6 rfl ?_ | refine HSub.at 7 rfl ?_))) ?_
  (repeat' (first | (apply r_fieldAddr; exact rfl; exact rfl; exact rfl) | (apply r_load; exact rfl; exact rfl; exact rfl; exact rfl; (first | exact at0 | exact at1 | exact at2 | exact at3 | exact at4 | exact at5 | exact at6 | exact at7); exact rfl)))
  refine r_buildSlice0 rfl rfl rfl (fun b => ?_)
  skip
  have hO : OwnI [(b, .cells #[] 3)] (.slice (some ⟨b, 0, none⟩) 0 0) 0 [] := own_litI b 0 [] [] rfl rfl (by omega)
  refine r_appendIL (A := []) hO (WI.rd hE rfl []) (by (repeat' first | exact HSub.nil _ | exact HSub.hd | exact HSub.in0 | exact HSub.refl _ | refine HSub.skip ?_ | refine HSub.skipN ?_)) rfl (by (first | exact HSub.refl _ | (repeat' first | exact HSub.nil _ | exact HSub.refl _ | refine HSub.at 0 rfl ?_ | refine HSub.at 1 rfl ?_ | refine HSub.at 2 rfl ?_ | refine HSub.at 3 rfl ?_ | refine HSub.at 4 rfl ?_ | refine HSub.at 5 rfl ?_ | refine HSub.at 6 rfl ?_ | refine HSub.at 7 rfl ?_))) rfl rfl rfl rfl (by omega) (fun v' N hO' => ?_)
  rw [Nat.zero_add, List.nil_append] at hO'
  clear hO
  obtain ⟨A, cap, rfl⟩ := hO'.form
  (repeat' (first | refine JO.nil ?_ | (apply r_allocZ; exact rfl; exact rfl; exact rfl; intro _) | (apply r_buildL; exact rfl; exact rfl; exact rfl; exact rfl; exact rfl) | (apply r_storeN; exact rfl; (first | exact trivial | exact ⟨rfl, rfl⟩); exact rfl; exact rfl; (first | exact at0 | exact at1 | exact at2 | exact at3 | exact at4 | exact at5 | exact at6 | exact at7); exact rfl; exact rfl; exact rfl)))
  rename_i b5
  refine JX.part (F' := [(5, .pointer (some ⟨b5, 0, none⟩)), (4, .pointer (some ⟨b4, 0, none⟩)), (3, .pointer (some ⟨b3, 0, none⟩)), (2, .pointer (some ⟨b2, 0, none⟩))]) (H' := [(b5, .cells #[iv P, iv R, iv C, .slice A n cap] 27), (b4, .cells #[iv 0, iv 0, iv 0, .slice none 0 0] 27), (b3, .cells #[iv q0, iv q1] 47), (b2, .cells #[iv P, iv R, iv C, E] 27)] ++ (N ++ [])) (by repeat first | exact trivial | refine ⟨rfl, ?_⟩) (HSub.at 0 rfl HSub.rot3) ?_
  refine JX.thenN ?_
  refine JC.seq ?_
  refine JC.ops ?_
  refine r_idxArr (j := 1) rfl rfl rfl rfl (by omega) ?_
  (repeat' (first | (apply r_fieldAddr; exact rfl; exact rfl; exact rfl) | (apply r_load; exact rfl; exact rfl; exact rfl; exact rfl; (first | exact at0 | exact at1 | exact at2 | exact at3 | exact at4 | exact at5 | exact at6 | exact at7); exact rfl) | (apply r_lenI; exact rfl; exact rfl; exact rfl; (first | assumption | exact WI.rd (by assumption) rfl [] | exact OwnI.rd (by assumption))) | (apply r_max; exact rfl; exact rfl; exact rfl; exact rfl)))
  have hmx : (if (n : Int) < 1 then (1 : Int) else n) = ((max n 1 : Nat) : Int) := by split <;> omega
  rw [hmx]
  refine r_call0 trivial rfl rfl rfl (fun w hk hs => c_Mod01 w q1 (max n 1) (by omega) (by omega)) fun w v w' _ _ _ hR => ?_
  subst hR
  (repeat' (first | refine JC.seq ?_ | refine JC.ops ?_ | refine JO.nil ?_ | refine JX.thenN ?_ | (apply r_assign; exact rfl; exact rfl; exact rfl)))
  refine r_idxArr (j := 0) rfl rfl rfl rfl (by omega) ?_
  (repeat' (first | (apply r_load; exact rfl; exact rfl; exact rfl; exact rfl; (first | exact at0 | exact at1 | exact at2 | exact at3 | exact at4 | exact at5 | exact at6 | exact at7); exact rfl)))
  refine r_call0 trivial rfl rfl rfl (fun w hk hs => c_Mod01 w q0 9 (by omega) (by omega)) fun w v w' _ _ _ hR => ?_
  subst hR
  (repeat' (first | refine JC.seq ?_ | refine JC.ops ?_ | refine JO.nil ?_ | refine JX.thenN ?_ | (apply r_fieldAddr; exact rfl; exact rfl; exact rfl) | (apply r_assign; exact rfl; exact rfl; exact rfl) | (apply r_load; exact rfl; exact rfl; exact rfl; exact rfl; (first | exact at0 | exact at1 | exact at2 | exact at3 | exact at4 | exact at5 | exact at6 | exact at7); exact rfl) | (apply r_loadN; exact rfl; exact rfl; exact rfl; exact rfl; (first | exact at0 | exact at1 | exact at2 | exact at3 | exact at4 | exact at5 | exact at6 | exact at7); exact rfl) | (apply r_len; exact rfl; exact rfl; exact rfl) | (apply r_gtr; exact rfl; exact rfl; exact rfl; exact rfl; all_goals intro hc; all_goals try (exfalso; omega)) | (apply r_eql; exact rfl; exact rfl; exact rfl; exact rfl; all_goals intro hc; all_goals try (exfalso; omega)) | (apply r_build1; exact rfl; exact rfl; exact rfl; exact rfl; exact rfl; (repeat first | exact trivial | refine ⟨rfl, ?_⟩); decide; decide; intro _) | (apply r_storeN; exact rfl; (first | exact trivial | exact ⟨rfl, rfl⟩); exact rfl; exact rfl; (first | exact at0 | exact at1 | exact at2 | exact at3 | exact at4 | exact at5 | exact at6 | exact at7); exact rfl; exact rfl; exact rfl) | (apply r_store; exact rfl; (first | exact trivial | exact ⟨rfl, rfl⟩); exact rfl; exact rfl; (first | exact at0 | exact at1 | exact at2 | exact at3 | exact at4 | exact at5 | exact at6 | exact at7); exact rfl; exact rfl; (first | exact Nat.le_of_ble_eq_true rfl | (simp; done) | omega)) | refine JC.skip ?_ | refine JC.ret ?_ | refine JC.condT rfl ?_ | refine JC.condF rfl ?_ | refine JC.block ?_ | refine JX.blockN ?_))
  · skip
    refine r_addW rfl rfl rfl rfl (fun k => ?_)
    (repeat' (first | refine JC.seq ?_ | refine JC.ops ?_ | refine JO.nil ?_ | refine JX.thenN ?_ | (apply r_fieldAddr; exact rfl; exact rfl; exact rfl) | (apply r_loadN; exact rfl; exact rfl; exact rfl; exact rfl; (first | exact at0 | exact at1 | exact at2 | exact at3 | exact at4 | exact at5 | exact at6 | exact at7); exact rfl) | (apply r_storeN; exact rfl; (first | exact trivial | exact ⟨rfl, rfl⟩); exact rfl; exact rfl; (first | exact at0 | exact at1 | exact at2 | exact at3 | exact at4 | exact at5 | exact at6 | exact at7); exact rfl; exact rfl; exact rfl) | (apply r_store; exact rfl; (first | exact trivial | exact ⟨rfl, rfl⟩); exact rfl; exact rfl; (first | exact at0 | exact at1 | exact at2 | exact at3 | exact at4 | exact at5 | exact at6 | exact at7); exact rfl; exact rfl; (first | exact Nat.le_of_ble_eq_true rfl | (simp; done) | omega)) | refine JC.ret ?_ | refine JX.blockN ?_))
    exact JX.retC 1 rfl rfl rfl (fun a w' st => ⟨st.kp, ⟨P, k, C, xs⟩, by first | (dsimp only; omega) | (simp only [List.length_append, List.length_set, List.length_singleton]; omega), N, st.newOf rfl (by (repeat' first | exact HSub.nil _ | exact HSub.hd | exact HSub.in0 | exact HSub.refl _ | refine HSub.skip ?_ | refine HSub.skipN ?_)), _, rfl, by dsimp only; rw [show (xs).length = n by first | omega | (simp only [List.length_append, List.length_set, List.length_singleton]; omega)]; exact hO'⟩)
  · skip
    refine r_subW rfl rfl rfl rfl (fun k => ?_)
    (repeat' (first | refine JC.seq ?_ | refine JC.ops ?_ | refine JO.nil ?_ | refine JX.thenN ?_ | (apply r_fieldAddr; exact rfl; exact rfl; exact rfl) | (apply r_loadN; exact rfl; exact rfl; exact rfl; exact rfl; (first | exact at0 | exact at1 | exact at2 | exact at3 | exact at4 | exact at5 | exact at6 | exact at7); exact rfl) | (apply r_storeN; exact rfl; (first | exact trivial | exact ⟨rfl, rfl⟩); exact rfl; exact rfl; (first | exact at0 | exact at1 | exact at2 | exact at3 | exact at4 | exact at5 | exact at6 | exact at7); exact rfl; exact rfl; exact rfl) | (apply r_store; exact rfl; (first | exact trivial | exact ⟨rfl, rfl⟩); exact rfl; exact rfl; (first | exact at0 | exact at1 | exact at2 | exact at3 | exact at4 | exact at5 | exact at6 | exact at7); exact rfl; exact rfl; (first | exact Nat.le_of_ble_eq_true rfl | (simp; done) | omega)) | refine JC.ret ?_ | refine JX.blockN ?_))
    exact JX.retC 1 rfl rfl rfl (fun a w' st => ⟨st.kp, ⟨P, R, k, xs⟩, by first | (dsimp only; omega) | (simp only [List.length_append, List.length_set, List.length_singleton]; omega), N, st.newOf rfl (by (repeat' first | exact HSub.nil _ | exact HSub.hd | exact HSub.in0 | exact HSub.refl _ | refine HSub.skip ?_ | refine HSub.skipN ?_)), _, rfl, by dsimp only; rw [show (xs).length = n by first | omega | (simp only [List.length_append, List.length_set, List.length_singleton]; omega)]; exact hO'⟩)
  · skip
    rename_i b6
    have hO6 : OwnI [(b6, .cells ⟨[iv 0]⟩ 3)] (.slice (some ⟨b6, 0, none⟩) 1 1) 1 [0] := own_litI b6 1 [0] [iv 0] rfl rfl (by omega)
    refine r_appendI (A := [_, _, _, _, _]) hO' hO6.rd (by (repeat' first | exact HSub.nil _ | exact HSub.hd | exact HSub.in0 | exact HSub.refl _ | refine HSub.skip ?_ | refine HSub.skipN ?_)) rfl trivial rfl rfl rfl rfl (by omega) (fun v' N2 hO2 => ?_)
    obtain ⟨A2, cap2, rfl⟩ := hO2.form
    (repeat' (first | refine JC.seq ?_ | refine JC.ops ?_ | refine JO.nil ?_ | refine JX.thenN ?_ | (apply r_fieldAddr; exact rfl; exact rfl; exact rfl) | (apply r_loadN; exact rfl; exact rfl; exact rfl; exact rfl; (first | exact at0 | exact at1 | exact at2 | exact at3 | exact at4 | exact at5 | exact at6 | exact at7); exact rfl) | (apply r_storeN; exact rfl; (first | exact trivial | exact ⟨rfl, rfl⟩); exact rfl; exact rfl; (first | exact at0 | exact at1 | exact at2 | exact at3 | exact at4 | exact at5 | exact at6 | exact at7); exact rfl; exact rfl; exact rfl) | (apply r_store; exact rfl; (first | exact trivial | exact ⟨rfl, rfl⟩); exact rfl; exact rfl; (first | exact at0 | exact at1 | exact at2 | exact at3 | exact at4 | exact at5 | exact at6 | exact at7); exact rfl; exact rfl; (first | exact Nat.le_of_ble_eq_true rfl | (simp; done) | omega)) | refine JC.ret ?_ | refine JX.blockN ?_))
    exact JX.retC 2 rfl rfl rfl (fun a w' st => ⟨st.kp, ⟨P, R, C, xs ++ [(0 : Int)]⟩, by first | (dsimp only; omega) | (simp only [List.length_append, List.length_set, List.length_singleton]; omega), N2, st.newOf rfl (by (repeat' first | exact HSub.nil _ | exact HSub.hd | exact HSub.in0 | exact HSub.refl _ | refine HSub.skip ?_ | refine HSub.skipN ?_)), _, rfl, by dsimp only; rw [show (xs ++ [(0 : Int)]).length = n + 1 by first | omega | (simp only [List.length_append, List.length_set, List.length_singleton]; omega)]; exact hO2⟩)
  · skip
    refine r_negW rfl rfl rfl (fun k => ?_)
    (repeat' (first | refine JC.ops ?_ | refine JO.nil ?_ | refine JX.thenN ?_ | (apply r_fieldAddr; exact rfl; exact rfl; exact rfl) | (apply r_load; exact rfl; exact rfl; exact rfl; exact rfl; (first | exact at0 | exact at1 | exact at2 | exact at3 | exact at4 | exact at5 | exact at6 | exact at7); exact rfl) | (apply r_store; exact rfl; (first | exact trivial | exact ⟨rfl, rfl⟩); exact rfl; exact rfl; (first | exact at0 | exact at1 | exact at2 | exact at3 | exact at4 | exact at5 | exact at6 | exact at7); exact rfl; exact rfl; (first | exact Nat.le_of_ble_eq_true rfl | (simp; done) | omega))))
    refine r_negW rfl rfl rfl (fun k2 => ?_)
    (repeat' (first | refine JC.seq ?_ | refine JC.ops ?_ | refine JO.nil ?_ | refine JX.thenN ?_ | (apply r_fieldAddr; exact rfl; exact rfl; exact rfl) | (apply r_loadN; exact rfl; exact rfl; exact rfl; exact rfl; (first | exact at0 | exact at1 | exact at2 | exact at3 | exact at4 | exact at5 | exact at6 | exact at7); exact rfl) | (apply r_storeN; exact rfl; (first | exact trivial | exact ⟨rfl, rfl⟩); exact rfl; exact rfl; (first | exact at0 | exact at1 | exact at2 | exact at3 | exact at4 | exact at5 | exact at6 | exact at7); exact rfl; exact rfl; exact rfl) | (apply r_store; exact rfl; (first | exact trivial | exact ⟨rfl, rfl⟩); exact rfl; exact rfl; (first | exact at0 | exact at1 | exact at2 | exact at3 | exact at4 | exact at5 | exact at6 | exact at7); exact rfl; exact rfl; (first | exact Nat.le_of_ble_eq_true rfl | (simp; done) | omega)) | refine JC.ret ?_ | refine JX.blockN ?_))
    exact JX.retC 1 rfl rfl rfl (fun a w' st => ⟨st.kp, ⟨P, k, k2, xs⟩, by first | (dsimp only; omega) | (simp only [List.length_append, List.length_set, List.length_singleton]; omega), N, st.newOf rfl (by (repeat' first | exact HSub.nil _ | exact HSub.hd | exact HSub.in0 | exact HSub.refl _ | refine HSub.skip ?_ | refine HSub.skipN ?_)), _, rfl, by dsimp only; rw [show (xs).length = n by first | omega | (simp only [List.length_append, List.length_set, List.length_singleton]; omega)]; exact hO'⟩)
  · skip
    refine r_idxArr (j := 1) rfl rfl rfl rfl (by omega) ?_
    (repeat' (first | refine JC.seq ?_ | refine JC.ops ?_ | refine JO.nil ?_ | refine JX.thenN ?_ | (apply r_fieldAddr; exact rfl; exact rfl; exact rfl) | (apply r_load; exact rfl; exact rfl; exact rfl; exact rfl; (first | exact at0 | exact at1 | exact at2 | exact at3 | exact at4 | exact at5 | exact at6 | exact at7); exact rfl) | (apply r_loadN; exact rfl; exact rfl; exact rfl; exact rfl; (first | exact at0 | exact at1 | exact at2 | exact at3 | exact at4 | exact at5 | exact at6 | exact at7); exact rfl) | (apply r_storeN; exact rfl; (first | exact trivial | exact ⟨rfl, rfl⟩); exact rfl; exact rfl; (first | exact at0 | exact at1 | exact at2 | exact at3 | exact at4 | exact at5 | exact at6 | exact at7); exact rfl; exact rfl; exact rfl) | (apply r_store; exact rfl; (first | exact trivial | exact ⟨rfl, rfl⟩); exact rfl; exact rfl; (first | exact at0 | exact at1 | exact at2 | exact at3 | exact at4 | exact at5 | exact at6 | exact at7); exact rfl; exact rfl; (first | exact Nat.le_of_ble_eq_true rfl | (simp; done) | omega)) | refine JC.ret ?_ | refine JX.blockN ?_))
    exact JX.retC 1 rfl rfl rfl (fun a w' st => ⟨st.kp, ⟨q1, R, C, xs⟩, by first | (dsimp only; omega) | (simp only [List.length_append, List.length_set, List.length_singleton]; omega), N, st.newOf rfl (by (repeat' first | exact HSub.nil _ | exact HSub.hd | exact HSub.in0 | exact HSub.refl _ | refine HSub.skip ?_ | refine HSub.skipN ?_)), _, rfl, by dsimp only; rw [show (xs).length = n by first | omega | (simp only [List.length_append, List.length_set, List.length_singleton]; omega)]; exact hO'⟩)
  · skip
    refine JC.fork 8 11 (fun i op => kindAt [(13, .seq)] i op) 2 2 [0, 1, 2, 3, 4, 5, 6, 7, 9, 10, 8, 11, 12, 13, 14, 15] [0, 1, 2, 3, 4, 5, 6, 7, 9, 10, 11, 8, 12, 13, 14, 15] (by decide) mixed (by kernel_rfl) (by kernel_rfl) ?_ ?_
    · (repeat' (first | (apply r_move; exact rfl; exact rfl; exact rfl) | (apply r_fieldAddr; exact rfl; exact rfl; exact rfl) | (apply r_load; exact rfl; exact rfl; exact rfl; exact rfl; (first | exact at0 | exact at1 | exact at2 | exact at3 | exact at4 | exact at5 | exact at6 | exact at7); exact rfl)))
      refine r_subW rfl rfl rfl rfl (fun k => ?_)
      skip
      refine r_idxArr (j := 1) rfl rfl rfl rfl (by omega) ?_
      (repeat' (first | (apply r_load; exact rfl; exact rfl; exact rfl; exact rfl; (first | exact at0 | exact at1 | exact at2 | exact at3 | exact at4 | exact at5 | exact at6 | exact at7); exact rfl) | (apply r_build1; exact rfl; exact rfl; exact rfl; exact rfl; exact rfl; (repeat first | exact trivial | refine ⟨rfl, ?_⟩); decide; decide; intro _)))
      rename_i b6
      refine r_call0 trivial rfl rfl rfl (fun w hk hs => c_Mod01 w q1 3 (by omega) (by omega)) fun w v w' _ _ _ hR => ?_
      subst hR
      generalize md q1 3 = k3 at *
      rcases (show k3 = 0 ∨ k3 = 1 ∨ k3 = 2 by omega) with rfl | rfl | rfl
      · (repeat' (first | (apply r_idxB; exact rfl; exact rfl; exact rfl; exact rfl; omega)))
        refine r_ldSeq 0 (by first | trivial | exact ⟨rfl, rfl⟩) rfl rfl rfl rfl rfl ?_
        (repeat' (first | (apply r_idxI; exact rfl; exact rfl; exact rfl; exact rfl; (first | assumption | exact WI.rd (by assumption) rfl [] | exact OwnI.rd (by assumption)); (first | assumption | omega))))
        refine r_stI (A := [_, _, _, _, _]) hO' rfl rfl (by first | trivial | exact ⟨rfl, rfl⟩) rfl rfl (by omega) (fun N2 hO2 => ?_)
        (repeat' (first | refine JC.seq ?_ | refine JC.ops ?_ | refine JO.nil ?_ | refine JX.thenN ?_ | (apply r_loadN; exact rfl; exact rfl; exact rfl; exact rfl; (first | exact at0 | exact at1 | exact at2 | exact at3 | exact at4 | exact at5 | exact at6 | exact at7); exact rfl) | (apply r_storeN; exact rfl; (first | exact trivial | exact ⟨rfl, rfl⟩); exact rfl; exact rfl; (first | exact at0 | exact at1 | exact at2 | exact at3 | exact at4 | exact at5 | exact at6 | exact at7); exact rfl; exact rfl; exact rfl) | refine JC.ret ?_ | refine JX.blockN ?_))
        exact JX.retC 2 rfl rfl rfl (fun a w' st => ⟨st.kp, ⟨P, R, C, xs.set (md q1 (max n 1)) (-1)⟩, by first | (dsimp only; omega) | (simp only [List.length_append, List.length_set, List.length_singleton]; omega), N2, st.newOf rfl (by (repeat' first | exact HSub.nil _ | exact HSub.hd | exact HSub.in0 | exact HSub.refl _ | refine HSub.skip ?_ | refine HSub.skipN ?_)), _, rfl, by dsimp only; rw [show (xs.set (md q1 (max n 1)) (-1)).length = n by first | omega | (simp only [List.length_append, List.length_set, List.length_singleton]; omega)]; exact hO2⟩)
      · (repeat' (first | (apply r_idxB; exact rfl; exact rfl; exact rfl; exact rfl; omega)))
        refine r_ldSeq 0 (by first | trivial | exact ⟨rfl, rfl⟩) rfl rfl rfl rfl rfl ?_
        (repeat' (first | (apply r_idxI; exact rfl; exact rfl; exact rfl; exact rfl; (first | assumption | exact WI.rd (by assumption) rfl [] | exact OwnI.rd (by assumption)); (first | assumption | omega))))
        refine r_stI (A := [_, _, _, _, _]) hO' rfl rfl (by first | trivial | exact ⟨rfl, rfl⟩) rfl rfl (by omega) (fun N2 hO2 => ?_)
        (repeat' (first | refine JC.seq ?_ | refine JC.ops ?_ | refine JO.nil ?_ | refine JX.thenN ?_ | (apply r_loadN; exact rfl; exact rfl; exact rfl; exact rfl; (first | exact at0 | exact at1 | exact at2 | exact at3 | exact at4 | exact at5 | exact at6 | exact at7); exact rfl) | (apply r_storeN; exact rfl; (first | exact trivial | exact ⟨rfl, rfl⟩); exact rfl; exact rfl; (first | exact at0 | exact at1 | exact at2 | exact at3 | exact at4 | exact at5 | exact at6 | exact at7); exact rfl; exact rfl; exact rfl) | refine JC.ret ?_ | refine JX.blockN ?_))
        exact JX.retC 2 rfl rfl rfl (fun a w' st => ⟨st.kp, ⟨P, R, C, xs.set (md q1 (max n 1)) P⟩, by first | (dsimp only; omega) | (simp only [List.length_append, List.length_set, List.length_singleton]; omega), N2, st.newOf rfl (by (repeat' first | exact HSub.nil _ | exact HSub.hd | exact HSub.in0 | exact HSub.refl _ | refine HSub.skip ?_ | refine HSub.skipN ?_)), _, rfl, by dsimp only; rw [show (xs.set (md q1 (max n 1)) P).length = n by first | omega | (simp only [List.length_append, List.length_set, List.length_singleton]; omega)]; exact hO2⟩)
      · (repeat' (first | (apply r_idxB; exact rfl; exact rfl; exact rfl; exact rfl; omega)))
        refine r_ldSeq 0 (by first | trivial | exact ⟨rfl, rfl⟩) rfl rfl rfl rfl rfl ?_
        (repeat' (first | (apply r_idxI; exact rfl; exact rfl; exact rfl; exact rfl; (first | assumption | exact WI.rd (by assumption) rfl [] | exact OwnI.rd (by assumption)); (first | assumption | omega))))
        refine r_stI (A := [_, _, _, _, _]) hO' rfl rfl (by first | trivial | exact ⟨rfl, rfl⟩) rfl rfl (by omega) (fun N2 hO2 => ?_)
        (repeat' (first | refine JC.seq ?_ | refine JC.ops ?_ | refine JO.nil ?_ | refine JX.thenN ?_ | (apply r_loadN; exact rfl; exact rfl; exact rfl; exact rfl; (first | exact at0 | exact at1 | exact at2 | exact at3 | exact at4 | exact at5 | exact at6 | exact at7); exact rfl) | (apply r_storeN; exact rfl; (first | exact trivial | exact ⟨rfl, rfl⟩); exact rfl; exact rfl; (first | exact at0 | exact at1 | exact at2 | exact at3 | exact at4 | exact at5 | exact at6 | exact at7); exact rfl; exact rfl; exact rfl) | refine JC.ret ?_ | refine JX.blockN ?_))
        exact JX.retC 2 rfl rfl rfl (fun a w' st => ⟨st.kp, ⟨P, R, C, xs.set (md q1 (max n 1)) k⟩, by first | (dsimp only; omega) | (simp only [List.length_append, List.length_set, List.length_singleton]; omega), N2, st.newOf rfl (by (repeat' first | exact HSub.nil _ | exact HSub.hd | exact HSub.in0 | exact HSub.refl _ | refine HSub.skip ?_ | refine HSub.skipN ?_)), _, rfl, by dsimp only; rw [show (xs.set (md q1 (max n 1)) k).length = n by first | omega | (simp only [List.length_append, List.length_set, List.length_singleton]; omega)]; exact hO2⟩)
    · (repeat' (first | (apply r_move; exact rfl; exact rfl; exact rfl) | (apply r_fieldAddr; exact rfl; exact rfl; exact rfl) | (apply r_load; exact rfl; exact rfl; exact rfl; exact rfl; (first | exact at0 | exact at1 | exact at2 | exact at3 | exact at4 | exact at5 | exact at6 | exact at7); exact rfl)))
      refine r_subW rfl rfl rfl rfl (fun k => ?_)
      skip
      refine r_idxArr (j := 1) rfl rfl rfl rfl (by omega) ?_
      (repeat' (first | (apply r_load; exact rfl; exact rfl; exact rfl; exact rfl; (first | exact at0 | exact at1 | exact at2 | exact at3 | exact at4 | exact at5 | exact at6 | exact at7); exact rfl)))
      refine r_call0 trivial rfl rfl rfl (fun w hk hs => c_Mod01 w q1 3 (by omega) (by omega)) fun w v w' _ _ _ hR => ?_
      subst hR
      generalize md q1 3 = k3 at *
      rcases (show k3 = 0 ∨ k3 = 1 ∨ k3 = 2 by omega) with rfl | rfl | rfl
      · (repeat' (first | (apply r_idxB; exact rfl; exact rfl; exact rfl; exact rfl; omega) | (apply r_build1; exact rfl; exact rfl; exact rfl; exact rfl; exact rfl; (repeat first | exact trivial | refine ⟨rfl, ?_⟩); decide; decide; intro _)))
        refine r_ldSeq 0 (by first | trivial | exact ⟨rfl, rfl⟩) rfl rfl rfl rfl rfl ?_
        (repeat' (first | (apply r_idxI; exact rfl; exact rfl; exact rfl; exact rfl; (first | assumption | exact WI.rd (by assumption) rfl [] | exact OwnI.rd (by assumption)); (first | assumption | omega))))
        refine r_stI (A := [_, _, _, _, _]) hO' rfl rfl (by first | trivial | exact ⟨rfl, rfl⟩) rfl rfl (by omega) (fun N2 hO2 => ?_)
        (repeat' (first | refine JC.seq ?_ | refine JC.ops ?_ | refine JO.nil ?_ | refine JX.thenN ?_ | (apply r_loadN; exact rfl; exact rfl; exact rfl; exact rfl; (first | exact at0 | exact at1 | exact at2 | exact at3 | exact at4 | exact at5 | exact at6 | exact at7); exact rfl) | (apply r_storeN; exact rfl; (first | exact trivial | exact ⟨rfl, rfl⟩); exact rfl; exact rfl; (first | exact at0 | exact at1 | exact at2 | exact at3 | exact at4 | exact at5 | exact at6 | exact at7); exact rfl; exact rfl; exact rfl) | refine JC.ret ?_ | refine JX.blockN ?_))
        exact JX.retC 2 rfl rfl rfl (fun a w' st => ⟨st.kp, ⟨P, R, C, xs.set (md q1 (max n 1)) (-1)⟩, by first | (dsimp only; omega) | (simp only [List.length_append, List.length_set, List.length_singleton]; omega), N2, st.newOf rfl (by (repeat' first | exact HSub.nil _ | exact HSub.hd | exact HSub.in0 | exact HSub.refl _ | refine HSub.skip ?_ | refine HSub.skipN ?_)), _, rfl, by dsimp only; rw [show (xs.set (md q1 (max n 1)) (-1)).length = n by first | omega | (simp only [List.length_append, List.length_set, List.length_singleton]; omega)]; exact hO2⟩)
      · (repeat' (first | (apply r_idxB; exact rfl; exact rfl; exact rfl; exact rfl; omega) | (apply r_build1; exact rfl; exact rfl; exact rfl; exact rfl; exact rfl; (repeat first | exact trivial | refine ⟨rfl, ?_⟩); decide; decide; intro _)))
        refine r_ldSeq 0 (by first | trivial | exact ⟨rfl, rfl⟩) rfl rfl rfl rfl rfl ?_
        (repeat' (first | (apply r_idxI; exact rfl; exact rfl; exact rfl; exact rfl; (first | assumption | exact WI.rd (by assumption) rfl [] | exact OwnI.rd (by assumption)); (first | assumption | omega))))
        refine r_stI (A := [_, _, _, _, _]) hO' rfl rfl (by first | trivial | exact ⟨rfl, rfl⟩) rfl rfl (by omega) (fun N2 hO2 => ?_)
        (repeat' (first | refine JC.seq ?_ | refine JC.ops ?_ | refine JO.nil ?_ | refine JX.thenN ?_ | (apply r_loadN; exact rfl; exact rfl; exact rfl; exact rfl; (first | exact at0 | exact at1 | exact at2 | exact at3 | exact at4 | exact at5 | exact at6 | exact at7); exact rfl) | (apply r_storeN; exact rfl; (first | exact trivial | exact ⟨rfl, rfl⟩); exact rfl; exact rfl; (first | exact at0 | exact at1 | exact at2 | exact at3 | exact at4 | exact at5 | exact at6 | exact at7); exact rfl; exact rfl; exact rfl) | refine JC.ret ?_ | refine JX.blockN ?_))
        exact JX.retC 2 rfl rfl rfl (fun a w' st => ⟨st.kp, ⟨P, R, C, xs.set (md q1 (max n 1)) P⟩, by first | (dsimp only; omega) | (simp only [List.length_append, List.length_set, List.length_singleton]; omega), N2, st.newOf rfl (by (repeat' first | exact HSub.nil _ | exact HSub.hd | exact HSub.in0 | exact HSub.refl _ | refine HSub.skip ?_ | refine HSub.skipN ?_)), _, rfl, by dsimp only; rw [show (xs.set (md q1 (max n 1)) P).length = n by first | omega | (simp only [List.length_append, List.length_set, List.length_singleton]; omega)]; exact hO2⟩)
      · (repeat' (first | (apply r_idxB; exact rfl; exact rfl; exact rfl; exact rfl; omega) | (apply r_build1; exact rfl; exact rfl; exact rfl; exact rfl; exact rfl; (repeat first | exact trivial | refine ⟨rfl, ?_⟩); decide; decide; intro _)))
        refine r_ldSeq 0 (by first | trivial | exact ⟨rfl, rfl⟩) rfl rfl rfl rfl rfl ?_
        (repeat' (first | (apply r_idxI; exact rfl; exact rfl; exact rfl; exact rfl; (first | assumption | exact WI.rd (by assumption) rfl [] | exact OwnI.rd (by assumption)); (first | assumption | omega))))
        refine r_stI (A := [_, _, _, _, _]) hO' rfl rfl (by first | trivial | exact ⟨rfl, rfl⟩) rfl rfl (by omega) (fun N2 hO2 => ?_)
        (repeat' (first | refine JC.seq ?_ | refine JC.ops ?_ | refine JO.nil ?_ | refine JX.thenN ?_ | (apply r_loadN; exact rfl; exact rfl; exact rfl; exact rfl; (first | exact at0 | exact at1 | exact at2 | exact at3 | exact at4 | exact at5 | exact at6 | exact at7); exact rfl) | (apply r_storeN; exact rfl; (first | exact trivial | exact ⟨rfl, rfl⟩); exact rfl; exact rfl; (first | exact at0 | exact at1 | exact at2 | exact at3 | exact at4 | exact at5 | exact at6 | exact at7); exact rfl; exact rfl; exact rfl) | refine JC.ret ?_ | refine JX.blockN ?_))
        exact JX.retC 2 rfl rfl rfl (fun a w' st => ⟨st.kp, ⟨P, R, C, xs.set (md q1 (max n 1)) k⟩, by first | (dsimp only; omega) | (simp only [List.length_append, List.length_set, List.length_singleton]; omega), N2, st.newOf rfl (by (repeat' first | exact HSub.nil _ | exact HSub.hd | exact HSub.in0 | exact HSub.refl _ | refine HSub.skip ?_ | refine HSub.skipN ?_)), _, rfl, by dsimp only; rw [show (xs.set (md q1 (max n 1)) k).length = n by first | omega | (simp only [List.length_append, List.length_set, List.length_singleton]; omega)]; exact hO2⟩)
  · skip
    exact JX.retC 1 rfl rfl rfl (fun a w' st => ⟨st.kp, ⟨P, R, C, xs⟩, by first | (dsimp only; omega) | (simp only [List.length_append, List.length_set, List.length_singleton]; omega), N, st.newOf rfl (by (repeat' first | exact HSub.nil _ | exact HSub.hd | exact HSub.in0 | exact HSub.refl _ | refine HSub.skip ?_ | refine HSub.skipN ?_)), _, rfl, by dsimp only; rw [show (xs).length = n by first | omega | (simp only [List.length_append, List.length_set, List.length_singleton]; omega)]; exact hO'⟩)
  · skip
    exact JX.retC 1 rfl rfl rfl (fun a w' st => ⟨st.kp, ⟨P, 4611686018427387904, 4, xs⟩, by first | (dsimp only; omega) | (simp only [List.length_append, List.length_set, List.length_singleton]; omega), N, st.newOf rfl (by (repeat' first | exact HSub.nil _ | exact HSub.hd | exact HSub.in0 | exact HSub.refl _ | refine HSub.skip ?_ | refine HSub.skipN ?_)), _, rfl, by dsimp only; rw [show (xs).length = n by first | omega | (simp only [List.length_append, List.length_set, List.length_singleton]; omega)]; exact hO'⟩)
  · skip
    exact JX.retC 1 rfl rfl rfl (fun a w' st => ⟨st.kp, ⟨0, R, C, xs⟩, by first | (dsimp only; omega) | (simp only [List.length_append, List.length_set, List.length_singleton]; omega), N, st.newOf rfl (by (repeat' first | exact HSub.nil _ | exact HSub.hd | exact HSub.in0 | exact HSub.refl _ | refine HSub.skip ?_ | refine HSub.skipN ?_)), _, rfl, by dsimp only; rw [show (xs).length = n by first | omega | (simp only [List.length_append, List.length_set, List.length_singleton]; omega)]; exact hO'⟩)
  · skip
    exact JX.retC 1 rfl rfl rfl (fun a w' st => ⟨st.kp, ⟨P, R, C, xs⟩, by first | (dsimp only; omega) | (simp only [List.length_append, List.length_set, List.length_singleton]; omega), N, st.newOf rfl (by (repeat' first | exact HSub.nil _ | exact HSub.hd | exact HSub.in0 | exact HSub.refl _ | refine HSub.skip ?_ | refine HSub.skipN ?_)), _, rfl, by dsimp only; rw [show (xs).length = n by first | omega | (simp only [List.length_append, List.length_set, List.length_singleton]; omega)]; exact hO'⟩)
end Go.Proofs.Ytdoogoglfbohaaa
