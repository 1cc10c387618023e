import Derived.Test.YtdehklhdjbkneaaDoorMd
import Derived.Laws.StructEq
import Derived.Test.YtdehklhdjbkneaaDoorRows
import Derived.WalkKit
import Derived.ProofKit
import Derived.OpenShut
import Derived.ShutString
import Derived.ChangeOld
import Derived.Below
import Derived.Lib.SmallJoins
import Derived.SizedLaws
/- From and Quo. -/
namespace Go.Proofs.YtdehklhdjbkneaaDoor
open Go Go.RowKit
set_option linter.unusedSimpArgs false
set_option linter.unusedVariables false
set_option linter.unusedSectionVars false

section
variable {c : Cx} {Q : Exit → Act → World → Prop} {m : Mode} {F : SFrame} {H : SHeap} {r : List SOp} {g : Option (Option Tmp × Bool)} {ns : Bool} {d : Tmp} {ty t t' : TypeId} {x y : Operand} {i : Nat}
/-- A word turned. -/
theorem r_negU (hd : dstOk c.n (some d) = true) (hg : guardF F g = some true) (hx : ev F x = some (uv i)) (hb : i ≤ 18446744073709551616)
    (h : JO c Q m r ((d, uv ((18446744073709551616 - i) % 18446744073709551616)) :: F) H) : JO c Q m (⟨some d, .unOp .neg t x, ty, g, .mov, ns⟩ :: r) F H :=
  r_mov hd hg (fun a w fr => by
    have h1 : IntKind.u64.wrap (-(i : Int)) = (((18446744073709551616 - i) % 18446744073709551616 : Nat) : Int) := by rw [IntKind.wrap_u64]; omega
    simp only [execOp, fr.ev hx]
    simp [Op.unary, Op.intArith, h1, uv]) h
/-- An int made a word. -/
theorem r_i64U {n : Int} (j : Nat) [TI c.P t .i64] [TI c.P t' .u64] (hd : dstOk c.n (some d) = true) (hg : guardF F g = some true) (hx : ev F x = some (.int .i64 n)) (hj : IntKind.u64.wrap n = (j : Int))
    (h : JO c Q m r ((d, uv j) :: F) H) : JO c Q m (⟨some d, .convert t t' x, ty, g, .mov, ns⟩ :: r) F H := r_convK (k' := .u64) (j : Int) hd hg hx hj h
end

theorem val_two (m : Nat) : val W32 [m % 4294967296, m / 4294967296] = m := by
  show m % 4294967296 + 4294967296 * (m / 4294967296 + 4294967296 * 0) = m
  omega

set_option maxHeartbeats 2000000 in
theorem c_From (w : World) (n : Int) (h1 : -9223372036854775808 ≤ n) (h2 : n < 9223372036854775808) :
    Calls Tryd.prog 27 #[iv n] w (Ret fun r w' => Kp [] w w' ∧ r = Wv n) := by
  have hm : n.natAbs ≤ 9223372036854775808 := by omega
  have hm2 : n.natAbs < 18446744073709551616 := by omega
  have hlt : ∀ x ∈ [n.natAbs % 4294967296, n.natAbs / 4294967296], x < W32 := fun x hx => by
    simp only [List.mem_cons, List.mem_nil_iff, or_false] at hx
    show x < 4294967296
    omega
  by_cases hn : n < 0
  · refine calls_of_S [] [] (by simp) [] Tryd.func27 rfl mixed (by kernel_rfl) Tryd.ntmps27 Tryd.results27 rfl ⟨by simp, by simp⟩ (by simp) ?_
    simp only [toS, textOps, toSOp, kindAt, kindOf, odAt, sopsAt, ordOf, zipF]
    (repeat' (first | refine JC.seq ?_ | refine JC.ops ?_ | refine JO.nil ?_ | refine JX.thenN ?_ | (apply r_move; exact rfl; exact rfl; exact rfl) | (apply r_allocZ; exact rfl; exact rfl; exact rfl; intro _)))
    refine r_i64U (18446744073709551616 - n.natAbs) rfl rfl rfl (by rw [IntKind.wrap_u64]; omega) ?_
    (repeat' (first | refine JC.seq ?_ | refine JC.ops ?_ | refine JO.nil ?_ | refine JX.thenN ?_ | (apply r_move; exact rfl; exact rfl; exact rfl) | (apply r_assign; exact rfl; exact rfl; exact rfl) | (apply r_lss; exact rfl; exact rfl; exact rfl; exact rfl; all_goals intro hc; all_goals try (exfalso; omega)) | refine JC.condT rfl ?_))
    refine r_negU rfl rfl rfl (by omega) ?_
    rw [show (18446744073709551616 - (18446744073709551616 - n.natAbs)) % 18446744073709551616 = n.natAbs by omega]
    (repeat' (first | refine JC.seq ?_ | refine JC.ops ?_ | refine JO.nil ?_ | refine JX.thenN ?_ | (apply r_move; exact rfl; exact rfl; exact rfl) | (apply r_assign; exact rfl; exact rfl; exact rfl) | (apply r_shr32; exact rfl; exact rfl; exact rfl; exact rfl) | (apply r_maskU; exact rfl; exact rfl; exact rfl; exact rfl; (first | assumption | omega)) | (apply r_lss; exact rfl; exact rfl; exact rfl; exact rfl; all_goals intro hc; all_goals try (exfalso; omega)) | (apply r_build1; exact rfl; exact rfl; exact rfl; exact rfl; exact rfl; (repeat first | exact trivial | refine ⟨rfl, ?_⟩); decide; decide; intro _)))
    rename_i b3
    have hO : OwnU [(b3, .cells ⟨[uv (n.natAbs % 4294967296), uv (n.natAbs / 4294967296)]⟩ 68)] (.slice (some ⟨b3, 0, none⟩) 2 2) 2 [n.natAbs % 4294967296, n.natAbs / 4294967296] := own_litU b3 2 _ _ rfl rfl (by omega)
    refine r_call0 trivial rfl rfl rfl (fun w hk hs => c_wide w _ _ _ true (hO.rd.at hk hs (by (repeat' first | exact HSub.nil _ | exact HSub.hd | exact HSub.in0 | exact HSub.refl _ | refine HSub.skip ?_ | refine HSub.skipN ?_))) hlt (by omega)) fun w v w' _ _ _ hR => ?_
    subst hR
    (repeat' (first | refine JO.nil ?_ | refine JX.thenN ?_ | (apply r_storeN; exact rfl; (first | exact trivial | exact ⟨rfl, rfl⟩); exact rfl; exact rfl; (first | exact at0 | exact at1 | exact at2 | exact at3 | exact at4 | exact at5 | exact at6 | exact at7 | exact at8 | exact at9); exact rfl; exact rfl; exact rfl) | (apply r_storeN; exact rfl; (first | exact trivial | exact ⟨rfl, rfl⟩); exact rfl; exact rfl; (first | exact at0 | exact at1 | exact at2 | exact at3 | exact at4 | exact at5 | exact at6 | exact at7 | exact at8 | exact at9); exact rfl; exact rfl; exact rfl) | refine JC.ret ?_))
    exact JX.retC 1 rfl rfl rfl (fun a w' st => ⟨st.kp, by show Wv (sgn true (val W32 _)) = _; rw [val_two]; congr 1; simp only [sgn, if_true, Bool.false_eq_true, if_false]; omega⟩)
  · refine calls_of_S [] [] (by simp) [] Tryd.func27 rfl mixed (by kernel_rfl) Tryd.ntmps27 Tryd.results27 rfl ⟨by simp, by simp⟩ (by simp) ?_
    simp only [toS, textOps, toSOp, kindAt, kindOf, odAt, sopsAt, ordOf, zipF]
    (repeat' (first | refine JC.seq ?_ | refine JC.ops ?_ | refine JO.nil ?_ | refine JX.thenN ?_ | (apply r_move; exact rfl; exact rfl; exact rfl) | (apply r_allocZ; exact rfl; exact rfl; exact rfl; intro _)))
    refine r_i64U n.natAbs rfl rfl rfl (by rw [IntKind.wrap_u64]; omega) ?_
    (repeat' (first | refine JC.seq ?_ | refine JC.ops ?_ | refine JO.nil ?_ | refine JX.thenN ?_ | (apply r_move; exact rfl; exact rfl; exact rfl) | (apply r_assign; exact rfl; exact rfl; exact rfl) | (apply r_shr32; exact rfl; exact rfl; exact rfl; exact rfl) | (apply r_maskU; exact rfl; exact rfl; exact rfl; exact rfl; (first | assumption | omega)) | (apply r_lss; exact rfl; exact rfl; exact rfl; exact rfl; all_goals intro hc; all_goals try (exfalso; omega)) | (apply r_build1; exact rfl; exact rfl; exact rfl; exact rfl; exact rfl; (repeat first | exact trivial | refine ⟨rfl, ?_⟩); decide; decide; intro _) | refine JC.skip ?_ | refine JC.condF rfl ?_))
    rename_i b3
    have hO : OwnU [(b3, .cells ⟨[uv (n.natAbs % 4294967296), uv (n.natAbs / 4294967296)]⟩ 68)] (.slice (some ⟨b3, 0, none⟩) 2 2) 2 [n.natAbs % 4294967296, n.natAbs / 4294967296] := own_litU b3 2 _ _ rfl rfl (by omega)
    refine r_call0 trivial rfl rfl rfl (fun w hk hs => c_wide w _ _ _ false (hO.rd.at hk hs (by (repeat' first | exact HSub.nil _ | exact HSub.hd | exact HSub.in0 | exact HSub.refl _ | refine HSub.skip ?_ | refine HSub.skipN ?_))) hlt (by omega)) fun w v w' _ _ _ hR => ?_
    subst hR
    (repeat' (first | refine JO.nil ?_ | refine JX.thenN ?_ | (apply r_storeN; exact rfl; (first | exact trivial | exact ⟨rfl, rfl⟩); exact rfl; exact rfl; (first | exact at0 | exact at1 | exact at2 | exact at3 | exact at4 | exact at5 | exact at6 | exact at7 | exact at8 | exact at9); exact rfl; exact rfl; exact rfl) | (apply r_storeN; exact rfl; (first | exact trivial | exact ⟨rfl, rfl⟩); exact rfl; exact rfl; (first | exact at0 | exact at1 | exact at2 | exact at3 | exact at4 | exact at5 | exact at6 | exact at7 | exact at8 | exact at9); exact rfl; exact rfl; exact rfl) | refine JC.ret ?_))
    exact JX.retC 1 rfl rfl rfl (fun a w' st => ⟨st.kp, by show Wv (sgn false (val W32 _)) = _; rw [val_two]; congr 1; simp only [sgn, if_true, Bool.false_eq_true, if_false]; omega⟩)

/-- Three results, the first two structs in owned blocks. -/
theorem JX.retCCT {c : Cx} {t t' t'' : Tmp} {v' : Value} {ty ty' n n' b b' : Nat} {cs cs' : Array Value} {T T' : TypeId} {fz fz' : Nat × Nat} {R : Value → World → Prop} {F : SFrame} {H : SHeap} [TN c.P ty n] [TN c.P ty' n'] (k k' : Nat) (h1 : look F t = some (.pointer (some ⟨b, 0, none⟩)))
    (h2 : H[k]? = some (b, Obj.cells cs T fz)) (hn : cs.size = n) (h1' : look F t' = some (.pointer (some ⟨b', 0, none⟩))) (h2' : H[k']? = some (b', Obj.cells cs' T' fz')) (hn' : cs'.size = n') (h' : look F t'' = some v') (hR : ∀ a w, St c F H a w → R (.tuple #[.agg cs, .agg cs', v']) w) : JX c (endPost c.P #[.cell t ty, .cell t' ty', .tmp t''] (Ret R)) .ret F H :=
  JX.ret' [.agg cs, .agg cs', v'] (JR.cellN k h1 h2 hn (JR.cellN k' h1' h2' hn' ⟨h', trivial⟩)) hR

set_option maxHeartbeats 8000000 in
theorem c_Quo (w : World) (v u : Value) (a b : Int) (k : Nat) (hv : IsZ v a k) (hu : IsZ u b k) (hk : k ≤ 10000) :
    Calls Tryd.prog 20 #[v, u] w (Ret fun r w' => Kp [] w w' ∧ r = if b = 0 then .tuple #[Wv 0, Wv 0, .bool false] else .tuple #[Wv (a / b), Wv (a % b), .bool true]) := by
  obtain ⟨p, l, rfl, hl1, rfl⟩ := hv
  obtain ⟨q, l', rfl, hl2, rfl⟩ := hu
  refine calls_of_S [⟨1, 1, [0, 2, 1, 3, 4, 5], []⟩, ⟨3, 2, [], []⟩] [] (by simp) [] Tryd.func20 rfl mixed (by kernel_rfl) Tryd.ntmps20 Tryd.results20 rfl ⟨by simp, by simp⟩ (by simp) ?_
  simp only [toS, textOps, toSOp, kindAt, kindOf, odAt, sopsAt, ordOf, zipF]
  (repeat' (first | refine JC.seq ?_ | refine JC.ops ?_ | refine JC.opsD ?_ | refine JO.nil ?_ | refine JX.thenN ?_ | (apply r_assign; exact rfl; exact rfl; exact rfl) | (apply r_loadN; exact rfl; exact rfl; exact rfl; exact rfl; (first | exact at0 | exact at1 | exact at2 | exact at3 | exact at4 | exact at5 | exact at6 | exact at7 | exact at8 | exact at9); exact rfl) | (apply r_allocZ; exact rfl; exact rfl; exact rfl; intro _) | (apply r_boxA; exact rfl; exact rfl; exact rfl; exact rfl; intro _)))
  refine r_callA (A := [_, _, _, _]) rfl (by first | trivial | exact ⟨rfl, rfl⟩) rfl rfl rfl (fun w hk hs => c_abs w p l (by omega)) fun w v w' _ _ _ hR => ?_
  obtain ⟨N1, zs1, hN1, hO1, hz1, hval1⟩ := hR
  refine ⟨N1, hN1, ?_⟩
  have hzl1 := words_le hz1 hval1 hl1
  skip
  refine r_callA (A := [_, _, _, _]) rfl (by first | trivial | exact ⟨rfl, rfl⟩) rfl rfl rfl (fun w hk hs => c_abs w q l' (by omega)) fun w v w' _ _ _ hR => ?_
  obtain ⟨N2, zs2, hN2, hO2, hz2, hval2⟩ := hR
  refine ⟨N2, hN2, ?_⟩
  have hzl2 := words_le hz2 hval2 hl2
  have he := hz2.eq_nil (by decide)
  rw [hval2] at he
  by_cases h0 : zs2.length = 0
  · have h1 := he.1 (List.eq_nil_of_length_eq_zero h0)
    rw [h1, if_pos (sgn_zero q)]
    (repeat' (first | refine JC.seq ?_ | refine JC.ops ?_ | refine JC.opsD ?_ | refine JO.nil ?_ | refine JX.thenN ?_ | (apply r_move; exact rfl; exact rfl; exact rfl) | (apply r_assign; exact rfl; exact rfl; exact rfl) | (apply r_loadN; exact rfl; exact rfl; exact rfl; exact rfl; (first | exact at0 | exact at1 | exact at2 | exact at3 | exact at4 | exact at5 | exact at6 | exact at7 | exact at8 | exact at9); exact rfl) | (apply r_storeN; exact rfl; (first | exact trivial | exact ⟨rfl, rfl⟩); exact rfl; exact rfl; (first | exact at0 | exact at1 | exact at2 | exact at3 | exact at4 | exact at5 | exact at6 | exact at7 | exact at8 | exact at9); exact rfl; exact rfl; exact rfl) | (apply r_storeKN; exact rfl; exact rfl; exact rfl; (first | exact at0 | exact at1 | exact at2 | exact at3 | exact at4 | exact at5 | exact at6 | exact at7 | exact at8 | exact at9); exact rfl; exact rfl; exact rfl; (repeat' first | exact HSub.refl _ | exact HSub.nil _ | refine HSub.at 0 rfl ?_ | refine HSub.at 1 rfl ?_ | refine HSub.at 2 rfl ?_ | refine HSub.at 3 rfl ?_ | refine HSub.at 4 rfl ?_ | refine HSub.at 5 rfl ?_ | refine HSub.at 6 rfl ?_ | refine HSub.at 7 rfl ?_ | refine HSub.at 8 rfl ?_ | refine HSub.at 9 rfl ?_ | refine HSub.at 10 rfl ?_ | refine HSub.at 11 rfl ?_ | refine HSub.at 12 rfl ?_ | refine HSub.at 13 rfl ?_ | refine HSub.at 14 rfl ?_ | refine HSub.at 15 rfl ?_ | refine HSub.at 16 rfl ?_ | refine HSub.at 17 rfl ?_ | refine HSub.at 18 rfl ?_ | refine HSub.at 19 rfl ?_ | refine HSub.segH ?_ | refine HSub.skip ?_ | refine HSub.skipN ?_)) | (apply r_lenU; exact rfl; exact rfl; exact rfl; (first | assumption | exact WU.rd (by assumption) rfl [] | exact OwnU.rd (by assumption))) | (apply r_eql; exact rfl; exact rfl; exact rfl; exact rfl; all_goals intro hc; all_goals try (exfalso; omega)) | (apply r_storeN; exact rfl; (first | exact trivial | exact ⟨rfl, rfl⟩); exact rfl; exact rfl; (first | exact at0 | exact at1 | exact at2 | exact at3 | exact at4 | exact at5 | exact at6 | exact at7 | exact at8 | exact at9); exact rfl; exact rfl; exact rfl) | refine JX.thenR ?_ | refine JC.ret ?_ | refine JC.condT rfl ?_))
    exact JX.retCCT 1 0 rfl rfl rfl rfl rfl rfl rfl (fun a w' st => ⟨st.kp, rfl⟩)
  have hy0 : bval (bts l') ≠ 0 := fun h => h0 (by rw [he.2 h]; rfl)
  rw [if_neg (fun h => hy0 ((sgn_eq_zero _ _).1 h))]
  have hv1 : val W32 zs1 < 256 ^ k := by rw [hval1]; exact bval_bts_lt hl1
  have hv2 : val W32 zs2 < 256 ^ k := by rw [hval2]; exact bval_bts_lt hl2
  have hpw : 256 ^ k ≤ W32 ^ k := Nat.pow_le_pow_left (by decide) k
  have hpk : 0 < 256 ^ k := Nat.pow_pos (by decide)
  (repeat' (first | refine JC.seq ?_ | refine JC.ops ?_ | refine JO.nil ?_ | refine JX.thenN ?_ | (apply r_move; exact rfl; exact rfl; exact rfl) | (apply r_assign; exact rfl; exact rfl; exact rfl) | (apply r_lenU; exact rfl; exact rfl; exact rfl; (first | assumption | exact WU.rd (by assumption) rfl [] | exact OwnU.rd (by assumption))) | (apply r_eql; exact rfl; exact rfl; exact rfl; exact rfl; all_goals intro hc; all_goals try (exfalso; omega)) | refine JC.skip ?_ | refine JC.condF rfl ?_))
  refine r_callA (A := [_, _, _, _]) rfl trivial rfl rfl rfl (fun w hk hs => c_div w _ _ _ _ _ _ (hO1.rd.at hk hs (by (repeat' first | exact HSub.nil _ | exact HSub.hd | exact HSub.in0 | exact HSub.refl _ | refine HSub.skip ?_ | refine HSub.skipN ?_))) (hO2.rd.at hk hs (by (repeat' first | exact HSub.nil _ | exact HSub.hd | exact HSub.in0 | exact HSub.refl _ | refine HSub.skip ?_ | refine HSub.skipN ?_))) hz1 hz2 (by omega) (by omega) (by omega)) fun w v w' _ _ _ hR => ?_
  obtain ⟨N3, N4, v3, v4, zs3, zs4, rfl, hN34, hO3, hO4, hz3, hz4, hval3, hlt4⟩ := hR.ex
  refine ⟨_, hN34, ?_⟩
  rw [List.append_assoc N3 N4]
  have hzl4 : zs4.length ≤ k := hz4.len_le (by decide) (by omega)
  have hzl3 : zs3.length ≤ k := hz3.len_le (by decide) (by
    have h1 : val W32 zs3 ≤ val W32 zs3 * val W32 zs2 := Nat.le_mul_of_pos_right _ (by omega)
    omega)
  have hlaw := quo_law p q (val W32 zs1) (val W32 zs2) (val W32 zs3) (val W32 zs4) (by omega) hval3 hlt4
  rw [hval1, hval2] at hlaw
  have he4 := hz4.eq_nil (by decide)
  have hlaw1 := hlaw.1
  have hlaw2 := hlaw.2
  clear hlaw
  rcases hO4 with hO4 | ⟨rfl, rfl, rfl⟩
  · by_cases hp : p = true ∧ 0 < zs4.length
    · obtain ⟨rfl, hp4⟩ := hp
      have hr0 : 0 < val W32 zs4 := Nat.pos_of_ne_zero fun h => by rw [he4.2 h] at hp4; exact absurd hp4 (by simp)
      obtain ⟨hq1, hq2⟩ := hlaw1 ⟨rfl, hr0⟩
      have hlen : zs4.length ≤ zs2.length := by
        refine Decidable.byContradiction fun h => ?_
        have := len_cmp (b := W32) (by decide) hz2 hz4 (by omega)
        omega
      (repeat' (first | refine JC.seq ?_ | refine JC.ops ?_ | refine JO.nil ?_ | refine JX.thenN ?_ | (apply r_move; exact rfl; exact rfl; exact rfl) | (apply r_fieldAddr; exact rfl; exact rfl; exact rfl) | (apply r_assign; exact rfl; exact rfl; exact rfl) | (apply r_load; exact rfl; exact rfl; exact rfl; exact rfl; (first | exact at0 | exact at1 | exact at2 | exact at3 | exact at4 | exact at5 | exact at6 | exact at7 | exact at8 | exact at9); exact rfl) | (apply r_pickT; exact rfl; exact rfl; exact rfl; exact rfl) | (apply r_extract; exact rfl; exact rfl; exact rfl; exact rfl) | (apply r_lenU; exact rfl; exact rfl; exact rfl; (first | assumption | exact WU.rd (by assumption) rfl [] | exact OwnU.rd (by assumption))) | (apply r_gtr; exact rfl; exact rfl; exact rfl; exact rfl; all_goals intro hc; all_goals try (exfalso; omega)) | (apply r_build1; exact rfl; exact rfl; exact rfl; exact rfl; exact rfl; (repeat first | exact trivial | refine ⟨rfl, ?_⟩); decide; decide; intro _) | refine JC.condT rfl ?_))
      rename_i b9
      have hO9 : OwnU [(b9, .cells ⟨[.int .u64 1]⟩ 68)] (.slice (some ⟨b9, 0, none⟩) 1 1) 1 [1] := own_litU b9 1 [1] _ rfl rfl (by omega)
      refine r_callA (A := [_, _, _, _, _]) rfl trivial rfl rfl rfl (fun w hk hs => c_add w _ _ _ _ _ _ (hO3.rd.at hk hs (by (repeat' first | exact HSub.nil _ | exact HSub.hd | exact HSub.in0 | exact HSub.refl _ | refine HSub.skip ?_ | refine HSub.skipN ?_))) (hO9.rd.at hk hs (by (repeat' first | exact HSub.nil _ | exact HSub.hd | exact HSub.in0 | exact HSub.refl _ | refine HSub.skip ?_ | refine HSub.skipN ?_))) hz3.lt (fun x hx => by rw [List.mem_singleton] at hx; rw [hx]; decide) (by omega) (by omega)) fun w v w' _ _ _ hR => ?_
      obtain ⟨N5, zs5, hN5, hO5, hz5, hval5⟩ := hR
      refine ⟨N5, hN5, ?_⟩
      rw [val_one] at hval5
      have hzl5 : zs5.length ≤ k + 1 := hz5.len_le (by decide) (by
        rw [hval5, Nat.pow_succ]
        have h1 : val W32 zs3 ≤ val W32 zs3 * val W32 zs2 := Nat.le_mul_of_pos_right _ (by omega)
        show _ < W32 ^ k * 4294967296
        omega)
      (repeat' (first | (apply r_move; exact rfl; exact rfl; exact rfl)))
      refine r_callA (A := [_, _, _, _, _]) rfl trivial rfl rfl rfl (fun w hk hs => c_sub w _ _ _ _ _ _ (hO2.rd.at hk hs (by (repeat' first | exact HSub.nil _ | exact HSub.hd | exact HSub.in0 | exact HSub.refl _ | refine HSub.skip ?_ | refine HSub.skipN ?_))) (hO4.rd.at hk hs (by (repeat' first | exact HSub.nil _ | exact HSub.hd | exact HSub.in0 | exact HSub.refl _ | refine HSub.skip ?_ | refine HSub.skipN ?_))) hz2.lt hz4.lt (by omega) hlen (by omega)) fun w v w' _ _ _ hR => ?_
      obtain ⟨N6, zs6, hN6, hO6, hz6, hval6⟩ := hR
      refine ⟨N6, hN6, ?_⟩
      have hzl6 : zs6.length ≤ k := hz6.len_le (by decide) (by omega)
      (repeat' (first | refine JC.seq ?_ | refine JC.ops ?_ | refine JO.nil ?_ | refine JX.thenN ?_ | (apply r_move; exact rfl; exact rfl; exact rfl) | (apply r_fieldAddr; exact rfl; exact rfl; exact rfl) | (apply r_assign; exact rfl; exact rfl; exact rfl) | (apply r_load; exact rfl; exact rfl; exact rfl; exact rfl; (first | exact at0 | exact at1 | exact at2 | exact at3 | exact at4 | exact at5 | exact at6 | exact at7 | exact at8 | exact at9); exact rfl) | (apply r_neB; exact rfl; exact rfl; exact rfl; exact rfl)))
      refine r_call0 trivial rfl rfl rfl (fun w hk hs => c_wide w _ _ zs5 (true != q) (hO5.rd.at hk hs (by (repeat' first | exact HSub.nil _ | exact HSub.hd | exact HSub.in0 | exact HSub.refl _ | refine HSub.skip ?_ | refine HSub.skipN ?_))) hz5.lt (by omega)) fun w v w' _ _ _ hR => ?_
      subst hR
      (repeat' (first | (apply r_move; exact rfl; exact rfl; exact rfl)))
      refine r_call0 trivial rfl rfl rfl (fun w hk hs => c_wide w _ _ zs6 false (hO6.rd.at hk hs (by (repeat' first | exact HSub.nil _ | exact HSub.hd | exact HSub.in0 | exact HSub.refl _ | refine HSub.skip ?_ | refine HSub.skipN ?_))) hz6.lt (by omega)) fun w v w' _ _ _ hR => ?_
      subst hR
      (repeat' (first | refine JO.nil ?_ | refine JX.thenN ?_ | (apply r_assign; exact rfl; exact rfl; exact rfl) | (apply r_storeN; exact rfl; (first | exact trivial | exact ⟨rfl, rfl⟩); exact rfl; exact rfl; (first | exact at0 | exact at1 | exact at2 | exact at3 | exact at4 | exact at5 | exact at6 | exact at7 | exact at8 | exact at9); exact rfl; exact rfl; exact rfl) | (apply r_storeN; exact rfl; (first | exact trivial | exact ⟨rfl, rfl⟩); exact rfl; exact rfl; (first | exact at0 | exact at1 | exact at2 | exact at3 | exact at4 | exact at5 | exact at6 | exact at7 | exact at8 | exact at9); exact rfl; exact rfl; exact rfl) | refine JC.ret ?_))
      refine JX.retCCT 2 1 rfl rfl rfl rfl rfl rfl rfl (fun a w' st => ⟨st.kp, ?_⟩)
      show Value.tuple #[Wv (sgn (true != q) (val W32 zs5)), Wv (sgn false (val W32 zs6)), _] = _
      rw [hval5, hq1, ← hq2, ← hval2]
      have : val W32 zs6 = val W32 zs2 - val W32 zs4 := by omega
      rw [this]
      rfl
    have hq := hlaw2 (fun ⟨h1, h2⟩ => hp ⟨h1, by
      refine Nat.pos_of_ne_zero fun h => ?_
      have := List.eq_nil_of_length_eq_zero h
      rw [this] at h2
      exact absurd h2 (by simp [val])⟩)
    obtain ⟨hq1, hq2⟩ := hq
    have hnp : p = true → zs4.length = 0 := fun h => by
      refine Decidable.byContradiction fun h' => hp ⟨h, by omega⟩
    cases p with
    | false =>
      (repeat' (first | refine JC.seq ?_ | refine JC.ops ?_ | refine JO.nil ?_ | refine JX.thenN ?_ | (apply r_move; exact rfl; exact rfl; exact rfl) | (apply r_fieldAddr; exact rfl; exact rfl; exact rfl) | (apply r_assign; exact rfl; exact rfl; exact rfl) | (apply r_load; exact rfl; exact rfl; exact rfl; exact rfl; (first | exact at0 | exact at1 | exact at2 | exact at3 | exact at4 | exact at5 | exact at6 | exact at7 | exact at8 | exact at9); exact rfl) | (apply r_pickF; exact rfl; exact rfl; exact rfl; exact rfl) | (apply r_extract; exact rfl; exact rfl; exact rfl; exact rfl) | (apply r_neB; exact rfl; exact rfl; exact rfl; exact rfl) | refine JC.skip ?_ | refine JC.condF rfl ?_ | (apply r_skip; exact rfl; exact rfl; (first | (intro h; cases h; done) | (intro _; rfl)))))
      refine r_call0 trivial rfl rfl rfl (fun w hk hs => c_wide w _ _ zs3 (false != q) (hO3.rd.at hk hs (by (repeat' first | exact HSub.nil _ | exact HSub.hd | exact HSub.in0 | exact HSub.refl _ | refine HSub.skip ?_ | refine HSub.skipN ?_))) hz3.lt (by omega)) fun w v w' _ _ _ hR => ?_
      subst hR
      (repeat' (first | (apply r_move; exact rfl; exact rfl; exact rfl)))
      refine r_call0 trivial rfl rfl rfl (fun w hk hs => c_wide w _ _ zs4 false (hO4.rd.at hk hs (by (repeat' first | exact HSub.nil _ | exact HSub.hd | exact HSub.in0 | exact HSub.refl _ | refine HSub.skip ?_ | refine HSub.skipN ?_))) hz4.lt (by omega)) fun w v w' _ _ _ hR => ?_
      subst hR
      (repeat' (first | refine JO.nil ?_ | refine JX.thenN ?_ | (apply r_assign; exact rfl; exact rfl; exact rfl) | (apply r_storeN; exact rfl; (first | exact trivial | exact ⟨rfl, rfl⟩); exact rfl; exact rfl; (first | exact at0 | exact at1 | exact at2 | exact at3 | exact at4 | exact at5 | exact at6 | exact at7 | exact at8 | exact at9); exact rfl; exact rfl; exact rfl) | (apply r_storeN; exact rfl; (first | exact trivial | exact ⟨rfl, rfl⟩); exact rfl; exact rfl; (first | exact at0 | exact at1 | exact at2 | exact at3 | exact at4 | exact at5 | exact at6 | exact at7 | exact at8 | exact at9); exact rfl; exact rfl; exact rfl) | refine JC.ret ?_))
      refine JX.retCCT 1 0 rfl rfl rfl rfl rfl rfl rfl (fun a w' st => ⟨st.kp, ?_⟩)
      show Value.tuple #[Wv (sgn (false != q) (val W32 zs3)), Wv (sgn false (val W32 zs4)), _] = _
      rw [hq1, ← hq2]
      rfl
    | true =>
      have hz0 := hnp rfl
      (repeat' (first | refine JC.seq ?_ | refine JC.ops ?_ | refine JO.nil ?_ | refine JX.thenN ?_ | (apply r_move; exact rfl; exact rfl; exact rfl) | (apply r_fieldAddr; exact rfl; exact rfl; exact rfl) | (apply r_assign; exact rfl; exact rfl; exact rfl) | (apply r_load; exact rfl; exact rfl; exact rfl; exact rfl; (first | exact at0 | exact at1 | exact at2 | exact at3 | exact at4 | exact at5 | exact at6 | exact at7 | exact at8 | exact at9); exact rfl) | (apply r_pickT; exact rfl; exact rfl; exact rfl; exact rfl) | (apply r_extract; exact rfl; exact rfl; exact rfl; exact rfl) | (apply r_lenU; exact rfl; exact rfl; exact rfl; (first | assumption | exact WU.rd (by assumption) rfl [] | exact OwnU.rd (by assumption))) | (apply r_gtr; exact rfl; exact rfl; exact rfl; exact rfl; all_goals intro hc; all_goals try (exfalso; omega)) | (apply r_neB; exact rfl; exact rfl; exact rfl; exact rfl) | refine JC.skip ?_ | refine JC.condF rfl ?_))
      refine r_call0 trivial rfl rfl rfl (fun w hk hs => c_wide w _ _ zs3 (true != q) (hO3.rd.at hk hs (by (repeat' first | exact HSub.nil _ | exact HSub.hd | exact HSub.in0 | exact HSub.refl _ | refine HSub.skip ?_ | refine HSub.skipN ?_))) hz3.lt (by omega)) fun w v w' _ _ _ hR => ?_
      subst hR
      (repeat' (first | (apply r_move; exact rfl; exact rfl; exact rfl)))
      refine r_call0 trivial rfl rfl rfl (fun w hk hs => c_wide w _ _ zs4 false (hO4.rd.at hk hs (by (repeat' first | exact HSub.nil _ | exact HSub.hd | exact HSub.in0 | exact HSub.refl _ | refine HSub.skip ?_ | refine HSub.skipN ?_))) hz4.lt (by omega)) fun w v w' _ _ _ hR => ?_
      subst hR
      (repeat' (first | refine JO.nil ?_ | refine JX.thenN ?_ | (apply r_assign; exact rfl; exact rfl; exact rfl) | (apply r_storeN; exact rfl; (first | exact trivial | exact ⟨rfl, rfl⟩); exact rfl; exact rfl; (first | exact at0 | exact at1 | exact at2 | exact at3 | exact at4 | exact at5 | exact at6 | exact at7 | exact at8 | exact at9); exact rfl; exact rfl; exact rfl) | (apply r_storeN; exact rfl; (first | exact trivial | exact ⟨rfl, rfl⟩); exact rfl; exact rfl; (first | exact at0 | exact at1 | exact at2 | exact at3 | exact at4 | exact at5 | exact at6 | exact at7 | exact at8 | exact at9); exact rfl; exact rfl; exact rfl) | refine JC.ret ?_))
      refine JX.retCCT 1 0 rfl rfl rfl rfl rfl rfl rfl (fun a w' st => ⟨st.kp, ?_⟩)
      show Value.tuple #[Wv (sgn (true != q) (val W32 zs3)), Wv (sgn false (val W32 zs4)), _] = _
      rw [hq1, ← hq2]
      rfl
  · by_cases hp : p = true ∧ 0 < zs4.length
    · obtain ⟨rfl, hp4⟩ := hp
      have hr0 : 0 < val W32 zs4 := Nat.pos_of_ne_zero fun h => by rw [he4.2 h] at hp4; exact absurd hp4 (by simp)
      obtain ⟨hq1, hq2⟩ := hlaw1 ⟨rfl, hr0⟩
      have hlen : zs4.length ≤ zs2.length := by
        refine Decidable.byContradiction fun h => ?_
        have := len_cmp (b := W32) (by decide) hz2 hz4 (by omega)
        omega
      (repeat' (first | refine JC.seq ?_ | refine JC.ops ?_ | refine JO.nil ?_ | refine JX.thenN ?_ | (apply r_move; exact rfl; exact rfl; exact rfl) | (apply r_fieldAddr; exact rfl; exact rfl; exact rfl) | (apply r_assign; exact rfl; exact rfl; exact rfl) | (apply r_load; exact rfl; exact rfl; exact rfl; exact rfl; (first | exact at0 | exact at1 | exact at2 | exact at3 | exact at4 | exact at5 | exact at6 | exact at7 | exact at8 | exact at9); exact rfl) | (apply r_pickT; exact rfl; exact rfl; exact rfl; exact rfl) | (apply r_extract; exact rfl; exact rfl; exact rfl; exact rfl) | (apply r_lenU; exact rfl; exact rfl; exact rfl; (first | assumption | exact WU.rd (by assumption) rfl [] | exact OwnU.rd (by assumption))) | (apply r_gtr; exact rfl; exact rfl; exact rfl; exact rfl; all_goals intro hc; all_goals try (exfalso; omega)) | (apply r_build1; exact rfl; exact rfl; exact rfl; exact rfl; exact rfl; (repeat first | exact trivial | refine ⟨rfl, ?_⟩); decide; decide; intro _) | refine JC.condT rfl ?_))
      rename_i b9
      have hO9 : OwnU [(b9, .cells ⟨[.int .u64 1]⟩ 68)] (.slice (some ⟨b9, 0, none⟩) 1 1) 1 [1] := own_litU b9 1 [1] _ rfl rfl (by omega)
      refine r_callA (A := [_, _, _, _, _]) rfl trivial rfl rfl rfl (fun w hk hs => c_add w _ _ _ _ _ _ (hO3.rd.at hk hs (by (repeat' first | exact HSub.nil _ | exact HSub.hd | exact HSub.in0 | exact HSub.refl _ | refine HSub.skip ?_ | refine HSub.skipN ?_))) (hO9.rd.at hk hs (by (repeat' first | exact HSub.nil _ | exact HSub.hd | exact HSub.in0 | exact HSub.refl _ | refine HSub.skip ?_ | refine HSub.skipN ?_))) hz3.lt (fun x hx => by rw [List.mem_singleton] at hx; rw [hx]; decide) (by omega) (by omega)) fun w v w' _ _ _ hR => ?_
      obtain ⟨N5, zs5, hN5, hO5, hz5, hval5⟩ := hR
      refine ⟨N5, hN5, ?_⟩
      rw [val_one] at hval5
      have hzl5 : zs5.length ≤ k + 1 := hz5.len_le (by decide) (by
        rw [hval5, Nat.pow_succ]
        have h1 : val W32 zs3 ≤ val W32 zs3 * val W32 zs2 := Nat.le_mul_of_pos_right _ (by omega)
        show _ < W32 ^ k * 4294967296
        omega)
      (repeat' (first | (apply r_move; exact rfl; exact rfl; exact rfl)))
      refine r_callA (A := [_, _, _, _, _]) rfl trivial rfl rfl rfl (fun w hk hs => c_sub w _ _ _ _ _ _ (hO2.rd.at hk hs (by (repeat' first | exact HSub.nil _ | exact HSub.hd | exact HSub.in0 | exact HSub.refl _ | refine HSub.skip ?_ | refine HSub.skipN ?_))) (hO1.rd.at hk hs (by (repeat' first | exact HSub.nil _ | exact HSub.hd | exact HSub.in0 | exact HSub.refl _ | refine HSub.skip ?_ | refine HSub.skipN ?_))) hz2.lt hz4.lt (by omega) hlen (by omega)) fun w v w' _ _ _ hR => ?_
      obtain ⟨N6, zs6, hN6, hO6, hz6, hval6⟩ := hR
      refine ⟨N6, hN6, ?_⟩
      have hzl6 : zs6.length ≤ k := hz6.len_le (by decide) (by omega)
      (repeat' (first | refine JC.seq ?_ | refine JC.ops ?_ | refine JO.nil ?_ | refine JX.thenN ?_ | (apply r_move; exact rfl; exact rfl; exact rfl) | (apply r_fieldAddr; exact rfl; exact rfl; exact rfl) | (apply r_assign; exact rfl; exact rfl; exact rfl) | (apply r_load; exact rfl; exact rfl; exact rfl; exact rfl; (first | exact at0 | exact at1 | exact at2 | exact at3 | exact at4 | exact at5 | exact at6 | exact at7 | exact at8 | exact at9); exact rfl) | (apply r_neB; exact rfl; exact rfl; exact rfl; exact rfl)))
      refine r_call0 trivial rfl rfl rfl (fun w hk hs => c_wide w _ _ zs5 (true != q) (hO5.rd.at hk hs (by (repeat' first | exact HSub.nil _ | exact HSub.hd | exact HSub.in0 | exact HSub.refl _ | refine HSub.skip ?_ | refine HSub.skipN ?_))) hz5.lt (by omega)) fun w v w' _ _ _ hR => ?_
      subst hR
      (repeat' (first | (apply r_move; exact rfl; exact rfl; exact rfl)))
      refine r_call0 trivial rfl rfl rfl (fun w hk hs => c_wide w _ _ zs6 false (hO6.rd.at hk hs (by (repeat' first | exact HSub.nil _ | exact HSub.hd | exact HSub.in0 | exact HSub.refl _ | refine HSub.skip ?_ | refine HSub.skipN ?_))) hz6.lt (by omega)) fun w v w' _ _ _ hR => ?_
      subst hR
      (repeat' (first | refine JO.nil ?_ | refine JX.thenN ?_ | (apply r_assign; exact rfl; exact rfl; exact rfl) | (apply r_storeN; exact rfl; (first | exact trivial | exact ⟨rfl, rfl⟩); exact rfl; exact rfl; (first | exact at0 | exact at1 | exact at2 | exact at3 | exact at4 | exact at5 | exact at6 | exact at7 | exact at8 | exact at9); exact rfl; exact rfl; exact rfl) | (apply r_storeN; exact rfl; (first | exact trivial | exact ⟨rfl, rfl⟩); exact rfl; exact rfl; (first | exact at0 | exact at1 | exact at2 | exact at3 | exact at4 | exact at5 | exact at6 | exact at7 | exact at8 | exact at9); exact rfl; exact rfl; exact rfl) | refine JC.ret ?_))
      refine JX.retCCT 2 1 rfl rfl rfl rfl rfl rfl rfl (fun a w' st => ⟨st.kp, ?_⟩)
      show Value.tuple #[Wv (sgn (true != q) (val W32 zs5)), Wv (sgn false (val W32 zs6)), _] = _
      rw [hval5, hq1, ← hq2, ← hval2]
      have : val W32 zs6 = val W32 zs2 - val W32 zs4 := by omega
      rw [this]
      rfl
    have hq := hlaw2 (fun ⟨h1, h2⟩ => hp ⟨h1, by
      refine Nat.pos_of_ne_zero fun h => ?_
      have := List.eq_nil_of_length_eq_zero h
      rw [this] at h2
      exact absurd h2 (by simp [val])⟩)
    obtain ⟨hq1, hq2⟩ := hq
    have hnp : p = true → zs4.length = 0 := fun h => by
      refine Decidable.byContradiction fun h' => hp ⟨h, by omega⟩
    cases p with
    | false =>
      (repeat' (first | refine JC.seq ?_ | refine JC.ops ?_ | refine JO.nil ?_ | refine JX.thenN ?_ | (apply r_move; exact rfl; exact rfl; exact rfl) | (apply r_fieldAddr; exact rfl; exact rfl; exact rfl) | (apply r_assign; exact rfl; exact rfl; exact rfl) | (apply r_load; exact rfl; exact rfl; exact rfl; exact rfl; (first | exact at0 | exact at1 | exact at2 | exact at3 | exact at4 | exact at5 | exact at6 | exact at7 | exact at8 | exact at9); exact rfl) | (apply r_pickF; exact rfl; exact rfl; exact rfl; exact rfl) | (apply r_extract; exact rfl; exact rfl; exact rfl; exact rfl) | (apply r_neB; exact rfl; exact rfl; exact rfl; exact rfl) | refine JC.skip ?_ | refine JC.condF rfl ?_ | (apply r_skip; exact rfl; exact rfl; (first | (intro h; cases h; done) | (intro _; rfl)))))
      refine r_call0 trivial rfl rfl rfl (fun w hk hs => c_wide w _ _ zs3 (false != q) (hO3.rd.at hk hs (by (repeat' first | exact HSub.nil _ | exact HSub.hd | exact HSub.in0 | exact HSub.refl _ | refine HSub.skip ?_ | refine HSub.skipN ?_))) hz3.lt (by omega)) fun w v w' _ _ _ hR => ?_
      subst hR
      (repeat' (first | (apply r_move; exact rfl; exact rfl; exact rfl)))
      refine r_call0 trivial rfl rfl rfl (fun w hk hs => c_wide w _ _ zs4 false (hO1.rd.at hk hs (by (repeat' first | exact HSub.nil _ | exact HSub.hd | exact HSub.in0 | exact HSub.refl _ | refine HSub.skip ?_ | refine HSub.skipN ?_))) hz4.lt (by omega)) fun w v w' _ _ _ hR => ?_
      subst hR
      (repeat' (first | refine JO.nil ?_ | refine JX.thenN ?_ | (apply r_assign; exact rfl; exact rfl; exact rfl) | (apply r_storeN; exact rfl; (first | exact trivial | exact ⟨rfl, rfl⟩); exact rfl; exact rfl; (first | exact at0 | exact at1 | exact at2 | exact at3 | exact at4 | exact at5 | exact at6 | exact at7 | exact at8 | exact at9); exact rfl; exact rfl; exact rfl) | (apply r_storeN; exact rfl; (first | exact trivial | exact ⟨rfl, rfl⟩); exact rfl; exact rfl; (first | exact at0 | exact at1 | exact at2 | exact at3 | exact at4 | exact at5 | exact at6 | exact at7 | exact at8 | exact at9); exact rfl; exact rfl; exact rfl) | refine JC.ret ?_))
      refine JX.retCCT 1 0 rfl rfl rfl rfl rfl rfl rfl (fun a w' st => ⟨st.kp, ?_⟩)
      show Value.tuple #[Wv (sgn (false != q) (val W32 zs3)), Wv (sgn false (val W32 zs4)), _] = _
      rw [hq1, ← hq2]
      rfl
    | true =>
      have hz0 := hnp rfl
      (repeat' (first | refine JC.seq ?_ | refine JC.ops ?_ | refine JO.nil ?_ | refine JX.thenN ?_ | (apply r_move; exact rfl; exact rfl; exact rfl) | (apply r_fieldAddr; exact rfl; exact rfl; exact rfl) | (apply r_assign; exact rfl; exact rfl; exact rfl) | (apply r_load; exact rfl; exact rfl; exact rfl; exact rfl; (first | exact at0 | exact at1 | exact at2 | exact at3 | exact at4 | exact at5 | exact at6 | exact at7 | exact at8 | exact at9); exact rfl) | (apply r_pickT; exact rfl; exact rfl; exact rfl; exact rfl) | (apply r_extract; exact rfl; exact rfl; exact rfl; exact rfl) | (apply r_lenU; exact rfl; exact rfl; exact rfl; (first | assumption | exact WU.rd (by assumption) rfl [] | exact OwnU.rd (by assumption))) | (apply r_gtr; exact rfl; exact rfl; exact rfl; exact rfl; all_goals intro hc; all_goals try (exfalso; omega)) | (apply r_neB; exact rfl; exact rfl; exact rfl; exact rfl) | refine JC.skip ?_ | refine JC.condF rfl ?_))
      refine r_call0 trivial rfl rfl rfl (fun w hk hs => c_wide w _ _ zs3 (true != q) (hO3.rd.at hk hs (by (repeat' first | exact HSub.nil _ | exact HSub.hd | exact HSub.in0 | exact HSub.refl _ | refine HSub.skip ?_ | refine HSub.skipN ?_))) hz3.lt (by omega)) fun w v w' _ _ _ hR => ?_
      subst hR
      (repeat' (first | (apply r_move; exact rfl; exact rfl; exact rfl)))
      refine r_call0 trivial rfl rfl rfl (fun w hk hs => c_wide w _ _ zs4 false (hO1.rd.at hk hs (by (repeat' first | exact HSub.nil _ | exact HSub.hd | exact HSub.in0 | exact HSub.refl _ | refine HSub.skip ?_ | refine HSub.skipN ?_))) hz4.lt (by omega)) fun w v w' _ _ _ hR => ?_
      subst hR
      (repeat' (first | refine JO.nil ?_ | refine JX.thenN ?_ | (apply r_assign; exact rfl; exact rfl; exact rfl) | (apply r_storeN; exact rfl; (first | exact trivial | exact ⟨rfl, rfl⟩); exact rfl; exact rfl; (first | exact at0 | exact at1 | exact at2 | exact at3 | exact at4 | exact at5 | exact at6 | exact at7 | exact at8 | exact at9); exact rfl; exact rfl; exact rfl) | (apply r_storeN; exact rfl; (first | exact trivial | exact ⟨rfl, rfl⟩); exact rfl; exact rfl; (first | exact at0 | exact at1 | exact at2 | exact at3 | exact at4 | exact at5 | exact at6 | exact at7 | exact at8 | exact at9); exact rfl; exact rfl; exact rfl) | refine JC.ret ?_))
      refine JX.retCCT 1 0 rfl rfl rfl rfl rfl rfl rfl (fun a w' st => ⟨st.kp, ?_⟩)
      show Value.tuple #[Wv (sgn (true != q) (val W32 zs3)), Wv (sgn false (val W32 zs4)), _] = _
      rw [hq1, ← hq2]
      rfl

end Go.Proofs.YtdehklhdjbkneaaDoor

/- Gcd. -/
namespace Go.Proofs.YtdehklhdjbkneaaDoor
open Go Go.RowKit
set_option linter.unusedSimpArgs false
set_option linter.unusedVariables false
set_option linter.unusedSectionVars false

/-- The cells of a canonical number. -/
abbrev wc (z : Int) : Array Value := #[.bool (decide (z < 0)), sv (magU z.natAbs)]
theorem Wv_wc (z : Int) : Wv z = .agg (wc z) := rfl

/-- Three results, structs in owned blocks. -/
theorem JX.retCCC {c : Cx} {t t' t'' : Tmp} {ty ty' ty'' n n' n'' b b' b'' : Nat} {cs cs' cs'' : Array Value} {T T' T'' : TypeId} {fz fz' fz'' : Nat × Nat} {R : Value → World → Prop} {F : SFrame} {H : SHeap} [TN c.P ty n] [TN c.P ty' n'] [TN c.P ty'' n''] (k k' k'' : Nat) (h1 : look F t = some (.pointer (some ⟨b, 0, none⟩)))
    (h2 : H[k]? = some (b, Obj.cells cs T fz)) (hn : cs.size = n) (h1' : look F t' = some (.pointer (some ⟨b', 0, none⟩))) (h2' : H[k']? = some (b', Obj.cells cs' T' fz')) (hn' : cs'.size = n') (h1'' : look F t'' = some (.pointer (some ⟨b'', 0, none⟩))) (h2'' : H[k'']? = some (b'', Obj.cells cs'' T'' fz'')) (hn'' : cs''.size = n'')
    (hR : ∀ a w, St c F H a w → R (.tuple #[.agg cs, .agg cs', .agg cs'']) w) : JX c (endPost c.P #[.cell t ty, .cell t' ty', .cell t'' ty''] (Ret R)) .ret F H :=
  JX.ret' [.agg cs, .agg cs', .agg cs''] (JR.cellN k h1 h2 hn (JR.cellN k' h1' h2' hn' (JR.cellN k'' h1'' h2'' hn'' JR.nil))) hR

theorem natAbs_lt_of_le {a b : Int} {k : Nat} (h : a.natAbs < 256 ^ k) (hb : b.natAbs ≤ 3 * a.natAbs) : b.natAbs < 256 ^ (k + 1) := by
  rw [Nat.pow_succ]; omega
theorem sgn_false (n : Nat) : sgn false n = (n : Int) := rfl
theorem ediv_lt {g h : Int} {k : Nat} (hg : 0 ≤ g) (hh : 0 ≤ h) (hl : g.natAbs < 256 ^ k) : (g / h).natAbs < 256 ^ k := by
  obtain ⟨G, rfl⟩ := Int.eq_ofNat_of_zero_le hg
  obtain ⟨K, rfl⟩ := Int.eq_ofNat_of_zero_le hh
  have e : (G : Int) / K = ((G / K : Nat) : Int) := rfl
  rw [e, Int.natAbs_natCast] at *
  exact Nat.lt_of_le_of_lt (Nat.div_le_self _ _) hl
theorem quo_natAbs_le (a b : Int) : (a / b).natAbs ≤ a.natAbs + b.natAbs := by
  by_cases hb : b = 0
  · subst hb; simp
  have e := Int.mul_ediv_add_emod a b
  have h1 := Int.emod_nonneg a hb
  have h2 := Int.emod_lt a hb
  have h3 : (b * (a / b)).natAbs = b.natAbs * (a / b).natAbs := Int.natAbs_mul _ _
  have h4 : (a / b).natAbs ≤ b.natAbs * (a / b).natAbs := Nat.le_mul_of_pos_left _ (by omega)
  omega

set_option maxHeartbeats 16000000 in
theorem c_Gcd (w : World) (v u : Value) (a b : Int) (k : Nat) (hv : IsZ v a k) (hu : IsZ u b k) (hk : k ≤ 1000) :
    Calls Tryd.prog 18 #[v, u] w (Ret fun r w' => Kp [] w w' ∧ ∃ g x y, r = .tuple #[Wv g, Wv x, Wv y] ∧ GcdP a b g x y) := by
  have hZa := hv
  have hZb := hu
  obtain ⟨p, l, rfl, hl1, ha⟩ := hv
  obtain ⟨q, l', rfl, hl2, hb'⟩ := hu
  have haN : a.natAbs = bval (bts l) := by rw [ha, sgn_natAbs]
  have hbN : b.natAbs = bval (bts l') := by rw [hb', sgn_natAbs]
  have hsa : -9223372036854775808 ≤ a.sign ∧ a.sign < 9223372036854775808 := by
    rcases Int.lt_trichotomy a 0 with h | h | h
    · rw [Int.sign_eq_neg_one_of_neg h]; omega
    · subst h; decide
    · rw [Int.sign_eq_one_of_pos h]; omega
  have hZabs : ∀ {z : Int}, z.natAbs < 256 ^ k → IsZ (Wv z) z k := fun h => IsZ.can h
  refine calls_of_R [8] [⟨2, 1, [0, 3, 6, 1, 2, 4, 5, 7, 8, 9], []⟩, ⟨3, 1, [0, 3, 1, 2, 4, 5, 6, 7], []⟩, ⟨7, 1, [], []⟩, ⟨8, 1, [], []⟩, ⟨9, 3, [0, 3, 1, 2, 4, 5, 6, 7, 8, 9, 10, 11, 12, 13], []⟩, ⟨11, 1, [0, 1, 2, 5, 3, 4, 6, 7, 8, 9, 10, 11], []⟩, ⟨12, 1, [], []⟩] [] (by simp) [] Tryd.func18 rfl mixed (by kernel_rfl) Tryd.ntmps18 Tryd.results18 rfl ⟨by simp, by simp⟩ (by simp) ?_
  simp only [toR, inR, cond_true, cond_false, Nat.reduceBEq, toS, textOps, toSOp, kindAt, kindOf, odAt, sopsAt, ordOf, zipF]
  (repeat' (first | refine JC.seq ?_ | refine JC.ops ?_ | refine JO.nil ?_ | refine JX.thenN ?_ | (apply r_loadN; exact rfl; exact rfl; exact rfl; exact rfl; (first | exact at0 | exact at1 | exact at2 | exact at3 | exact at4 | exact at5 | exact at6 | exact at7 | exact at8 | exact at9); exact rfl) | (apply r_allocZ; exact rfl; exact rfl; exact rfl; intro _) | (apply r_boxA; exact rfl; exact rfl; exact rfl; exact rfl; intro _)))
  rename_i b2 b3 b4 b5 b6
  refine r_call0 trivial rfl rfl rfl (fun w hk' hs => c_Sign w _ b k hZb (by omega)) fun w v w' _ _ _ hR => ?_
  subst hR
  by_cases hb : b = 0
  · have hbs : b.sign = 0 := by rw [hb]; rfl
    (repeat' (first | refine JC.seq ?_ | refine JO.nil ?_ | refine JX.thenN ?_ | (apply r_eql; exact rfl; exact rfl; exact rfl; exact rfl; all_goals intro hc; all_goals try (exfalso; omega)) | refine JC.condT rfl ?_))
    refine JC.opsDs [(b6, .cells #[.bool false, .string ⟨#[]⟩] 27 (0, 0)), (b3, .cells #[.bool q, sv l'] 27 (0, 0)), (b2, .cells #[.bool p, sv l] 27 (0, 0))] (by (repeat' first | exact HSub.refl _ | exact HSub.nil _ | refine HSub.at 0 rfl ?_ | refine HSub.at 1 rfl ?_ | refine HSub.at 2 rfl ?_ | refine HSub.at 3 rfl ?_ | refine HSub.at 4 rfl ?_ | refine HSub.at 5 rfl ?_ | refine HSub.at 6 rfl ?_ | refine HSub.at 7 rfl ?_ | refine HSub.at 8 rfl ?_ | refine HSub.at 9 rfl ?_ | refine HSub.at 10 rfl ?_ | refine HSub.at 11 rfl ?_ | refine HSub.at 12 rfl ?_ | refine HSub.at 13 rfl ?_ | refine HSub.at 14 rfl ?_ | refine HSub.at 15 rfl ?_ | refine HSub.at 16 rfl ?_ | refine HSub.at 17 rfl ?_ | refine HSub.at 18 rfl ?_ | refine HSub.at 19 rfl ?_ | refine HSub.segH ?_ | refine HSub.skip ?_ | refine HSub.skipN ?_)) ?_
    (repeat' (first | (apply r_loadN; exact rfl; exact rfl; exact rfl; exact rfl; (first | exact at0 | exact at1 | exact at2 | exact at3 | exact at4 | exact at5 | exact at6 | exact at7 | exact at8 | exact at9); exact rfl)))
    refine r_callA (A := [_, _, _, _, _]) rfl trivial rfl rfl rfl (fun w hk hs => c_abs w p l (by omega)) fun w v w' _ _ _ hR => ?_
    obtain ⟨N1, zs1, hN1, hO1, hz1, hval1⟩ := hR
    refine ⟨N1, hN1, ?_⟩
    have hzl1 := words_le hz1 hval1 hl1
    skip
    refine r_call0 trivial rfl rfl rfl (fun w hk hs => c_wide w _ _ zs1 false (hO1.rd.at hk hs (by (repeat' first | exact HSub.nil _ | exact HSub.hd | exact HSub.in0 | exact HSub.refl _ | refine HSub.skip ?_ | refine HSub.skipN ?_))) hz1.lt (by omega)) fun w v w' _ _ _ hR => ?_
    rw [hval1, sgn_false, ← haN] at hR
    subst hR
    skip
    refine r_call0 trivial rfl rfl rfl (fun w hk' hs => c_Sign w _ a k hZa (by omega)) fun w v w' _ _ _ hR => ?_
    subst hR
    skip
    refine r_call0 trivial rfl rfl rfl (fun w hk' hs => c_From w a.sign hsa.1 hsa.2) fun w v w' _ _ _ hR => ?_
    subst hR
    (repeat' (first | refine JO.nil ?_ | refine JX.thenN ?_ | (apply r_storeN; exact rfl; (first | exact trivial | exact ⟨rfl, rfl⟩); exact rfl; exact rfl; (first | exact at0 | exact at1 | exact at2 | exact at3 | exact at4 | exact at5 | exact at6 | exact at7 | exact at8 | exact at9); exact rfl; exact rfl; exact rfl) | (apply r_storeKN; exact rfl; exact rfl; exact rfl; (first | exact at0 | exact at1 | exact at2 | exact at3 | exact at4 | exact at5 | exact at6 | exact at7 | exact at8 | exact at9); exact rfl; exact rfl; exact rfl; (repeat' first | exact HSub.refl _ | exact HSub.nil _ | refine HSub.at 0 rfl ?_ | refine HSub.at 1 rfl ?_ | refine HSub.at 2 rfl ?_ | refine HSub.at 3 rfl ?_ | refine HSub.at 4 rfl ?_ | refine HSub.at 5 rfl ?_ | refine HSub.at 6 rfl ?_ | refine HSub.at 7 rfl ?_ | refine HSub.at 8 rfl ?_ | refine HSub.at 9 rfl ?_ | refine HSub.at 10 rfl ?_ | refine HSub.at 11 rfl ?_ | refine HSub.at 12 rfl ?_ | refine HSub.at 13 rfl ?_ | refine HSub.at 14 rfl ?_ | refine HSub.at 15 rfl ?_ | refine HSub.at 16 rfl ?_ | refine HSub.at 17 rfl ?_ | refine HSub.at 18 rfl ?_ | refine HSub.at 19 rfl ?_ | refine HSub.segH ?_ | refine HSub.skip ?_ | refine HSub.skipN ?_)) | (apply r_storeN; exact rfl; (first | exact trivial | exact ⟨rfl, rfl⟩); exact rfl; exact rfl; (first | exact at0 | exact at1 | exact at2 | exact at3 | exact at4 | exact at5 | exact at6 | exact at7 | exact at8 | exact at9); exact rfl; exact rfl; exact rfl) | refine JX.thenR ?_ | refine JC.ret ?_))
    exact JX.retCCC 2 1 0 rfl rfl rfl rfl rfl rfl rfl rfl rfl (fun a' w' st => ⟨st.kp, (a.natAbs : Int), a.sign, 0, rfl, by rw [hb]; exact gcd_zero_end a⟩)
  have hbs : b.sign ≠ 0 := fun h => hb (Int.sign_eq_zero_iff_zero.1 h)
  (repeat' (first | refine JC.seq ?_ | refine JO.nil ?_ | refine JX.thenN ?_ | (apply r_eql; exact rfl; exact rfl; exact rfl; exact rfl; all_goals intro hc; all_goals try (exfalso; omega)) | refine JC.skip ?_ | refine JC.condF rfl ?_))
  refine JC.opsDs [(b6, .cells #[.bool false, .string ⟨#[]⟩] 27 (0, 0)), (b3, .cells #[.bool q, sv l'] 27 (0, 0)), (b2, .cells #[.bool p, sv l] 27 (0, 0))] (by (repeat' first | exact HSub.refl _ | exact HSub.nil _ | refine HSub.at 0 rfl ?_ | refine HSub.at 1 rfl ?_ | refine HSub.at 2 rfl ?_ | refine HSub.at 3 rfl ?_ | refine HSub.at 4 rfl ?_ | refine HSub.at 5 rfl ?_ | refine HSub.at 6 rfl ?_ | refine HSub.at 7 rfl ?_ | refine HSub.at 8 rfl ?_ | refine HSub.at 9 rfl ?_ | refine HSub.at 10 rfl ?_ | refine HSub.at 11 rfl ?_ | refine HSub.at 12 rfl ?_ | refine HSub.at 13 rfl ?_ | refine HSub.at 14 rfl ?_ | refine HSub.at 15 rfl ?_ | refine HSub.at 16 rfl ?_ | refine HSub.at 17 rfl ?_ | refine HSub.at 18 rfl ?_ | refine HSub.at 19 rfl ?_ | refine HSub.segH ?_ | refine HSub.skip ?_ | refine HSub.skipN ?_)) ?_
  (repeat' (first | (apply r_loadN; exact rfl; exact rfl; exact rfl; exact rfl; (first | exact at0 | exact at1 | exact at2 | exact at3 | exact at4 | exact at5 | exact at6 | exact at7 | exact at8 | exact at9); exact rfl)))
  refine r_callA (A := [_, _, _, _, _]) rfl trivial rfl rfl rfl (fun w hk hs => c_abs w p l (by omega)) fun w v w' _ _ _ hR => ?_
  obtain ⟨N1, zs1, hN1, hO1, hz1, hval1⟩ := hR
  refine ⟨N1, hN1, ?_⟩
  have hzl1 := words_le hz1 hval1 hl1
  skip
  refine r_call0 trivial rfl rfl rfl (fun w hk hs => c_wide w _ _ zs1 false (hO1.rd.at hk hs (by (repeat' first | exact HSub.nil _ | exact HSub.hd | exact HSub.in0 | exact HSub.refl _ | refine HSub.skip ?_ | refine HSub.skipN ?_))) hz1.lt (by omega)) fun w v w' _ _ _ hR => ?_
  rw [hval1, sgn_false, ← haN] at hR
  subst hR
  skip
  refine r_call0 trivial rfl rfl rfl (fun w hk' hs => c_Sign w _ a k hZa (by omega)) fun w v w' _ _ _ hR => ?_
  subst hR
  skip
  refine r_call0 trivial rfl rfl rfl (fun w hk' hs => c_From w a.sign hsa.1 hsa.2) fun w v w' _ _ _ hR => ?_
  subst hR
  (repeat' (first | refine JC.seq ?_ | refine JC.ops ?_ | refine JO.nil ?_ | refine JX.thenN ?_ | (apply r_loadN; exact rfl; exact rfl; exact rfl; exact rfl; (first | exact at0 | exact at1 | exact at2 | exact at3 | exact at4 | exact at5 | exact at6 | exact at7 | exact at8 | exact at9); exact rfl) | (apply r_storeN; exact rfl; (first | exact trivial | exact ⟨rfl, rfl⟩); exact rfl; exact rfl; (first | exact at0 | exact at1 | exact at2 | exact at3 | exact at4 | exact at5 | exact at6 | exact at7 | exact at8 | exact at9); exact rfl; exact rfl; exact rfl) | (apply r_storeKN; exact rfl; exact rfl; exact rfl; (first | exact at0 | exact at1 | exact at2 | exact at3 | exact at4 | exact at5 | exact at6 | exact at7 | exact at8 | exact at9); exact rfl; exact rfl; exact rfl; (repeat' first | exact HSub.refl _ | exact HSub.nil _ | refine HSub.at 0 rfl ?_ | refine HSub.at 1 rfl ?_ | refine HSub.at 2 rfl ?_ | refine HSub.at 3 rfl ?_ | refine HSub.at 4 rfl ?_ | refine HSub.at 5 rfl ?_ | refine HSub.at 6 rfl ?_ | refine HSub.at 7 rfl ?_ | refine HSub.at 8 rfl ?_ | refine HSub.at 9 rfl ?_ | refine HSub.at 10 rfl ?_ | refine HSub.at 11 rfl ?_ | refine HSub.at 12 rfl ?_ | refine HSub.at 13 rfl ?_ | refine HSub.at 14 rfl ?_ | refine HSub.at 15 rfl ?_ | refine HSub.at 16 rfl ?_ | refine HSub.at 17 rfl ?_ | refine HSub.at 18 rfl ?_ | refine HSub.at 19 rfl ?_ | refine HSub.segH ?_ | refine HSub.skip ?_ | refine HSub.skipN ?_)) | (apply r_storeN; exact rfl; (first | exact trivial | exact ⟨rfl, rfl⟩); exact rfl; exact rfl; (first | exact at0 | exact at1 | exact at2 | exact at3 | exact at4 | exact at5 | exact at6 | exact at7 | exact at8 | exact at9); exact rfl; exact rfl; exact rfl)))
  refine r_callA (A := [_, _, _, _, _]) rfl trivial rfl rfl rfl (fun w hk hs => c_abs w q l' (by omega)) fun w v w' _ _ _ hR => ?_
  obtain ⟨N2, zs2, hN2, hO2, hz2, hval2⟩ := hR
  refine ⟨N2, hN2, ?_⟩
  have hzl2 := words_le hz2 hval2 hl2
  skip
  refine r_call0 trivial rfl rfl rfl (fun w hk hs => c_wide w _ _ zs2 false (hO2.rd.at hk hs (by (repeat' first | exact HSub.nil _ | exact HSub.hd | exact HSub.in0 | exact HSub.refl _ | refine HSub.skip ?_ | refine HSub.skipN ?_))) hz2.lt (by omega)) fun w v w' _ _ _ hR => ?_
  rw [hval2, sgn_false, ← hbN] at hR
  subst hR
  (repeat' (first | refine JC.seq ?_ | refine JO.nil ?_ | refine JX.thenN ?_ | (apply r_storeN; exact rfl; (first | exact trivial | exact ⟨rfl, rfl⟩); exact rfl; exact rfl; (first | exact at0 | exact at1 | exact at2 | exact at3 | exact at4 | exact at5 | exact at6 | exact at7 | exact at8 | exact at9); exact rfl; exact rfl; exact rfl) | (apply r_allocZ; exact rfl; exact rfl; exact rfl; intro _) | (apply r_buildL; exact rfl; exact rfl; exact rfl; exact rfl; exact rfl) | (apply r_storeN; exact rfl; (first | exact trivial | exact ⟨rfl, rfl⟩); exact rfl; exact rfl; (first | exact at0 | exact at1 | exact at2 | exact at3 | exact at4 | exact at5 | exact at6 | exact at7 | exact at8 | exact at9); exact rfl; exact rfl; exact rfl) | refine JC.block ?_))
  rename_i b7 b8
  have hb1 : 1 ≤ b.natAbs := by omega
  refine JC.loopH (ι := Int × Int × Int × Int) ⟨fun z => [(8, .pointer (some ⟨b8, 0, none⟩)), (7, .pointer (some ⟨b7, 0, none⟩)), (6, .pointer (some ⟨b6, 0, none⟩)), (5, .pointer (some ⟨b5, 0, none⟩)), (4, .pointer (some ⟨b4, 0, none⟩)), (3, .pointer (some ⟨b3, 0, none⟩)), (2, .pointer (some ⟨b2, 0, none⟩))],
    fun z => [(b8, .cells (wc z.2.2.2) 27 (0, 0)), (b7, .cells (wc z.2.1) 27 (0, 0)), (b6, .cells #[.bool false, .string ⟨#[]⟩] 27 (0, 0)), (b5, .cells (wc z.2.2.1) 27 (0, 0)), (b4, .cells (wc z.1) 27 (0, 0)), (b3, .cells #[.bool q, sv l'] 27 (0, 0)), (b2, .cells #[.bool p, sv l] 27 (0, 0))],
    fun z => GI a b z.1 z.2.1 z.2.2.1 z.2.2.2 ∧ z.2.2.1.natAbs ≤ 3 * b.natAbs ∧ z.2.2.2.natAbs ≤ 3 * b.natAbs ∧ z.1.natAbs < 256 ^ k ∧ z.2.1.natAbs < 256 ^ k, fun z => z.2.1.natAbs⟩
    ((a.natAbs : Int), (b.natAbs : Int), a.sign, 0) ⟨GI.start a b, by
      show a.sign.natAbs ≤ _
      have : a.sign.natAbs ≤ 1 := by rcases Int.lt_trichotomy a 0 with h | h | h <;> simp [Int.sign_eq_neg_one_of_neg, Int.sign_eq_one_of_pos, h]
      omega, by simp, by simpa using hZa.lt, by simpa using hZb.lt⟩ (by repeat first | exact trivial | refine ⟨rfl, ?_⟩) (by (repeat' first | exact HSub.refl _ | exact HSub.nil _ | refine HSub.at 0 rfl ?_ | refine HSub.at 1 rfl ?_ | refine HSub.at 2 rfl ?_ | refine HSub.at 3 rfl ?_ | refine HSub.at 4 rfl ?_ | refine HSub.at 5 rfl ?_ | refine HSub.at 6 rfl ?_ | refine HSub.at 7 rfl ?_ | refine HSub.at 8 rfl ?_ | refine HSub.at 9 rfl ?_ | refine HSub.at 10 rfl ?_ | refine HSub.at 11 rfl ?_ | refine HSub.at 12 rfl ?_ | refine HSub.at 13 rfl ?_ | refine HSub.at 14 rfl ?_ | refine HSub.at 15 rfl ?_ | refine HSub.at 16 rfl ?_ | refine HSub.at 17 rfl ?_ | refine HSub.at 18 rfl ?_ | refine HSub.at 19 rfl ?_ | refine HSub.segH ?_ | refine HSub.skip ?_ | refine HSub.skipN ?_)) (fun z hz => ?_)
  obtain ⟨g, h, x, y⟩ := z
  obtain ⟨hGI, hx3, hy3, hgk, hhk⟩ := hz
  dsimp only at hGI hx3 hy3 hgk hhk ⊢
  have hZx : IsZ (Wv x) x (k + 1) := IsZ.can (natAbs_lt_of_le hZb.lt hx3)
  have hZy : IsZ (Wv y) y (k + 1) := IsZ.can (natAbs_lt_of_le hZb.lt hy3)
  have hZg : IsZ (Wv g) g k := IsZ.can hgk
  have hZh : IsZ (Wv h) h k := IsZ.can hhk
  by_cases hh : h = 0
  · subst hh
    have hs0 : Int.sign 0 = 0 := rfl
    have hgg : g = Int.gcd a b := by
      have h1 := hGI.gcd
      rw [Int.gcd_zero_right] at h1
      have := hGI.g0
      omega
    have hgp : 0 < g := by
      have h1 : 0 < Int.gcd a b := Int.gcd_pos_of_ne_zero_right _ hb
      omega
    have hdb : g ∣ b := by rw [hgg]; exact Int.gcd_dvd_right ..
    obtain ⟨y0, hex⟩ := hGI.ex
    have hmg : (b / g) * g = b := Int.ediv_mul_cancel hdb
    have hbg0 : b / g ≠ 0 := fun e => by rw [e, Int.zero_mul] at hmg; exact hb hmg.symm
    have hmm : (b.natAbs : Int) / g * g = b.natAbs := Int.ediv_mul_cancel (Int.dvd_natAbs.2 hdb)
    have hm0 : (b.natAbs : Int) / g ≠ 0 := fun e => by rw [e, Int.zero_mul] at hmm; omega
    have hm1 : ((b.natAbs : Int) / g).natAbs < 256 ^ k := ediv_lt (by omega) (by omega) (by simpa using hZb.lt)
    have hxm := abs_quo_emod (x := x) hdb
    have hx1 : (x % (b / g)).natAbs < 256 ^ k := by
      have h1 := Int.emod_nonneg x hm0
      have h2 := Int.emod_lt x hm0
      rw [hxm] at h1 h2
      omega
    have hZx' : IsZ (Wv (x % (b / g))) (x % (b / g)) k := IsZ.can hx1
    have hZxa : IsZ (Wv (x % (b / g) * a)) (x % (b / g) * a) (2 * k) := (IsZ.can (mul_lt hx1 hZa.lt)).mono (by omega)
    have hZgx : IsZ (Wv (g - x % (b / g) * a)) (g - x % (b / g) * a) (2 * k + 1) := by
      rw [Int.sub_eq_add_neg]
      exact IsZ.add (hZg.mono (show k ≤ 2 * k by omega)).lt (by rw [Int.natAbs_neg]; exact hZxa.lt)
    (repeat' (first | refine JC.seq ?_ | refine JC.ops ?_ | (apply r_loadN; exact rfl; exact rfl; exact rfl; exact rfl; (first | exact at0 | exact at1 | exact at2 | exact at3 | exact at4 | exact at5 | exact at6 | exact at7 | exact at8 | exact at9); exact rfl)))
    refine r_call0 trivial rfl rfl rfl (fun w hk' hs => c_Sign w _ 0 k hZh (by omega)) fun w v w' _ _ _ hR => ?_
    subst hR
    (repeat' (first | refine JC.seq ?_ | refine JC.opsD ?_ | refine JO.nil ?_ | refine JX.thenN ?_ | (apply r_loadN; exact rfl; exact rfl; exact rfl; exact rfl; (first | exact at0 | exact at1 | exact at2 | exact at3 | exact at4 | exact at5 | exact at6 | exact at7 | exact at8 | exact at9); exact rfl) | (apply r_neq; exact rfl; exact rfl; exact rfl; exact rfl; all_goals intro hc; all_goals try (exfalso; omega)) | refine JX.thenE ?_ | refine JC.exit ?_ | refine JC.condF rfl ?_ | refine JX.blockE ?_))
    refine r_callA (A := [_, _, _, _, _, _, _]) rfl trivial rfl rfl rfl (fun w hk hs => c_abs w q l' (by omega)) fun w v w' _ _ _ hR => ?_
    obtain ⟨N3, zs3, hN3, hO3, hz3, hval3⟩ := hR
    refine ⟨N3, hN3, ?_⟩
    have hzl3 := words_le hz3 hval3 hl2
    skip
    refine r_call0 trivial rfl rfl rfl (fun w hk hs => c_wide w _ _ zs3 false (hO3.rd.at hk hs (by (repeat' first | exact HSub.nil _ | exact HSub.hd | exact HSub.in0 | exact HSub.refl _ | refine HSub.skip ?_ | refine HSub.skipN ?_))) hz3.lt (by omega)) fun w v w' _ _ _ hR => ?_
    rw [hval3, sgn_false, ← hbN] at hR
    subst hR
    skip
    refine r_call0 trivial rfl rfl rfl (fun w hk' hs => c_Quo w _ _ (b.natAbs : Int) g k (IsZ.can (by simpa using hZb.lt)) hZg (by omega)) fun w v w' _ _ _ hR => ?_
    rw [if_neg (by omega)] at hR
    subst hR
    (repeat' (first | refine JC.seq ?_ | refine JC.ops ?_ | refine JO.nil ?_ | refine JX.thenN ?_ | (apply r_move; exact rfl; exact rfl; exact rfl) | (apply r_assign; exact rfl; exact rfl; exact rfl) | (apply r_loadN; exact rfl; exact rfl; exact rfl; exact rfl; (first | exact at0 | exact at1 | exact at2 | exact at3 | exact at4 | exact at5 | exact at6 | exact at7 | exact at8 | exact at9); exact rfl) | (apply r_extract; exact rfl; exact rfl; exact rfl; exact rfl) | (apply r_storeN; exact rfl; (first | exact trivial | exact ⟨rfl, rfl⟩); exact rfl; exact rfl; (first | exact at0 | exact at1 | exact at2 | exact at3 | exact at4 | exact at5 | exact at6 | exact at7 | exact at8 | exact at9); exact rfl; exact rfl; exact rfl) | (apply r_allocZ; exact rfl; exact rfl; exact rfl; intro _) | (apply r_storeN; exact rfl; (first | exact trivial | exact ⟨rfl, rfl⟩); exact rfl; exact rfl; (first | exact at0 | exact at1 | exact at2 | exact at3 | exact at4 | exact at5 | exact at6 | exact at7 | exact at8 | exact at9); exact rfl; exact rfl; exact rfl)))
    refine r_call0 trivial rfl rfl rfl (fun w hk' hs => c_Quo w _ _ x ((b.natAbs : Int) / g) (k + 1) hZx ((IsZ.can hm1).mono (by omega)) (by omega)) fun w v w' _ _ _ hR => ?_
    rw [if_neg hm0, hxm] at hR
    subst hR
    (repeat' (first | refine JC.seq ?_ | refine JC.opsD ?_ | refine JO.nil ?_ | refine JX.thenN ?_ | (apply r_move; exact rfl; exact rfl; exact rfl) | (apply r_loadN; exact rfl; exact rfl; exact rfl; exact rfl; (first | exact at0 | exact at1 | exact at2 | exact at3 | exact at4 | exact at5 | exact at6 | exact at7 | exact at8 | exact at9); exact rfl) | (apply r_extract; exact rfl; exact rfl; exact rfl; exact rfl) | (apply r_storeN; exact rfl; (first | exact trivial | exact ⟨rfl, rfl⟩); exact rfl; exact rfl; (first | exact at0 | exact at1 | exact at2 | exact at3 | exact at4 | exact at5 | exact at6 | exact at7 | exact at8 | exact at9); exact rfl; exact rfl; exact rfl) | (apply r_storeN; exact rfl; (first | exact trivial | exact ⟨rfl, rfl⟩); exact rfl; exact rfl; (first | exact at0 | exact at1 | exact at2 | exact at3 | exact at4 | exact at5 | exact at6 | exact at7 | exact at8 | exact at9); exact rfl; exact rfl; exact rfl)))
    refine r_call0 trivial rfl rfl rfl (fun w hk' hs => c_Mul w _ _ (x % (b / g)) a k hZx' hZa (by omega)) fun w v w' _ _ _ hR => ?_
    subst hR
    skip
    refine r_call0 trivial rfl rfl rfl (fun w hk' hs => c_Sub w _ _ g (x % (b / g) * a) (2 * k) (hZg.mono (by omega)) hZxa (by omega)) fun w v w' _ _ _ hR => ?_
    subst hR
    skip
    refine r_call0 trivial rfl rfl rfl (fun w hk' hs => c_Quo w _ _ (g - x % (b / g) * a) b (2 * k + 1) hZgx (hZb.mono (by omega)) (by omega)) fun w v w' _ _ _ hR => ?_
    rw [if_neg hb] at hR
    subst hR
    (repeat' (first | refine JC.seq ?_ | refine JC.opsD ?_ | refine JO.nil ?_ | refine JX.thenN ?_ | (apply r_move; exact rfl; exact rfl; exact rfl) | (apply r_loadN; exact rfl; exact rfl; exact rfl; exact rfl; (first | exact at0 | exact at1 | exact at2 | exact at3 | exact at4 | exact at5 | exact at6 | exact at7 | exact at8 | exact at9); exact rfl) | (apply r_extract; exact rfl; exact rfl; exact rfl; exact rfl) | (apply r_storeN; exact rfl; (first | exact trivial | exact ⟨rfl, rfl⟩); exact rfl; exact rfl; (first | exact at0 | exact at1 | exact at2 | exact at3 | exact at4 | exact at5 | exact at6 | exact at7 | exact at8 | exact at9); exact rfl; exact rfl; exact rfl) | (apply r_storeKN; exact rfl; exact rfl; exact rfl; (first | exact at0 | exact at1 | exact at2 | exact at3 | exact at4 | exact at5 | exact at6 | exact at7 | exact at8 | exact at9); exact rfl; exact rfl; exact rfl; (repeat' first | exact HSub.refl _ | exact HSub.nil _ | refine HSub.at 0 rfl ?_ | refine HSub.at 1 rfl ?_ | refine HSub.at 2 rfl ?_ | refine HSub.at 3 rfl ?_ | refine HSub.at 4 rfl ?_ | refine HSub.at 5 rfl ?_ | refine HSub.at 6 rfl ?_ | refine HSub.at 7 rfl ?_ | refine HSub.at 8 rfl ?_ | refine HSub.at 9 rfl ?_ | refine HSub.at 10 rfl ?_ | refine HSub.at 11 rfl ?_ | refine HSub.at 12 rfl ?_ | refine HSub.at 13 rfl ?_ | refine HSub.at 14 rfl ?_ | refine HSub.at 15 rfl ?_ | refine HSub.at 16 rfl ?_ | refine HSub.at 17 rfl ?_ | refine HSub.at 18 rfl ?_ | refine HSub.at 19 rfl ?_ | refine HSub.segH ?_ | refine HSub.skip ?_ | refine HSub.skipN ?_)) | (apply r_storeN; exact rfl; (first | exact trivial | exact ⟨rfl, rfl⟩); exact rfl; exact rfl; (first | exact at0 | exact at1 | exact at2 | exact at3 | exact at4 | exact at5 | exact at6 | exact at7 | exact at8 | exact at9); exact rfl; exact rfl; exact rfl) | refine JC.ret ?_))
    exact JX.retCCC 6 5 4 rfl rfl rfl rfl rfl rfl rfl rfl rfl (fun a' w' st => ⟨st.kp, g, x % (b / g), (g - x % (b / g) * a) / b, rfl, gcd_end hgg hb hex⟩)
  · have hs0 : h.sign ≠ 0 := fun e => hh (Int.sign_eq_zero_iff_zero.1 e)
    have hq1 := ediv_lt hGI.g0 hGI.h0 hgk
    have hZq : IsZ (Wv (g / h)) (g / h) (k + 1) := (IsZ.can hq1).mono (by omega)
    have hstep := hGI.step hh
    have hZqy : IsZ (Wv (g / h * y)) (g / h * y) (2 * k + 2) := (IsZ.can (mul_lt hZq.lt hZy.lt)).mono (by omega)
    have hu3 : (x - g / h * y).natAbs ≤ 3 * b.natAbs := by
      have h1 := hstep.sz
      have h2 := Nat.le_mul_of_pos_right (x - g / h * y).natAbs (show 0 < h.natAbs by omega)
      omega
    have hr1 := Int.emod_nonneg g hh
    have hr2 := Int.emod_lt g hh
    (repeat' (first | refine JC.seq ?_ | refine JC.ops ?_ | (apply r_loadN; exact rfl; exact rfl; exact rfl; exact rfl; (first | exact at0 | exact at1 | exact at2 | exact at3 | exact at4 | exact at5 | exact at6 | exact at7 | exact at8 | exact at9); exact rfl)))
    refine r_call0 trivial rfl rfl rfl (fun w hk' hs => c_Sign w _ h k hZh (by omega)) fun w v w' _ _ _ hR => ?_
    subst hR
    (repeat' (first | refine JC.seq ?_ | refine JC.ops ?_ | refine JO.nil ?_ | refine JX.thenN ?_ | (apply r_loadN; exact rfl; exact rfl; exact rfl; exact rfl; (first | exact at0 | exact at1 | exact at2 | exact at3 | exact at4 | exact at5 | exact at6 | exact at7 | exact at8 | exact at9); exact rfl) | (apply r_neq; exact rfl; exact rfl; exact rfl; exact rfl; all_goals intro hc; all_goals try (exfalso; omega)) | refine JC.skip ?_ | refine JC.condT rfl ?_ | refine JC.block ?_))
    refine r_call0 trivial rfl rfl rfl (fun w hk' hs => c_Quo w _ _ g h k hZg hZh (by omega)) fun w v w' _ _ _ hR => ?_
    rw [if_neg hh] at hR
    subst hR
    (repeat' (first | refine JC.seq ?_ | refine JO.nil ?_ | refine JX.thenN ?_ | (apply r_move; exact rfl; exact rfl; exact rfl) | (apply r_assign; exact rfl; exact rfl; exact rfl) | (apply r_extract; exact rfl; exact rfl; exact rfl; exact rfl) | (apply r_storeN; exact rfl; (first | exact trivial | exact ⟨rfl, rfl⟩); exact rfl; exact rfl; (first | exact at0 | exact at1 | exact at2 | exact at3 | exact at4 | exact at5 | exact at6 | exact at7 | exact at8 | exact at9); exact rfl; exact rfl; exact rfl) | (apply r_allocZ; exact rfl; exact rfl; exact rfl; intro _) | (apply r_storeN; exact rfl; (first | exact trivial | exact ⟨rfl, rfl⟩); exact rfl; exact rfl; (first | exact at0 | exact at1 | exact at2 | exact at3 | exact at4 | exact at5 | exact at6 | exact at7 | exact at8 | exact at9); exact rfl; exact rfl; exact rfl)))
    rename_i b9 b10
    refine JC.opsDs [(b10, .cells (wc (g % h)) 27 (0, 0)), (b9, .cells (wc (g / h)) 27 (0, 0)), (b8, .cells (wc y) 27 (0, 0)), (b7, .cells (wc h) 27 (0, 0))] (by (repeat' first | exact HSub.refl _ | exact HSub.nil _ | refine HSub.at 0 rfl ?_ | refine HSub.at 1 rfl ?_ | refine HSub.at 2 rfl ?_ | refine HSub.at 3 rfl ?_ | refine HSub.at 4 rfl ?_ | refine HSub.at 5 rfl ?_ | refine HSub.at 6 rfl ?_ | refine HSub.at 7 rfl ?_ | refine HSub.at 8 rfl ?_ | refine HSub.at 9 rfl ?_ | refine HSub.at 10 rfl ?_ | refine HSub.at 11 rfl ?_ | refine HSub.at 12 rfl ?_ | refine HSub.at 13 rfl ?_ | refine HSub.at 14 rfl ?_ | refine HSub.at 15 rfl ?_ | refine HSub.at 16 rfl ?_ | refine HSub.at 17 rfl ?_ | refine HSub.at 18 rfl ?_ | refine HSub.at 19 rfl ?_ | refine HSub.segH ?_ | refine HSub.skip ?_ | refine HSub.skipN ?_)) ?_
    (repeat' (first | refine JO.nil ?_ | refine JX.thenN ?_ | (apply r_loadN; exact rfl; exact rfl; exact rfl; exact rfl; (first | exact at0 | exact at1 | exact at2 | exact at3 | exact at4 | exact at5 | exact at6 | exact at7 | exact at8 | exact at9); exact rfl) | (apply r_storeN; exact rfl; (first | exact trivial | exact ⟨rfl, rfl⟩); exact rfl; exact rfl; (first | exact at0 | exact at1 | exact at2 | exact at3 | exact at4 | exact at5 | exact at6 | exact at7 | exact at8 | exact at9); exact rfl; exact rfl; exact rfl) | (apply r_storeKN; exact rfl; exact rfl; exact rfl; (first | exact at0 | exact at1 | exact at2 | exact at3 | exact at4 | exact at5 | exact at6 | exact at7 | exact at8 | exact at9); exact rfl; exact rfl; exact rfl; (repeat' first | exact HSub.refl _ | exact HSub.nil _ | refine HSub.at 0 rfl ?_ | refine HSub.at 1 rfl ?_ | refine HSub.at 2 rfl ?_ | refine HSub.at 3 rfl ?_ | refine HSub.at 4 rfl ?_ | refine HSub.at 5 rfl ?_ | refine HSub.at 6 rfl ?_ | refine HSub.at 7 rfl ?_ | refine HSub.at 8 rfl ?_ | refine HSub.at 9 rfl ?_ | refine HSub.at 10 rfl ?_ | refine HSub.at 11 rfl ?_ | refine HSub.at 12 rfl ?_ | refine HSub.at 13 rfl ?_ | refine HSub.at 14 rfl ?_ | refine HSub.at 15 rfl ?_ | refine HSub.at 16 rfl ?_ | refine HSub.at 17 rfl ?_ | refine HSub.at 18 rfl ?_ | refine HSub.at 19 rfl ?_ | refine HSub.segH ?_ | refine HSub.skip ?_ | refine HSub.skipN ?_)) | (apply r_storeN; exact rfl; (first | exact trivial | exact ⟨rfl, rfl⟩); exact rfl; exact rfl; (first | exact at0 | exact at1 | exact at2 | exact at3 | exact at4 | exact at5 | exact at6 | exact at7 | exact at8 | exact at9); exact rfl; exact rfl; exact rfl)))
    refine JC.forkS [(b9, .cells (wc (g / h)) 27 (0, 0)), (b8, .cells (wc y) 27 (0, 0))] (by (repeat' first | exact HSub.refl _ | exact HSub.nil _ | refine HSub.at 0 rfl ?_ | refine HSub.at 1 rfl ?_ | refine HSub.at 2 rfl ?_ | refine HSub.at 3 rfl ?_ | refine HSub.at 4 rfl ?_ | refine HSub.at 5 rfl ?_ | refine HSub.at 6 rfl ?_ | refine HSub.at 7 rfl ?_ | refine HSub.at 8 rfl ?_ | refine HSub.at 9 rfl ?_ | refine HSub.at 10 rfl ?_ | refine HSub.at 11 rfl ?_ | refine HSub.at 12 rfl ?_ | refine HSub.at 13 rfl ?_ | refine HSub.at 14 rfl ?_ | refine HSub.at 15 rfl ?_ | refine HSub.at 16 rfl ?_ | refine HSub.at 17 rfl ?_ | refine HSub.at 18 rfl ?_ | refine HSub.at 19 rfl ?_ | refine HSub.segH ?_ | refine HSub.skip ?_ | refine HSub.skipN ?_)) 1 4 (fun i op => kindAt [(1, .seq)] i op) 1 1 [0, 2, 3, 1, 4, 5, 6, 7] [0, 2, 3, 4, 1, 5, 6, 7] (by decide) mixed (by kernel_rfl) (by kernel_rfl) ?_ ?_
    · (repeat' (first | (apply r_loadN; exact rfl; exact rfl; exact rfl; exact rfl; (first | exact at0 | exact at1 | exact at2 | exact at3 | exact at4 | exact at5 | exact at6 | exact at7 | exact at8 | exact at9); exact rfl) | (apply r_ldNS; (first | exact trivial | exact ⟨rfl, rfl⟩); exact rfl; exact rfl; exact rfl; (first | exact at0 | exact at1 | exact at2 | exact at3 | exact at4 | exact at5 | exact at6 | exact at7 | exact at8 | exact at9); exact rfl)))
      refine r_call0 (by first | trivial | exact ⟨rfl, rfl⟩) rfl rfl rfl (fun w hk' hs => c_Mul w _ _ (g / h) y (k + 1) hZq hZy (by omega)) fun w v w' _ _ _ hR => ?_
      subst hR
      skip
      refine r_call0 (by first | trivial | exact ⟨rfl, rfl⟩) rfl rfl rfl (fun w hk' hs => c_Sub w _ _ x (g / h * y) (2 * k + 2) (hZx.mono (by omega)) hZqy (by omega)) fun w v w' _ _ _ hR => ?_
      subst hR
      (repeat' (first | refine JO.nil ?_ | (apply r_storeN; exact rfl; (first | exact trivial | exact ⟨rfl, rfl⟩); exact rfl; exact rfl; (first | exact at0 | exact at1 | exact at2 | exact at3 | exact at4 | exact at5 | exact at6 | exact at7 | exact at8 | exact at9); exact rfl; exact rfl; exact rfl) | (apply r_storeKN; exact rfl; exact rfl; exact rfl; (first | exact at0 | exact at1 | exact at2 | exact at3 | exact at4 | exact at5 | exact at6 | exact at7 | exact at8 | exact at9); exact rfl; exact rfl; exact rfl; (repeat' first | exact HSub.refl _ | exact HSub.nil _ | refine HSub.at 0 rfl ?_ | refine HSub.at 1 rfl ?_ | refine HSub.at 2 rfl ?_ | refine HSub.at 3 rfl ?_ | refine HSub.at 4 rfl ?_ | refine HSub.at 5 rfl ?_ | refine HSub.at 6 rfl ?_ | refine HSub.at 7 rfl ?_ | refine HSub.at 8 rfl ?_ | refine HSub.at 9 rfl ?_ | refine HSub.at 10 rfl ?_ | refine HSub.at 11 rfl ?_ | refine HSub.at 12 rfl ?_ | refine HSub.at 13 rfl ?_ | refine HSub.at 14 rfl ?_ | refine HSub.at 15 rfl ?_ | refine HSub.at 16 rfl ?_ | refine HSub.at 17 rfl ?_ | refine HSub.at 18 rfl ?_ | refine HSub.at 19 rfl ?_ | refine HSub.segH ?_ | refine HSub.skip ?_ | refine HSub.skipN ?_)) | (apply r_storeN; exact rfl; (first | exact trivial | exact ⟨rfl, rfl⟩); exact rfl; exact rfl; (first | exact at0 | exact at1 | exact at2 | exact at3 | exact at4 | exact at5 | exact at6 | exact at7 | exact at8 | exact at9); exact rfl; exact rfl; exact rfl) | refine JX.blockN ?_))
      exact JX.roundH (h, g % h, y, x - g / h * y) ⟨hstep, hy3, hu3, hhk, by dsimp only; omega⟩ (by dsimp only; omega) (by repeat first | exact trivial | refine ⟨rfl, ?_⟩) (by (repeat' first | exact HSub.refl _ | exact HSub.nil _ | refine HSub.at 0 rfl ?_ | refine HSub.at 1 rfl ?_ | refine HSub.at 2 rfl ?_ | refine HSub.at 3 rfl ?_ | refine HSub.at 4 rfl ?_ | refine HSub.at 5 rfl ?_ | refine HSub.at 6 rfl ?_ | refine HSub.at 7 rfl ?_ | refine HSub.at 8 rfl ?_ | refine HSub.at 9 rfl ?_ | refine HSub.at 10 rfl ?_ | refine HSub.at 11 rfl ?_ | refine HSub.at 12 rfl ?_ | refine HSub.at 13 rfl ?_ | refine HSub.at 14 rfl ?_ | refine HSub.at 15 rfl ?_ | refine HSub.at 16 rfl ?_ | refine HSub.at 17 rfl ?_ | refine HSub.at 18 rfl ?_ | refine HSub.at 19 rfl ?_ | refine HSub.segH ?_ | refine HSub.skip ?_ | refine HSub.skipN ?_))
    · (repeat' (first | (apply r_loadN; exact rfl; exact rfl; exact rfl; exact rfl; (first | exact at0 | exact at1 | exact at2 | exact at3 | exact at4 | exact at5 | exact at6 | exact at7 | exact at8 | exact at9); exact rfl)))
      refine r_call0 (by first | trivial | exact ⟨rfl, rfl⟩) rfl rfl rfl (fun w hk' hs => c_Mul w _ _ (g / h) y (k + 1) hZq hZy (by omega)) fun w v w' _ _ _ hR => ?_
      subst hR
      (repeat' (first | (apply r_ldNS; (first | exact trivial | exact ⟨rfl, rfl⟩); exact rfl; exact rfl; exact rfl; (first | exact at0 | exact at1 | exact at2 | exact at3 | exact at4 | exact at5 | exact at6 | exact at7 | exact at8 | exact at9); exact rfl)))
      refine r_call0 (by first | trivial | exact ⟨rfl, rfl⟩) rfl rfl rfl (fun w hk' hs => c_Sub w _ _ x (g / h * y) (2 * k + 2) (hZx.mono (by omega)) hZqy (by omega)) fun w v w' _ _ _ hR => ?_
      subst hR
      (repeat' (first | refine JO.nil ?_ | (apply r_storeN; exact rfl; (first | exact trivial | exact ⟨rfl, rfl⟩); exact rfl; exact rfl; (first | exact at0 | exact at1 | exact at2 | exact at3 | exact at4 | exact at5 | exact at6 | exact at7 | exact at8 | exact at9); exact rfl; exact rfl; exact rfl) | (apply r_storeKN; exact rfl; exact rfl; exact rfl; (first | exact at0 | exact at1 | exact at2 | exact at3 | exact at4 | exact at5 | exact at6 | exact at7 | exact at8 | exact at9); exact rfl; exact rfl; exact rfl; (repeat' first | exact HSub.refl _ | exact HSub.nil _ | refine HSub.at 0 rfl ?_ | refine HSub.at 1 rfl ?_ | refine HSub.at 2 rfl ?_ | refine HSub.at 3 rfl ?_ | refine HSub.at 4 rfl ?_ | refine HSub.at 5 rfl ?_ | refine HSub.at 6 rfl ?_ | refine HSub.at 7 rfl ?_ | refine HSub.at 8 rfl ?_ | refine HSub.at 9 rfl ?_ | refine HSub.at 10 rfl ?_ | refine HSub.at 11 rfl ?_ | refine HSub.at 12 rfl ?_ | refine HSub.at 13 rfl ?_ | refine HSub.at 14 rfl ?_ | refine HSub.at 15 rfl ?_ | refine HSub.at 16 rfl ?_ | refine HSub.at 17 rfl ?_ | refine HSub.at 18 rfl ?_ | refine HSub.at 19 rfl ?_ | refine HSub.segH ?_ | refine HSub.skip ?_ | refine HSub.skipN ?_)) | (apply r_storeN; exact rfl; (first | exact trivial | exact ⟨rfl, rfl⟩); exact rfl; exact rfl; (first | exact at0 | exact at1 | exact at2 | exact at3 | exact at4 | exact at5 | exact at6 | exact at7 | exact at8 | exact at9); exact rfl; exact rfl; exact rfl) | refine JX.blockN ?_))
      exact JX.roundH (h, g % h, y, x - g / h * y) ⟨hstep, hy3, hu3, hhk, by dsimp only; omega⟩ (by dsimp only; omega) (by repeat first | exact trivial | refine ⟨rfl, ?_⟩) (by (repeat' first | exact HSub.refl _ | exact HSub.nil _ | refine HSub.at 0 rfl ?_ | refine HSub.at 1 rfl ?_ | refine HSub.at 2 rfl ?_ | refine HSub.at 3 rfl ?_ | refine HSub.at 4 rfl ?_ | refine HSub.at 5 rfl ?_ | refine HSub.at 6 rfl ?_ | refine HSub.at 7 rfl ?_ | refine HSub.at 8 rfl ?_ | refine HSub.at 9 rfl ?_ | refine HSub.at 10 rfl ?_ | refine HSub.at 11 rfl ?_ | refine HSub.at 12 rfl ?_ | refine HSub.at 13 rfl ?_ | refine HSub.at 14 rfl ?_ | refine HSub.at 15 rfl ?_ | refine HSub.at 16 rfl ?_ | refine HSub.at 17 rfl ?_ | refine HSub.at 18 rfl ?_ | refine HSub.at 19 rfl ?_ | refine HSub.segH ?_ | refine HSub.skip ?_ | refine HSub.skipN ?_))

end Go.Proofs.YtdehklhdjbkneaaDoor

/- Parse. -/
namespace Go.Proofs.YtdehklhdjbkneaaDoor
open Go Go.RowKit
set_option linter.unusedSimpArgs false
set_option linter.unusedVariables false
set_option linter.unusedSectionVars false

/-- Bytes of a block, read. -/
theorem RdY.blk {c : Cx} {b cap n : Nat} {xs : List Nat} {rest : List Value} {T : TypeId} {fz : Nat × Nat} (hl : xs.length = n) (hc : n ≤ cap) : RdY c [(b, .cells (rowCY xs rest) T fz)] (.slice (some ⟨b, 0, none⟩) n cap) n xs := by
  refine ⟨by simp [hl], _, cap, rfl, hc, fun h0 => ⟨⟨b, 0, rfl⟩, fun w hw j u hu => ?_⟩⟩
  rw [vAt_lit, Nat.zero_add]
  refine cell_of_blk (hw.2.blk (b, _) (List.mem_cons_self ..)) ?_
  have e : (rowCY xs rest)[j]? = (xs.map yv ++ rest)[j]? := by simp [rowCY]
  rw [e, List.getElem?_append_left (List.getElem?_eq_some_iff.1 hu).1]
  exact hu

section
variable {c : Cx} {Q : Exit → Act → World → Prop} {m : Mode} {F : SFrame} {H : SHeap} {r : List SOp} {g : Option (Option Tmp × Bool)} {ns : Bool} {d : Tmp} {ty t t' : TypeId} {x y : Operand} {l : List UInt8} {i : Nat}
/-- '[]byte(s)'. -/
theorem r_toBytes {e : TypeId} [TStr c.P t] [TSl c.P t' e] [TI c.P e .u8] (hm : m.mayCall ns r) (hd : dstOk c.n (some d) = true) (hg : guardF F g = some true) (hx : ev F x = some (sv l))
    (h : ∀ b cap rest fz, l.length ≤ cap → JO c Q m r ((d, .slice (some ⟨b, 0, none⟩) l.length cap) :: F) ((b, .cells (rowCY (bts l) rest) e fz) :: H)) : JO c Q m (⟨some d, .convert t t' x, ty, g, .seq, ns⟩ :: r) F H := by
  refine ⟨⟨hd, .inr ⟨hg, fun a w st hs => ?_⟩⟩⟩
  unfold Oper.wp SOp.oper
  have hrun := run_bytes_of_string (P := c.P) w t t' e ⟨l.toArray⟩ TStr.und TSl.und TI.und
  have hrow : bytesRow ⟨l.toArray⟩ (grownCap w (ByteArray.mk l.toArray).size 0 e) = rowCY (bts l) (List.replicate (grownCap w (ByteArray.mk l.toArray).size 0 e - (ByteArray.mk l.toArray).size) (.int .u8 0)) := by
    apply Array.ext'
    simp [bytesRow, rowCY, bts, Function.comp]
  rw [hrow] at hrun
  generalize hcap : grownCap w (ByteArray.mk l.toArray).size 0 e = cap at hrun
  generalize (rowCY (bts l) (List.replicate (cap - (ByteArray.mk l.toArray).size) (.int .u8 0))).size = z at hrun
  have hexec : (execOp a.eval ⟨some d, .convert t t' x, ty, "", #[], none⟩).run c.P w = .ok (.value (.slice (some ⟨w.heap.size, 0, none⟩) l.length cap)) (w.drew.alloc (.cells (rowCY (bts l) (List.replicate (cap - (ByteArray.mk l.toArray).size) (.int .u8 0))) e (z, z + 1))) := by
    simp only [execOp, st.fr.ev hx, Sem.run_bind, hrun, Result.andThen_ok, Sem.run_pure, size_sv]
  rw [hexec]
  have hnew : (w.drew.alloc (.cells (rowCY (bts l) (List.replicate (cap - (ByteArray.mk l.toArray).size) (.int .u8 0))) e (z, z + 1))).heap[w.heap.size]? = some (.cells (rowCY (bts l) (List.replicate (cap - (ByteArray.mk l.toArray).size) (.int .u8 0))) e (z, z + 1)) := World.alloc_heap_new w.drew _
  have hold : ∀ k, k < w.heap.size → (w.drew.alloc (.cells (rowCY (bts l) (List.replicate (cap - (ByteArray.mk l.toArray).size) (.int .u8 0))) e (z, z + 1))).heap[k]? = w.heap[k]? := fun k hk => Below.heap_alloc w.drew _ k hk
  obtain ⟨st', hstep, hkk⟩ := turn_step (N := []) (N' := [(w.heap.size, .cells (rowCY (bts l) (List.replicate (cap - (ByteArray.mk l.toArray).size) (.int .u8 0))) e (z, z + 1))]) (H0 := H) st (by simp) (by simp) (fun q hq => by cases List.mem_singleton.1 hq; exact hnew) (fun k hk => .inr (by simp [keys] at hk; omega)) (fun k hk _ => hold k hk) (by simp) rfl rfl rfl
  have hcl : l.length ≤ cap := by rw [← hcap, size_sv]; exact grownCap_ge _ _ _ _
  have hk2 : Kp [] w (w.drew.alloc (.cells (rowCY (bts l) (List.replicate (cap - (ByteArray.mk l.toArray).size) (.int .u8 0))) e (z, z + 1))) := ⟨rfl, rfl, rfl, by simp, fun k hk _ => hold k hk⟩
  refine ⟨hstep, (d, _) :: F, (w.heap.size, _) :: H, m, (st'.perm List.perm_append_comm).put _ hd, fun k hk' => hkk k ?_, Mode.after_call hk2 hs hm, (h _ cap _ _ hcl).h⟩
  simp only [keys, List.map_cons, List.map_append, List.mem_cons, List.mem_append, List.map_nil] at hk' ⊢
  rcases hk' with h1 | h1
  · exact .inr (.inl h1)
  · exact .inl h1
theorem r_sub48 (hd : dstOk c.n (some d) = true) (hg : guardF F g = some true) (hx : ev F x = some (yv i)) (hy : ev F y = some (.int .u8 48)) (hi : 48 ≤ i ∧ i < 256)
    (h : JO c Q m r ((d, yv (i - 48)) :: F) H) : JO c Q m (⟨some d, .binOp .sub t x y t', ty, g, .mov, ns⟩ :: r) F H :=
  r_arith hd hg hx hy (fun w => by
    rw [binOp_sub]
    simp only [Op.intArith, Sem.run_pure, IntKind.wrap_u8]
    rw [show ((i : Int) - 48) % 256 = ((i - 48 : Nat) : Int) by omega]) h
end

/-- Whether a text begins with a minus sign. -/
def minus : List UInt8 → Bool
  | x :: _ => x == 45
  | [] => false
/-- The text behind the sign. -/
def body : List UInt8 → List UInt8
  | x :: l => if x == 45 then l else x :: l
  | [] => []
theorem body_len (l : List UInt8) : (body l).length ≤ l.length := by
  cases l with
  | nil => exact Nat.le_refl _
  | cons x l =>
    show (if (x == 45) = true then l else x :: l).length ≤ _
    split <;> simp

set_option maxHeartbeats 2000000 in
theorem c_HasPrefix (w : World) (l : List UInt8) (hl : l.length ≤ 1000000) :
    Calls Tryd.prog 76 #[sv l, sv [45]] w (Ret fun v w' => Kp [] w w' ∧ v = .bool (minus l)) := by
  have h1 : ((([45] : List UInt8).length : Nat) : Int) = 1 := rfl
  rcases l with _ | ⟨x, l⟩
  · have h0 : ((([] : List UInt8).length : Nat) : Int) = 0 := rfl
    refine calls_of_S [] [] (by simp) [] Tryd.func76 rfl mixed (by kernel_rfl) Tryd.ntmps76 Tryd.results76 rfl ⟨by simp, by simp⟩ (by simp) ?_
    simp only [toS, textOps, toSOp, kindAt, kindOf, odAt, sopsAt, ordOf, zipF]
    (repeat' (first | refine JC.seq ?_ | refine JC.ops ?_ | refine JO.nil ?_ | refine JX.thenN ?_ | (apply r_move; exact rfl; exact rfl; exact rfl) | (apply r_assign; exact rfl; exact rfl; exact rfl) | (apply r_pickF; exact rfl; exact rfl; exact rfl; exact rfl) | (apply r_lenS; exact rfl; exact rfl; exact rfl) | (apply r_geq; exact rfl; exact rfl; exact rfl; exact rfl; all_goals intro hc; all_goals try (exfalso; omega)) | refine JC.ret ?_ | (apply r_skip; exact rfl; exact rfl; (first | (intro h; cases h; done) | (intro _; rfl)))))
    exact JX.ret1 rfl (fun a w' st => ⟨st.kp, rfl⟩)
  · have h2 : (((x :: l).length : Nat) : Int) = l.length + 1 := by simp
    refine calls_of_S [] [] (by simp) [] Tryd.func76 rfl mixed (by kernel_rfl) Tryd.ntmps76 Tryd.results76 rfl ⟨by simp, by simp⟩ (by simp) ?_
    simp only [toS, textOps, toSOp, kindAt, kindOf, odAt, sopsAt, ordOf, zipF]
    (repeat' (first | refine JC.seq ?_ | refine JC.ops ?_ | refine JO.nil ?_ | refine JX.thenN ?_ | (apply r_move; exact rfl; exact rfl; exact rfl) | (apply r_assign; exact rfl; exact rfl; exact rfl) | (apply r_lenS; exact rfl; exact rfl; exact rfl) | (apply r_geq; exact rfl; exact rfl; exact rfl; exact rfl; all_goals intro hc; all_goals try (exfalso; omega))))
    refine r_toS (j := 1) rfl rfl rfl rfl (by simp) ?_
    (repeat' (first | refine JO.nil ?_ | refine JX.thenN ?_ | (apply r_move; exact rfl; exact rfl; exact rfl) | (apply r_assign; exact rfl; exact rfl; exact rfl) | (apply r_pickT; exact rfl; exact rfl; exact rfl; exact rfl) | (apply r_eqS; exact rfl; exact rfl; exact rfl; exact rfl) | refine JC.ret ?_))
    refine JX.ret1 rfl (fun a w' st => ⟨st.kp, ?_⟩)
    show Value.bool (decide ((x :: l).take 1 = [45])) = .bool (x == 45)
    congr 1
    simp [List.take]
    rfl

set_option maxHeartbeats 2000000 in
theorem c_CutPrefix0 (w : World) (l : List UInt8) (hl : l.length ≤ 1000000) :
    Calls Tryd.prog 69 #[sv l, sv [45]] w (Ret fun v w' => Kp [] w w' ∧ v = .tuple #[sv (body l), .bool (minus l)]) := by
  by_cases hm : minus l = true
  · refine calls_of_S [] [] (by simp) [] Tryd.func69 rfl mixed (by kernel_rfl) Tryd.ntmps69 Tryd.results69 rfl ⟨by simp, by simp⟩ (by simp) ?_
    simp only [toS, textOps, toSOp, kindAt, kindOf, odAt, sopsAt, ordOf, zipF]
    (repeat' (first | refine JC.seq ?_ | refine JC.ops ?_ | refine JO.nil ?_ | refine JX.thenN ?_ | (apply r_move; exact rfl; exact rfl; exact rfl) | (apply r_assign; exact rfl; exact rfl; exact rfl)))
    refine r_call0 trivial rfl rfl rfl (fun w hk hs => c_HasPrefix w l hl) fun w v w' _ _ _ hR => ?_
    rw [hm] at hR
    subst hR
    rcases l with _ | ⟨x, l⟩
    · cases hm
    (repeat' (first | refine JC.seq ?_ | refine JC.ops ?_ | refine JO.nil ?_ | refine JX.thenN ?_ | (apply r_move; exact rfl; exact rfl; exact rfl) | (apply r_assign; exact rfl; exact rfl; exact rfl) | (apply r_not; exact rfl; exact rfl; exact rfl) | (apply r_lenS; exact rfl; exact rfl; exact rfl) | (apply r_fromS1; exact rfl; exact rfl; exact rfl; exact rfl) | refine JC.skip ?_ | refine JC.ret ?_ | refine JC.condF rfl ?_))
    refine JX.ret2 rfl rfl (fun a w' st => ⟨st.kp, ?_⟩)
    rw [hm]
    have : (x == 45) = true := hm
    show _ = Value.tuple #[sv (if (x == 45) = true then l else x :: l), .bool true]
    rw [if_pos this]
  · have hm : minus l = false := by simpa using hm
    refine calls_of_S [] [] (by simp) [] Tryd.func69 rfl mixed (by kernel_rfl) Tryd.ntmps69 Tryd.results69 rfl ⟨by simp, by simp⟩ (by simp) ?_
    simp only [toS, textOps, toSOp, kindAt, kindOf, odAt, sopsAt, ordOf, zipF]
    (repeat' (first | refine JC.seq ?_ | refine JC.ops ?_ | refine JO.nil ?_ | refine JX.thenN ?_ | (apply r_move; exact rfl; exact rfl; exact rfl) | (apply r_assign; exact rfl; exact rfl; exact rfl)))
    refine r_call0 trivial rfl rfl rfl (fun w hk hs => c_HasPrefix w l hl) fun w v w' _ _ _ hR => ?_
    rw [hm] at hR
    subst hR
    (repeat' (first | refine JC.seq ?_ | refine JC.ops ?_ | refine JO.nil ?_ | refine JX.thenN ?_ | (apply r_move; exact rfl; exact rfl; exact rfl) | (apply r_assign; exact rfl; exact rfl; exact rfl) | (apply r_not; exact rfl; exact rfl; exact rfl) | refine JX.thenR ?_ | refine JC.ret ?_ | refine JC.condT rfl ?_))
    refine JX.ret2 rfl rfl (fun a w' st => ⟨st.kp, ?_⟩)
    rw [hm]
    rcases l with _ | ⟨x, l⟩
    · rfl
    · have : ¬ ((x == 45) = true) := by simpa [minus] using hm
      show _ = Value.tuple #[sv (if (x == 45) = true then l else x :: l), .bool false]
      rw [if_neg this]

set_option maxHeartbeats 2000000 in
theorem c_CutPrefix (w : World) (l : List UInt8) (hl : l.length ≤ 1000000) :
    Calls Tryd.prog 56 #[sv l, sv [45]] w (Ret fun v w' => Kp [] w w' ∧ v = .tuple #[sv (body l), .bool (minus l)]) := by
  refine calls_of_S [] [] (by simp) [] Tryd.func56 rfl mixed (by kernel_rfl) Tryd.ntmps56 Tryd.results56 rfl ⟨by simp, by simp⟩ (by simp) ?_
  simp only [toS, textOps, toSOp, kindAt, kindOf, odAt, sopsAt, ordOf, zipF]
  (repeat' (first | refine JC.seq ?_ | refine JC.ops ?_ | refine JO.nil ?_ | refine JX.thenN ?_ | (apply r_move; exact rfl; exact rfl; exact rfl) | (apply r_assign; exact rfl; exact rfl; exact rfl)))
  refine r_call0 trivial rfl rfl rfl (fun w hk hs => c_CutPrefix0 w l hl) fun w v w' _ _ _ hR => ?_
  subst hR
  (repeat' (first | refine JO.nil ?_ | refine JX.thenN ?_ | (apply r_assign; exact rfl; exact rfl; exact rfl) | (apply r_extract; exact rfl; exact rfl; exact rfl; exact rfl) | refine JC.ret ?_))
  exact JX.ret2 rfl rfl (fun a w' st => ⟨st.kp, rfl⟩)

/-- The number that a text of digits says. -/
def pnum (l : List UInt8) : Nat := l.foldl (fun v c => 10 * v + (c.toNat - 48)) 0
def digit (c : UInt8) : Bool := Nat.ble 48 c.toNat && Nat.ble c.toNat 57
theorem pnum_snoc (l : List UInt8) (c : UInt8) : pnum (l ++ [c]) = 10 * pnum l + (c.toNat - 48) := by
  unfold pnum
  rw [List.foldl_append]
  rfl
theorem take_snoc {l : List UInt8} {i : Nat} (h : i < l.length) : l.take (i + 1) = l.take i ++ [l[i]] := by
  rw [List.take_add_one, List.getElem?_eq_getElem h]
  rfl
theorem bts_at {l : List UInt8} {i : Nat} (h : i < l.length) : (bts l).getD i 0 = (l[i]).toNat := by simp [bts, List.getD, h]
theorem pnum_take {l : List UInt8} {i : Nat} (h : i < l.length) : pnum (l.take (i + 1)) = 10 * pnum (l.take i) + ((bts l).getD i 0 - 48) := by
  rw [take_snoc h, pnum_snoc, bts_at h]
theorem digit_iff (c : UInt8) : digit c = true ↔ 48 ≤ c.toNat ∧ c.toNat ≤ 57 := by simp [digit]
theorem pnum_lt_take {l : List UInt8} : ∀ i, i ≤ l.length → (∀ c ∈ l.take i, digit c = true) → pnum (l.take i) < 10 ^ i
  | 0, _, _ => by simp [pnum]
  | i + 1, h, hd => by
    have h0 : i < l.length := h
    rw [take_snoc h0] at hd ⊢
    have h1 := pnum_lt_take (l := l) i (by omega) fun c hc => hd c (List.mem_append.2 (.inl hc))
    have h2 := (digit_iff _).1 (hd (l[i]) (List.mem_append.2 (.inr (List.mem_singleton.2 rfl))))
    rw [pnum_snoc, Nat.pow_succ]
    omega
/-- What Parse returns. -/
def PRes (l : List UInt8) : Value := if (body l).all digit then .tuple #[Wv (sgn (minus l) (pnum (body l))), .bool (decide (body l ≠ []))] else .tuple #[Wv 0, .bool false]


set_option maxHeartbeats 8000000 in
theorem c_Parse (w : World) (l : List UInt8) (hl : l.length ≤ 1000) :
    Calls Tryd.prog 23 #[sv l] w (Ret fun v w' => Kp [] w w' ∧ v = PRes l) := by
  have hbl := body_len l
  refine calls_of_S [⟨3, 0, [], [(1, .seq)]⟩] [] (by simp) [] Tryd.func23 rfl mixed (by kernel_rfl) Tryd.ntmps23 Tryd.results23 rfl ⟨by simp, by simp⟩ (by simp) ?_
  simp only [toS, textOps, toSOp, kindAt, kindOf, odAt, sopsAt, ordOf, zipF]
  (repeat' (first | refine JC.seq ?_ | refine JC.ops ?_ | refine JO.nil ?_ | refine JX.thenN ?_ | (apply r_move; exact rfl; exact rfl; exact rfl) | (apply r_assign; exact rfl; exact rfl; exact rfl) | (apply r_allocZ; exact rfl; exact rfl; exact rfl; intro _)))
  rename_i b2
  refine r_call0 trivial rfl rfl rfl (fun w hk hs => c_CutPrefix w l (by omega)) fun w v w' _ _ _ hR => ?_
  subst hR
  unfold PRes
  generalize minus l = neg
  generalize body l = t at hbl
  (repeat' (first | refine JC.seq ?_ | refine JC.ops ?_ | refine JO.nil ?_ | refine JX.thenN ?_ | (apply r_move; exact rfl; exact rfl; exact rfl) | (apply r_assign; exact rfl; exact rfl; exact rfl) | (apply r_extract; exact rfl; exact rfl; exact rfl; exact rfl)))
  refine r_toBytes trivial rfl rfl rfl (fun bc cap rest fz hcap => ?_)
  have hbt := bts_len t
  have hRd : ∀ c, RdY c [(bc, .cells (rowCY (bts t) rest) 5 fz)] (.slice (some ⟨bc, 0, none⟩) t.length cap) t.length (bts t) := fun c => RdY.blk (by simp [hbt]) hcap
  (repeat' (first | refine JO.nil ?_ | refine JX.thenN ?_ | (apply r_move; exact rfl; exact rfl; exact rfl) | (apply r_len; exact rfl; exact rfl; exact rfl) | refine JC.block ?_))
  refine JC.loopH (ι := Nat × Value × SHeap × List Nat) ⟨fun z => [(17, nv z.1), (16, nv t.length), (15, .slice (some ⟨bc, 0, none⟩) t.length cap), (6, z.2.1), (5, .bool neg), (4, sv t), (2, .pointer (some ⟨b2, 0, none⟩))],
    fun z => (bc, .cells (rowCY (bts t) rest) 5 fz) :: (b2, .cells #[.bool false, .string ⟨#[]⟩] 27 (0, 0)) :: (z.2.2.1 ++ []),
    fun z => z.1 ≤ t.length ∧ OwnU z.2.2.1 z.2.1 z.2.2.2.length z.2.2.2 ∧ Dig W32 z.2.2.2 ∧ val W32 z.2.2.2 = pnum (t.take z.1) ∧ ∀ c ∈ t.take z.1, digit c = true, fun z => t.length - z.1⟩
    (0, _, [], []) ⟨Nat.zero_le _, OwnU.nil, Dig.nil _, rfl, by simp⟩ (by repeat first | exact trivial | refine ⟨rfl, ?_⟩) (by (repeat' first | exact HSub.refl _ | exact HSub.nil _ | refine HSub.at 0 rfl ?_ | refine HSub.at 1 rfl ?_ | refine HSub.at 2 rfl ?_ | refine HSub.at 3 rfl ?_ | refine HSub.at 4 rfl ?_ | refine HSub.at 5 rfl ?_ | refine HSub.at 6 rfl ?_ | refine HSub.at 7 rfl ?_ | refine HSub.at 8 rfl ?_ | refine HSub.at 9 rfl ?_ | refine HSub.at 10 rfl ?_ | refine HSub.at 11 rfl ?_ | refine HSub.at 12 rfl ?_ | refine HSub.at 13 rfl ?_ | refine HSub.at 14 rfl ?_ | refine HSub.at 15 rfl ?_ | refine HSub.at 16 rfl ?_ | refine HSub.at 17 rfl ?_ | refine HSub.at 18 rfl ?_ | refine HSub.at 19 rfl ?_ | refine HSub.segH ?_ | refine HSub.skip ?_ | refine HSub.skipN ?_)) (fun z hz => ?_)
  obtain ⟨i, vx, N, zs⟩ := z
  obtain ⟨hi, hO, hz, hval, hdig⟩ := hz
  dsimp only at hi hO hz hval hdig ⊢
  have hlt := pnum_lt_take i hi hdig
  have hzl : zs.length ≤ i := hz.len_le (by decide) (by
    rw [hval]
    exact Nat.lt_of_lt_of_le hlt (Nat.pow_le_pow_left (by decide) i))
  obtain ⟨Ax, cx, rfl⟩ := hO.form
  by_cases hin : i < t.length
  · have hb256 : (bts t).getD i 0 < 256 := bts_lt
    have hR1 := hRd
    have hti := bts_at hin
    by_cases hd : 48 ≤ (bts t).getD i 0 ∧ (bts t).getD i 0 ≤ 57
    · have hdi : digit t[i] = true := (digit_iff _).2 (by rw [← hti]; exact hd)
      have hd0 := hd.1
      have hd9 := hd.2
      (repeat' (first | refine JC.seq ?_ | refine JC.ops ?_ | refine JO.nil ?_ | refine JX.thenN ?_ | (apply r_lss; exact rfl; exact rfl; exact rfl; exact rfl; all_goals intro hc; all_goals try (exfalso; omega)) | refine JC.skip ?_ | refine JC.condT rfl ?_ | refine JC.block ?_))
      refine r_idxY rfl rfl rfl rfl (hRd _) hin ?_
      refine r_ldY rfl rfl rfl rfl (hRd _) (by (repeat' first | exact HSub.nil _ | exact HSub.hd | exact HSub.in0 | exact HSub.refl _ | refine HSub.skip ?_ | refine HSub.skipN ?_)) hin ?_
      (repeat' (first | refine JC.seq ?_ | refine JC.ops ?_ | refine JO.nil ?_ | refine JX.thenN ?_ | (apply r_move; exact rfl; exact rfl; exact rfl) | (apply r_assign; exact rfl; exact rfl; exact rfl) | (apply r_pickF; exact rfl; exact rfl; exact rfl; exact rfl) | (apply r_lss; exact rfl; exact rfl; exact rfl; exact rfl; all_goals intro hc; all_goals try (exfalso; omega)) | (apply r_gtr; exact rfl; exact rfl; exact rfl; exact rfl; all_goals intro hc; all_goals try (exfalso; omega)) | (apply r_build1; exact rfl; exact rfl; exact rfl; exact rfl; exact rfl; (repeat first | exact trivial | refine ⟨rfl, ?_⟩); decide; decide; intro _) | refine JC.skip ?_ | refine JC.condF rfl ?_))
      rename_i b10
      have hO10 : OwnU [(b10, .cells ⟨[.int .u64 10]⟩ 68)] (.slice (some ⟨b10, 0, none⟩) 1 1) 1 [10] := own_litU b10 1 [10] _ rfl rfl (by omega)
      refine r_callA (A := [_, _, _]) rfl trivial rfl rfl rfl (fun w hk hs => c_mulW w _ _ _ _ _ _ (hO.rd.at hk hs (by (repeat' first | exact HSub.nil _ | exact HSub.hd | exact HSub.in0 | exact HSub.refl _ | refine HSub.skip ?_ | refine HSub.skipN ?_))) (hO10.rd.at hk hs (by (repeat' first | exact HSub.nil _ | exact HSub.hd | exact HSub.in0 | exact HSub.refl _ | refine HSub.skip ?_ | refine HSub.skipN ?_))) hz.lt (fun x hx => by rw [List.mem_singleton] at hx; rw [hx]; decide) (by omega) (by omega)) fun w v w' _ _ _ hR => ?_
      obtain ⟨N1, zs1, hN1, hO1, hz1, hval1⟩ := hR
      refine ⟨N1, hN1, ?_⟩
      rw [val_one, hval] at hval1
      have hzl1 : zs1.length ≤ i + 1 := hz1.len_le (by decide) (by
        rw [hval1]
        refine Nat.lt_of_lt_of_le ?_ (Nat.pow_le_pow_left (show 10 ≤ W32 by decide) (i + 1))
        rw [Nat.pow_succ]
        omega)
      (repeat' (first | (apply r_move; exact rfl; exact rfl; exact rfl)))
      refine r_sub48 rfl rfl rfl rfl (by omega) ?_
      have hb64 : (bts t).getD i 0 - 48 < 18446744073709551616 := by omega
      (repeat' (first | (apply r_toU64; exact rfl; exact rfl; exact rfl; (first | assumption | omega)) | (apply r_build1; exact rfl; exact rfl; exact rfl; exact rfl; exact rfl; (repeat first | exact trivial | refine ⟨rfl, ?_⟩); decide; decide; intro _)))
      rename_i b11
      have hO11 : OwnU [(b11, .cells ⟨[uv ((bts t).getD i 0 - 48)]⟩ 68)] (.slice (some ⟨b11, 0, none⟩) 1 1) 1 [(bts t).getD i 0 - 48] := own_litU b11 1 [(bts t).getD i 0 - 48] _ rfl rfl (by omega)
      refine r_call0 trivial rfl rfl rfl (fun w hk hs => c_norm w _ _ _ _ (hO11.rd.at hk hs (by (repeat' first | exact HSub.nil _ | exact HSub.hd | exact HSub.in0 | exact HSub.refl _ | refine HSub.skip ?_ | refine HSub.skipN ?_))) (by omega)) fun w v w' _ _ _ hR => ?_
      obtain ⟨k3, hk3, rfl, hn3⟩ := hR
      have hO3' := hO11.hd hk3
      rw [← hn3] at hO3'
      skip
      refine r_callA (A := [_, _, _, _]) rfl trivial rfl rfl rfl (fun w hk hs => c_add w _ _ _ _ _ _ (hO1.rd.at hk hs (by (repeat' first | exact HSub.nil _ | exact HSub.hd | exact HSub.in0 | exact HSub.refl _ | refine HSub.skip ?_ | refine HSub.skipN ?_))) (hO3'.rd.at hk hs (by (repeat' first | exact HSub.nil _ | exact HSub.hd | exact HSub.in0 | exact HSub.refl _ | refine HSub.skip ?_ | refine HSub.skipN ?_))) hz1.lt (fun x hx => by
        have := nrm_mem x hx
        rw [List.mem_singleton] at this
        rw [this]
        show _ < 4294967296
        omega) (by omega) (by omega)) fun w v w' _ _ _ hR => ?_
      obtain ⟨N2, zs2, hN2, hO2, hz2, hval2⟩ := hR
      refine ⟨N2, hN2, ?_⟩
      rw [val_nrm_one, hval1] at hval2
      (repeat' (first | refine JC.ops ?_ | refine JO.nil ?_ | refine JX.thenN ?_ | (apply r_move; exact rfl; exact rfl; exact rfl) | (apply r_assign; exact rfl; exact rfl; exact rfl) | (apply r_add1; exact rfl; exact rfl; exact rfl; exact rfl; omega) | refine JX.blockN ?_))
      refine JX.roundH (i + 1, _, N2, zs2) ⟨by dsimp only; omega, hO2, hz2, ?_, ?_⟩ (by dsimp only; omega) (by repeat first | exact trivial | refine ⟨rfl, ?_⟩) (by (repeat' first | exact HSub.refl _ | exact HSub.nil _ | refine HSub.at 0 rfl ?_ | refine HSub.at 1 rfl ?_ | refine HSub.at 2 rfl ?_ | refine HSub.at 3 rfl ?_ | refine HSub.at 4 rfl ?_ | refine HSub.at 5 rfl ?_ | refine HSub.at 6 rfl ?_ | refine HSub.at 7 rfl ?_ | refine HSub.at 8 rfl ?_ | refine HSub.at 9 rfl ?_ | refine HSub.at 10 rfl ?_ | refine HSub.at 11 rfl ?_ | refine HSub.at 12 rfl ?_ | refine HSub.at 13 rfl ?_ | refine HSub.at 14 rfl ?_ | refine HSub.at 15 rfl ?_ | refine HSub.at 16 rfl ?_ | refine HSub.at 17 rfl ?_ | refine HSub.at 18 rfl ?_ | refine HSub.at 19 rfl ?_ | refine HSub.segH ?_ | refine HSub.skip ?_ | refine HSub.skipN ?_))
      · dsimp only
        rw [hval2, pnum_take hin, Nat.mul_comm]
      · dsimp only
        rw [take_snoc hin]
        intro c hc
        rcases List.mem_append.1 hc with h | h
        · exact hdig c h
        · rw [List.mem_singleton] at h; rw [h]; exact hdi
    · have hnall : ¬ (t.all digit = true) := fun h => hd (by
        rw [hti]
        exact (digit_iff _).1 (List.all_eq_true.1 h _ (List.getElem_mem hin)))
      rw [if_neg hnall]
      by_cases hd1 : (bts t).getD i 0 < 48
      · (repeat' (first | refine JC.seq ?_ | refine JC.ops ?_ | refine JO.nil ?_ | refine JX.thenN ?_ | (apply r_lss; exact rfl; exact rfl; exact rfl; exact rfl; all_goals intro hc; all_goals try (exfalso; omega)) | refine JC.skip ?_ | refine JC.condT rfl ?_ | refine JC.block ?_))
        refine r_idxY rfl rfl rfl rfl (hRd _) hin ?_
        refine r_ldY rfl rfl rfl rfl (hRd _) (by (repeat' first | exact HSub.nil _ | exact HSub.hd | exact HSub.in0 | exact HSub.refl _ | refine HSub.skip ?_ | refine HSub.skipN ?_)) hin ?_
        (repeat' (first | refine JC.seq ?_ | refine JC.ops ?_ | refine JO.nil ?_ | refine JX.thenN ?_ | (apply r_move; exact rfl; exact rfl; exact rfl) | (apply r_assign; exact rfl; exact rfl; exact rfl) | (apply r_pickT; exact rfl; exact rfl; exact rfl; exact rfl) | (apply r_storeN; exact rfl; (first | exact trivial | exact ⟨rfl, rfl⟩); exact rfl; exact rfl; (first | exact at0 | exact at1 | exact at2 | exact at3 | exact at4 | exact at5 | exact at6 | exact at7 | exact at8 | exact at9); exact rfl; exact rfl; exact rfl) | (apply r_lss; exact rfl; exact rfl; exact rfl; exact rfl; all_goals intro hc; all_goals try (exfalso; omega)) | (apply r_buildL; exact rfl; exact rfl; exact rfl; exact rfl; exact rfl) | (apply r_storeN; exact rfl; (first | exact trivial | exact ⟨rfl, rfl⟩); exact rfl; exact rfl; (first | exact at0 | exact at1 | exact at2 | exact at3 | exact at4 | exact at5 | exact at6 | exact at7 | exact at8 | exact at9); exact rfl; exact rfl; exact rfl) | refine JX.thenR ?_ | refine JC.ret ?_ | refine JC.condT rfl ?_ | refine JX.blockR ?_ | (apply r_skip; exact rfl; exact rfl; (first | (intro h; cases h; done) | (intro _; rfl)))))
        exact JX.retCT 1 rfl rfl rfl rfl (fun a w' st => ⟨st.kp, rfl⟩)
      · have hd2 : 57 < (bts t).getD i 0 := by omega
        (repeat' (first | refine JC.seq ?_ | refine JC.ops ?_ | refine JO.nil ?_ | refine JX.thenN ?_ | (apply r_lss; exact rfl; exact rfl; exact rfl; exact rfl; all_goals intro hc; all_goals try (exfalso; omega)) | refine JC.skip ?_ | refine JC.condT rfl ?_ | refine JC.block ?_))
        refine r_idxY rfl rfl rfl rfl (hRd _) hin ?_
        refine r_ldY rfl rfl rfl rfl (hRd _) (by (repeat' first | exact HSub.nil _ | exact HSub.hd | exact HSub.in0 | exact HSub.refl _ | refine HSub.skip ?_ | refine HSub.skipN ?_)) hin ?_
        (repeat' (first | refine JC.seq ?_ | refine JC.ops ?_ | refine JO.nil ?_ | refine JX.thenN ?_ | (apply r_move; exact rfl; exact rfl; exact rfl) | (apply r_assign; exact rfl; exact rfl; exact rfl) | (apply r_pickF; exact rfl; exact rfl; exact rfl; exact rfl) | (apply r_storeN; exact rfl; (first | exact trivial | exact ⟨rfl, rfl⟩); exact rfl; exact rfl; (first | exact at0 | exact at1 | exact at2 | exact at3 | exact at4 | exact at5 | exact at6 | exact at7 | exact at8 | exact at9); exact rfl; exact rfl; exact rfl) | (apply r_lss; exact rfl; exact rfl; exact rfl; exact rfl; all_goals intro hc; all_goals try (exfalso; omega)) | (apply r_gtr; exact rfl; exact rfl; exact rfl; exact rfl; all_goals intro hc; all_goals try (exfalso; omega)) | (apply r_buildL; exact rfl; exact rfl; exact rfl; exact rfl; exact rfl) | (apply r_storeN; exact rfl; (first | exact trivial | exact ⟨rfl, rfl⟩); exact rfl; exact rfl; (first | exact at0 | exact at1 | exact at2 | exact at3 | exact at4 | exact at5 | exact at6 | exact at7 | exact at8 | exact at9); exact rfl; exact rfl; exact rfl) | refine JX.thenR ?_ | refine JC.ret ?_ | refine JC.condT rfl ?_ | refine JX.blockR ?_))
        exact JX.retCT 1 rfl rfl rfl rfl (fun a w' st => ⟨st.kp, rfl⟩)
  · obtain rfl : i = t.length := by omega
    rw [List.take_length] at hval hdig
    rw [if_pos (List.all_eq_true.2 hdig)]
    (repeat' (first | refine JC.seq ?_ | refine JC.ops ?_ | refine JO.nil ?_ | refine JX.thenN ?_ | (apply r_move; exact rfl; exact rfl; exact rfl) | (apply r_lss; exact rfl; exact rfl; exact rfl; exact rfl; all_goals intro hc; all_goals try (exfalso; omega)) | refine JX.thenE ?_ | refine JC.exit ?_ | refine JC.condF rfl ?_ | refine JX.blockE ?_))
    refine r_call0 trivial rfl rfl rfl (fun w hk hs => c_wide w _ _ zs neg (hO.rd.at hk hs (by (repeat' first | exact HSub.nil _ | exact HSub.hd | exact HSub.in0 | exact HSub.refl _ | refine HSub.skip ?_ | refine HSub.skipN ?_))) hz.lt (by omega)) fun w v w' _ _ _ hR => ?_
    rw [hval] at hR
    subst hR
    (repeat' (first | refine JO.nil ?_ | refine JX.thenN ?_ | (apply r_move; exact rfl; exact rfl; exact rfl) | (apply r_assign; exact rfl; exact rfl; exact rfl) | (apply r_storeN; exact rfl; (first | exact trivial | exact ⟨rfl, rfl⟩); exact rfl; exact rfl; (first | exact at0 | exact at1 | exact at2 | exact at3 | exact at4 | exact at5 | exact at6 | exact at7 | exact at8 | exact at9); exact rfl; exact rfl; exact rfl) | (apply r_neS; exact rfl; exact rfl; exact rfl; exact rfl) | (apply r_storeN; exact rfl; (first | exact trivial | exact ⟨rfl, rfl⟩); exact rfl; exact rfl; (first | exact at0 | exact at1 | exact at2 | exact at3 | exact at4 | exact at5 | exact at6 | exact at7 | exact at8 | exact at9); exact rfl; exact rfl; exact rfl) | refine JC.ret ?_))
    exact JX.retCT 1 rfl rfl rfl rfl (fun a w' st => ⟨st.kp, rfl⟩)

end Go.Proofs.YtdehklhdjbkneaaDoor

/- Mod, Made, and the numbers of the laws' arguments. -/
namespace Go.Proofs.YtdehklhdjbkneaaDoor
open Go Go.RowKit
set_option linter.unusedSimpArgs false
set_option linter.unusedVariables false
set_option linter.unusedSectionVars false

theorem WY.hd {w : World} {A : Option Addr} {n k cap : Nat} {xs : List Nat} (hv : WY w (.slice A n cap) n xs) (hk : k ≤ n) : WY w (.slice A k cap) k (xs.take k) := by
  have hl := hv.len
  obtain ⟨h1, A', cap', h2, h3, h4⟩ := hv
  simp only [Value.slice.injEq] at h2
  obtain ⟨rfl, _, rfl⟩ := h2
  refine ⟨by simp; omega, A, cap, rfl, by omega, fun h0 => ⟨(h4 (by omega)).1, fun j u hu => ?_⟩⟩
  obtain ⟨⟨b, o, rfl⟩, h5⟩ := h4 (by omega)
  refine h5 j u ?_
  rw [List.map_take, List.getElem?_take] at hu
  split at hu
  · exact hu
  · cases hu
theorem WY.cap {w : World} {A : Option Addr} {n cap : Nat} {xs : List Nat} (h : WY w (.slice A n cap) n xs) : n ≤ cap := by
  obtain ⟨_, A', cap', h2, h3, _⟩ := h
  simp only [Value.slice.injEq] at h2
  obtain ⟨_, _, rfl⟩ := h2
  exact h3

section
variable {c : Cx} {Q : Exit → Act → World → Prop} {m : Mode} {F : SFrame} {H : SHeap} {r : List SOp} {g : Option (Option Tmp × Bool)} {ns : Bool} {d : Tmp} {ty t t' : TypeId} {x y : Operand}
/-- An append of bytes, as many as may be. -/
theorem r_appendYB {A B N N2 : SHeap} {v v2 : Value} {n k : Nat} {xs ys : List Nat} [TSl c.P t 5] [TE c.P 5 1 1 #[(.int .u8 0)]] (hO : OwnY N v n xs) (h2 : RdY c N2 v2 k ys) (hN2 : HSub N2 H) (hH : H = A ++ (N ++ B)) (hm : m.mayStore ns r) (hd : dstOk c.n (some d) = true) (hg : guardF F g = some true) (hx : ev F x = some v) (hy : ev F y = some v2)
    (hb : n + k ≤ 140737488355328) (h : ∀ v' N', OwnY N' v' (n + k) (xs ++ ys) → JO c Q m.spent r ((d, v') :: F) (A ++ (N' ++ B))) :
    JO c Q m (⟨some d, .call ⟨.builtin .append, #[x, y], #[t, t]⟩, ty, g, .seq, ns⟩ :: r) F H :=
  r_appendA (e := 5) (sz := 1) (bytes := 1) (zc := #[(.int .u8 0)]) (xs := xs.map yv) (news := ys.map yv) (n := n) (mm := k) rfl hO h2 hN2 hH hm hd hg hx hy (fun u hu => by obtain ⟨a, _, rfl⟩ := List.mem_map.1 hu; rfl) (by simp only [maxLen]; omega) (by omega) (fun v' N' h' => h v' N' (by unfold OwnY; rw [List.map_append]; exact h'))
theorem r_appendYBL {A B N N2 Hs : SHeap} {v v2 : Value} {n k : Nat} {xs ys : List Nat} [TSl c.P t 5] [TE c.P 5 1 1 #[(.int .u8 0)]] (hO : OwnY N v n xs) (h2 : RdY c N2 v2 k ys) (hN2 : HSub N2 H) (hH : H = A ++ (N ++ B)) (hm : HSub Hs (A ++ B)) (hd : dstOk c.n (some d) = true) (hg : guardF F g = some true) (hx : ev F x = some v) (hy : ev F y = some v2)
    (hb : n + k ≤ 140737488355328) (h : ∀ v' N', OwnY N' v' (n + k) (xs ++ ys) → JO c Q (.draw Hs true) r ((d, v') :: F) (A ++ (N' ++ B))) :
    JO c Q (.draw Hs true) (⟨some d, .call ⟨.builtin .append, #[x, y], #[t, t]⟩, ty, g, .seq, ns⟩ :: r) F H :=
  r_appendL (e := 5) (sz := 1) (bytes := 1) (zc := #[(.int .u8 0)]) (xs := xs.map yv) (news := ys.map yv) (n := n) (mm := k) rfl hO h2 hN2 hH hm hd hg hx hy (fun u hu => by obtain ⟨a, _, rfl⟩ := List.mem_map.1 hu; rfl) (by simp only [maxLen]; omega) (by omega) (fun v' N' h' => h v' N' (by unfold OwnY; rw [List.map_append]; exact h'))
end

theorem tmod_bd (n : Int) {m : Nat} (hm : 0 < m) : -(m : Int) < n.tmod m ∧ n.tmod m < m ∧ (n.tmod m + m).tmod m = ((n % m).toNat : Int) := by
  have e := Int.mul_tdiv_add_tmod n m
  have h1 : n.tmod m < m := Int.tmod_lt_of_pos _ (by omega)
  have h2 : -(m : Int) < n.tmod m := by
    have h := Int.tmod_lt_of_pos (-n) (show (0 : Int) < m by omega)
    rw [Int.neg_tmod] at h
    omega
  refine ⟨h2, h1, ?_⟩
  rw [Int.tmod_eq_emod_of_nonneg (by omega), Int.toNat_of_nonneg (Int.emod_nonneg _ (by omega))]
  have h3 : n.tmod m + m = n + m * (1 - n.tdiv m) := by rw [Int.mul_sub]; omega
  rw [h3, Int.add_mul_emod_self_left]

set_option maxHeartbeats 2000000 in
theorem c_Mod (w : World) (n : Int) (m : Nat) (hm : 0 < m) (hm2 : m < 1000) :
    Calls Tryd.prog 37 #[iv n, nv m] w (Ret fun v w' => Kp [] w w' ∧ v = nv (n % m).toNat ∧ (n % m).toNat < m) := by
  obtain ⟨b1, b2, b3⟩ := tmod_bd n hm
  have hlt : (n % m).toNat < m := by
    have h1 := Int.emod_nonneg n (show (m : Int) ≠ 0 by omega)
    have h2 := Int.emod_lt_of_pos n (show (0 : Int) < m by omega)
    omega
  refine calls_of_S [] [] (by simp) [] Tryd.func37 rfl mixed (by kernel_rfl) Tryd.ntmps37 Tryd.results37 rfl ⟨by simp, by simp⟩ (by simp) ?_
  simp only [toS, textOps, toSOp, kindAt, kindOf, odAt, sopsAt, ordOf, zipF]
  (repeat' (first | refine JC.seq ?_ | refine JC.ops ?_ | refine JO.nil ?_ | refine JX.thenN ?_ | (apply r_move; exact rfl; exact rfl; exact rfl) | (apply r_assign; exact rfl; exact rfl; exact rfl) | (apply r_add; exact rfl; exact rfl; exact rfl; exact rfl; omega) | (apply r_mod; exact rfl; exact rfl; exact rfl; exact rfl; omega) | refine JC.ret ?_))
  exact JX.ret1 rfl (fun a w' st => ⟨st.kp, by rw [b3], hlt⟩)

set_option maxHeartbeats 2000000 in
theorem c_Made (w : World) (v : Value) (n : Nat) (xs : List Nat) (neg : Bool) (hv : WY w v n xs) (hx : ∀ x ∈ xs, x < 256) (hn : n ≤ 140737488355328) :
    Calls Tryd.prog 41 #[v, .bool neg] w (Ret fun v w' => Kp [] w w' ∧ ∃ l, v = wv neg l ∧ l.length ≤ 40) := by
  have hlx := hv.len
  obtain ⟨k, hk, hk40, hmin⟩ : ∃ k : Nat, k ≤ n ∧ k ≤ 40 ∧ (if (40 : Int) < (n : Int) then (40 : Int) else (n : Int)) = (k : Int) := by
    by_cases h : 40 < n
    · exact ⟨40, by omega, by omega, by rw [if_pos (by omega)]; rfl⟩
    · exact ⟨n, by omega, by omega, by rw [if_neg (by omega)]⟩
  refine calls_of_S [⟨1, 0, [], [(6, .seq)]⟩] [] (by simp) [] Tryd.func41 rfl mixed (by kernel_rfl) Tryd.ntmps41 Tryd.results41 rfl ⟨by simp, by simp⟩ (by simp) ?_
  simp only [toS, textOps, toSOp, kindAt, kindOf, odAt, sopsAt, ordOf, zipF]
  (repeat' (first | refine JC.seq ?_ | refine JC.ops ?_ | refine JO.nil ?_ | refine JX.thenN ?_ | (apply r_move; exact rfl; exact rfl; exact rfl) | (apply r_min; exact rfl; exact rfl; exact rfl; exact rfl) | (apply r_lenY; exact rfl; exact rfl; exact rfl; (first | assumption | exact WY.rd (by assumption) rfl [] | exact OwnY.rd (by assumption))) | (apply r_allocZ; exact rfl; exact rfl; exact rfl; intro _)))
  rw [hmin]
  refine r_sliceY (l := 0) (h' := k) rfl rfl rfl (WY.rd hv rfl []) rfl rfl (.inr ⟨rfl, rfl⟩) rfl rfl (.inl rfl) (by omega) hk (fun v' hRd _ => ?_)
  rw [List.drop_zero, Nat.sub_zero] at hRd
  refine r_toStr (fun u hu => hx u (List.mem_of_mem_take hu)) hRd (by (repeat' first | exact HSub.nil _ | exact HSub.hd | exact HSub.in0 | exact HSub.refl _ | refine HSub.skip ?_ | refine HSub.skipN ?_)) trivial rfl rfl rfl (fun l hl => ?_)
  (repeat' (first | refine JO.nil ?_ | refine JX.thenN ?_ | (apply r_storeN; exact rfl; (first | exact trivial | exact ⟨rfl, rfl⟩); exact rfl; exact rfl; (first | exact at0 | exact at1 | exact at2 | exact at3 | exact at4 | exact at5 | exact at6 | exact at7 | exact at8 | exact at9); exact rfl; exact rfl; exact rfl) | (apply r_buildL; exact rfl; exact rfl; exact rfl; exact rfl; exact rfl) | (apply r_storeN; exact rfl; (first | exact trivial | exact ⟨rfl, rfl⟩); exact rfl; exact rfl; (first | exact at0 | exact at1 | exact at2 | exact at3 | exact at4 | exact at5 | exact at6 | exact at7 | exact at8 | exact at9); exact rfl; exact rfl; exact rfl) | refine JC.ret ?_))
  exact JX.retC 0 rfl rfl rfl (fun a w' st => ⟨st.kp, l, rfl, by rw [← bts_len, hl]; simp; omega⟩)

set_option maxHeartbeats 2000000 in
theorem c_NumWide (w : World) (neg : Bool) (vb : Value) (z : Int) (n : Nat) (xs : List Nat) (hv : WY w vb n xs) (hx : ∀ x ∈ xs, x < 256) (hn : n ≤ 140737488351232) :
    Calls Tryd.prog 13 #[.agg #[.bool neg, vb, iv z]] w (Ret fun v w' => Kp [] w w' ∧ ∃ a, IsZ v a 40) := by
  refine calls_of_S [⟨1, 1, [0, 1, 4, 5, 7, 8, 2, 3, 6, 9, 10], []⟩] [] (by simp) [] Tryd.func13 rfl mixed (by kernel_rfl) Tryd.ntmps13 Tryd.results13 rfl ⟨by simp, by simp⟩ (by simp) ?_
  simp only [toS, textOps, toSOp, kindAt, kindOf, odAt, sopsAt, ordOf, zipF]
  (repeat' (first | refine JC.seq ?_ | refine JC.ops ?_ | refine JC.opsD ?_ | refine JO.nil ?_ | refine JX.thenN ?_ | (apply r_fieldAddr; exact rfl; exact rfl; exact rfl) | (apply r_load; exact rfl; exact rfl; exact rfl; exact rfl; (first | exact at0 | exact at1 | exact at2 | exact at3 | exact at4 | exact at5 | exact at6 | exact at7 | exact at8 | exact at9); exact rfl) | (apply r_allocZ; exact rfl; exact rfl; exact rfl; intro _) | (apply r_boxA; exact rfl; exact rfl; exact rfl; exact rfl; intro _)))
  rename_i b1 b2
  refine r_call0 (by first | trivial | exact ⟨rfl, rfl⟩) rfl rfl rfl (fun w hk hs => c_Mod w z 4 (by decide) (by decide)) fun w v w' _ _ _ hR => ?_
  obtain ⟨rfl, h4⟩ := hR
  generalize (z % (4 : Nat)).toNat = k at h4
  skip
  refine r_make (n := k) rfl rfl rfl rfl rfl (by omega) (by omega) (fun bz => ?_)
  have hO := own_zerosY bz k (by simp only [maxLen]; omega)
  skip
  refine r_appendYBL (A := []) (N := [(bz, _)]) (B := [_, _]) hO (WY.rd hv rfl []) (by (repeat' first | exact HSub.nil _ | exact HSub.hd | exact HSub.in0 | exact HSub.refl _ | refine HSub.skip ?_ | refine HSub.skipN ?_)) rfl (by (repeat' first | exact HSub.refl _ | exact HSub.nil _ | refine HSub.at 0 rfl ?_ | refine HSub.at 1 rfl ?_ | refine HSub.at 2 rfl ?_ | refine HSub.at 3 rfl ?_ | refine HSub.at 4 rfl ?_ | refine HSub.at 5 rfl ?_ | refine HSub.at 6 rfl ?_ | refine HSub.at 7 rfl ?_ | refine HSub.at 8 rfl ?_ | refine HSub.at 9 rfl ?_ | refine HSub.at 10 rfl ?_ | refine HSub.at 11 rfl ?_ | refine HSub.at 12 rfl ?_ | refine HSub.at 13 rfl ?_ | refine HSub.at 14 rfl ?_ | refine HSub.at 15 rfl ?_ | refine HSub.at 16 rfl ?_ | refine HSub.at 17 rfl ?_ | refine HSub.at 18 rfl ?_ | refine HSub.at 19 rfl ?_ | refine HSub.segH ?_ | refine HSub.skip ?_ | refine HSub.skipN ?_)) rfl rfl rfl rfl (by omega) (fun v' N' hO' => ?_)
  have hxs : ∀ u ∈ (tab k fun _ => 0) ++ xs, u < 256 := fun u hu => by
    rcases List.mem_append.1 hu with h | h
    · obtain ⟨a, _, rfl⟩ := List.mem_map.1 h; decide
    · exact hx u h
  skip
  refine r_callA (A := []) rfl (by first | trivial | exact ⟨rfl, rfl⟩) rfl rfl rfl (fun w hk hs => c_Made w _ _ _ neg (hO'.rd.at hk hs (by (repeat' first | exact HSub.nil _ | exact HSub.hd | exact HSub.in0 | exact HSub.refl _ | refine HSub.skip ?_ | refine HSub.skipN ?_))) hxs (by omega)) fun w v w' _ _ _ hR => ?_
  obtain ⟨l, rfl, hl⟩ := hR
  refine ⟨[], New.nil _ _, ?_⟩
  refine r_storeN (b := b2) (cs := #[.bool false, .string ⟨#[]⟩]) (T := 27) (vs := #[.bool neg, sv l]) N'.length rfl (by first | trivial | exact ⟨rfl, rfl⟩) rfl rfl (by simp) rfl rfl rfl ?_
  (repeat' (first | refine JO.nil ?_ | refine JX.thenN ?_ | refine JC.ret ?_))
  exact JX.retC (b := b2) (cs := #[.bool neg, sv l]) (T := 27) (fz := (0, 0)) N'.length rfl (by simp) rfl (fun a w' st => ⟨st.kp, _, neg, l, rfl, hl, rfl⟩)

end Go.Proofs.YtdehklhdjbkneaaDoor

/- Wide values compared; the examples of the chapter. -/
namespace Go.Proofs.YtdehklhdjbkneaaDoor
open Go Go.RowKit
set_option linter.unusedSimpArgs false
set_option linter.unusedVariables false
set_option linter.unusedSectionVars false

/-- The type of Wide values. -/
class TWide (P : Program) (t : TypeId) : Prop where
  guard : P.eqGuardType P.depth t = false
  eql : ∀ (w : World) (p q : Bool) (l m : List UInt8), (Op.equalIn 10000 t (wv p l) (wv q m)).run P w = .ok (p == q && decide (l = m)) w

instance : TWide Tryd.prog 27 := ⟨Tryd.eqGuardType27, fun w p q l m => by
  have hf : Tryd.prog.underlying 27 = some (.struct (Tryd.prog.fieldsOf 27)) := by rw [Program.fieldsOf, Tryd.underlying27]
  rw [run_equalIn_agg w 9999 27 _ _ hf Tryd.stoodInHeld27]
  simp only [Program.fieldsOf, Tryd.underlying27]
  have h4 : ∀ (w : World) (xs : Array Value) (a b : Value), xs = #[a, b] → (part 4 xs 0).run Tryd.prog w = .ok a w := by
    intro w xs a b e
    subst e
    simp [part, isAgg, run_underlying Tryd.underlying4, Sem.run_bind]
  have h9 : ∀ (w : World) (xs : Array Value) (a b : Value), xs = #[a, b] → (part 9 xs 1).run Tryd.prog w = .ok b w := by
    intro w xs a b e
    subst e
    simp [part, isAgg, run_underlying Tryd.underlying9, Sem.run_bind]
  have g1 := h4 w #[.bool p, sv l] _ _ rfl
  have g2 := h4 w #[.bool q, sv m] _ _ rfl
  have g3 := h9 w #[.bool p, sv l] _ _ rfl
  have g4 := h9 w #[.bool q, sv m] _ _ rfl
  have g5 := run_equalIn_bool' (P := Tryd.prog) w 9998 4 p q Tryd.underlying4
  have g6 := run_equalIn_string (P := Tryd.prog) w 9998 9 ⟨l.toArray⟩ ⟨m.toArray⟩ Tryd.underlying9
  rw [toList_sv, toList_sv] at g6
  have hlm : (l == m) = decide (l = m) := by
    by_cases h : l = m
    · simp [h]
    · simp [h]
  rw [hlm] at g6
  simp only [Op.eqFields]
  rw [if_pos (by decide), if_pos (by decide)]
  simp only [Sem.run_bind, g1, g2, g3, g4, g5, g6, Result.andThen_ok]
  cases hpq : (p == q) with
  | false => simp
  | true =>
    simp only [Bool.not_true, Bool.false_eq_true, if_false, Sem.run_bind, g3, g4, g6, Result.andThen_ok, Bool.true_and]
    cases decide (l = m) <;> simp⟩

theorem Wv_eq {a b : Int} : (decide (a < 0) == decide (b < 0) && decide (magU a.natAbs = magU b.natAbs)) = decide (a = b) := by
  by_cases h : a = b
  · subst h; simp
  · rw [decide_eq_false h]
    by_cases h2 : a.natAbs = b.natAbs
    · have : decide (a < 0) ≠ decide (b < 0) := by
        intro e
        have e2 : (a < 0) ↔ (b < 0) := by simpa using e
        omega
      have h3 : (decide (a < 0) == decide (b < 0)) = false := by simpa using this
      rw [h3]; rfl
    · have : decide (magU a.natAbs = magU b.natAbs) = false := decide_eq_false fun e => h2 (magU_inj e)
      rw [this, Bool.and_false]

section
variable {c : Cx} {Q : Exit → Act → World → Prop} {m : Mode} {F : SFrame} {H : SHeap} {r : List SOp} {g : Option (Option Tmp × Bool)} {ns : Bool} {d : Tmp} {ty t t' : TypeId} {x y : Operand}
theorem r_eqW {p q : Bool} {l k : List UInt8} [hT : TWide c.P t] (hd : dstOk c.n (some d) = true) (hg : guardF F g = some true) (hx : ev F x = some (wv p l)) (hy : ev F y = some (wv q k))
    (h : JO c Q m r ((d, .bool (p == q && decide (l = k))) :: F) H) : JO c Q m (⟨some d, .binOp .eql t x y t', ty, g, .mov, ns⟩ :: r) F H :=
  r_mov hd hg (fun a w fr => by
    simp only [execOp, fr.ev hx, fr.ev hy, Sem.run_bind, run_eqGuard_agg w .eql t x y _ _ hT.guard, Result.andThen_ok, run_eql_struct, hT.eql, Sem.run_pure]) h
theorem r_neW {p q : Bool} {l k : List UInt8} [hT : TWide c.P t] (hd : dstOk c.n (some d) = true) (hg : guardF F g = some true) (hx : ev F x = some (wv p l)) (hy : ev F y = some (wv q k))
    (h : JO c Q m r ((d, .bool (!(p == q && decide (l = k)))) :: F) H) : JO c Q m (⟨some d, .binOp .neq t x y t', ty, g, .mov, ns⟩ :: r) F H :=
  r_mov hd hg (fun a w fr => by
    simp only [execOp, fr.ev hx, fr.ev hy, Sem.run_bind, run_eqGuard_agg w .neq t x y _ _ hT.guard, Result.andThen_ok, run_neq_struct, hT.eql, Sem.run_pure]) h
/-- Canonical numbers that are equal. -/
theorem r_eqWT {a b : Int} [TWide c.P t] (hd : dstOk c.n (some d) = true) (hg : guardF F g = some true) (hx : ev F x = some (Wv a)) (hy : ev F y = some (Wv b)) (hab : a = b)
    (h : JO c Q m r ((d, .bool true) :: F) H) : JO c Q m (⟨some d, .binOp .eql t x y t', ty, g, .mov, ns⟩ :: r) F H :=
  r_eqW hd hg hx hy (by rw [Wv_eq, decide_eq_true hab]; exact h)
theorem r_neWF {a b : Int} [TWide c.P t] (hd : dstOk c.n (some d) = true) (hg : guardF F g = some true) (hx : ev F x = some (Wv a)) (hy : ev F y = some (Wv b)) (hab : a = b)
    (h : JO c Q m r ((d, .bool false) :: F) H) : JO c Q m (⟨some d, .binOp .neq t x y t', ty, g, .mov, ns⟩ :: r) F H :=
  r_neW hd hg hx hy (by rw [Wv_eq, decide_eq_true hab]; exact h)
end

theorem IsZ.i64 {n : Int} (h1 : -9223372036854775808 ≤ n) (h2 : n < 9223372036854775808) : IsZ (Wv n) n 8 := IsZ.can (by
  have : n.natAbs ≤ 9223372036854775808 := by omega
  exact Nat.lt_of_le_of_lt this (by decide))

set_option maxHeartbeats 4000000 in
theorem c_over (w : World) (a b q r : Int) (ha : -1000000 ≤ a ∧ a ≤ 1000000) (hb : -1000000 ≤ b ∧ b ≤ 1000000) (hq : -1000000 ≤ q ∧ q ≤ 1000000) (hr : -1000000 ≤ r ∧ r ≤ 1000000) (hb0 : b ≠ 0) (h1 : a / b = q) (h2 : a % b = r) :
    Calls Tryd.prog 39 #[iv a, iv b, iv q, iv r] w (Ret fun v w' => Kp [] w w' ∧ v = .bool true) := by
  refine calls_of_S [⟨2, 1, [], []⟩] [] (by simp) [] Tryd.func39 rfl mixed (by kernel_rfl) Tryd.ntmps39 Tryd.results39 rfl ⟨by simp, by simp⟩ (by simp) ?_
  simp only [toS, textOps, toSOp, kindAt, kindOf, odAt, sopsAt, ordOf, zipF]
  (repeat' (first | refine JC.seq ?_ | refine JC.ops ?_ | refine JO.nil ?_ | refine JX.thenN ?_ | (apply r_move; exact rfl; exact rfl; exact rfl) | (apply r_assign; exact rfl; exact rfl; exact rfl)))
  refine r_call0 trivial rfl rfl rfl (fun w hk hs => c_From w a (by omega) (by omega)) fun w v w' _ _ _ hR => ?_
  subst hR
  (repeat' (first | (apply r_move; exact rfl; exact rfl; exact rfl)))
  refine r_call0 trivial rfl rfl rfl (fun w hk hs => c_From w b (by omega) (by omega)) fun w v w' _ _ _ hR => ?_
  subst hR
  skip
  refine r_call0 trivial rfl rfl rfl (fun w hk hs => c_Quo w _ _ a b 8 (IsZ.i64 (by omega) (by omega)) (IsZ.i64 (by omega) (by omega)) (by decide)) fun w v w' _ _ _ hR => ?_
  rw [if_neg hb0] at hR
  subst hR
  (repeat' (first | refine JC.seq ?_ | refine JC.opsD ?_ | refine JO.nil ?_ | refine JX.thenN ?_ | (apply r_move; exact rfl; exact rfl; exact rfl) | (apply r_assign; exact rfl; exact rfl; exact rfl) | (apply r_loadN; exact rfl; exact rfl; exact rfl; exact rfl; (first | exact at0 | exact at1 | exact at2 | exact at3 | exact at4 | exact at5 | exact at6 | exact at7 | exact at8 | exact at9); exact rfl) | (apply r_extract; exact rfl; exact rfl; exact rfl; exact rfl) | (apply r_storeN; exact rfl; (first | exact trivial | exact ⟨rfl, rfl⟩); exact rfl; exact rfl; (first | exact at0 | exact at1 | exact at2 | exact at3 | exact at4 | exact at5 | exact at6 | exact at7 | exact at8 | exact at9); exact rfl; exact rfl; exact rfl) | (apply r_allocZ; exact rfl; exact rfl; exact rfl; intro _) | (apply r_storeN; exact rfl; (first | exact trivial | exact ⟨rfl, rfl⟩); exact rfl; exact rfl; (first | exact at0 | exact at1 | exact at2 | exact at3 | exact at4 | exact at5 | exact at6 | exact at7 | exact at8 | exact at9); exact rfl; exact rfl; exact rfl)))
  refine r_call0 (by first | trivial | exact ⟨rfl, rfl⟩) rfl rfl rfl (fun w hk hs => c_From w q (by omega) (by omega)) fun w v w' _ _ _ hR => ?_
  subst hR
  (repeat' (first | (apply r_move; exact rfl; exact rfl; exact rfl) | (apply r_loadN; exact rfl; exact rfl; exact rfl; exact rfl; (first | exact at0 | exact at1 | exact at2 | exact at3 | exact at4 | exact at5 | exact at6 | exact at7 | exact at8 | exact at9); exact rfl) | (apply r_pickT; exact rfl; exact rfl; exact rfl; exact rfl) | (apply r_eqWT; exact rfl; exact rfl; exact rfl; exact rfl; (first | exact rfl | assumption))))
  refine r_call0 (by first | trivial | exact ⟨rfl, rfl⟩) rfl rfl rfl (fun w hk hs => c_From w r (by omega) (by omega)) fun w v w' _ _ _ hR => ?_
  subst hR
  (repeat' (first | refine JO.nil ?_ | refine JX.thenN ?_ | (apply r_assign; exact rfl; exact rfl; exact rfl) | (apply r_pickT; exact rfl; exact rfl; exact rfl; exact rfl) | (apply r_eqWT; exact rfl; exact rfl; exact rfl; exact rfl; (first | exact rfl | assumption)) | refine JC.ret ?_))
  exact JX.ret1 rfl (fun a w' st => ⟨st.kp, rfl⟩)

set_option maxHeartbeats 4000000 in
theorem c_common (w : World) (a b g x y : Int) (ha : -1000000 ≤ a ∧ a ≤ 1000000) (hb : -1000000 ≤ b ∧ b ≤ 1000000) (hg : -1000000 ≤ g ∧ g ≤ 1000000) (hx : -1000000 ≤ x ∧ x ≤ 1000000) (hy : -1000000 ≤ y ∧ y ≤ 1000000) (h : GcdP a b g x y) :
    Calls Tryd.prog 40 #[iv a, iv b, iv g, iv x, iv y] w (Ret fun v w' => Kp [] w w' ∧ v = .bool true) := by
  refine calls_of_S [⟨2, 1, [], []⟩] [] (by simp) [] Tryd.func40 rfl mixed (by kernel_rfl) Tryd.ntmps40 Tryd.results40 rfl ⟨by simp, by simp⟩ (by simp) ?_
  simp only [toS, textOps, toSOp, kindAt, kindOf, odAt, sopsAt, ordOf, zipF]
  (repeat' (first | refine JC.seq ?_ | refine JC.ops ?_ | refine JO.nil ?_ | refine JX.thenN ?_ | (apply r_move; exact rfl; exact rfl; exact rfl) | (apply r_assign; exact rfl; exact rfl; exact rfl)))
  refine r_call0 trivial rfl rfl rfl (fun w hk hs => c_From w a (by omega) (by omega)) fun w v w' _ _ _ hR => ?_
  subst hR
  (repeat' (first | (apply r_move; exact rfl; exact rfl; exact rfl)))
  refine r_call0 trivial rfl rfl rfl (fun w hk hs => c_From w b (by omega) (by omega)) fun w v w' _ _ _ hR => ?_
  subst hR
  skip
  refine r_call0 trivial rfl rfl rfl (fun w hk hs => c_Gcd w _ _ a b 8 (IsZ.i64 (by omega) (by omega)) (IsZ.i64 (by omega) (by omega)) (by decide)) fun w v w' _ _ _ hR => ?_
  obtain ⟨g', x', y', rfl, hG⟩ := hR
  obtain ⟨rfl, rfl, rfl⟩ := hG.unique h
  (repeat' (first | refine JC.seq ?_ | refine JC.opsD ?_ | refine JO.nil ?_ | refine JX.thenN ?_ | (apply r_move; exact rfl; exact rfl; exact rfl) | (apply r_loadN; exact rfl; exact rfl; exact rfl; exact rfl; (first | exact at0 | exact at1 | exact at2 | exact at3 | exact at4 | exact at5 | exact at6 | exact at7 | exact at8 | exact at9); exact rfl) | (apply r_extract; exact rfl; exact rfl; exact rfl; exact rfl) | (apply r_storeN; exact rfl; (first | exact trivial | exact ⟨rfl, rfl⟩); exact rfl; exact rfl; (first | exact at0 | exact at1 | exact at2 | exact at3 | exact at4 | exact at5 | exact at6 | exact at7 | exact at8 | exact at9); exact rfl; exact rfl; exact rfl) | (apply r_allocZ; exact rfl; exact rfl; exact rfl; intro _) | (apply r_storeN; exact rfl; (first | exact trivial | exact ⟨rfl, rfl⟩); exact rfl; exact rfl; (first | exact at0 | exact at1 | exact at2 | exact at3 | exact at4 | exact at5 | exact at6 | exact at7 | exact at8 | exact at9); exact rfl; exact rfl; exact rfl)))
  refine r_call0 (by first | trivial | exact ⟨rfl, rfl⟩) rfl rfl rfl (fun w hk hs => c_From w g' (by omega) (by omega)) fun w v w' _ _ _ hR => ?_
  subst hR
  (repeat' (first | (apply r_move; exact rfl; exact rfl; exact rfl) | (apply r_loadN; exact rfl; exact rfl; exact rfl; exact rfl; (first | exact at0 | exact at1 | exact at2 | exact at3 | exact at4 | exact at5 | exact at6 | exact at7 | exact at8 | exact at9); exact rfl) | (apply r_eqWT; exact rfl; exact rfl; exact rfl; exact rfl; (first | exact rfl | assumption))))
  refine r_call0 (by first | trivial | exact ⟨rfl, rfl⟩) rfl rfl rfl (fun w hk hs => c_From w x' (by omega) (by omega)) fun w v w' _ _ _ hR => ?_
  subst hR
  (repeat' (first | (apply r_move; exact rfl; exact rfl; exact rfl) | (apply r_loadN; exact rfl; exact rfl; exact rfl; exact rfl; (first | exact at0 | exact at1 | exact at2 | exact at3 | exact at4 | exact at5 | exact at6 | exact at7 | exact at8 | exact at9); exact rfl) | (apply r_pickT; exact rfl; exact rfl; exact rfl; exact rfl) | (apply r_eqWT; exact rfl; exact rfl; exact rfl; exact rfl; (first | exact rfl | assumption))))
  refine r_call0 (by first | trivial | exact ⟨rfl, rfl⟩) rfl rfl rfl (fun w hk hs => c_From w y' (by omega) (by omega)) fun w v w' _ _ _ hR => ?_
  subst hR
  (repeat' (first | refine JO.nil ?_ | refine JX.thenN ?_ | (apply r_assign; exact rfl; exact rfl; exact rfl) | (apply r_pickT; exact rfl; exact rfl; exact rfl; exact rfl) | (apply r_eqWT; exact rfl; exact rfl; exact rfl; exact rfl; (first | exact rfl | assumption)) | refine JC.ret ?_))
  exact JX.ret1 rfl (fun a w' st => ⟨st.kp, rfl⟩)

end Go.Proofs.YtdehklhdjbkneaaDoor

/- The examples of the chapter hold. -/
namespace Go.Proofs.YtdehklhdjbkneaaDoor
open Go Go.RowKit
set_option linter.unusedSimpArgs false
set_option linter.unusedVariables false
set_option linter.unusedSectionVars false

theorem gcd_ex1 : GcdP (-12) 18 6 1 1 := ⟨by decide, fun h => absurd h (by decide), fun _ => by decide⟩
theorem gcd_ex2 : GcdP 0 (-5) 5 0 (-1) := ⟨by decide, fun h => absurd h (by decide), fun _ => by decide⟩
theorem gcd_ex3 : GcdP (-4) 0 4 (-1) 0 := ⟨by decide, fun _ => by decide, fun h => absurd rfl h⟩
theorem parse_ex1 : PRes [45, 48, 48, 55] = .tuple #[Wv (-7), .bool true] := by rfl
theorem parse_ex2 : PRes [] = .tuple #[Wv 0, .bool false] := by rfl
theorem parse_ex3 : PRes [49, 120] = .tuple #[Wv 0, .bool false] := by rfl
theorem big_ex : Wv (1099511627776 * 1099511627776) = wv false [1, 0, 0, 0, 0, 0, 0, 0, 0, 0, 0] := by
  have h : magU (1099511627776 * 1099511627776) = ([1, 0, 0, 0, 0, 0, 0, 0, 0, 0, 0] : List UInt8) := by
    have h1 : bval (bts ([1, 0, 0, 0, 0, 0, 0, 0, 0, 0, 0] : List UInt8)) = 1099511627776 * 1099511627776 := by decide
    rw [← h1, ← magU_of]
    rfl
  show wv (decide ((1099511627776 * 1099511627776 : Int) < 0)) (magU (1099511627776 * 1099511627776 : Int).natAbs) = _
  rw [show (1099511627776 * 1099511627776 : Int).natAbs = 1099511627776 * 1099511627776 by decide, h]
  rfl
theorem neg_ex : Wv (-300) = wv true [1, 44] := by
  have h : magU 300 = ([1, 44] : List UInt8) := by
    have h1 : bval (bts ([1, 44] : List UInt8)) = 300 := by decide
    rw [← h1, ← magU_of]
    rfl
  show wv (decide ((-300 : Int) < 0)) (magU (-300 : Int).natAbs) = _
  rw [show (-300 : Int).natAbs = 300 by decide, h]
  rfl

theorem r_eqWS {c : Cx} {Q : Exit → Act → World → Prop} {m : Mode} {F : SFrame} {H : SHeap} {r : List SOp} {g : Option (Option Tmp × Bool)} {ns : Bool} {d : Tmp} {ty t t' : TypeId} {x y : Operand} (p : Bool) (l : List UInt8) [TWide c.P t] (hd : dstOk c.n (some d) = true) (hg : guardF F g = some true) (hx : ev F x = some (wv p l)) (hy : ev F y = some (wv p l))
    (h : JO c Q m r ((d, .bool true) :: F) H) : JO c Q m (⟨some d, .binOp .eql t x y t', ty, g, .mov, ns⟩ :: r) F H :=
  r_eqW hd hg hx hy (by rw [beq_self_eq_true, decide_eq_true rfl]; exact h)

set_option maxHeartbeats 8000000 in
theorem c_sanity (w : World) : Calls Tryd.prog 12 #[] w (Ret fun v w' => Kp [] w w' ∧ v = .bool true) := by
  refine calls_of_S [⟨12, 1, [], []⟩] [] (by simp) [] Tryd.func12 rfl mixed (by kernel_rfl) Tryd.ntmps12 Tryd.results12 rfl ⟨by simp, by simp⟩ (by simp) ?_
  simp only [toS, textOps, toSOp, kindAt, kindOf, odAt, sopsAt, ordOf, zipF]
  (repeat' (first | refine JC.seq ?_ | refine JC.ops ?_ | refine JO.nil ?_ | refine JX.thenN ?_ | (apply r_assign; exact rfl; exact rfl; exact rfl)))
  refine r_call0 trivial rfl rfl rfl (fun w hk hs => c_From w 1099511627776 (by decide) (by decide)) fun w v w' _ _ _ hR => ?_
  subst hR
  skip
  refine r_call0 trivial rfl rfl rfl (fun w hk hs => c_From w 1099511627776 (by decide) (by decide)) fun w v w' _ _ _ hR => ?_
  subst hR
  skip
  refine r_call0 trivial rfl rfl rfl (fun w hk hs => c_Mul w _ _ 1099511627776 1099511627776 8 (IsZ.i64 (by decide) (by decide)) (IsZ.i64 (by decide) (by decide)) (by decide)) fun w v w' _ _ _ hR => ?_
  rw [big_ex] at hR
  subst hR
  (repeat' (first | refine JC.seq ?_ | refine JC.ops ?_ | refine JO.nil ?_ | refine JX.thenN ?_ | (apply r_storeN; exact rfl; (first | exact trivial | exact ⟨rfl, rfl⟩); exact rfl; exact rfl; (first | exact at0 | exact at1 | exact at2 | exact at3 | exact at4 | exact at5 | exact at6 | exact at7 | exact at8 | exact at9); exact rfl; exact rfl; exact rfl) | (apply r_allocZ; exact rfl; exact rfl; exact rfl; intro _) | (apply r_storeN; exact rfl; (first | exact trivial | exact ⟨rfl, rfl⟩); exact rfl; exact rfl; (first | exact at0 | exact at1 | exact at2 | exact at3 | exact at4 | exact at5 | exact at6 | exact at7 | exact at8 | exact at9); exact rfl; exact rfl; exact rfl)))
  refine r_call0 trivial rfl rfl rfl (fun w hk hs => c_From w (-300) (by decide) (by decide)) fun w v w' _ _ _ hR => ?_
  rw [neg_ex] at hR
  subst hR
  (repeat' (first | (apply r_buildL; exact rfl; exact rfl; exact rfl; exact rfl; exact rfl)))
  refine r_eqWS true [1, 44] rfl rfl rfl rfl ?_
  (repeat' (first | (apply r_move; exact rfl; exact rfl; exact rfl) | (apply r_loadN; exact rfl; exact rfl; exact rfl; exact rfl; (first | exact at0 | exact at1 | exact at2 | exact at3 | exact at4 | exact at5 | exact at6 | exact at7 | exact at8 | exact at9); exact rfl)))
  refine r_build (l := [(1, sv [1, 0, 0, 0, 0, 0, 0, 0, 0, 0, 0])]) (cs := #[.bool false, sv [1, 0, 0, 0, 0, 0, 0, 0, 0, 0, 0]]) rfl rfl rfl rfl ?_
  skip
  refine r_eqWS false [1, 0, 0, 0, 0, 0, 0, 0, 0, 0, 0] rfl rfl rfl rfl ?_
  (repeat' (first | refine JC.seq ?_ | refine JC.ops ?_ | refine JO.nil ?_ | refine JX.thenN ?_ | (apply r_assign; exact rfl; exact rfl; exact rfl) | (apply r_pickT; exact rfl; exact rfl; exact rfl; exact rfl)))
  refine r_call0 (by first | trivial | exact ⟨rfl, rfl⟩) rfl rfl rfl (fun w hk hs => c_over w (-7) (2) (-4) (1) (by decide) (by decide) (by decide) (by decide) (by decide) (by decide) (by decide)) fun w v w' _ _ _ hR => ?_
  subst hR
  (repeat' (first | refine JC.seq ?_ | refine JC.ops ?_ | refine JO.nil ?_ | refine JX.thenN ?_ | (apply r_assign; exact rfl; exact rfl; exact rfl)))
  refine r_call0 (by first | trivial | exact ⟨rfl, rfl⟩) rfl rfl rfl (fun w hk hs => c_over w (7) (-2) (-3) (1) (by decide) (by decide) (by decide) (by decide) (by decide) (by decide) (by decide)) fun w v w' _ _ _ hR => ?_
  subst hR
  (repeat' (first | refine JC.seq ?_ | refine JC.ops ?_ | refine JO.nil ?_ | refine JX.thenN ?_ | (apply r_assign; exact rfl; exact rfl; exact rfl)))
  refine r_call0 (by first | trivial | exact ⟨rfl, rfl⟩) rfl rfl rfl (fun w hk hs => c_over w (-7) (-2) (4) (1) (by decide) (by decide) (by decide) (by decide) (by decide) (by decide) (by decide)) fun w v w' _ _ _ hR => ?_
  subst hR
  (repeat' (first | refine JC.seq ?_ | refine JC.ops ?_ | refine JO.nil ?_ | refine JX.thenN ?_ | (apply r_assign; exact rfl; exact rfl; exact rfl)))
  refine r_call0 (by first | trivial | exact ⟨rfl, rfl⟩) rfl rfl rfl (fun w hk hs => c_common w (-12) (18) (6) (1) (1) (by decide) (by decide) (by decide) (by decide) (by decide) gcd_ex1) fun w v w' _ _ _ hR => ?_
  subst hR
  (repeat' (first | refine JC.seq ?_ | refine JC.ops ?_ | refine JO.nil ?_ | refine JX.thenN ?_ | (apply r_assign; exact rfl; exact rfl; exact rfl)))
  refine r_call0 (by first | trivial | exact ⟨rfl, rfl⟩) rfl rfl rfl (fun w hk hs => c_common w (0) (-5) (5) (0) (-1) (by decide) (by decide) (by decide) (by decide) (by decide) gcd_ex2) fun w v w' _ _ _ hR => ?_
  subst hR
  (repeat' (first | refine JC.seq ?_ | refine JC.ops ?_ | refine JO.nil ?_ | refine JX.thenN ?_ | (apply r_assign; exact rfl; exact rfl; exact rfl)))
  refine r_call0 (by first | trivial | exact ⟨rfl, rfl⟩) rfl rfl rfl (fun w hk hs => c_common w (-4) (0) (4) (-1) (0) (by decide) (by decide) (by decide) (by decide) (by decide) gcd_ex3) fun w v w' _ _ _ hR => ?_
  subst hR
  (repeat' (first | refine JC.seq ?_ | refine JC.ops ?_ | refine JO.nil ?_ | refine JX.thenN ?_ | (apply r_assign; exact rfl; exact rfl; exact rfl)))
  refine r_call0 (by first | trivial | exact ⟨rfl, rfl⟩) rfl rfl rfl (fun w hk hs => c_Parse w [45, 48, 48, 55] (by decide)) fun w v w' _ _ _ hR => ?_
  rw [parse_ex1] at hR
  subst hR
  (repeat' (first | refine JC.seq ?_ | refine JC.ops ?_ | refine JO.nil ?_ | refine JX.thenN ?_ | (apply r_move; exact rfl; exact rfl; exact rfl) | (apply r_assign; exact rfl; exact rfl; exact rfl) | (apply r_extract; exact rfl; exact rfl; exact rfl; exact rfl) | (apply r_storeN; exact rfl; (first | exact trivial | exact ⟨rfl, rfl⟩); exact rfl; exact rfl; (first | exact at0 | exact at1 | exact at2 | exact at3 | exact at4 | exact at5 | exact at6 | exact at7 | exact at8 | exact at9); exact rfl; exact rfl; exact rfl) | (apply r_allocZ; exact rfl; exact rfl; exact rfl; intro _) | (apply r_storeN; exact rfl; (first | exact trivial | exact ⟨rfl, rfl⟩); exact rfl; exact rfl; (first | exact at0 | exact at1 | exact at2 | exact at3 | exact at4 | exact at5 | exact at6 | exact at7 | exact at8 | exact at9); exact rfl; exact rfl; exact rfl)))
  refine r_call0 (by first | trivial | exact ⟨rfl, rfl⟩) rfl rfl rfl (fun w hk hs => c_Parse w [] (by decide)) fun w v w' _ _ _ hR => ?_
  rw [parse_ex2] at hR
  subst hR
  (repeat' (first | refine JC.seq ?_ | refine JC.ops ?_ | refine JO.nil ?_ | refine JX.thenN ?_ | (apply r_move; exact rfl; exact rfl; exact rfl) | (apply r_assign; exact rfl; exact rfl; exact rfl) | (apply r_extract; exact rfl; exact rfl; exact rfl; exact rfl) | (apply r_storeN; exact rfl; (first | exact trivial | exact ⟨rfl, rfl⟩); exact rfl; exact rfl; (first | exact at0 | exact at1 | exact at2 | exact at3 | exact at4 | exact at5 | exact at6 | exact at7 | exact at8 | exact at9); exact rfl; exact rfl; exact rfl) | (apply r_allocZ; exact rfl; exact rfl; exact rfl; intro _) | (apply r_storeN; exact rfl; (first | exact trivial | exact ⟨rfl, rfl⟩); exact rfl; exact rfl; (first | exact at0 | exact at1 | exact at2 | exact at3 | exact at4 | exact at5 | exact at6 | exact at7 | exact at8 | exact at9); exact rfl; exact rfl; exact rfl)))
  refine r_call0 (by first | trivial | exact ⟨rfl, rfl⟩) rfl rfl rfl (fun w hk hs => c_Parse w [49, 120] (by decide)) fun w v w' _ _ _ hR => ?_
  rw [parse_ex3] at hR
  subst hR
  (repeat' (first | refine JC.seq ?_ | refine JC.opsD ?_ | refine JO.nil ?_ | refine JX.thenN ?_ | (apply r_move; exact rfl; exact rfl; exact rfl) | (apply r_assign; exact rfl; exact rfl; exact rfl) | (apply r_loadN; exact rfl; exact rfl; exact rfl; exact rfl; (first | exact at0 | exact at1 | exact at2 | exact at3 | exact at4 | exact at5 | exact at6 | exact at7 | exact at8 | exact at9); exact rfl) | (apply r_pickT; exact rfl; exact rfl; exact rfl; exact rfl) | (apply r_extract; exact rfl; exact rfl; exact rfl; exact rfl) | (apply r_storeN; exact rfl; (first | exact trivial | exact ⟨rfl, rfl⟩); exact rfl; exact rfl; (first | exact at0 | exact at1 | exact at2 | exact at3 | exact at4 | exact at5 | exact at6 | exact at7 | exact at8 | exact at9); exact rfl; exact rfl; exact rfl) | (apply r_allocZ; exact rfl; exact rfl; exact rfl; intro _) | (apply r_storeN; exact rfl; (first | exact trivial | exact ⟨rfl, rfl⟩); exact rfl; exact rfl; (first | exact at0 | exact at1 | exact at2 | exact at3 | exact at4 | exact at5 | exact at6 | exact at7 | exact at8 | exact at9); exact rfl; exact rfl; exact rfl)))
  refine r_call0 (by first | trivial | exact ⟨rfl, rfl⟩) rfl rfl rfl (fun w hk hs => c_From w (-7) (by decide) (by decide)) fun w v w' _ _ _ hR => ?_
  subst hR
  (repeat' (first | refine JO.nil ?_ | refine JX.thenN ?_ | (apply r_move; exact rfl; exact rfl; exact rfl) | (apply r_assign; exact rfl; exact rfl; exact rfl) | (apply r_pickT; exact rfl; exact rfl; exact rfl; exact rfl) | (apply r_not; exact rfl; exact rfl; exact rfl) | (apply r_eqWT; exact rfl; exact rfl; exact rfl; exact rfl; (first | exact rfl | assumption)) | refine JC.ret ?_))
  exact JX.ret1 rfl (fun a w' st => ⟨st.kp, rfl⟩)

end Go.Proofs.YtdehklhdjbkneaaDoor

/- The arguments of the laws of wide: numbers. -/
namespace Go.Proofs.YtdehklhdjbkneaaDoor
open Go Go.RowKit Go.ChangeShapes Go.WideShapes Go.ChangeAt
set_option linter.unusedSimpArgs false
set_option linter.unusedVariables false
set_option linter.unusedSectionVars false

theorem own : ownKnob Tryd.prog.godebug = none := by kernel_rfl
theorem laidOut : laidOutB Tryd.prog = true := by kernel_rfl
theorem cellsNum : Tryd.prog.cellsOf 24 = 3 := by kernel_rfl

/-- An argument of the laws. -/
def IsNum (w : World) (v : Value) : Prop := ∃ (neg : Bool) (vb : Value) (z : Int) (n : Nat) (xs : List Nat), v = .agg #[.bool neg, vb, iv z] ∧ WY w vb n xs ∧ (∀ x ∈ xs, x < 256) ∧ n ≤ 140737488351232

theorem u8s_nat : ∀ {zs : List Int}, (∀ n ∈ zs, (Lit.int .u8 n).wf = true) → ∃ xs : List Nat, zs = xs.map (fun n : Nat => (n : Int)) ∧ ∀ x ∈ xs, x < 256
  | [], _ => ⟨[], rfl, fun _ h => nomatch h⟩
  | z :: zs, h => by
    obtain ⟨xs, rfl, hx⟩ := u8s_nat (zs := zs) fun n hn => h n (List.mem_cons_of_mem _ hn)
    have h1 : 0 ≤ z ∧ z < 256 := by
      have hmin : IntKind.u8.min = 0 := by decide
      have hmax : IntKind.u8.max = 255 := by decide
      have := h z (List.mem_cons_self ..)
      simp only [Lit.wf, Bool.and_eq_true, decide_eq_true_eq, hmin, hmax] at this
      omega
    refine ⟨z.toNat :: xs, ?_, fun x hxx => ?_⟩
    · rw [List.map_cons, Int.toNat_of_nonneg h1.1]
    · rcases List.mem_cons.1 hxx with rfl | h2
      · omega
      · exact hx x h2

theorem WY.of_row {w : World} {a : Addr} {len cap : Nat} {xs : List Nat} (hl : len ≤ cap) (hz : xs.length = cap) (hc : ∀ i, i < xs.length → w.cell? (a.add i) = some (.int .u8 ((xs.map fun n : Nat => (n : Int)).getD i 0))) : WY w (.slice (some a) len cap) len (xs.take len) := by
  refine ⟨by simp [hz]; omega, some a, cap, rfl, hl, fun h0 => ?_⟩
  obtain ⟨b, o, sp⟩ := a
  have hsp : sp = none := by
    have := hc 0 (by omega)
    cases sp with
    | none => rfl
    | some s =>
      simp only [Addr.add, if_true, World.cell?] at this
      split at this <;> simp at this
  subst hsp
  refine ⟨⟨b, o, rfl⟩, fun j u hu => ?_⟩
  simp only [vAt]
  rw [List.getElem?_map, List.getElem?_take] at hu
  split at hu
  · rename_i hj
    have hjz : j < xs.length := by omega
    rw [gD_lt (d := 0) hjz] at hu
    cases hu
    rw [← add_none]
    have := hc j hjz
    rw [List.getD_eq_getElem?_getD, List.getElem?_map, gD_lt (d := 0) hjz] at this
    exact this
  · cases hu

set_option maxRecDepth 100000 in
theorem open_num {H : Type} {enc : TypeId × Value → H} {w : World} {r : Reach} {b0 : Nat} {held : Bool} {v : Value} {d : DataW H} {ps : List MemPlace} (hv : Value.okWide Tryd.prog w r b0 24 v)
    (h : DataW.Trod enc Tryd.prog w 0 (fun _ => true) held 24 v d ps) (hwt : ∀ n ∈ d.weights Tryd.prog 24, n ≤ reachBytes) : IsNum w v := by
  obtain ⟨v0, v1, v2, y0, y1, y2, n, rfl, rfl, _, h0, h1, h2⟩ := Joins.open_agg3 Tryd.underlying24 (by kernel_rfl) cellsNum hv h
  obtain ⟨b, e0, _⟩ := DataW.trod_bool Tryd.underlying4 h0
  obtain ⟨z, e2, _, _⟩ := DataW.trod_int Tryd.underlying3 h2
  simp only [List.cons.injEq, and_true] at e0 e2
  subst e0 e2
  rcases open_ints Tryd.underlying22 Tryd.underlying5 (by kernel_rfl) h1 with ⟨hcs, _⟩ | ⟨x, l, c, zs, hcs, _, hl, hm, hz, hy, hcell, hwz⟩
  · simp only [List.cons.injEq, and_true] at hcs
    subst hcs
    exact ⟨b, _, z, 0, [], rfl, ⟨rfl, none, 0, rfl, Nat.le_refl _, fun h => absurd h (Nat.lt_irrefl _)⟩, fun _ h => absurd h (List.not_mem_nil), Nat.zero_le _⟩
  · simp only [List.cons.injEq, and_true] at hcs
    subst hcs
    obtain ⟨xs, rfl, hx⟩ := u8s_nat hwz
    have hzl : xs.length = c := by simpa using hz
    have hW := WY.of_row hl hzl fun i hi => hcell i (by simpa using hi)
    refine ⟨b, _, z, l, xs.take l, rfl, hW, fun x hx2 => hx x (List.mem_of_mem_take hx2), ?_⟩
    subst hy
    have h9 := hwt (((lits (H := H) .u8 (List.take l (xs.map fun n : Nat => (n : Int)))).length + (lits (H := H) .u8 (List.drop l (xs.map fun n : Nat => (n : Int)))).length) * Tryd.prog.bytesOf 5) (by
      simp only [DataW.weights, Tryd.underlying24]
      refine DataW.weights_mem_each (j := 1) rfl rfl _ ?_
      simp only [DataW.weights, Tryd.underlying22]
      exact List.mem_cons_self ..)
    have hb : Tryd.prog.bytesOf 5 = 1 := by kernel_rfl
    rw [hb] at h9
    simp [lits, reachBytes] at h9
    omega

/-- The number of an argument. -/
theorem c_Num (w : World) (v : Value) (hv : IsNum w v) : Calls Tryd.prog 13 #[v] w (Ret fun v w' => Kp [] w w' ∧ ∃ a, IsZ v a 40) := by
  obtain ⟨neg, vb, z, n, xs, rfl, hW, hx, hn⟩ := hv
  exact c_NumWide w neg vb z n xs hW hx hn
theorem IsNum.mono {w w' : World} {v : Value} (h : IsNum w v) (hk : Kp [] w w') : IsNum w' v := by
  obtain ⟨neg, vb, z, n, xs, rfl, hW, hx, hn⟩ := h
  exact ⟨neg, vb, z, n, xs, rfl, hW.mono hk, hx, hn⟩
theorem IsNum.form {w : World} {v : Value} (h : IsNum w v) : ∃ a b c, v = .agg #[a, b, c] := by
  obtain ⟨neg, vb, z, n, xs, rfl, _⟩ := h
  exact ⟨_, _, _, rfl⟩
theorem IsZ.neg {v : Value} {a : Int} {k : Nat} (h : IsZ v a k) : IsZ (Wv (-a)) (-a) k := IsZ.can (by rw [Int.natAbs_neg]; exact h.lt)
theorem IsZ.canon {v : Value} {a : Int} {k : Nat} (h : IsZ v a k) : IsZ (Wv a) a k := IsZ.can h.lt
theorem IsZ.sum {v u : Value} {a b : Int} {k : Nat} (h : IsZ v a k) (h' : IsZ u b k) : IsZ (Wv (a + b)) (a + b) (k + 1) := IsZ.add h.lt h'.lt
theorem IsZ.sub {v u : Value} {a b : Int} {k : Nat} (h : IsZ v a k) (h' : IsZ u b k) : IsZ (Wv (a - b)) (a - b) (k + 1) := by
  rw [Int.sub_eq_add_neg]
  exact IsZ.add h.lt (by rw [Int.natAbs_neg]; exact h'.lt)
theorem IsZ.mul {v u : Value} {a b : Int} {k j : Nat} (h : IsZ v a k) (h' : IsZ u b j) : IsZ (Wv (a * b)) (a * b) (k + j) := IsZ.can (by
  rw [Int.natAbs_mul, Nat.pow_add]
  exact Nat.mul_lt_mul'' h.lt h'.lt)
theorem Wv_zero : Wv 0 = wv false [] := by
  show wv false (magU 0) = _
  rfl

end Go.Proofs.YtdehklhdjbkneaaDoor

