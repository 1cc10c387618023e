/- From and Quo. -/
import Derived.Test.YtdehklhdjbkneaaDoorWidX
namespace Go.Proofs.YtdehklhdjbkneaaDoor
open Go Go.RowKit
set_option linter.unusedSimpArgs false
set_option linter.unusedVariables false
set_option linter.unusedSectionVars false

section
variable {c : Cx} {Q : Exit → Act → World → Prop} {m : Mode} {F : SFrame} {H : SHeap} {r : List SOp} {g : Option (Option Tmp × Bool)} {ns : Bool} {d : Tmp} {ty t t' : TypeId} {x y : Operand} {i : Nat}
/-- A word turned. -/
theorem r_negU (hd : dstOk c.n (some d) = true) (hg : guardF F g = some true) (hx : ev F x = some (uv i)) (hb : i ≤ 18446744073709551616)
    (h : JO c Q m r ((d, uv ((18446744073709551616 - i) % 18446744073709551616)) :: F) H) : JO c Q m (⟨some d, .unOp .neg t x, ty, g, .mov, ns⟩ :: r) F H :=
  r_mov hd hg (fun a w fr => by
    have h1 : IntKind.u64.wrap (-(i : Int)) = (((18446744073709551616 - i) % 18446744073709551616 : Nat) : Int) := by rw [IntKind.wrap_u64]; omega
    simp only [execOp, fr.ev hx]
    simp [Op.unary, Op.intArith, h1, uv]) h
/-- An int made a word. -/
theorem r_i64U {n : Int} (j : Nat) [TI c.P t .i64] [TI c.P t' .u64] (hd : dstOk c.n (some d) = true) (hg : guardF F g = some true) (hx : ev F x = some (.int .i64 n)) (hj : IntKind.u64.wrap n = (j : Int))
    (h : JO c Q m r ((d, uv j) :: F) H) : JO c Q m (⟨some d, .convert t t' x, ty, g, .mov, ns⟩ :: r) F H := r_convK (k' := .u64) (j : Int) hd hg hx hj h
end

theorem val_two (m : Nat) : val W32 [m % 4294967296, m / 4294967296] = m := by
  show m % 4294967296 + 4294967296 * (m / 4294967296 + 4294967296 * 0) = m
  omega

set_option maxHeartbeats 2000000 in
theorem c_From (w : World) (n : Int) (h1 : -9223372036854775808 ≤ n) (h2 : n < 9223372036854775808) :
    Calls Tryd.prog 27 #[iv n] w (Ret fun r w' => Kp [] w w' ∧ r = Wv n) := by
  have hm : n.natAbs ≤ 9223372036854775808 := by omega
  have hm2 : n.natAbs < 18446744073709551616 := by omega
  have hlt : ∀ x ∈ [n.natAbs % 4294967296, n.natAbs / 4294967296], x < W32 := fun x hx => by
    simp only [List.mem_cons, List.mem_nil_iff, or_false] at hx
    show x < 4294967296
    omega
  by_cases hn : n < 0
  · refine calls_of_S [] [] (by simp) [] Tryd.func27 rfl mixed (by kernel_rfl) Tryd.ntmps27 Tryd.results27 rfl ⟨by simp, by simp⟩ (by simp) ?_
    simp only [toS, textOps, toSOp, kindAt, kindOf, odAt, sopsAt, ordOf, zipF]
    (repeat' (first | refine JC.seq ?_ | refine JC.ops ?_ | refine JO.nil ?_ | refine JX.thenN ?_ | (apply r_move; exact rfl; exact rfl; exact rfl) | (apply r_allocZ; exact rfl; exact rfl; exact rfl; intro _)))
    refine r_i64U (18446744073709551616 - n.natAbs) rfl rfl rfl (by rw [IntKind.wrap_u64]; omega) ?_
    (repeat' (first | refine JC.seq ?_ | refine JC.ops ?_ | refine JO.nil ?_ | refine JX.thenN ?_ | (apply r_move; exact rfl; exact rfl; exact rfl) | (apply r_assign; exact rfl; exact rfl; exact rfl) | (apply r_lss; exact rfl; exact rfl; exact rfl; exact rfl; all_goals intro hc; all_goals try (exfalso; omega)) | refine JC.condT rfl ?_))
    refine r_negU rfl rfl rfl (by omega) ?_
    rw [show (18446744073709551616 - (18446744073709551616 - n.natAbs)) % 18446744073709551616 = n.natAbs by omega]
    (repeat' (first | refine JC.seq ?_ | refine JC.ops ?_ | refine JO.nil ?_ | refine JX.thenN ?_ | (apply r_move; exact rfl; exact rfl; exact rfl) | (apply r_assign; exact rfl; exact rfl; exact rfl) | (apply r_shr32; exact rfl; exact rfl; exact rfl; exact rfl) | (apply r_maskU; exact rfl; exact rfl; exact rfl; exact rfl; (first | assumption | omega)) | (apply r_lss; exact rfl; exact rfl; exact rfl; exact rfl; all_goals intro hc; all_goals try (exfalso; omega)) | (apply r_build1; exact rfl; exact rfl; exact rfl; exact rfl; exact rfl; (repeat first | exact trivial | refine ⟨rfl, ?_⟩); decide; decide; intro _)))
    rename_i b3
    have hO : OwnU [(b3, .cells ⟨[uv (n.natAbs % 4294967296), uv (n.natAbs / 4294967296)]⟩ 68)] (.slice (some ⟨b3, 0, none⟩) 2 2) 2 [n.natAbs % 4294967296, n.natAbs / 4294967296] := own_litU b3 2 _ _ rfl rfl (by omega)
    refine r_call0 trivial rfl rfl rfl (fun w hk hs => c_wide w _ _ _ true (hO.rd.at hk hs (by (repeat' first | exact HSub.nil _ | exact HSub.hd | exact HSub.in0 | exact HSub.refl _ | refine HSub.skip ?_ | refine HSub.skipN ?_))) hlt (by omega)) fun w v w' _ _ _ hR => ?_
    subst hR
    (repeat' (first | refine JO.nil ?_ | refine JX.thenN ?_ | (apply r_storeN; exact rfl; (first | exact trivial | exact ⟨rfl, rfl⟩); exact rfl; exact rfl; (first | exact at0 | exact at1 | exact at2 | exact at3 | exact at4 | exact at5 | exact at6 | exact at7 | exact at8 | exact at9); exact rfl; exact rfl; exact rfl) | (apply r_storeN; exact rfl; (first | exact trivial | exact ⟨rfl, rfl⟩); exact rfl; exact rfl; (first | exact at0 | exact at1 | exact at2 | exact at3 | exact at4 | exact at5 | exact at6 | exact at7 | exact at8 | exact at9); exact rfl; exact rfl; exact rfl) | refine JC.ret ?_))
    exact JX.retC 1 rfl rfl rfl (fun a w' st => ⟨st.kp, by show Wv (sgn true (val W32 _)) = _; rw [val_two]; congr 1; simp only [sgn, if_true, Bool.false_eq_true, if_false]; omega⟩)
  · refine calls_of_S [] [] (by simp) [] Tryd.func27 rfl mixed (by kernel_rfl) Tryd.ntmps27 Tryd.results27 rfl ⟨by simp, by simp⟩ (by simp) ?_
    simp only [toS, textOps, toSOp, kindAt, kindOf, odAt, sopsAt, ordOf, zipF]
    (repeat' (first | refine JC.seq ?_ | refine JC.ops ?_ | refine JO.nil ?_ | refine JX.thenN ?_ | (apply r_move; exact rfl; exact rfl; exact rfl) | (apply r_allocZ; exact rfl; exact rfl; exact rfl; intro _)))
    refine r_i64U n.natAbs rfl rfl rfl (by rw [IntKind.wrap_u64]; omega) ?_
    (repeat' (first | refine JC.seq ?_ | refine JC.ops ?_ | refine JO.nil ?_ | refine JX.thenN ?_ | (apply r_move; exact rfl; exact rfl; exact rfl) | (apply r_assign; exact rfl; exact rfl; exact rfl) | (apply r_shr32; exact rfl; exact rfl; exact rfl; exact rfl) | (apply r_maskU; exact rfl; exact rfl; exact rfl; exact rfl; (first | assumption | omega)) | (apply r_lss; exact rfl; exact rfl; exact rfl; exact rfl; all_goals intro hc; all_goals try (exfalso; omega)) | (apply r_build1; exact rfl; exact rfl; exact rfl; exact rfl; exact rfl; (repeat first | exact trivial | refine ⟨rfl, ?_⟩); decide; decide; intro _) | refine JC.skip ?_ | refine JC.condF rfl ?_))
    rename_i b3
    have hO : OwnU [(b3, .cells ⟨[uv (n.natAbs % 4294967296), uv (n.natAbs / 4294967296)]⟩ 68)] (.slice (some ⟨b3, 0, none⟩) 2 2) 2 [n.natAbs % 4294967296, n.natAbs / 4294967296] := own_litU b3 2 _ _ rfl rfl (by omega)
    refine r_call0 trivial rfl rfl rfl (fun w hk hs => c_wide w _ _ _ false (hO.rd.at hk hs (by (repeat' first | exact HSub.nil _ | exact HSub.hd | exact HSub.in0 | exact HSub.refl _ | refine HSub.skip ?_ | refine HSub.skipN ?_))) hlt (by omega)) fun w v w' _ _ _ hR => ?_
    subst hR
    (repeat' (first | refine JO.nil ?_ | refine JX.thenN ?_ | (apply r_storeN; exact rfl; (first | exact trivial | exact ⟨rfl, rfl⟩); exact rfl; exact rfl; (first | exact at0 | exact at1 | exact at2 | exact at3 | exact at4 | exact at5 | exact at6 | exact at7 | exact at8 | exact at9); exact rfl; exact rfl; exact rfl) | (apply r_storeN; exact rfl; (first | exact trivial | exact ⟨rfl, rfl⟩); exact rfl; exact rfl; (first | exact at0 | exact at1 | exact at2 | exact at3 | exact at4 | exact at5 | exact at6 | exact at7 | exact at8 | exact at9); exact rfl; exact rfl; exact rfl) | refine JC.ret ?_))
    exact JX.retC 1 rfl rfl rfl (fun a w' st => ⟨st.kp, by show Wv (sgn false (val W32 _)) = _; rw [val_two]; congr 1; simp only [sgn, if_true, Bool.false_eq_true, if_false]; omega⟩)

/-- Three results, the first two structs in owned blocks. -/
theorem JX.retCCT {c : Cx} {t t' t'' : Tmp} {v' : Value} {ty ty' n n' b b' : Nat} {cs cs' : Array Value} {T T' : TypeId} {fz fz' : Nat × Nat} {R : Value → World → Prop} {F : SFrame} {H : SHeap} [TN c.P ty n] [TN c.P ty' n'] (k k' : Nat) (h1 : look F t = some (.pointer (some ⟨b, 0, none⟩)))
    (h2 : H[k]? = some (b, Obj.cells cs T fz)) (hn : cs.size = n) (h1' : look F t' = some (.pointer (some ⟨b', 0, none⟩))) (h2' : H[k']? = some (b', Obj.cells cs' T' fz')) (hn' : cs'.size = n') (h' : look F t'' = some v') (hR : ∀ a w, St c F H a w → R (.tuple #[.agg cs, .agg cs', v']) w) : JX c (endPost c.P #[.cell t ty, .cell t' ty', .tmp t''] (Ret R)) .ret F H :=
  JX.ret' [.agg cs, .agg cs', v'] (JR.cellN k h1 h2 hn (JR.cellN k' h1' h2' hn' ⟨h', trivial⟩)) hR

set_option maxHeartbeats 8000000 in
theorem c_Quo (w : World) (v u : Value) (a b : Int) (k : Nat) (hv : IsZ v a k) (hu : IsZ u b k) (hk : k ≤ 10000) :
    Calls Tryd.prog 20 #[v, u] w (Ret fun r w' => Kp [] w w' ∧ r = if b = 0 then .tuple #[Wv 0, Wv 0, .bool false] else .tuple #[Wv (a / b), Wv (a % b), .bool true]) := by
  obtain ⟨p, l, rfl, hl1, rfl⟩ := hv
  obtain ⟨q, l', rfl, hl2, rfl⟩ := hu
  refine calls_of_S [⟨1, 1, [0, 2, 1, 3, 4, 5], []⟩, ⟨3, 2, [], []⟩] [] (by simp) [] Tryd.func20 rfl mixed (by kernel_rfl) Tryd.ntmps20 Tryd.results20 rfl ⟨by simp, by simp⟩ (by simp) ?_
  simp only [toS, textOps, toSOp, kindAt, kindOf, odAt, sopsAt, ordOf, zipF]
  (repeat' (first | refine JC.seq ?_ | refine JC.ops ?_ | refine JC.opsD ?_ | refine JO.nil ?_ | refine JX.thenN ?_ | (apply r_assign; exact rfl; exact rfl; exact rfl) | (apply r_loadN; exact rfl; exact rfl; exact rfl; exact rfl; (first | exact at0 | exact at1 | exact at2 | exact at3 | exact at4 | exact at5 | exact at6 | exact at7 | exact at8 | exact at9); exact rfl) | (apply r_allocZ; exact rfl; exact rfl; exact rfl; intro _) | (apply r_boxA; exact rfl; exact rfl; exact rfl; exact rfl; intro _)))
  refine r_callA (A := [_, _, _, _]) rfl (by first | trivial | exact ⟨rfl, rfl⟩) rfl rfl rfl (fun w hk hs => c_abs w p l (by omega)) fun w v w' _ _ _ hR => ?_
  obtain ⟨N1, zs1, hN1, hO1, hz1, hval1⟩ := hR
  refine ⟨N1, hN1, ?_⟩
  have hzl1 := words_le hz1 hval1 hl1
  skip
  refine r_callA (A := [_, _, _, _]) rfl (by first | trivial | exact ⟨rfl, rfl⟩) rfl rfl rfl (fun w hk hs => c_abs w q l' (by omega)) fun w v w' _ _ _ hR => ?_
  obtain ⟨N2, zs2, hN2, hO2, hz2, hval2⟩ := hR
  refine ⟨N2, hN2, ?_⟩
  have hzl2 := words_le hz2 hval2 hl2
  have he := hz2.eq_nil (by decide)
  rw [hval2] at he
  by_cases h0 : zs2.length = 0
  · have h1 := he.1 (List.eq_nil_of_length_eq_zero h0)
    rw [h1, if_pos (sgn_zero q)]
    (repeat' (first | refine JC.seq ?_ | refine JC.ops ?_ | refine JC.opsD ?_ | refine JO.nil ?_ | refine JX.thenN ?_ | (apply r_move; exact rfl; exact rfl; exact rfl) | (apply r_assign; exact rfl; exact rfl; exact rfl) | (apply r_loadN; exact rfl; exact rfl; exact rfl; exact rfl; (first | exact at0 | exact at1 | exact at2 | exact at3 | exact at4 | exact at5 | exact at6 | exact at7 | exact at8 | exact at9); exact rfl) | (apply r_storeN; exact rfl; (first | exact trivial | exact ⟨rfl, rfl⟩); exact rfl; exact rfl; (first | exact at0 | exact at1 | exact at2 | exact at3 | exact at4 | exact at5 | exact at6 | exact at7 | exact at8 | exact at9); exact rfl; exact rfl; exact rfl) | (apply r_storeKN; exact rfl; exact rfl; exact rfl; (first | exact at0 | exact at1 | exact at2 | exact at3 | exact at4 | exact at5 | exact at6 | exact at7 | exact at8 | exact at9); exact rfl; exact rfl; exact rfl; (repeat' first | exact HSub.refl _ | exact HSub.nil _ | refine HSub.at 0 rfl ?_ | refine HSub.at 1 rfl ?_ | refine HSub.at 2 rfl ?_ | refine HSub.at 3 rfl ?_ | refine HSub.at 4 rfl ?_ | refine HSub.at 5 rfl ?_ | refine HSub.at 6 rfl ?_ | refine HSub.at 7 rfl ?_ | refine HSub.at 8 rfl ?_ | refine HSub.at 9 rfl ?_ | refine HSub.at 10 rfl ?_ | refine HSub.at 11 rfl ?_ | refine HSub.at 12 rfl ?_ | refine HSub.at 13 rfl ?_ | refine HSub.at 14 rfl ?_ | refine HSub.at 15 rfl ?_ | refine HSub.at 16 rfl ?_ | refine HSub.at 17 rfl ?_ | refine HSub.at 18 rfl ?_ | refine HSub.at 19 rfl ?_ | refine HSub.segH ?_ | refine HSub.skip ?_ | refine HSub.skipN ?_)) | (apply r_lenU; exact rfl; exact rfl; exact rfl; (first | assumption | exact WU.rd (by assumption) rfl [] | exact OwnU.rd (by assumption))) | (apply r_eql; exact rfl; exact rfl; exact rfl; exact rfl; all_goals intro hc; all_goals try (exfalso; omega)) | (apply r_storeN; exact rfl; (first | exact trivial | exact ⟨rfl, rfl⟩); exact rfl; exact rfl; (first | exact at0 | exact at1 | exact at2 | exact at3 | exact at4 | exact at5 | exact at6 | exact at7 | exact at8 | exact at9); exact rfl; exact rfl; exact rfl) | refine JX.thenR ?_ | refine JC.ret ?_ | refine JC.condT rfl ?_))
    exact JX.retCCT 1 0 rfl rfl rfl rfl rfl rfl rfl (fun a w' st => ⟨st.kp, rfl⟩)
  have hy0 : bval (bts l') ≠ 0 := fun h => h0 (by rw [he.2 h]; rfl)
  rw [if_neg (fun h => hy0 ((sgn_eq_zero _ _).1 h))]
  have hv1 : val W32 zs1 < 256 ^ k := by rw [hval1]; exact bval_bts_lt hl1
  have hv2 : val W32 zs2 < 256 ^ k := by rw [hval2]; exact bval_bts_lt hl2
  have hpw : 256 ^ k ≤ W32 ^ k := Nat.pow_le_pow_left (by decide) k
  have hpk : 0 < 256 ^ k := Nat.pow_pos (by decide)
  (repeat' (first | refine JC.seq ?_ | refine JC.ops ?_ | refine JO.nil ?_ | refine JX.thenN ?_ | (apply r_move; exact rfl; exact rfl; exact rfl) | (apply r_assign; exact rfl; exact rfl; exact rfl) | (apply r_lenU; exact rfl; exact rfl; exact rfl; (first | assumption | exact WU.rd (by assumption) rfl [] | exact OwnU.rd (by assumption))) | (apply r_eql; exact rfl; exact rfl; exact rfl; exact rfl; all_goals intro hc; all_goals try (exfalso; omega)) | refine JC.skip ?_ | refine JC.condF rfl ?_))
  refine r_callA (A := [_, _, _, _]) rfl trivial rfl rfl rfl (fun w hk hs => c_div w _ _ _ _ _ _ (hO1.rd.at hk hs (by (repeat' first | exact HSub.nil _ | exact HSub.hd | exact HSub.in0 | exact HSub.refl _ | refine HSub.skip ?_ | refine HSub.skipN ?_))) (hO2.rd.at hk hs (by (repeat' first | exact HSub.nil _ | exact HSub.hd | exact HSub.in0 | exact HSub.refl _ | refine HSub.skip ?_ | refine HSub.skipN ?_))) hz1 hz2 (by omega) (by omega) (by omega)) fun w v w' _ _ _ hR => ?_
  obtain ⟨N3, N4, v3, v4, zs3, zs4, rfl, hN34, hO3, hO4, hz3, hz4, hval3, hlt4⟩ := hR.ex
  refine ⟨_, hN34, ?_⟩
  rw [List.append_assoc N3 N4]
  have hzl4 : zs4.length ≤ k := hz4.len_le (by decide) (by omega)
  have hzl3 : zs3.length ≤ k := hz3.len_le (by decide) (by
    have h1 : val W32 zs3 ≤ val W32 zs3 * val W32 zs2 := Nat.le_mul_of_pos_right _ (by omega)
    omega)
  have hlaw := quo_law p q (val W32 zs1) (val W32 zs2) (val W32 zs3) (val W32 zs4) (by omega) hval3 hlt4
  rw [hval1, hval2] at hlaw
  have he4 := hz4.eq_nil (by decide)
  have hlaw1 := hlaw.1
  have hlaw2 := hlaw.2
  clear hlaw
  rcases hO4 with hO4 | ⟨rfl, rfl, rfl⟩
  · by_cases hp : p = true ∧ 0 < zs4.length
    · obtain ⟨rfl, hp4⟩ := hp
      have hr0 : 0 < val W32 zs4 := Nat.pos_of_ne_zero fun h => by rw [he4.2 h] at hp4; exact absurd hp4 (by simp)
      obtain ⟨hq1, hq2⟩ := hlaw1 ⟨rfl, hr0⟩
      have hlen : zs4.length ≤ zs2.length := by
        refine Decidable.byContradiction fun h => ?_
        have := len_cmp (b := W32) (by decide) hz2 hz4 (by omega)
        omega
      (repeat' (first | refine JC.seq ?_ | refine JC.ops ?_ | refine JO.nil ?_ | refine JX.thenN ?_ | (apply r_move; exact rfl; exact rfl; exact rfl) | (apply r_fieldAddr; exact rfl; exact rfl; exact rfl) | (apply r_assign; exact rfl; exact rfl; exact rfl) | (apply r_load; exact rfl; exact rfl; exact rfl; exact rfl; (first | exact at0 | exact at1 | exact at2 | exact at3 | exact at4 | exact at5 | exact at6 | exact at7 | exact at8 | exact at9); exact rfl) | (apply r_pickT; exact rfl; exact rfl; exact rfl; exact rfl) | (apply r_extract; exact rfl; exact rfl; exact rfl; exact rfl) | (apply r_lenU; exact rfl; exact rfl; exact rfl; (first | assumption | exact WU.rd (by assumption) rfl [] | exact OwnU.rd (by assumption))) | (apply r_gtr; exact rfl; exact rfl; exact rfl; exact rfl; all_goals intro hc; all_goals try (exfalso; omega)) | (apply r_build1; exact rfl; exact rfl; exact rfl; exact rfl; exact rfl; (repeat first | exact trivial | refine ⟨rfl, ?_⟩); decide; decide; intro _) | refine JC.condT rfl ?_))
      rename_i b9
      have hO9 : OwnU [(b9, .cells ⟨[.int .u64 1]⟩ 68)] (.slice (some ⟨b9, 0, none⟩) 1 1) 1 [1] := own_litU b9 1 [1] _ rfl rfl (by omega)
      refine r_callA (A := [_, _, _, _, _]) rfl trivial rfl rfl rfl (fun w hk hs => c_add w _ _ _ _ _ _ (hO3.rd.at hk hs (by (repeat' first | exact HSub.nil _ | exact HSub.hd | exact HSub.in0 | exact HSub.refl _ | refine HSub.skip ?_ | refine HSub.skipN ?_))) (hO9.rd.at hk hs (by (repeat' first | exact HSub.nil _ | exact HSub.hd | exact HSub.in0 | exact HSub.refl _ | refine HSub.skip ?_ | refine HSub.skipN ?_))) hz3.lt (fun x hx => by rw [List.mem_singleton] at hx; rw [hx]; decide) (by omega) (by omega)) fun w v w' _ _ _ hR => ?_
      obtain ⟨N5, zs5, hN5, hO5, hz5, hval5⟩ := hR
      refine ⟨N5, hN5, ?_⟩
      rw [val_one] at hval5
      have hzl5 : zs5.length ≤ k + 1 := hz5.len_le (by decide) (by
        rw [hval5, Nat.pow_succ]
        have h1 : val W32 zs3 ≤ val W32 zs3 * val W32 zs2 := Nat.le_mul_of_pos_right _ (by omega)
        show _ < W32 ^ k * 4294967296
        omega)
      (repeat' (first | (apply r_move; exact rfl; exact rfl; exact rfl)))
      refine r_callA (A := [_, _, _, _, _]) rfl trivial rfl rfl rfl (fun w hk hs => c_sub w _ _ _ _ _ _ (hO2.rd.at hk hs (by (repeat' first | exact HSub.nil _ | exact HSub.hd | exact HSub.in0 | exact HSub.refl _ | refine HSub.skip ?_ | refine HSub.skipN ?_))) (hO4.rd.at hk hs (by (repeat' first | exact HSub.nil _ | exact HSub.hd | exact HSub.in0 | exact HSub.refl _ | refine HSub.skip ?_ | refine HSub.skipN ?_))) hz2.lt hz4.lt (by omega) hlen (by omega)) fun w v w' _ _ _ hR => ?_
      obtain ⟨N6, zs6, hN6, hO6, hz6, hval6⟩ := hR
      refine ⟨N6, hN6, ?_⟩
      have hzl6 : zs6.length ≤ k := hz6.len_le (by decide) (by omega)
      (repeat' (first | refine JC.seq ?_ | refine JC.ops ?_ | refine JO.nil ?_ | refine JX.thenN ?_ | (apply r_move; exact rfl; exact rfl; exact rfl) | (apply r_fieldAddr; exact rfl; exact rfl; exact rfl) | (apply r_assign; exact rfl; exact rfl; exact rfl) | (apply r_load; exact rfl; exact rfl; exact rfl; exact rfl; (first | exact at0 | exact at1 | exact at2 | exact at3 | exact at4 | exact at5 | exact at6 | exact at7 | exact at8 | exact at9); exact rfl) | (apply r_neB; exact rfl; exact rfl; exact rfl; exact rfl)))
      refine r_call0 trivial rfl rfl rfl (fun w hk hs => c_wide w _ _ zs5 (true != q) (hO5.rd.at hk hs (by (repeat' first | exact HSub.nil _ | exact HSub.hd | exact HSub.in0 | exact HSub.refl _ | refine HSub.skip ?_ | refine HSub.skipN ?_))) hz5.lt (by omega)) fun w v w' _ _ _ hR => ?_
      subst hR
      (repeat' (first | (apply r_move; exact rfl; exact rfl; exact rfl)))
      refine r_call0 trivial rfl rfl rfl (fun w hk hs => c_wide w _ _ zs6 false (hO6.rd.at hk hs (by (repeat' first | exact HSub.nil _ | exact HSub.hd | exact HSub.in0 | exact HSub.refl _ | refine HSub.skip ?_ | refine HSub.skipN ?_))) hz6.lt (by omega)) fun w v w' _ _ _ hR => ?_
      subst hR
      (repeat' (first | refine JO.nil ?_ | refine JX.thenN ?_ | (apply r_assign; exact rfl; exact rfl; exact rfl) | (apply r_storeN; exact rfl; (first | exact trivial | exact ⟨rfl, rfl⟩); exact rfl; exact rfl; (first | exact at0 | exact at1 | exact at2 | exact at3 | exact at4 | exact at5 | exact at6 | exact at7 | exact at8 | exact at9); exact rfl; exact rfl; exact rfl) | (apply r_storeN; exact rfl; (first | exact trivial | exact ⟨rfl, rfl⟩); exact rfl; exact rfl; (first | exact at0 | exact at1 | exact at2 | exact at3 | exact at4 | exact at5 | exact at6 | exact at7 | exact at8 | exact at9); exact rfl; exact rfl; exact rfl) | refine JC.ret ?_))
      refine JX.retCCT 2 1 rfl rfl rfl rfl rfl rfl rfl (fun a w' st => ⟨st.kp, ?_⟩)
      show Value.tuple #[Wv (sgn (true != q) (val W32 zs5)), Wv (sgn false (val W32 zs6)), _] = _
      rw [hval5, hq1, ← hq2, ← hval2]
      have : val W32 zs6 = val W32 zs2 - val W32 zs4 := by omega
      rw [this]
      rfl
    have hq := hlaw2 (fun ⟨h1, h2⟩ => hp ⟨h1, by
      refine Nat.pos_of_ne_zero fun h => ?_
      have := List.eq_nil_of_length_eq_zero h
      rw [this] at h2
      exact absurd h2 (by simp [val])⟩)
    obtain ⟨hq1, hq2⟩ := hq
    have hnp : p = true → zs4.length = 0 := fun h => by
      refine Decidable.byContradiction fun h' => hp ⟨h, by omega⟩
    cases p with
    | false =>
      (repeat' (first | refine JC.seq ?_ | refine JC.ops ?_ | refine JO.nil ?_ | refine JX.thenN ?_ | (apply r_move; exact rfl; exact rfl; exact rfl) | (apply r_fieldAddr; exact rfl; exact rfl; exact rfl) | (apply r_assign; exact rfl; exact rfl; exact rfl) | (apply r_load; exact rfl; exact rfl; exact rfl; exact rfl; (first | exact at0 | exact at1 | exact at2 | exact at3 | exact at4 | exact at5 | exact at6 | exact at7 | exact at8 | exact at9); exact rfl) | (apply r_pickF; exact rfl; exact rfl; exact rfl; exact rfl) | (apply r_extract; exact rfl; exact rfl; exact rfl; exact rfl) | (apply r_neB; exact rfl; exact rfl; exact rfl; exact rfl) | refine JC.skip ?_ | refine JC.condF rfl ?_ | (apply r_skip; exact rfl; exact rfl; (first | (intro h; cases h; done) | (intro _; rfl)))))
      refine r_call0 trivial rfl rfl rfl (fun w hk hs => c_wide w _ _ zs3 (false != q) (hO3.rd.at hk hs (by (repeat' first | exact HSub.nil _ | exact HSub.hd | exact HSub.in0 | exact HSub.refl _ | refine HSub.skip ?_ | refine HSub.skipN ?_))) hz3.lt (by omega)) fun w v w' _ _ _ hR => ?_
      subst hR
      (repeat' (first | (apply r_move; exact rfl; exact rfl; exact rfl)))
      refine r_call0 trivial rfl rfl rfl (fun w hk hs => c_wide w _ _ zs4 false (hO4.rd.at hk hs (by (repeat' first | exact HSub.nil _ | exact HSub.hd | exact HSub.in0 | exact HSub.refl _ | refine HSub.skip ?_ | refine HSub.skipN ?_))) hz4.lt (by omega)) fun w v w' _ _ _ hR => ?_
      subst hR
      (repeat' (first | refine JO.nil ?_ | refine JX.thenN ?_ | (apply r_assign; exact rfl; exact rfl; exact rfl) | (apply r_storeN; exact rfl; (first | exact trivial | exact ⟨rfl, rfl⟩); exact rfl; exact rfl; (first | exact at0 | exact at1 | exact at2 | exact at3 | exact at4 | exact at5 | exact at6 | exact at7 | exact at8 | exact at9); exact rfl; exact rfl; exact rfl) | (apply r_storeN; exact rfl; (first | exact trivial | exact ⟨rfl, rfl⟩); exact rfl; exact rfl; (first | exact at0 | exact at1 | exact at2 | exact at3 | exact at4 | exact at5 | exact at6 | exact at7 | exact at8 | exact at9); exact rfl; exact rfl; exact rfl) | refine JC.ret ?_))
      refine JX.retCCT 1 0 rfl rfl rfl rfl rfl rfl rfl (fun a w' st => ⟨st.kp, ?_⟩)
      show Value.tuple #[Wv (sgn (false != q) (val W32 zs3)), Wv (sgn false (val W32 zs4)), _] = _
      rw [hq1, ← hq2]
      rfl
    | true =>
      have hz0 := hnp rfl
      (repeat' (first | refine JC.seq ?_ | refine JC.ops ?_ | refine JO.nil ?_ | refine JX.thenN ?_ | (apply r_move; exact rfl; exact rfl; exact rfl) | (apply r_fieldAddr; exact rfl; exact rfl; exact rfl) | (apply r_assign; exact rfl; exact rfl; exact rfl) | (apply r_load; exact rfl; exact rfl; exact rfl; exact rfl; (first | exact at0 | exact at1 | exact at2 | exact at3 | exact at4 | exact at5 | exact at6 | exact at7 | exact at8 | exact at9); exact rfl) | (apply r_pickT; exact rfl; exact rfl; exact rfl; exact rfl) | (apply r_extract; exact rfl; exact rfl; exact rfl; exact rfl) | (apply r_lenU; exact rfl; exact rfl; exact rfl; (first | assumption | exact WU.rd (by assumption) rfl [] | exact OwnU.rd (by assumption))) | (apply r_gtr; exact rfl; exact rfl; exact rfl; exact rfl; all_goals intro hc; all_goals try (exfalso; omega)) | (apply r_neB; exact rfl; exact rfl; exact rfl; exact rfl) | refine JC.skip ?_ | refine JC.condF rfl ?_))
      refine r_call0 trivial rfl rfl rfl (fun w hk hs => c_wide w _ _ zs3 (true != q) (hO3.rd.at hk hs (by (repeat' first | exact HSub.nil _ | exact HSub.hd | exact HSub.in0 | exact HSub.refl _ | refine HSub.skip ?_ | refine HSub.skipN ?_))) hz3.lt (by omega)) fun w v w' _ _ _ hR => ?_
      subst hR
      (repeat' (first | (apply r_move; exact rfl; exact rfl; exact rfl)))
      refine r_call0 trivial rfl rfl rfl (fun w hk hs => c_wide w _ _ zs4 false (hO4.rd.at hk hs (by (repeat' first | exact HSub.nil _ | exact HSub.hd | exact HSub.in0 | exact HSub.refl _ | refine HSub.skip ?_ | refine HSub.skipN ?_))) hz4.lt (by omega)) fun w v w' _ _ _ hR => ?_
      subst hR
      (repeat' (first | refine JO.nil ?_ | refine JX.thenN ?_ | (apply r_assign; exact rfl; exact rfl; exact rfl) | (apply r_storeN; exact rfl; (first | exact trivial | exact ⟨rfl, rfl⟩); exact rfl; exact rfl; (first | exact at0 | exact at1 | exact at2 | exact at3 | exact at4 | exact at5 | exact at6 | exact at7 | exact at8 | exact at9); exact rfl; exact rfl; exact rfl) | (apply r_storeN; exact rfl; (first | exact trivial | exact ⟨rfl, rfl⟩); exact rfl; exact rfl; (first | exact at0 | exact at1 | exact at2 | exact at3 | exact at4 | exact at5 | exact at6 | exact at7 | exact at8 | exact at9); exact rfl; exact rfl; exact rfl) | refine JC.ret ?_))
      refine JX.retCCT 1 0 rfl rfl rfl rfl rfl rfl rfl (fun a w' st => ⟨st.kp, ?_⟩)
      show Value.tuple #[Wv (sgn (true != q) (val W32 zs3)), Wv (sgn false (val W32 zs4)), _] = _
      rw [hq1, ← hq2]
      rfl
  · by_cases hp : p = true ∧ 0 < zs4.length
    · obtain ⟨rfl, hp4⟩ := hp
      have hr0 : 0 < val W32 zs4 := Nat.pos_of_ne_zero fun h => by rw [he4.2 h] at hp4; exact absurd hp4 (by simp)
      obtain ⟨hq1, hq2⟩ := hlaw1 ⟨rfl, hr0⟩
      have hlen : zs4.length ≤ zs2.length := by
        refine Decidable.byContradiction fun h => ?_
        have := len_cmp (b := W32) (by decide) hz2 hz4 (by omega)
        omega
      (repeat' (first | refine JC.seq ?_ | refine JC.ops ?_ | refine JO.nil ?_ | refine JX.thenN ?_ | (apply r_move; exact rfl; exact rfl; exact rfl) | (apply r_fieldAddr; exact rfl; exact rfl; exact rfl) | (apply r_assign; exact rfl; exact rfl; exact rfl) | (apply r_load; exact rfl; exact rfl; exact rfl; exact rfl; (first | exact at0 | exact at1 | exact at2 | exact at3 | exact at4 | exact at5 | exact at6 | exact at7 | exact at8 | exact at9); exact rfl) | (apply r_pickT; exact rfl; exact rfl; exact rfl; exact rfl) | (apply r_extract; exact rfl; exact rfl; exact rfl; exact rfl) | (apply r_lenU; exact rfl; exact rfl; exact rfl; (first | assumption | exact WU.rd (by assumption) rfl [] | exact OwnU.rd (by assumption))) | (apply r_gtr; exact rfl; exact rfl; exact rfl; exact rfl; all_goals intro hc; all_goals try (exfalso; omega)) | (apply r_build1; exact rfl; exact rfl; exact rfl; exact rfl; exact rfl; (repeat first | exact trivial | refine ⟨rfl, ?_⟩); decide; decide; intro _) | refine JC.condT rfl ?_))
      rename_i b9
      have hO9 : OwnU [(b9, .cells ⟨[.int .u64 1]⟩ 68)] (.slice (some ⟨b9, 0, none⟩) 1 1) 1 [1] := own_litU b9 1 [1] _ rfl rfl (by omega)
      refine r_callA (A := [_, _, _, _, _]) rfl trivial rfl rfl rfl (fun w hk hs => c_add w _ _ _ _ _ _ (hO3.rd.at hk hs (by (repeat' first | exact HSub.nil _ | exact HSub.hd | exact HSub.in0 | exact HSub.refl _ | refine HSub.skip ?_ | refine HSub.skipN ?_))) (hO9.rd.at hk hs (by (repeat' first | exact HSub.nil _ | exact HSub.hd | exact HSub.in0 | exact HSub.refl _ | refine HSub.skip ?_ | refine HSub.skipN ?_))) hz3.lt (fun x hx => by rw [List.mem_singleton] at hx; rw [hx]; decide) (by omega) (by omega)) fun w v w' _ _ _ hR => ?_
      obtain ⟨N5, zs5, hN5, hO5, hz5, hval5⟩ := hR
      refine ⟨N5, hN5, ?_⟩
      rw [val_one] at hval5
      have hzl5 : zs5.length ≤ k + 1 := hz5.len_le (by decide) (by
        rw [hval5, Nat.pow_succ]
        have h1 : val W32 zs3 ≤ val W32 zs3 * val W32 zs2 := Nat.le_mul_of_pos_right _ (by omega)
        show _ < W32 ^ k * 4294967296
        omega)
      (repeat' (first | (apply r_move; exact rfl; exact rfl; exact rfl)))
      refine r_callA (A := [_, _, _, _, _]) rfl trivial rfl rfl rfl (fun w hk hs => c_sub w _ _ _ _ _ _ (hO2.rd.at hk hs (by (repeat' first | exact HSub.nil _ | exact HSub.hd | exact HSub.in0 | exact HSub.refl _ | refine HSub.skip ?_ | refine HSub.skipN ?_))) (hO1.rd.at hk hs (by (repeat' first | exact HSub.nil _ | exact HSub.hd | exact HSub.in0 | exact HSub.refl _ | refine HSub.skip ?_ | refine HSub.skipN ?_))) hz2.lt hz4.lt (by omega) hlen (by omega)) fun w v w' _ _ _ hR => ?_
      obtain ⟨N6, zs6, hN6, hO6, hz6, hval6⟩ := hR
      refine ⟨N6, hN6, ?_⟩
      have hzl6 : zs6.length ≤ k := hz6.len_le (by decide) (by omega)
      (repeat' (first | refine JC.seq ?_ | refine JC.ops ?_ | refine JO.nil ?_ | refine JX.thenN ?_ | (apply r_move; exact rfl; exact rfl; exact rfl) | (apply r_fieldAddr; exact rfl; exact rfl; exact rfl) | (apply r_assign; exact rfl; exact rfl; exact rfl) | (apply r_load; exact rfl; exact rfl; exact rfl; exact rfl; (first | exact at0 | exact at1 | exact at2 | exact at3 | exact at4 | exact at5 | exact at6 | exact at7 | exact at8 | exact at9); exact rfl) | (apply r_neB; exact rfl; exact rfl; exact rfl; exact rfl)))
      refine r_call0 trivial rfl rfl rfl (fun w hk hs => c_wide w _ _ zs5 (true != q) (hO5.rd.at hk hs (by (repeat' first | exact HSub.nil _ | exact HSub.hd | exact HSub.in0 | exact HSub.refl _ | refine HSub.skip ?_ | refine HSub.skipN ?_))) hz5.lt (by omega)) fun w v w' _ _ _ hR => ?_
      subst hR
      (repeat' (first | (apply r_move; exact rfl; exact rfl; exact rfl)))
      refine r_call0 trivial rfl rfl rfl (fun w hk hs => c_wide w _ _ zs6 false (hO6.rd.at hk hs (by (repeat' first | exact HSub.nil _ | exact HSub.hd | exact HSub.in0 | exact HSub.refl _ | refine HSub.skip ?_ | refine HSub.skipN ?_))) hz6.lt (by omega)) fun w v w' _ _ _ hR => ?_
      subst hR
      (repeat' (first | refine JO.nil ?_ | refine JX.thenN ?_ | (apply r_assign; exact rfl; exact rfl; exact rfl) | (apply r_storeN; exact rfl; (first | exact trivial | exact ⟨rfl, rfl⟩); exact rfl; exact rfl; (first | exact at0 | exact at1 | exact at2 | exact at3 | exact at4 | exact at5 | exact at6 | exact at7 | exact at8 | exact at9); exact rfl; exact rfl; exact rfl) | (apply r_storeN; exact rfl; (first | exact trivial | exact ⟨rfl, rfl⟩); exact rfl; exact rfl; (first | exact at0 | exact at1 | exact at2 | exact at3 | exact at4 | exact at5 | exact at6 | exact at7 | exact at8 | exact at9); exact rfl; exact rfl; exact rfl) | refine JC.ret ?_))
      refine JX.retCCT 2 1 rfl rfl rfl rfl rfl rfl rfl (fun a w' st => ⟨st.kp, ?_⟩)
      show Value.tuple #[Wv (sgn (true != q) (val W32 zs5)), Wv (sgn false (val W32 zs6)), _] = _
      rw [hval5, hq1, ← hq2, ← hval2]
      have : val W32 zs6 = val W32 zs2 - val W32 zs4 := by omega
      rw [this]
      rfl
    have hq := hlaw2 (fun ⟨h1, h2⟩ => hp ⟨h1, by
      refine Nat.pos_of_ne_zero fun h => ?_
      have := List.eq_nil_of_length_eq_zero h
      rw [this] at h2
      exact absurd h2 (by simp [val])⟩)
    obtain ⟨hq1, hq2⟩ := hq
    have hnp : p = true → zs4.length = 0 := fun h => by
      refine Decidable.byContradiction fun h' => hp ⟨h, by omega⟩
    cases p with
    | false =>
      (repeat' (first | refine JC.seq ?_ | refine JC.ops ?_ | refine JO.nil ?_ | refine JX.thenN ?_ | (apply r_move; exact rfl; exact rfl; exact rfl) | (apply r_fieldAddr; exact rfl; exact rfl; exact rfl) | (apply r_assign; exact rfl; exact rfl; exact rfl) | (apply r_load; exact rfl; exact rfl; exact rfl; exact rfl; (first | exact at0 | exact at1 | exact at2 | exact at3 | exact at4 | exact at5 | exact at6 | exact at7 | exact at8 | exact at9); exact rfl) | (apply r_pickF; exact rfl; exact rfl; exact rfl; exact rfl) | (apply r_extract; exact rfl; exact rfl; exact rfl; exact rfl) | (apply r_neB; exact rfl; exact rfl; exact rfl; exact rfl) | refine JC.skip ?_ | refine JC.condF rfl ?_ | (apply r_skip; exact rfl; exact rfl; (first | (intro h; cases h; done) | (intro _; rfl)))))
      refine r_call0 trivial rfl rfl rfl (fun w hk hs => c_wide w _ _ zs3 (false != q) (hO3.rd.at hk hs (by (repeat' first | exact HSub.nil _ | exact HSub.hd | exact HSub.in0 | exact HSub.refl _ | refine HSub.skip ?_ | refine HSub.skipN ?_))) hz3.lt (by omega)) fun w v w' _ _ _ hR => ?_
      subst hR
      (repeat' (first | (apply r_move; exact rfl; exact rfl; exact rfl)))
      refine r_call0 trivial rfl rfl rfl (fun w hk hs => c_wide w _ _ zs4 false (hO1.rd.at hk hs (by (repeat' first | exact HSub.nil _ | exact HSub.hd | exact HSub.in0 | exact HSub.refl _ | refine HSub.skip ?_ | refine HSub.skipN ?_))) hz4.lt (by omega)) fun w v w' _ _ _ hR => ?_
      subst hR
      (repeat' (first | refine JO.nil ?_ | refine JX.thenN ?_ | (apply r_assign; exact rfl; exact rfl; exact rfl) | (apply r_storeN; exact rfl; (first | exact trivial | exact ⟨rfl, rfl⟩); exact rfl; exact rfl; (first | exact at0 | exact at1 | exact at2 | exact at3 | exact at4 | exact at5 | exact at6 | exact at7 | exact at8 | exact at9); exact rfl; exact rfl; exact rfl) | (apply r_storeN; exact rfl; (first | exact trivial | exact ⟨rfl, rfl⟩); exact rfl; exact rfl; (first | exact at0 | exact at1 | exact at2 | exact at3 | exact at4 | exact at5 | exact at6 | exact at7 | exact at8 | exact at9); exact rfl; exact rfl; exact rfl) | refine JC.ret ?_))
      refine JX.retCCT 1 0 rfl rfl rfl rfl rfl rfl rfl (fun a w' st => ⟨st.kp, ?_⟩)
      show Value.tuple #[Wv (sgn (false != q) (val W32 zs3)), Wv (sgn false (val W32 zs4)), _] = _
      rw [hq1, ← hq2]
      rfl
    | true =>
      have hz0 := hnp rfl
      (repeat' (first | refine JC.seq ?_ | refine JC.ops ?_ | refine JO.nil ?_ | refine JX.thenN ?_ | (apply r_move; exact rfl; exact rfl; exact rfl) | (apply r_fieldAddr; exact rfl; exact rfl; exact rfl) | (apply r_assign; exact rfl; exact rfl; exact rfl) | (apply r_load; exact rfl; exact rfl; exact rfl; exact rfl; (first | exact at0 | exact at1 | exact at2 | exact at3 | exact at4 | exact at5 | exact at6 | exact at7 | exact at8 | exact at9); exact rfl) | (apply r_pickT; exact rfl; exact rfl; exact rfl; exact rfl) | (apply r_extract; exact rfl; exact rfl; exact rfl; exact rfl) | (apply r_lenU; exact rfl; exact rfl; exact rfl; (first | assumption | exact WU.rd (by assumption) rfl [] | exact OwnU.rd (by assumption))) | (apply r_gtr; exact rfl; exact rfl; exact rfl; exact rfl; all_goals intro hc; all_goals try (exfalso; omega)) | (apply r_neB; exact rfl; exact rfl; exact rfl; exact rfl) | refine JC.skip ?_ | refine JC.condF rfl ?_))
      refine r_call0 trivial rfl rfl rfl (fun w hk hs => c_wide w _ _ zs3 (true != q) (hO3.rd.at hk hs (by (repeat' first | exact HSub.nil _ | exact HSub.hd | exact HSub.in0 | exact HSub.refl _ | refine HSub.skip ?_ | refine HSub.skipN ?_))) hz3.lt (by omega)) fun w v w' _ _ _ hR => ?_
      subst hR
      (repeat' (first | (apply r_move; exact rfl; exact rfl; exact rfl)))
      refine r_call0 trivial rfl rfl rfl (fun w hk hs => c_wide w _ _ zs4 false (hO1.rd.at hk hs (by (repeat' first | exact HSub.nil _ | exact HSub.hd | exact HSub.in0 | exact HSub.refl _ | refine HSub.skip ?_ | refine HSub.skipN ?_))) hz4.lt (by omega)) fun w v w' _ _ _ hR => ?_
      subst hR
      (repeat' (first | refine JO.nil ?_ | refine JX.thenN ?_ | (apply r_assign; exact rfl; exact rfl; exact rfl) | (apply r_storeN; exact rfl; (first | exact trivial | exact ⟨rfl, rfl⟩); exact rfl; exact rfl; (first | exact at0 | exact at1 | exact at2 | exact at3 | exact at4 | exact at5 | exact at6 | exact at7 | exact at8 | exact at9); exact rfl; exact rfl; exact rfl) | (apply r_storeN; exact rfl; (first | exact trivial | exact ⟨rfl, rfl⟩); exact rfl; exact rfl; (first | exact at0 | exact at1 | exact at2 | exact at3 | exact at4 | exact at5 | exact at6 | exact at7 | exact at8 | exact at9); exact rfl; exact rfl; exact rfl) | refine JC.ret ?_))
      refine JX.retCCT 1 0 rfl rfl rfl rfl rfl rfl rfl (fun a w' st => ⟨st.kp, ?_⟩)
      show Value.tuple #[Wv (sgn (true != q) (val W32 zs3)), Wv (sgn false (val W32 zs4)), _] = _
      rw [hq1, ← hq2]
      rfl

end Go.Proofs.YtdehklhdjbkneaaDoor
