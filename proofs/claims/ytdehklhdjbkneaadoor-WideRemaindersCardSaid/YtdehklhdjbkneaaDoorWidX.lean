/- Numbers with a sign: Neg, Add, Sub, Mul, Sign, Cmp, From. -/
import Derived.Test.YtdehklhdjbkneaaDoorWidU
import Derived.Test.YtdehklhdjbkneaaDoorWidV
import Derived.Test.YtdehklhdjbkneaaDoorWidO
import Derived.Test.YtdehklhdjbkneaaDoorExO
namespace Go.Proofs.YtdehklhdjbkneaaDoor
open Go Go.RowKit
set_option linter.unusedSimpArgs false
set_option linter.unusedVariables false
set_option linter.unusedSectionVars false

/-- A Wide value of at most k bytes, and its number. -/
def IsZ (v : Value) (a : Int) (k : Nat) : Prop := ∃ p l, v = wv p l ∧ l.length ≤ k ∧ a = sgn p (bval (bts l))
theorem bts_mem {l : List UInt8} : ∀ x ∈ bts l, x < 256 := fun x hx => by
  obtain ⟨a, _, rfl⟩ := List.mem_map.1 hx
  exact UInt8.toNat_lt a
theorem bval_bts_lt {l : List UInt8} {k : Nat} (h : l.length ≤ k) : bval (bts l) < 256 ^ k := by
  have h1 := bval_lt (bts_mem (l := l))
  rw [bts_len] at h1
  exact Nat.lt_of_lt_of_le h1 (Nat.pow_le_pow_right (by decide) h)
theorem IsZ.lt {v : Value} {a : Int} {k : Nat} (h : IsZ v a k) : a.natAbs < 256 ^ k := by
  obtain ⟨p, l, rfl, hl, rfl⟩ := h
  rw [sgn_natAbs]
  exact bval_bts_lt hl
theorem IsZ.mono {v : Value} {a : Int} {k k' : Nat} (h : IsZ v a k) (hk : k ≤ k') : IsZ v a k' := by
  obtain ⟨p, l, rfl, hl, rfl⟩ := h
  exact ⟨p, l, rfl, by omega, rfl⟩
theorem IsZ.can {a : Int} {k : Nat} (h : a.natAbs < 256 ^ k) : IsZ (Wv a) a k :=
  ⟨_, _, rfl, magU_len h, by rw [bval_magU, sgn_self]⟩
theorem words_le {zs : List Nat} {l : List UInt8} {k : Nat} (hz : Dig W32 zs) (hv : val W32 zs = bval (bts l)) (hl : l.length ≤ k) : zs.length ≤ k := by
  refine hz.len_le (by decide) ?_
  rw [hv]
  exact Nat.lt_of_lt_of_le (bval_bts_lt hl) (Nat.pow_le_pow_left (by decide) k)

set_option maxHeartbeats 2000000 in
theorem c_Neg (w : World) (v : Value) (a : Int) (k : Nat) (hv : IsZ v a k) (hk : k ≤ 10000) :
    Calls Tryd.prog 25 #[v] w (Ret fun r w' => Kp [] w w' ∧ r = Wv (-a)) := by
  obtain ⟨p, l, rfl, hl1, rfl⟩ := hv
  refine calls_of_S [⟨1, 1, [0, 2, 3, 4, 1, 5, 6], []⟩] [] (by simp) [] Tryd.func25 rfl mixed (by kernel_rfl) Tryd.ntmps25 Tryd.results25 rfl ⟨by simp, by simp⟩ (by simp) ?_
  simp only [toS, textOps, toSOp, kindAt, kindOf, odAt, sopsAt, ordOf, zipF]
  (repeat' (first | refine JC.seq ?_ | refine JC.ops ?_ | refine JC.opsD ?_ | refine JO.nil ?_ | refine JX.thenN ?_ | (apply r_fieldAddr; exact rfl; exact rfl; exact rfl) | (apply r_load; exact rfl; exact rfl; exact rfl; exact rfl; (first | exact at0 | exact at1 | exact at2 | exact at3 | exact at4 | exact at5 | exact at6 | exact at7 | exact at8 | exact at9); exact rfl) | (apply r_loadN; exact rfl; exact rfl; exact rfl; exact rfl; (first | exact at0 | exact at1 | exact at2 | exact at3 | exact at4 | exact at5 | exact at6 | exact at7 | exact at8 | exact at9); exact rfl) | (apply r_not; exact rfl; exact rfl; exact rfl) | (apply r_allocZ; exact rfl; exact rfl; exact rfl; intro _) | (apply r_boxA; exact rfl; exact rfl; exact rfl; exact rfl; intro _)))
  refine r_callA (A := [_, _]) rfl trivial rfl rfl rfl (fun w hk hs => c_abs w p l (by omega)) fun w v w' _ _ _ hR => ?_
  obtain ⟨N1, zs1, hN1, hO1, hz1, hval1⟩ := hR
  refine ⟨N1, hN1, ?_⟩
  have hzl1 := words_le hz1 hval1 hl1
  skip
  refine r_call0 trivial rfl rfl rfl (fun w hk hs => c_wide w _ _ zs1 (!p) (hO1.rd.at hk hs (by (repeat' first | exact HSub.nil _ | exact HSub.hd | exact HSub.in0 | exact HSub.refl _ | refine HSub.skip ?_ | refine HSub.skipN ?_))) hz1.lt (by omega)) fun w v w' _ _ _ hR => ?_
  subst hR
  (repeat' (first | refine JO.nil ?_ | refine JX.thenN ?_ | (apply r_storeN; exact rfl; (first | exact trivial | exact ⟨rfl, rfl⟩); exact rfl; exact rfl; (first | exact at0 | exact at1 | exact at2 | exact at3 | exact at4 | exact at5 | exact at6 | exact at7 | exact at8 | exact at9); exact rfl; exact rfl; exact rfl) | (apply r_storeN; exact rfl; (first | exact trivial | exact ⟨rfl, rfl⟩); exact rfl; exact rfl; (first | exact at0 | exact at1 | exact at2 | exact at3 | exact at4 | exact at5 | exact at6 | exact at7 | exact at8 | exact at9); exact rfl; exact rfl; exact rfl) | refine JC.ret ?_))
  exact JX.retC 0 rfl rfl rfl (fun a w' st => ⟨st.kp, by show Wv (sgn (!p) (val W32 zs1)) = _; rw [hval1, sgn_not]⟩)

set_option maxHeartbeats 2000000 in
theorem c_Sign (w : World) (v : Value) (a : Int) (k : Nat) (hv : IsZ v a k) (hk : k ≤ 10000) :
    Calls Tryd.prog 21 #[v] w (Ret fun r w' => Kp [] w w' ∧ r = iv a.sign) := by
  obtain ⟨p, l, rfl, hl1, rfl⟩ := hv
  refine calls_of_S [] [] (by simp) [] Tryd.func21 rfl mixed (by kernel_rfl) Tryd.ntmps21 Tryd.results21 rfl ⟨by simp, by simp⟩ (by simp) ?_
  simp only [toS, textOps, toSOp, kindAt, kindOf, odAt, sopsAt, ordOf, zipF]
  (repeat' (first | refine JC.seq ?_ | refine JC.ops ?_ | refine JO.nil ?_ | refine JX.thenN ?_ | (apply r_assign; exact rfl; exact rfl; exact rfl) | (apply r_loadN; exact rfl; exact rfl; exact rfl; exact rfl; (first | exact at0 | exact at1 | exact at2 | exact at3 | exact at4 | exact at5 | exact at6 | exact at7 | exact at8 | exact at9); exact rfl) | (apply r_boxA; exact rfl; exact rfl; exact rfl; exact rfl; intro _) | refine JC.block ?_))
  refine r_callA (A := [_]) rfl trivial rfl rfl rfl (fun w hk hs => c_abs w p l (by omega)) fun w v w' _ _ _ hR => ?_
  obtain ⟨N1, zs1, hN1, hO1, hz1, hval1⟩ := hR
  refine ⟨N1, hN1, ?_⟩
  have hzl1 := words_le hz1 hval1 hl1
  have he := hz1.eq_nil (by decide)
  rw [hval1] at he
  by_cases h0 : zs1.length = 0
  · have h1 := he.1 (List.eq_nil_of_length_eq_zero h0)
    rw [h1, sgn_zero]
    (repeat' (first | refine JC.seq ?_ | refine JC.ops ?_ | refine JO.nil ?_ | refine JX.thenN ?_ | (apply r_assign; exact rfl; exact rfl; exact rfl) | (apply r_lenU; exact rfl; exact rfl; exact rfl; (first | assumption | exact WU.rd (by assumption) rfl [] | exact OwnU.rd (by assumption))) | (apply r_eql; exact rfl; exact rfl; exact rfl; exact rfl; all_goals intro hc; all_goals try (exfalso; omega)) | refine JX.thenR ?_ | refine JC.ret ?_ | refine JC.condT rfl ?_ | refine JX.blockR ?_))
    exact JX.ret1 rfl (fun a w' st => ⟨st.kp, rfl⟩)
  · have h1 : bval (bts l) ≠ 0 := fun h => h0 (by rw [he.2 h]; rfl)
    cases p with
    | false =>
      have h2 : (sgn false (bval (bts l))).sign = 1 := Int.sign_eq_one_of_pos (by simp [sgn]; omega)
      rw [h2]
      (repeat' (first | refine JC.seq ?_ | refine JC.ops ?_ | refine JO.nil ?_ | refine JX.thenN ?_ | (apply r_fieldAddr; exact rfl; exact rfl; exact rfl) | (apply r_assign; exact rfl; exact rfl; exact rfl) | (apply r_load; exact rfl; exact rfl; exact rfl; exact rfl; (first | exact at0 | exact at1 | exact at2 | exact at3 | exact at4 | exact at5 | exact at6 | exact at7 | exact at8 | exact at9); exact rfl) | (apply r_lenU; exact rfl; exact rfl; exact rfl; (first | assumption | exact WU.rd (by assumption) rfl [] | exact OwnU.rd (by assumption))) | (apply r_eql; exact rfl; exact rfl; exact rfl; exact rfl; all_goals intro hc; all_goals try (exfalso; omega)) | refine JC.skip ?_ | refine JC.ret ?_ | refine JC.condF rfl ?_ | refine JX.blockN ?_))
      exact JX.ret1 rfl (fun a w' st => ⟨st.kp, rfl⟩)
    | true =>
      have h2 : (sgn true (bval (bts l))).sign = -1 := Int.sign_eq_neg_one_of_neg (by simp [sgn]; omega)
      rw [h2]
      (repeat' (first | refine JC.seq ?_ | refine JC.ops ?_ | refine JO.nil ?_ | refine JX.thenN ?_ | (apply r_fieldAddr; exact rfl; exact rfl; exact rfl) | (apply r_assign; exact rfl; exact rfl; exact rfl) | (apply r_load; exact rfl; exact rfl; exact rfl; exact rfl; (first | exact at0 | exact at1 | exact at2 | exact at3 | exact at4 | exact at5 | exact at6 | exact at7 | exact at8 | exact at9); exact rfl) | (apply r_lenU; exact rfl; exact rfl; exact rfl; (first | assumption | exact WU.rd (by assumption) rfl [] | exact OwnU.rd (by assumption))) | (apply r_eql; exact rfl; exact rfl; exact rfl; exact rfl; all_goals intro hc; all_goals try (exfalso; omega)) | refine JX.thenR ?_ | refine JC.ret ?_ | refine JC.condT rfl ?_ | refine JC.condF rfl ?_ | refine JX.blockR ?_))
      exact JX.ret1 rfl (fun a w' st => ⟨st.kp, rfl⟩)

set_option maxHeartbeats 4000000 in
theorem c_Add (w : World) (v u : Value) (a b : Int) (k : Nat) (hv : IsZ v a k) (hu : IsZ u b k) (hk : k ≤ 10000) :
    Calls Tryd.prog 22 #[v, u] w (Ret fun r w' => Kp [] w w' ∧ r = Wv (a + b)) := by
  obtain ⟨p, l, rfl, hl1, rfl⟩ := hv
  obtain ⟨q, l', rfl, hl2, rfl⟩ := hu
  refine calls_of_S [⟨1, 1, [0, 2, 1, 3, 4, 5], []⟩, ⟨3, 2, [0, 1, 3, 4, 2, 5, 6], []⟩, ⟨5, 2, [0, 1, 3, 4, 2, 5, 6], []⟩, ⟨6, 2, [0, 1, 3, 4, 2, 5, 6], []⟩] [] (by simp) [] Tryd.func22 rfl mixed (by kernel_rfl) Tryd.ntmps22 Tryd.results22 rfl ⟨by simp, by simp⟩ (by simp) ?_
  simp only [toS, textOps, toSOp, kindAt, kindOf, odAt, sopsAt, ordOf, zipF]
  (repeat' (first | refine JC.seq ?_ | refine JC.ops ?_ | refine JC.opsD ?_ | refine JO.nil ?_ | refine JX.thenN ?_ | (apply r_loadN; exact rfl; exact rfl; exact rfl; exact rfl; (first | exact at0 | exact at1 | exact at2 | exact at3 | exact at4 | exact at5 | exact at6 | exact at7 | exact at8 | exact at9); exact rfl) | (apply r_allocZ; exact rfl; exact rfl; exact rfl; intro _) | (apply r_boxA; exact rfl; exact rfl; exact rfl; exact rfl; intro _)))
  refine r_callA (A := [_, _, _]) rfl trivial rfl rfl rfl (fun w hk hs => c_abs w p l (by omega)) fun w v w' _ _ _ hR => ?_
  obtain ⟨N1, zs1, hN1, hO1, hz1, hval1⟩ := hR
  refine ⟨N1, hN1, ?_⟩
  have hzl1 := words_le hz1 hval1 hl1
  skip
  refine r_callA (A := [_, _, _]) rfl trivial rfl rfl rfl (fun w hk hs => c_abs w q l' (by omega)) fun w v w' _ _ _ hR => ?_
  obtain ⟨N2, zs2, hN2, hO2, hz2, hval2⟩ := hR
  refine ⟨N2, hN2, ?_⟩
  have hzl2 := words_le hz2 hval2 hl2
  by_cases hpq : p = q
  · subst hpq
    (repeat' (first | refine JC.seq ?_ | refine JC.ops ?_ | refine JC.opsD ?_ | refine JO.nil ?_ | refine JX.thenN ?_ | (apply r_move; exact rfl; exact rfl; exact rfl) | (apply r_fieldAddr; exact rfl; exact rfl; exact rfl) | (apply r_assign; exact rfl; exact rfl; exact rfl) | (apply r_load; exact rfl; exact rfl; exact rfl; exact rfl; (first | exact at0 | exact at1 | exact at2 | exact at3 | exact at4 | exact at5 | exact at6 | exact at7 | exact at8 | exact at9); exact rfl) | (apply r_eqBS; exact rfl; exact rfl; exact rfl; exact rfl) | refine JC.condT rfl ?_ | refine JC.block ?_))
    refine r_callA (A := [_, _, _]) rfl trivial rfl rfl rfl (fun w hk hs => c_add w _ _ _ _ _ _ (hO1.rd.at hk hs (by (repeat' first | exact HSub.nil _ | exact HSub.hd | exact HSub.in0 | exact HSub.refl _ | refine HSub.skip ?_ | refine HSub.skipN ?_))) (hO2.rd.at hk hs (by (repeat' first | exact HSub.nil _ | exact HSub.hd | exact HSub.in0 | exact HSub.refl _ | refine HSub.skip ?_ | refine HSub.skipN ?_))) hz1.lt hz2.lt (by omega) (by omega)) fun w v w' _ _ _ hR => ?_
    obtain ⟨N3, zs3, hN3, hO3, hz3, hval3⟩ := hR
    refine ⟨N3, hN3, ?_⟩
    rw [hval1, hval2] at hval3
    have hzl3 : zs3.length ≤ k + 1 := by
      refine hz3.len_le (by decide) ?_
      rw [hval3, Nat.pow_succ]
      have h1 := Nat.lt_of_lt_of_le (bval_bts_lt hl1) (Nat.pow_le_pow_left (show 256 ≤ W32 by decide) k)
      have h2 := Nat.lt_of_lt_of_le (bval_bts_lt hl2) (Nat.pow_le_pow_left (show 256 ≤ W32 by decide) k)
      show _ < W32 ^ k * 4294967296
      omega
    skip
    refine r_call0 trivial rfl rfl rfl (fun w hk hs => c_wide w _ _ zs3 p (hO3.rd.at hk hs (by (repeat' first | exact HSub.nil _ | exact HSub.hd | exact HSub.in0 | exact HSub.refl _ | refine HSub.skip ?_ | refine HSub.skipN ?_))) hz3.lt (by omega)) fun w v w' _ _ _ hR => ?_
    subst hR
    (repeat' (first | refine JO.nil ?_ | refine JX.thenN ?_ | (apply r_storeN; exact rfl; (first | exact trivial | exact ⟨rfl, rfl⟩); exact rfl; exact rfl; (first | exact at0 | exact at1 | exact at2 | exact at3 | exact at4 | exact at5 | exact at6 | exact at7 | exact at8 | exact at9); exact rfl; exact rfl; exact rfl) | (apply r_storeN; exact rfl; (first | exact trivial | exact ⟨rfl, rfl⟩); exact rfl; exact rfl; (first | exact at0 | exact at1 | exact at2 | exact at3 | exact at4 | exact at5 | exact at6 | exact at7 | exact at8 | exact at9); exact rfl; exact rfl; exact rfl) | refine JX.thenR ?_ | refine JC.ret ?_ | refine JX.blockR ?_))
    exact JX.retC 0 rfl rfl rfl (fun a w' st => ⟨st.kp, by show Wv (sgn p (val W32 zs3)) = _; rw [hval3, sgn_add]⟩)
  have hpq' : (p == q) = false := by simpa using hpq
  (repeat' (first | refine JC.seq ?_ | refine JC.ops ?_ | refine JO.nil ?_ | refine JX.thenN ?_ | (apply r_fieldAddr; exact rfl; exact rfl; exact rfl) | (apply r_assign; exact rfl; exact rfl; exact rfl) | (apply r_load; exact rfl; exact rfl; exact rfl; exact rfl; (first | exact at0 | exact at1 | exact at2 | exact at3 | exact at4 | exact at5 | exact at6 | exact at7 | exact at8 | exact at9); exact rfl) | (apply r_eqB; exact rfl; exact rfl; exact rfl; exact rfl) | refine JC.block ?_))
  rw [hpq']
  (repeat' (first | refine JC.seq ?_ | refine JC.ops ?_ | (apply r_move; exact rfl; exact rfl; exact rfl) | refine JC.condF rfl ?_))
  refine r_call0 trivial rfl rfl rfl (fun w hk hs => c_cmp w _ _ _ _ _ _ (hO1.rd.at hk hs (by (repeat' first | exact HSub.nil _ | exact HSub.hd | exact HSub.in0 | exact HSub.refl _ | refine HSub.skip ?_ | refine HSub.skipN ?_))) (hO2.rd.at hk hs (by (repeat' first | exact HSub.nil _ | exact HSub.hd | exact HSub.in0 | exact HSub.refl _ | refine HSub.skip ?_ | refine HSub.skipN ?_))) hz1 hz2 (by omega) (by omega)) fun w v w' _ _ _ hR => ?_
  subst hR
  by_cases hlt : val W32 zs1 < val W32 zs2
  · have hneg := cmpV_neg.2 hlt
    have hlen : zs1.length ≤ zs2.length := by
      refine Decidable.byContradiction fun h => ?_
      have := len_cmp (b := W32) (by decide) hz2 hz1 (by omega)
      omega
    (repeat' (first | refine JC.seq ?_ | refine JC.opsD ?_ | refine JO.nil ?_ | refine JX.thenN ?_ | (apply r_move; exact rfl; exact rfl; exact rfl) | (apply r_fieldAddr; exact rfl; exact rfl; exact rfl) | (apply r_assign; exact rfl; exact rfl; exact rfl) | (apply r_load; exact rfl; exact rfl; exact rfl; exact rfl; (first | exact at0 | exact at1 | exact at2 | exact at3 | exact at4 | exact at5 | exact at6 | exact at7 | exact at8 | exact at9); exact rfl) | (apply r_lss; exact rfl; exact rfl; exact rfl; exact rfl; all_goals intro hc; all_goals try (exfalso; omega)) | refine JC.condT rfl ?_))
    refine r_callA (A := [_, _, _]) rfl trivial rfl rfl rfl (fun w hk hs => c_sub w _ _ _ _ _ _ (hO2.rd.at hk hs (by (repeat' first | exact HSub.nil _ | exact HSub.hd | exact HSub.in0 | exact HSub.refl _ | refine HSub.skip ?_ | refine HSub.skipN ?_))) (hO1.rd.at hk hs (by (repeat' first | exact HSub.nil _ | exact HSub.hd | exact HSub.in0 | exact HSub.refl _ | refine HSub.skip ?_ | refine HSub.skipN ?_))) hz2.lt hz1.lt (by omega) hlen (Nat.le_of_lt hlt)) fun w v w' _ _ _ hR => ?_
    obtain ⟨N3, zs3, hN3, hO3, hz3, hval3⟩ := hR
    refine ⟨N3, hN3, ?_⟩
    have hzl3 : zs3.length ≤ k := hz3.len_le (by decide) (Nat.lt_of_le_of_lt (show val W32 zs3 ≤ val W32 zs2 by omega) (by rw [hval2]; exact Nat.lt_of_lt_of_le (bval_bts_lt hl2) (Nat.pow_le_pow_left (by decide) k)))
    rw [hval1, hval2] at hval3
    rw [hval1, hval2] at hlt
    skip
    refine r_call0 trivial rfl rfl rfl (fun w hk hs => c_wide w _ _ zs3 q (hO3.rd.at hk hs (by (repeat' first | exact HSub.nil _ | exact HSub.hd | exact HSub.in0 | exact HSub.refl _ | refine HSub.skip ?_ | refine HSub.skipN ?_))) hz3.lt (by omega)) fun w v w' _ _ _ hR => ?_
    subst hR
    (repeat' (first | refine JO.nil ?_ | refine JX.thenN ?_ | (apply r_storeN; exact rfl; (first | exact trivial | exact ⟨rfl, rfl⟩); exact rfl; exact rfl; (first | exact at0 | exact at1 | exact at2 | exact at3 | exact at4 | exact at5 | exact at6 | exact at7 | exact at8 | exact at9); exact rfl; exact rfl; exact rfl) | (apply r_storeN; exact rfl; (first | exact trivial | exact ⟨rfl, rfl⟩); exact rfl; exact rfl; (first | exact at0 | exact at1 | exact at2 | exact at3 | exact at4 | exact at5 | exact at6 | exact at7 | exact at8 | exact at9); exact rfl; exact rfl; exact rfl) | refine JX.thenR ?_ | refine JC.ret ?_ | refine JX.blockR ?_))
    exact JX.retC 0 rfl rfl rfl (fun a w' st => ⟨st.kp, by show Wv (sgn q (val W32 zs3)) = _; rw [← sgn_sub1 hpq hlt, ← hval3, Nat.add_sub_cancel]⟩)
  · have hneg : ¬ cmpV (val W32 zs1) (val W32 zs2) < 0 := fun h => hlt (cmpV_neg.1 h)
    have hlen : zs2.length ≤ zs1.length := by
      refine Decidable.byContradiction fun h => hlt ?_
      exact len_cmp (b := W32) (by decide) hz1 hz2 (by omega)
    (repeat' (first | refine JC.seq ?_ | refine JC.opsD ?_ | refine JO.nil ?_ | refine JX.thenN ?_ | (apply r_move; exact rfl; exact rfl; exact rfl) | (apply r_fieldAddr; exact rfl; exact rfl; exact rfl) | (apply r_assign; exact rfl; exact rfl; exact rfl) | (apply r_load; exact rfl; exact rfl; exact rfl; exact rfl; (first | exact at0 | exact at1 | exact at2 | exact at3 | exact at4 | exact at5 | exact at6 | exact at7 | exact at8 | exact at9); exact rfl) | (apply r_lss; exact rfl; exact rfl; exact rfl; exact rfl; all_goals intro hc; all_goals try (exfalso; omega)) | refine JC.skip ?_ | refine JC.condF rfl ?_ | refine JX.blockN ?_))
    refine r_callA (A := [_, _, _]) rfl trivial rfl rfl rfl (fun w hk hs => c_sub w _ _ _ _ _ _ (hO1.rd.at hk hs (by (repeat' first | exact HSub.nil _ | exact HSub.hd | exact HSub.in0 | exact HSub.refl _ | refine HSub.skip ?_ | refine HSub.skipN ?_))) (hO2.rd.at hk hs (by (repeat' first | exact HSub.nil _ | exact HSub.hd | exact HSub.in0 | exact HSub.refl _ | refine HSub.skip ?_ | refine HSub.skipN ?_))) hz1.lt hz2.lt (by omega) hlen (by omega)) fun w v w' _ _ _ hR => ?_
    obtain ⟨N3, zs3, hN3, hO3, hz3, hval3⟩ := hR
    refine ⟨N3, hN3, ?_⟩
    have hzl3 : zs3.length ≤ k := hz3.len_le (by decide) (Nat.lt_of_le_of_lt (show val W32 zs3 ≤ val W32 zs1 by omega) (by rw [hval1]; exact Nat.lt_of_lt_of_le (bval_bts_lt hl1) (Nat.pow_le_pow_left (by decide) k)))
    rw [hval1, hval2] at hval3
    rw [hval1, hval2] at hlt
    skip
    refine r_call0 trivial rfl rfl rfl (fun w hk hs => c_wide w _ _ zs3 p (hO3.rd.at hk hs (by (repeat' first | exact HSub.nil _ | exact HSub.hd | exact HSub.in0 | exact HSub.refl _ | refine HSub.skip ?_ | refine HSub.skipN ?_))) hz3.lt (by omega)) fun w v w' _ _ _ hR => ?_
    subst hR
    (repeat' (first | refine JO.nil ?_ | refine JX.thenN ?_ | (apply r_storeN; exact rfl; (first | exact trivial | exact ⟨rfl, rfl⟩); exact rfl; exact rfl; (first | exact at0 | exact at1 | exact at2 | exact at3 | exact at4 | exact at5 | exact at6 | exact at7 | exact at8 | exact at9); exact rfl; exact rfl; exact rfl) | (apply r_storeN; exact rfl; (first | exact trivial | exact ⟨rfl, rfl⟩); exact rfl; exact rfl; (first | exact at0 | exact at1 | exact at2 | exact at3 | exact at4 | exact at5 | exact at6 | exact at7 | exact at8 | exact at9); exact rfl; exact rfl; exact rfl) | refine JC.ret ?_))
    exact JX.retC 0 rfl rfl rfl (fun a w' st => ⟨st.kp, by show Wv (sgn p (val W32 zs3)) = _; rw [← sgn_sub2 hpq hlt, ← hval3, Nat.add_sub_cancel]⟩)

theorem two_pow_lt {n k : Nat} (h : n < 256 ^ k) {m : Nat} (hm : m < 256 ^ k) : n + m < 256 ^ (k + 1) := by
  rw [Nat.pow_succ]
  omega
theorem IsZ.add {a b : Int} {k : Nat} (h : a.natAbs < 256 ^ k) (h' : b.natAbs < 256 ^ k) : IsZ (Wv (a + b)) (a + b) (k + 1) := IsZ.can (Nat.lt_of_le_of_lt (Int.natAbs_add_le a b) (two_pow_lt h h'))
theorem mul_lt {a b : Int} {k k' : Nat} (h : a.natAbs < 256 ^ k) (h' : b.natAbs < 256 ^ k') : (a * b).natAbs < 256 ^ (k + k') := by
  rw [Int.natAbs_mul, Nat.pow_add]
  exact Nat.mul_lt_mul_of_lt_of_le h (Nat.le_of_lt h') (Nat.pow_pos (by decide))

set_option maxHeartbeats 2000000 in
theorem c_Sub (w : World) (v u : Value) (a b : Int) (k : Nat) (hv : IsZ v a k) (hu : IsZ u b k) (hk : k ≤ 10000) :
    Calls Tryd.prog 26 #[v, u] w (Ret fun r w' => Kp [] w w' ∧ r = Wv (a - b)) := by
  have hZ : IsZ (Wv (-b)) (-b) k := IsZ.can (by rw [Int.natAbs_neg]; exact hu.lt)
  obtain ⟨p, l, rfl, hl1, rfl⟩ := hv
  obtain ⟨q, l', rfl, hl2, rfl⟩ := hu
  refine calls_of_S [⟨1, 1, [], []⟩] [] (by simp) [] Tryd.func26 rfl mixed (by kernel_rfl) Tryd.ntmps26 Tryd.results26 rfl ⟨by simp, by simp⟩ (by simp) ?_
  simp only [toS, textOps, toSOp, kindAt, kindOf, odAt, sopsAt, ordOf, zipF]
  (repeat' (first | refine JC.seq ?_ | refine JC.ops ?_ | refine JC.opsD ?_ | refine JO.nil ?_ | refine JX.thenN ?_ | (apply r_loadN; exact rfl; exact rfl; exact rfl; exact rfl; (first | exact at0 | exact at1 | exact at2 | exact at3 | exact at4 | exact at5 | exact at6 | exact at7 | exact at8 | exact at9); exact rfl) | (apply r_allocZ; exact rfl; exact rfl; exact rfl; intro _) | (apply r_boxA; exact rfl; exact rfl; exact rfl; exact rfl; intro _)))
  refine r_call0 trivial rfl rfl rfl (fun w hk' hs => c_Neg w _ _ k ⟨q, l', rfl, hl2, rfl⟩ hk) fun w v w' _ _ _ hR => ?_
  subst hR
  skip
  refine r_call0 trivial rfl rfl rfl (fun w hk' hs => c_Add w _ _ _ _ k ⟨p, l, rfl, hl1, rfl⟩ hZ hk) fun w v w' _ _ _ hR => ?_
  subst hR
  (repeat' (first | refine JO.nil ?_ | refine JX.thenN ?_ | (apply r_storeN; exact rfl; (first | exact trivial | exact ⟨rfl, rfl⟩); exact rfl; exact rfl; (first | exact at0 | exact at1 | exact at2 | exact at3 | exact at4 | exact at5 | exact at6 | exact at7 | exact at8 | exact at9); exact rfl; exact rfl; exact rfl) | (apply r_storeN; exact rfl; (first | exact trivial | exact ⟨rfl, rfl⟩); exact rfl; exact rfl; (first | exact at0 | exact at1 | exact at2 | exact at3 | exact at4 | exact at5 | exact at6 | exact at7 | exact at8 | exact at9); exact rfl; exact rfl; exact rfl) | refine JC.ret ?_))
  exact JX.retC 0 rfl rfl rfl (fun a w' st => ⟨st.kp, by rw [Int.sub_eq_add_neg]; rfl⟩)

set_option maxHeartbeats 2000000 in
theorem c_Cmp (w : World) (v u : Value) (a b : Int) (k : Nat) (hv : IsZ v a k) (hu : IsZ u b k) (hk : k ≤ 9999) :
    Calls Tryd.prog 31 #[v, u] w (Ret fun r w' => Kp [] w w' ∧ r = iv (a - b).sign) := by
  have hZ : IsZ (Wv (a - b)) (a - b) (k + 1) := by
    rw [Int.sub_eq_add_neg]
    exact IsZ.add hv.lt (by rw [Int.natAbs_neg]; exact hu.lt)
  obtain ⟨p, l, rfl, hl1, rfl⟩ := hv
  obtain ⟨q, l', rfl, hl2, rfl⟩ := hu
  refine calls_of_S [] [] (by simp) [] Tryd.func31 rfl mixed (by kernel_rfl) Tryd.ntmps31 Tryd.results31 rfl ⟨by simp, by simp⟩ (by simp) ?_
  simp only [toS, textOps, toSOp, kindAt, kindOf, odAt, sopsAt, ordOf, zipF]
  (repeat' (first | refine JC.seq ?_ | refine JC.ops ?_ | refine JO.nil ?_ | refine JX.thenN ?_ | (apply r_assign; exact rfl; exact rfl; exact rfl) | (apply r_loadN; exact rfl; exact rfl; exact rfl; exact rfl; (first | exact at0 | exact at1 | exact at2 | exact at3 | exact at4 | exact at5 | exact at6 | exact at7 | exact at8 | exact at9); exact rfl) | (apply r_boxA; exact rfl; exact rfl; exact rfl; exact rfl; intro _)))
  refine r_call0 trivial rfl rfl rfl (fun w hk' hs => c_Sub w _ _ _ _ k ⟨p, l, rfl, hl1, rfl⟩ ⟨q, l', rfl, hl2, rfl⟩ (by omega)) fun w v w' _ _ _ hR => ?_
  subst hR
  skip
  refine r_call0 trivial rfl rfl rfl (fun w hk' hs => c_Sign w _ _ (k + 1) hZ (by omega)) fun w v w' _ _ _ hR => ?_
  subst hR
  (repeat' (first | refine JO.nil ?_ | refine JX.thenN ?_ | (apply r_assign; exact rfl; exact rfl; exact rfl) | refine JC.ret ?_))
  exact JX.ret1 rfl (fun a w' st => ⟨st.kp, rfl⟩)

set_option maxHeartbeats 2000000 in
theorem c_Mul (w : World) (v u : Value) (a b : Int) (k : Nat) (hv : IsZ v a k) (hu : IsZ u b k) (hk : k ≤ 10000) :
    Calls Tryd.prog 14 #[v, u] w (Ret fun r w' => Kp [] w w' ∧ r = Wv (a * b)) := by
  obtain ⟨p, l, rfl, hl1, rfl⟩ := hv
  obtain ⟨q, l', rfl, hl2, rfl⟩ := hu
  refine calls_of_S [⟨1, 1, [0, 2, 5, 6, 7, 8, 9, 1, 3, 4, 10, 11], []⟩] [] (by simp) [] Tryd.func14 rfl mixed (by kernel_rfl) Tryd.ntmps14 Tryd.results14 rfl ⟨by simp, by simp⟩ (by simp) ?_
  simp only [toS, textOps, toSOp, kindAt, kindOf, odAt, sopsAt, ordOf, zipF]
  (repeat' (first | refine JC.seq ?_ | refine JC.ops ?_ | refine JC.opsD ?_ | refine JO.nil ?_ | refine JX.thenN ?_ | (apply r_fieldAddr; exact rfl; exact rfl; exact rfl) | (apply r_load; exact rfl; exact rfl; exact rfl; exact rfl; (first | exact at0 | exact at1 | exact at2 | exact at3 | exact at4 | exact at5 | exact at6 | exact at7 | exact at8 | exact at9); exact rfl) | (apply r_loadN; exact rfl; exact rfl; exact rfl; exact rfl; (first | exact at0 | exact at1 | exact at2 | exact at3 | exact at4 | exact at5 | exact at6 | exact at7 | exact at8 | exact at9); exact rfl) | (apply r_neB; exact rfl; exact rfl; exact rfl; exact rfl) | (apply r_allocZ; exact rfl; exact rfl; exact rfl; intro _) | (apply r_boxA; exact rfl; exact rfl; exact rfl; exact rfl; intro _)))
  refine r_callA (A := [_, _, _]) rfl trivial rfl rfl rfl (fun w hk hs => c_abs w p l (by omega)) fun w v w' _ _ _ hR => ?_
  obtain ⟨N1, zs1, hN1, hO1, hz1, hval1⟩ := hR
  refine ⟨N1, hN1, ?_⟩
  have hzl1 := words_le hz1 hval1 hl1
  skip
  refine r_callA (A := [_, _, _]) rfl trivial rfl rfl rfl (fun w hk hs => c_abs w q l' (by omega)) fun w v w' _ _ _ hR => ?_
  obtain ⟨N2, zs2, hN2, hO2, hz2, hval2⟩ := hR
  refine ⟨N2, hN2, ?_⟩
  have hzl2 := words_le hz2 hval2 hl2
  skip
  refine r_callA (A := [_, _, _]) rfl trivial rfl rfl rfl (fun w hk hs => c_mulW w _ _ _ _ _ _ (hO1.rd.at hk hs (by (repeat' first | exact HSub.nil _ | exact HSub.hd | exact HSub.in0 | exact HSub.refl _ | refine HSub.skip ?_ | refine HSub.skipN ?_))) (hO2.rd.at hk hs (by (repeat' first | exact HSub.nil _ | exact HSub.hd | exact HSub.in0 | exact HSub.refl _ | refine HSub.skip ?_ | refine HSub.skipN ?_))) hz1.lt hz2.lt (by omega) (by omega)) fun w v w' _ _ _ hR => ?_
  obtain ⟨N3, zs3, hN3, hO3, hz3, hval3⟩ := hR
  refine ⟨N3, hN3, ?_⟩
  rw [hval1, hval2] at hval3
  have hzl3 : zs3.length ≤ k + k := by
    refine hz3.len_le (by decide) ?_
    rw [hval3, Nat.pow_add]
    have h1 := Nat.lt_of_lt_of_le (bval_bts_lt hl1) (Nat.pow_le_pow_left (show 256 ≤ W32 by decide) k)
    have h2 := Nat.lt_of_lt_of_le (bval_bts_lt hl2) (Nat.pow_le_pow_left (show 256 ≤ W32 by decide) k)
    exact Nat.mul_lt_mul_of_lt_of_le h1 (Nat.le_of_lt h2) (Nat.pow_pos (by decide))
  skip
  refine r_call0 trivial rfl rfl rfl (fun w hk hs => c_wide w _ _ zs3 (p != q) (hO3.rd.at hk hs (by (repeat' first | exact HSub.nil _ | exact HSub.hd | exact HSub.in0 | exact HSub.refl _ | refine HSub.skip ?_ | refine HSub.skipN ?_))) hz3.lt (by omega)) fun w v w' _ _ _ hR => ?_
  subst hR
  (repeat' (first | refine JO.nil ?_ | refine JX.thenN ?_ | (apply r_storeN; exact rfl; (first | exact trivial | exact ⟨rfl, rfl⟩); exact rfl; exact rfl; (first | exact at0 | exact at1 | exact at2 | exact at3 | exact at4 | exact at5 | exact at6 | exact at7 | exact at8 | exact at9); exact rfl; exact rfl; exact rfl) | (apply r_storeN; exact rfl; (first | exact trivial | exact ⟨rfl, rfl⟩); exact rfl; exact rfl; (first | exact at0 | exact at1 | exact at2 | exact at3 | exact at4 | exact at5 | exact at6 | exact at7 | exact at8 | exact at9); exact rfl; exact rfl; exact rfl) | refine JC.ret ?_))
  exact JX.retC 0 rfl rfl rfl (fun a w' st => ⟨st.kp, by show Wv (sgn (p != q) (val W32 zs3)) = _; rw [hval3, sgn_mul]⟩)

end Go.Proofs.YtdehklhdjbkneaaDoor
