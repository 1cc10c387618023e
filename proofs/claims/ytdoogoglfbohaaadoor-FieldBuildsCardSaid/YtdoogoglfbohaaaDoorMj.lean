import Derived.Test.YtdoogoglfbohaaaDoorMh
import Derived.Test.YtdoogoglfbohaaaDoorMg
import Derived.Test.YtdoogoglfbohaaaDoorMi
import Derived.Test.YtdoogoglfbohaaaDoorMe
import Derived.Test.YtdoogoglfbohaaaDoorRows
import Derived.WalkKit
import Derived.ProofKit
import Derived.OpenShut
import Derived.ShutString
import Derived.ChangeOld
import Derived.Below
import Derived.Lib.SmallJoins
import Derived.SizedLaws
namespace Go.Proofs.YtdoogoglfbohaaaDoor
open Go Go.RowKit
set_option linter.unusedSimpArgs false
set_option linter.unusedVariables false
set_option linter.unusedSectionVars false

def IRes (a : Int) : Value := if -9223372036854775808 ≤ a ∧ a < 9223372036854775808 then .tuple #[iv a, .bool true] else .tuple #[iv 0, .bool false]

theorem ires_big {p : Bool} {n : Nat} (h : 18446744073709551616 ≤ n) : IRes (sgn p n) = .tuple #[iv 0, .bool false] := by
  unfold IRes
  rw [if_neg]
  cases p <;> simp [sgn] <;> omega
theorem ires_neg {n : Nat} (h : n ≤ 9223372036854775808) : IRes (sgn true n) = .tuple #[iv (-(n : Int)), .bool true] := by
  unfold IRes
  rw [if_pos]
  · rfl
  · simp only [sgn, if_true]; omega
theorem ires_out {p : Bool} {n : Nat} (h : 9223372036854775808 ≤ n) (hp : p = true → 9223372036854775808 < n) : IRes (sgn p n) = .tuple #[iv 0, .bool false] := by
  unfold IRes
  rw [if_neg]
  cases p
  · simp [sgn]; omega
  · have := hp rfl
    simp [sgn]; omega
theorem ires_pos {n : Nat} (h : n < 9223372036854775808) : IRes (sgn false n) = .tuple #[nv n, .bool true] := by
  unfold IRes
  rw [if_pos]
  · rfl
  · simp only [sgn]; simp; omega

set_option maxRecDepth 20000 in
set_option maxHeartbeats 8000000 in
theorem c_IntR (w : World) (v : Value) (a : Int) (k : Nat) (hv : IsZ v a k) (hk : k ≤ 10000) :
    Calls Tryd.prog 36 #[v] w (Ret fun r w' => Kp [] w w' ∧ r = IRes a) := by
  obtain ⟨p, l, rfl, hl1, rfl⟩ := hv
  refine calls_of_S [] [] (by simp) [] Tryd.func36 rfl mixed (by kernel_rfl) Tryd.ntmps36 Tryd.results36 rfl ⟨by simp, by simp⟩ (by simp) ?_
  simp only [toS, textOps, toSOp, kindAt, kindOf, odAt, sopsAt, ordOf, zipF]
  (repeat' (first | refine JC.seq ?_ | refine JC.ops ?_ | refine JO.nil ?_ | refine JX.thenN ?_ | (apply r_assign; (iterate 3 exact rfl)) | (apply r_loadN; (iterate 4 exact rfl); (first | exact at0 | exact at1 | exact at2 | exact at3 | exact at4 | exact at5 | exact at6 | exact at7 | exact at8 | exact at9); exact rfl) | (apply r_boxA; (iterate 4 exact rfl); intro _)))
  rename_i b1
  refine r_callA (A := [_]) rfl trivial rfl rfl rfl (fun w hk hs => c_digits w p l (by omega)) fun w v w' _ _ _ hR => ?_
  obtain ⟨N1, zs, hN1, hO, hz, hval⟩ := hR
  refine ⟨N1, hN1, ?_⟩
  have hzl := words16_le hz hval hl1
  rw [← hval]
  by_cases h4 : 4 < zs.length
  · have hge := val_ge (b := B16) (by decide) hz.nrm (fun e => by subst e; simp at h4)
    have h2 : B16 ^ 4 ≤ B16 ^ (zs.length - 1) := Nat.pow_le_pow_right (by decide) (by omega)
    rw [ires_big (Nat.le_trans (show 18446744073709551616 ≤ B16 ^ 4 by decide) (Nat.le_trans h2 hge))]
    (repeat' (first | refine JC.seq ?_ | refine JC.ops ?_ | refine JO.nil ?_ | refine JX.thenN ?_ | (apply r_move; (iterate 3 exact rfl)) | (apply r_assign; (iterate 3 exact rfl)) | (apply r_lenN; (iterate 3 exact rfl); (first | assumption | exact WN.rd (by assumption) rfl [] | exact OwnN.rd (by assumption))) | (apply r_gtr; (iterate 4 exact rfl); all_goals intro hc; all_goals try (exfalso; omega)) | refine JX.thenR ?_ | refine JC.ret ?_ | refine JC.condT rfl ?_))
    exact JX.ret2 rfl rfl (fun a w' st => ⟨st.kp, rfl⟩)
  · have hbd : ∀ i, val B16 (zs.drop i) < 18446744073709551616 := fun i => by
      have h1 := val_lt (b := B16) (l := zs.drop i) fun x hx => hz.lt x (List.mem_of_mem_drop hx)
      have h2 : B16 ^ (zs.drop i).length ≤ B16 ^ 4 := Nat.pow_le_pow_right (by decide) (by simp; omega)
      exact Nat.lt_of_lt_of_le h1 (Nat.le_trans h2 (by decide))
    (repeat' (first | refine JC.seq ?_ | refine JC.ops ?_ | refine JO.nil ?_ | refine JX.thenN ?_ | (apply r_move; (iterate 3 exact rfl)) | (apply r_assign; (iterate 3 exact rfl)) | (apply r_lenN; (iterate 3 exact rfl); (first | assumption | exact WN.rd (by assumption) rfl [] | exact OwnN.rd (by assumption))) | (apply r_sub; (iterate 4 exact rfl); omega) | (apply r_gtr; (iterate 4 exact rfl); all_goals intro hc; all_goals try (exfalso; omega)) | refine JC.skip ?_ | refine JC.condF rfl ?_ | refine JC.block ?_))
    refine JC.loopH (ι := Nat) ⟨fun z => [(6, iv ((z : Int) - 1)), (5, uv (val B16 (zs.drop z))), (4, v), (1, .pointer (some ⟨b1, 0, none⟩))], fun _ => (b1, .cells #[.bool p, sv l] 56) :: (N1 ++ []), fun z => z ≤ zs.length, fun z => z⟩ zs.length (Nat.le_refl _) (by
      refine ⟨rfl, ?_⟩
      refine ⟨by rw [val_drop_nil (Nat.le_refl _)]; rfl, ?_⟩
      repeat first | exact trivial | refine ⟨rfl, ?_⟩) (by (repeat' first | exact HSub.refl _ | exact HSub.nil _ | refine HSub.at 0 rfl ?_ | refine HSub.at 1 rfl ?_ | refine HSub.at 2 rfl ?_ | refine HSub.at 3 rfl ?_ | refine HSub.at 4 rfl ?_ | refine HSub.at 5 rfl ?_ | refine HSub.at 6 rfl ?_ | refine HSub.at 7 rfl ?_ | refine HSub.at 8 rfl ?_ | refine HSub.at 9 rfl ?_ | refine HSub.at 10 rfl ?_ | refine HSub.at 11 rfl ?_ | refine HSub.at 12 rfl ?_ | refine HSub.at 13 rfl ?_ | refine HSub.at 14 rfl ?_ | refine HSub.at 15 rfl ?_ | refine HSub.at 16 rfl ?_ | refine HSub.at 17 rfl ?_ | refine HSub.at 18 rfl ?_ | refine HSub.at 19 rfl ?_ | refine HSub.segH ?_ | refine HSub.skip ?_ | refine HSub.skipN ?_)) (fun m hm => ?_)
    dsimp only at hm ⊢
    rcases m with _ | i
    · rw [List.drop_zero]
      have hb0 := hbd 0
      rw [List.drop_zero] at hb0
      generalize val B16 zs = V at hb0 ⊢
      cases p with
      | true =>
        by_cases h63 : V ≤ 9223372036854775808
        · rw [ires_neg h63]
          (repeat' (first | refine JC.seq ?_ | refine JC.ops ?_ | refine JO.nil ?_ | refine JX.thenN ?_ | (apply r_move; (iterate 3 exact rfl)) | (apply r_fieldAddr; (iterate 3 exact rfl)) | (apply r_load; (iterate 4 exact rfl); (first | exact at0 | exact at1 | exact at2 | exact at3 | exact at4 | exact at5 | exact at6 | exact at7 | exact at8 | exact at9); exact rfl) | (apply r_pickT; (iterate 4 exact rfl)) | (apply r_leq; (iterate 4 exact rfl); all_goals intro hc; all_goals try (exfalso; omega)) | (apply r_geq; (iterate 4 exact rfl); all_goals intro hc; all_goals try (exfalso; omega)) | refine JX.thenE ?_ | refine JC.exit ?_ | refine JC.condT rfl ?_ | refine JC.condF rfl ?_ | refine JX.blockE ?_))
          refine r_negU rfl rfl rfl (by omega) ?_
          refine r_convK (k' := .i64) (-((V : Nat) : Int)) rfl rfl rfl (by rw [IntKind.wrap_i64]; omega) ?_
          (repeat' (first | refine JO.nil ?_ | refine JX.thenN ?_ | (apply r_assign; (iterate 3 exact rfl)) | refine JX.thenR ?_ | refine JC.ret ?_))
          exact JX.ret2 rfl rfl (fun a w' st => ⟨st.kp, rfl⟩)
        · rw [ires_out (by omega) (fun _ => by omega)]
          (repeat' (first | refine JC.seq ?_ | refine JC.ops ?_ | refine JO.nil ?_ | refine JX.thenN ?_ | (apply r_move; (iterate 3 exact rfl)) | (apply r_fieldAddr; (iterate 3 exact rfl)) | (apply r_assign; (iterate 3 exact rfl)) | (apply r_load; (iterate 4 exact rfl); (first | exact at0 | exact at1 | exact at2 | exact at3 | exact at4 | exact at5 | exact at6 | exact at7 | exact at8 | exact at9); exact rfl) | (apply r_pickT; (iterate 4 exact rfl)) | (apply r_leq; (iterate 4 exact rfl); all_goals intro hc; all_goals try (exfalso; omega)) | (apply r_geq; (iterate 4 exact rfl); all_goals intro hc; all_goals try (exfalso; omega)) | refine JX.thenE ?_ | refine JX.thenR ?_ | refine JC.skip ?_ | refine JC.exit ?_ | refine JC.ret ?_ | refine JC.condT rfl ?_ | refine JC.condF rfl ?_ | refine JX.blockE ?_))
          exact JX.ret2 rfl rfl (fun a w' st => ⟨st.kp, rfl⟩)
      | false =>
        by_cases h63 : 9223372036854775808 ≤ V
        · rw [ires_out h63 (fun h => by cases h)]
          (repeat' (first | refine JC.seq ?_ | refine JC.ops ?_ | refine JO.nil ?_ | refine JX.thenN ?_ | (apply r_move; (iterate 3 exact rfl)) | (apply r_fieldAddr; (iterate 3 exact rfl)) | (apply r_assign; (iterate 3 exact rfl)) | (apply r_load; (iterate 4 exact rfl); (first | exact at0 | exact at1 | exact at2 | exact at3 | exact at4 | exact at5 | exact at6 | exact at7 | exact at8 | exact at9); exact rfl) | (apply r_pickF; (iterate 4 exact rfl)) | (apply r_geq; (iterate 4 exact rfl); all_goals intro hc; all_goals try (exfalso; omega)) | refine JX.thenE ?_ | refine JX.thenR ?_ | refine JC.skip ?_ | refine JC.exit ?_ | refine JC.ret ?_ | refine JC.condT rfl ?_ | refine JC.condF rfl ?_ | refine JX.blockE ?_ | (apply r_skip; exact rfl; exact rfl; (first | (intro h; cases h; done) | (intro _; rfl)))))
          exact JX.ret2 rfl rfl (fun a w' st => ⟨st.kp, rfl⟩)
        · rw [ires_pos (by omega)]
          (repeat' (first | refine JC.seq ?_ | refine JC.ops ?_ | refine JO.nil ?_ | refine JX.thenN ?_ | (apply r_move; (iterate 3 exact rfl)) | (apply r_fieldAddr; (iterate 3 exact rfl)) | (apply r_assign; (iterate 3 exact rfl)) | (apply r_load; (iterate 4 exact rfl); (first | exact at0 | exact at1 | exact at2 | exact at3 | exact at4 | exact at5 | exact at6 | exact at7 | exact at8 | exact at9); exact rfl) | (apply r_pickF; (iterate 4 exact rfl)) | (apply r_convN; (iterate 3 exact rfl); omega) | (apply r_geq; (iterate 4 exact rfl); all_goals intro hc; all_goals try (exfalso; omega)) | refine JX.thenE ?_ | refine JC.skip ?_ | refine JC.exit ?_ | refine JC.ret ?_ | refine JC.condF rfl ?_ | refine JX.blockE ?_ | (apply r_skip; exact rfl; exact rfl; (first | (intro h; cases h; done) | (intro _; rfl)))))
          exact JX.ret2 rfl rfl (fun a w' st => ⟨st.kp, rfl⟩)
    · have hiv : iv (((i + 1 : Nat) : Int) - 1) = nv i := by
        show iv _ = iv _
        congr 1
        omega
      rw [hiv]
      have hxi : zs.getD i 0 < 65536 := mem_getD_lt (b := B16) (by decide) hz.lt i
      have hxv : val B16 (zs.drop i) = zs.getD i 0 + 65536 * val B16 (zs.drop (i + 1)) := val_drop (show i < zs.length by omega)
      have hbi := hbd i
      have hbi1 := hbd (i + 1)
      have he : val B16 (zs.drop (i + 1)) * 65536 + zs.getD i 0 = val B16 (zs.drop i) := by omega
      have hx2 : val B16 (zs.drop (i + 1)) * 65536 < 18446744073709551616 := by omega
      (repeat' (first | refine JC.seq ?_ | refine JC.ops ?_ | refine JO.nil ?_ | refine JX.thenN ?_ | (apply r_move; (iterate 3 exact rfl)) | (apply r_geq; (iterate 4 exact rfl); all_goals intro hc; all_goals try (exfalso; omega)) | refine JC.skip ?_ | refine JC.condT rfl ?_ | refine JC.block ?_))
      refine r_mulU (j := 65536) rfl rfl rfl rfl hx2 ?_
      generalize val B16 (zs.drop (i + 1)) * 65536 = P at he hx2 ⊢
      (repeat' (first | refine JC.ops ?_ | refine JO.nil ?_ | refine JX.thenN ?_ | (apply r_move; (iterate 3 exact rfl)) | (apply r_assign; (iterate 3 exact rfl)) | (apply r_idxN; (iterate 4 exact rfl); (first | assumption | exact WN.rd (by assumption) rfl [] | exact OwnN.rd (by assumption)); (first | assumption | omega)) | (apply r_ldN; (iterate 4 exact rfl); (first | assumption | exact WN.rd (by assumption) rfl [] | exact OwnN.rd (by assumption)); (repeat' first | exact HSub.nil _ | exact HSub.hd | exact HSub.in0 | exact HSub.refl _ | refine HSub.skip ?_ | refine HSub.skipN ?_); (first | assumption | omega)) | (apply r_sub; (iterate 4 exact rfl); omega) | (apply r_toU64; (iterate 3 exact rfl); (first | assumption | omega)) | (apply r_addU; (iterate 4 exact rfl); (first | assumption | omega)) | refine JX.blockN ?_))
      rw [he]
      exact JX.roundH i (by dsimp only; omega) (by dsimp only; omega) (by repeat first | exact trivial | refine ⟨rfl, ?_⟩) (by (repeat' first | exact HSub.refl _ | exact HSub.nil _ | refine HSub.at 0 rfl ?_ | refine HSub.at 1 rfl ?_ | refine HSub.at 2 rfl ?_ | refine HSub.at 3 rfl ?_ | refine HSub.at 4 rfl ?_ | refine HSub.at 5 rfl ?_ | refine HSub.at 6 rfl ?_ | refine HSub.at 7 rfl ?_ | refine HSub.at 8 rfl ?_ | refine HSub.at 9 rfl ?_ | refine HSub.at 10 rfl ?_ | refine HSub.at 11 rfl ?_ | refine HSub.at 12 rfl ?_ | refine HSub.at 13 rfl ?_ | refine HSub.at 14 rfl ?_ | refine HSub.at 15 rfl ?_ | refine HSub.at 16 rfl ?_ | refine HSub.at 17 rfl ?_ | refine HSub.at 18 rfl ?_ | refine HSub.at 19 rfl ?_ | refine HSub.segH ?_ | refine HSub.skip ?_ | refine HSub.skipN ?_))

set_option maxHeartbeats 8000000 in
theorem c_Int (w : World) (v : Value) (a : Int) (k : Nat) (hv : IsZ v a k) (hk : k ≤ 10000) :
    Calls Tryd.prog 33 #[v] w (Ret fun r w' => Kp [] w w' ∧ r = IRes a) := by
  obtain ⟨p, l, rfl, hl1, rfl⟩ := hv
  refine calls_of_S [] [] (by simp) [] Tryd.func33 rfl mixed (by kernel_rfl) Tryd.ntmps33 Tryd.results33 rfl ⟨by simp, by simp⟩ (by simp) ?_
  simp only [toS, textOps, toSOp, kindAt, kindOf, odAt, sopsAt, ordOf, zipF]
  (repeat' (first | refine JC.seq ?_ | refine JC.ops ?_ | refine JO.nil ?_ | refine JX.thenN ?_ | (apply r_assign; (iterate 3 exact rfl)) | (apply r_loadN; (iterate 4 exact rfl); (first | exact at0 | exact at1 | exact at2 | exact at3 | exact at4 | exact at5 | exact at6 | exact at7 | exact at8 | exact at9); exact rfl) | (apply r_boxA; (iterate 4 exact rfl); intro _)))
  rename_i b1
  refine r_callA (A := [_]) rfl trivial rfl rfl rfl (fun w hk hs => c_abs w p l (by omega)) fun w v w' _ _ _ hR => ?_
  obtain ⟨N1, zs, hN1, hO, hz, hval⟩ := hR
  refine ⟨N1, hN1, ?_⟩
  have hzl := words_le hz hval hl1
  rw [← hval]
  by_cases h4 : 2 < zs.length
  · have hge := val_ge (b := W32) (by decide) hz.nrm (fun e => by subst e; simp at h4)
    have h2 : W32 ^ 2 ≤ W32 ^ (zs.length - 1) := Nat.pow_le_pow_right (by decide) (by omega)
    rw [ires_big (Nat.le_trans (show 18446744073709551616 ≤ W32 ^ 2 by decide) (Nat.le_trans h2 hge))]
    (repeat' (first | refine JC.seq ?_ | refine JC.ops ?_ | refine JO.nil ?_ | refine JX.thenN ?_ | (apply r_move; (iterate 3 exact rfl)) | (apply r_assign; (iterate 3 exact rfl)) | (apply r_lenU; (iterate 3 exact rfl); (first | assumption | exact WU.rd (by assumption) rfl [] | exact OwnU.rd (by assumption))) | (apply r_gtr; (iterate 4 exact rfl); all_goals intro hc; all_goals try (exfalso; omega)) | refine JX.thenR ?_ | refine JC.ret ?_ | refine JC.condT rfl ?_))
    exact JX.ret2 rfl rfl (fun a w' st => ⟨st.kp, rfl⟩)
  · have hV : val W32 zs < 18446744073709551616 := by
      have h1 := val_lt (b := W32) hz.lt
      have h2 : W32 ^ zs.length ≤ W32 ^ 2 := Nat.pow_le_pow_right (by decide) (by omega)
      exact Nat.lt_of_lt_of_le h1 (Nat.le_trans h2 (by decide))
    (repeat' (first | refine JC.seq ?_ | refine JC.ops ?_ | refine JO.nil ?_ | refine JX.thenN ?_ | (apply r_move; (iterate 3 exact rfl)) | (apply r_assign; (iterate 3 exact rfl)) | (apply r_lenU; (iterate 3 exact rfl); (first | assumption | exact WU.rd (by assumption) rfl [] | exact OwnU.rd (by assumption))) | (apply r_gtr; (iterate 4 exact rfl); all_goals intro hc; all_goals try (exfalso; omega)) | refine JC.skip ?_ | refine JC.condF rfl ?_ | refine JC.block ?_))
    refine JC.loopH (ι := Nat) ⟨fun z => [(15, nv z), (14, nv zs.length), (13, v), (5, uv (val W32 (zs.take z))), (4, v), (1, .pointer (some ⟨b1, 0, none⟩))], fun _ => (b1, .cells #[.bool p, sv l] 56) :: (N1 ++ []), fun z => z ≤ zs.length, fun z => zs.length - z⟩ 0 (Nat.zero_le _) (by repeat first | exact trivial | refine ⟨rfl, ?_⟩) (by (repeat' first | exact HSub.refl _ | exact HSub.nil _ | refine HSub.at 0 rfl ?_ | refine HSub.at 1 rfl ?_ | refine HSub.at 2 rfl ?_ | refine HSub.at 3 rfl ?_ | refine HSub.at 4 rfl ?_ | refine HSub.at 5 rfl ?_ | refine HSub.at 6 rfl ?_ | refine HSub.at 7 rfl ?_ | refine HSub.at 8 rfl ?_ | refine HSub.at 9 rfl ?_ | refine HSub.at 10 rfl ?_ | refine HSub.at 11 rfl ?_ | refine HSub.at 12 rfl ?_ | refine HSub.at 13 rfl ?_ | refine HSub.at 14 rfl ?_ | refine HSub.at 15 rfl ?_ | refine HSub.at 16 rfl ?_ | refine HSub.at 17 rfl ?_ | refine HSub.at 18 rfl ?_ | refine HSub.at 19 rfl ?_ | refine HSub.segH ?_ | refine HSub.skip ?_ | refine HSub.skipN ?_)) (fun i hi => ?_)
    dsimp only at hi ⊢
    by_cases hin : i < zs.length
    · have hxi : zs.getD i 0 < 4294967296 := mem_getD_lt (b := W32) (by decide) hz.lt i
      have hvt := val_take (b := W32) zs i
      have hi01 : i = 0 ∨ i = 1 := by omega
      rcases hi01 with rfl | rfl
      · (repeat' (first | refine JC.seq ?_ | refine JC.ops ?_ | refine JO.nil ?_ | refine JX.thenN ?_ | (apply r_move; (iterate 3 exact rfl)) | (apply r_assign; (iterate 3 exact rfl)) | (apply r_mulN (i := 32); (iterate 4 exact rfl); (first | assumption | omega)) | (apply r_idxU; (iterate 4 exact rfl); (first | assumption | exact WU.rd (by assumption) rfl [] | exact OwnU.rd (by assumption)); (first | assumption | omega)) | (apply r_ldU; (iterate 4 exact rfl); (first | assumption | exact WU.rd (by assumption) rfl [] | exact OwnU.rd (by assumption)); (repeat' first | exact HSub.nil _ | exact HSub.hd | exact HSub.in0 | exact HSub.refl _ | refine HSub.skip ?_ | refine HSub.skipN ?_); (first | assumption | omega)) | (apply r_shlU; (iterate 4 exact rfl); (first | assumption | omega)) | (apply r_lss; (iterate 4 exact rfl); all_goals intro hc; all_goals try (exfalso; omega)) | refine JC.skip ?_ | refine JC.condT rfl ?_ | refine JC.block ?_))
        refine r_orV (val W32 (zs.take (0 + 1))) rfl rfl rfl rfl ⟨by rw [List.take_zero]; decide, Nat.mod_lt _ (by decide)⟩ (by rw [hvt, List.take_zero, show val W32 [] = 0 from rfl, Nat.zero_or, Nat.zero_add]; show zs.getD 0 0 * 1 % 18446744073709551616 = 1 * zs.getD 0 0; omega) ?_
        (repeat' (first | refine JC.ops ?_ | refine JO.nil ?_ | refine JX.thenN ?_ | (apply r_move; (iterate 3 exact rfl)) | (apply r_assign; (iterate 3 exact rfl)) | (apply r_add1; (iterate 4 exact rfl); omega) | refine JX.blockN ?_))
        exact JX.roundH 1 (by show 1 ≤ zs.length; omega) (by show zs.length - 1 < zs.length - 0; omega) (by repeat first | exact trivial | refine ⟨rfl, ?_⟩) (by (repeat' first | exact HSub.refl _ | exact HSub.nil _ | refine HSub.at 0 rfl ?_ | refine HSub.at 1 rfl ?_ | refine HSub.at 2 rfl ?_ | refine HSub.at 3 rfl ?_ | refine HSub.at 4 rfl ?_ | refine HSub.at 5 rfl ?_ | refine HSub.at 6 rfl ?_ | refine HSub.at 7 rfl ?_ | refine HSub.at 8 rfl ?_ | refine HSub.at 9 rfl ?_ | refine HSub.at 10 rfl ?_ | refine HSub.at 11 rfl ?_ | refine HSub.at 12 rfl ?_ | refine HSub.at 13 rfl ?_ | refine HSub.at 14 rfl ?_ | refine HSub.at 15 rfl ?_ | refine HSub.at 16 rfl ?_ | refine HSub.at 17 rfl ?_ | refine HSub.at 18 rfl ?_ | refine HSub.at 19 rfl ?_ | refine HSub.segH ?_ | refine HSub.skip ?_ | refine HSub.skipN ?_))
      · have h0 : val W32 (zs.take 1) < 4294967296 := by
          have h1 := val_lt (b := W32) (l := zs.take 1) fun x hx => hz.lt x (List.mem_of_mem_take hx)
          have h2 : W32 ^ (zs.take 1).length ≤ W32 ^ 1 := Nat.pow_le_pow_right (by decide) (by simp; omega)
          exact Nat.lt_of_lt_of_le h1 (Nat.le_trans h2 (by decide))
        (repeat' (first | refine JC.seq ?_ | refine JC.ops ?_ | refine JO.nil ?_ | refine JX.thenN ?_ | (apply r_move; (iterate 3 exact rfl)) | (apply r_assign; (iterate 3 exact rfl)) | (apply r_mulN (i := 32); (iterate 4 exact rfl); (first | assumption | omega)) | (apply r_shl32; (iterate 4 exact rfl); (first | assumption | omega)) | (apply r_idxU; (iterate 4 exact rfl); (first | assumption | exact WU.rd (by assumption) rfl [] | exact OwnU.rd (by assumption)); (first | assumption | omega)) | (apply r_ldU; (iterate 4 exact rfl); (first | assumption | exact WU.rd (by assumption) rfl [] | exact OwnU.rd (by assumption)); (repeat' first | exact HSub.nil _ | exact HSub.hd | exact HSub.in0 | exact HSub.refl _ | refine HSub.skip ?_ | refine HSub.skipN ?_); (first | assumption | omega)) | (apply r_lss; (iterate 4 exact rfl); all_goals intro hc; all_goals try (exfalso; omega)) | refine JC.skip ?_ | refine JC.condT rfl ?_ | refine JC.block ?_))
        refine r_orV (val W32 (zs.take (1 + 1))) rfl rfl rfl rfl (by omega) ?_ ?_
        · have h1 := Nat.two_pow_add_eq_or_of_lt (i := 32) h0 (zs.getD 1 0)
          rw [hvt, Nat.or_comm, Nat.mul_comm (zs.getD 1 0) 4294967296, Nat.add_comm]
          exact h1.symm
        (repeat' (first | refine JC.ops ?_ | refine JO.nil ?_ | refine JX.thenN ?_ | (apply r_move; (iterate 3 exact rfl)) | (apply r_assign; (iterate 3 exact rfl)) | (apply r_add1; (iterate 4 exact rfl); omega) | refine JX.blockN ?_))
        exact JX.roundH 2 (by show 2 ≤ zs.length; omega) (by show zs.length - 2 < zs.length - 1; omega) (by repeat first | exact trivial | refine ⟨rfl, ?_⟩) (by (repeat' first | exact HSub.refl _ | exact HSub.nil _ | refine HSub.at 0 rfl ?_ | refine HSub.at 1 rfl ?_ | refine HSub.at 2 rfl ?_ | refine HSub.at 3 rfl ?_ | refine HSub.at 4 rfl ?_ | refine HSub.at 5 rfl ?_ | refine HSub.at 6 rfl ?_ | refine HSub.at 7 rfl ?_ | refine HSub.at 8 rfl ?_ | refine HSub.at 9 rfl ?_ | refine HSub.at 10 rfl ?_ | refine HSub.at 11 rfl ?_ | refine HSub.at 12 rfl ?_ | refine HSub.at 13 rfl ?_ | refine HSub.at 14 rfl ?_ | refine HSub.at 15 rfl ?_ | refine HSub.at 16 rfl ?_ | refine HSub.at 17 rfl ?_ | refine HSub.at 18 rfl ?_ | refine HSub.at 19 rfl ?_ | refine HSub.segH ?_ | refine HSub.skip ?_ | refine HSub.skipN ?_))
    · rw [show zs.take i = zs from List.take_of_length_le (by omega)]
      generalize val W32 zs = V at hV ⊢
      cases p with
      | true =>
        by_cases h63 : V ≤ 9223372036854775808
        · rw [ires_neg h63]
          (repeat' (first | refine JC.seq ?_ | refine JC.ops ?_ | refine JO.nil ?_ | refine JX.thenN ?_ | (apply r_move; (iterate 3 exact rfl)) | (apply r_fieldAddr; (iterate 3 exact rfl)) | (apply r_assign; (iterate 3 exact rfl)) | (apply r_load; (iterate 4 exact rfl); (first | exact at0 | exact at1 | exact at2 | exact at3 | exact at4 | exact at5 | exact at6 | exact at7 | exact at8 | exact at9); exact rfl) | (apply r_pickT; (iterate 4 exact rfl)) | (apply r_lss; (iterate 4 exact rfl); all_goals intro hc; all_goals try (exfalso; omega)) | (apply r_leq; (iterate 4 exact rfl); all_goals intro hc; all_goals try (exfalso; omega)) | refine JX.thenE ?_ | refine JC.exit ?_ | refine JC.condT rfl ?_ | refine JC.condF rfl ?_ | refine JC.block ?_ | refine JX.blockE ?_))
          refine r_negU rfl rfl rfl (by omega) ?_
          refine r_convK (k' := .i64) (-((V : Nat) : Int)) rfl rfl rfl (by rw [IntKind.wrap_i64]; omega) ?_
          (repeat' (first | refine JO.nil ?_ | refine JX.thenN ?_ | (apply r_assign; (iterate 3 exact rfl)) | refine JX.thenR ?_ | refine JC.ret ?_ | refine JX.blockR ?_))
          exact JX.ret2 rfl rfl (fun a w' st => ⟨st.kp, rfl⟩)
        · rw [ires_out (by omega) (fun _ => by omega)]
          (repeat' (first | refine JC.seq ?_ | refine JC.ops ?_ | refine JO.nil ?_ | refine JX.thenN ?_ | (apply r_move; (iterate 3 exact rfl)) | (apply r_fieldAddr; (iterate 3 exact rfl)) | (apply r_assign; (iterate 3 exact rfl)) | (apply r_load; (iterate 4 exact rfl); (first | exact at0 | exact at1 | exact at2 | exact at3 | exact at4 | exact at5 | exact at6 | exact at7 | exact at8 | exact at9); exact rfl) | (apply r_pickT; (iterate 4 exact rfl)) | (apply r_lss; (iterate 4 exact rfl); all_goals intro hc; all_goals try (exfalso; omega)) | (apply r_leq; (iterate 4 exact rfl); all_goals intro hc; all_goals try (exfalso; omega)) | (apply r_geq; (iterate 4 exact rfl); all_goals intro hc; all_goals try (exfalso; omega)) | refine JX.thenE ?_ | refine JX.thenR ?_ | refine JC.exit ?_ | refine JC.ret ?_ | refine JC.condT rfl ?_ | refine JC.condF rfl ?_ | refine JC.block ?_ | refine JX.blockR ?_ | refine JX.blockE ?_))
          exact JX.ret2 rfl rfl (fun a w' st => ⟨st.kp, rfl⟩)
      | false =>
        by_cases h63 : 9223372036854775808 ≤ V
        · rw [ires_out h63 (fun h => by cases h)]
          (repeat' (first | refine JC.seq ?_ | refine JC.ops ?_ | refine JO.nil ?_ | refine JX.thenN ?_ | (apply r_move; (iterate 3 exact rfl)) | (apply r_fieldAddr; (iterate 3 exact rfl)) | (apply r_assign; (iterate 3 exact rfl)) | (apply r_load; (iterate 4 exact rfl); (first | exact at0 | exact at1 | exact at2 | exact at3 | exact at4 | exact at5 | exact at6 | exact at7 | exact at8 | exact at9); exact rfl) | (apply r_pickF; (iterate 4 exact rfl)) | (apply r_lss; (iterate 4 exact rfl); all_goals intro hc; all_goals try (exfalso; omega)) | (apply r_geq; (iterate 4 exact rfl); all_goals intro hc; all_goals try (exfalso; omega)) | refine JX.thenE ?_ | refine JX.thenR ?_ | refine JC.exit ?_ | refine JC.ret ?_ | refine JC.condT rfl ?_ | refine JC.condF rfl ?_ | refine JC.block ?_ | refine JX.blockR ?_ | refine JX.blockE ?_ | (apply r_skip; exact rfl; exact rfl; (first | (intro h; cases h; done) | (intro _; rfl)))))
          exact JX.ret2 rfl rfl (fun a w' st => ⟨st.kp, rfl⟩)
        · rw [ires_pos (by omega)]
          (repeat' (first | refine JC.seq ?_ | refine JC.ops ?_ | refine JO.nil ?_ | refine JX.thenN ?_ | (apply r_move; (iterate 3 exact rfl)) | (apply r_fieldAddr; (iterate 3 exact rfl)) | (apply r_assign; (iterate 3 exact rfl)) | (apply r_load; (iterate 4 exact rfl); (first | exact at0 | exact at1 | exact at2 | exact at3 | exact at4 | exact at5 | exact at6 | exact at7 | exact at8 | exact at9); exact rfl) | (apply r_pickF; (iterate 4 exact rfl)) | (apply r_convN; (iterate 3 exact rfl); omega) | (apply r_lss; (iterate 4 exact rfl); all_goals intro hc; all_goals try (exfalso; omega)) | (apply r_geq; (iterate 4 exact rfl); all_goals intro hc; all_goals try (exfalso; omega)) | refine JX.thenE ?_ | refine JC.skip ?_ | refine JC.exit ?_ | refine JC.ret ?_ | refine JC.condF rfl ?_ | refine JC.block ?_ | refine JX.blockN ?_ | refine JX.blockE ?_ | (apply r_skip; exact rfl; exact rfl; (first | (intro h; cases h; done) | (intro _; rfl)))))
          exact JX.ret2 rfl rfl (fun a w' st => ⟨st.kp, rfl⟩)


def resS (p n : Nat) (E : List WR) (k : Nat) : List Nat := tab n fun i => if i < k then md (xval (E.getD i w0x)) p else 0
theorem resS_zero (p n : Nat) (E : List WR) : resS p n E 0 = tab n fun _ => 0 := by
  unfold resS
  exact tab_congr fun i _ => by simp
theorem resS_end {p n : Nat} {E : List WR} (h : E.length = n) : resS p n E n = resL p E := by
  unfold resS resL
  rw [h]
  exact tab_congr fun i hi => by rw [if_pos hi]
theorem resS_set {p n k : Nat} {E : List WR} (hk : k < n) : (resS p n E k).set k (md (xval (E.getD k w0x)) p) = resS p n E (k + 1) := by
  unfold resS
  rw [tab_set]
  refine tab_congr fun i hi => ?_
  by_cases h : i = k
  · subst h; rw [if_pos rfl, if_pos (by omega)]
  · rw [if_neg h]
    by_cases h2 : i < k
    · rw [if_pos h2, if_pos (by omega)]
    · rw [if_neg h2, if_neg (by omega)]
theorem ires_md {z : Int} {p : Nat} (hp : 0 < p) (hp9 : p ≤ 997) : IRes (z % (p : Int)) = .tuple #[nv (md z p), .bool true] := by
  have h1 := md_eq z hp
  have h2 := md_lt z hp
  unfold IRes
  rw [if_pos (by omega), ← h1]
theorem pr_bd {p K : Nat} (h : p ≤ 997) (h8 : 8 ≤ K) : (p : Int).natAbs < 256 ^ K := by
  have h1 : (256 : Nat) ^ 8 = 18446744073709551616 := by decide
  have h2 : (256 : Nat) ^ 8 ≤ 256 ^ K := Nat.pow_le_pow_right (by decide) h8
  omega
theorem rem_bd (z : Int) {p : Nat} (h0 : 0 < p) (h : p ≤ 997) : (z % (p : Int)).natAbs < 256 ^ 8 := by
  have h1 : (256 : Nat) ^ 8 = 18446744073709551616 := by decide
  have h2 := md_eq z h0
  have h3 := md_lt z h0
  omega
theorem Res.mis {p r c : Nat} {L : List WR} (h : L.length ≠ r * c) : Res p ⟨r, c, L⟩ zeroF := by
  refine ⟨fun q => absurd q.2 fun e => h ?_, fun _ => rfl⟩
  have e : (L.length : Int) = (r : Int) * (c : Int) := e
  rw [← Int.natCast_mul] at e
  exact Int.ofNat_inj.1 e
theorem Res.of {p r c : Nat} (L : List WR) (hp : Pr p) (hr : r ≤ 400) (hc : c ≤ 400) (h : L.length = r * c) : Res p ⟨r, c, L⟩ (resN p r c L).fm := by
  refine ⟨fun _ => rfl, fun q => absurd ⟨⟨p, r, c, rfl, rfl, rfl, hp, hr, hc⟩, ?_⟩ q⟩
  show (L.length : Int) = (r : Int) * (c : Int)
  rw [← Int.natCast_mul, h]

set_option maxHeartbeats 8000000 in
theorem c_fMod (w : World) (v : Value) (p : Int) (a : XM) (K : Nat) (ha : IsX w v a) (hl : a.E.length < 1000000000) (hK : K ≤ 10000) (h8 : 8 ≤ K) (he : ∀ i, (a.E.getD i w0x).2.length ≤ K) :
    Calls Tryd.prog 13 #[iv p, v] w (Ret fun v w' => Kp [] w w' ∧ ∃ o, Res p a o ∧ GivesF o w v w') := by
  obtain ⟨E, rfl, hE⟩ := ha
  obtain ⟨R, C, L⟩ := a
  dsimp only at hl hE he ⊢
  by_cases hf : Fits p R C
  · obtain ⟨p, r, c, rfl, rfl, rfl, hp, hr, hcc⟩ := hf
    have hrc := rc_le hr hcc
    have hp2 := hp.1
    have hp9 := hp.2.1
    refine calls_of_S [⟨9, 2, [], []⟩] [] (by simp) [] Tryd.func13 rfl mixed (by kernel_rfl) Tryd.ntmps13 Tryd.results13 rfl ⟨by simp, by simp⟩ (by simp) ?_
    simp only [toS, textOps, toSOp, kindAt, kindOf, odAt, sopsAt, ordOf, zipF]
    (repeat' (first | refine JC.seq ?_ | refine JC.ops ?_ | refine JO.nil ?_ | refine JX.thenN ?_ | (apply r_move; (iterate 3 exact rfl)) | (apply r_fieldAddr; (iterate 3 exact rfl)) | (apply r_load; (iterate 4 exact rfl); exact at1; exact rfl) | (apply r_allocZ; (iterate 3 exact rfl); intro _) | (apply r_boxA; (iterate 4 exact rfl); intro _)))
    rename_i b3 b4
    refine r_callA (A := [_, _]) (B := []) rfl trivial rfl rfl rfl (fun w hk _ => c_zero p r c hp hr hcc w) fun w v w' _ _ _ hR => ?_
    obtain ⟨N, Eo, hN, rfl, hO⟩ := hR
    obtain ⟨Ao, co, rfl⟩ := hO.form
    refine ⟨N, hN, ?_⟩
    (repeat' (first | refine JC.seq ?_ | refine JC.ops ?_ | refine JO.nil ?_ | refine JX.thenN ?_ | (apply r_move; (iterate 3 exact rfl)) | (apply r_fieldAddr; (iterate 3 exact rfl)) | (apply r_load; (iterate 4 exact rfl); (first | exact at0 | exact at1 | exact at2); exact rfl) | (apply r_lenX; (iterate 3 exact rfl); (first | assumption | exact WX.rd (by assumption) rfl [] | exact OwnX.rd (by assumption))) | (apply r_len; (iterate 3 exact rfl)) | (apply r_pickF; (iterate 4 exact rfl)) | (apply r_storeN; exact rfl; (first | exact trivial | exact ⟨rfl, rfl⟩); exact rfl; exact rfl; (first | exact at0 | exact at1 | exact at2); (iterate 3 exact rfl)) | (apply r_eql; (iterate 4 exact rfl); all_goals intro hc; all_goals try (exfalso; omega)) | (apply r_neq; (iterate 4 exact rfl); all_goals intro hc; all_goals try (exfalso; omega)) | (apply r_allocZ; (iterate 3 exact rfl); intro _) | (apply r_buildL; (iterate 5 exact rfl)) | (apply r_storeN; exact rfl; (first | exact trivial | exact ⟨rfl, rfl⟩); exact rfl; exact rfl; (first | exact at0 | exact at1 | exact at2); (iterate 3 exact rfl)) | refine JX.thenR ?_ | refine JC.skip ?_ | refine JC.ret ?_ | refine JC.condT rfl ?_ | refine JC.condF rfl ?_))
    · exact JX.retC 1 rfl rfl rfl (fun a w' st => ⟨st.kp, zeroF, Res.mis (fun e => hc (by rw [e])), GivesF.zero rfl⟩)
    · rename_i b5 hne
      have hlen : L.length = r * c := by omega
      refine r_call0 (by first | trivial | exact ⟨rfl, rfl⟩) rfl rfl rfl (fun w hk _ => c_From w p (by omega) (by omega)) fun w v w' _ _ _ hR => ?_
      subst hR
      (repeat' (first | refine JC.seq ?_ | refine JC.ops ?_ | refine JO.nil ?_ | refine JX.thenN ?_ | (apply r_move; (iterate 3 exact rfl)) | (apply r_fieldAddr; (iterate 3 exact rfl)) | (apply r_load; (iterate 4 exact rfl); (first | exact at0 | exact at3); exact rfl) | (apply r_lenX; (iterate 3 exact rfl); (first | assumption | exact WX.rd (by assumption) rfl [] | exact OwnX.rd (by assumption))) | (apply r_storeN; exact rfl; (first | exact trivial | exact ⟨rfl, rfl⟩); exact rfl; exact rfl; (first | exact at0 | exact at3); (iterate 3 exact rfl)) | (apply r_allocZ; (iterate 3 exact rfl); intro _) | (apply r_storeN; exact rfl; (first | exact trivial | exact ⟨rfl, rfl⟩); exact rfl; exact rfl; (first | exact at0 | exact at3); (iterate 3 exact rfl)) | refine JC.block ?_))
      rename_i b6
      refine JC.loopH (ι := Nat × SHeap) ⟨fun z => [(36, nv z.1), (35, nv L.length), (34, E), (6, .pointer (some ⟨b6, 0, none⟩)), (5, .pointer (some ⟨b5, 0, none⟩)), (4, .pointer (some ⟨b4, 0, none⟩)), (3, .pointer (some ⟨b3, 0, none⟩)), (0, nv p)],
        fun z => [(b6, .cells #[.bool (decide ((p : Int) < 0)), sv (magU (p : Int).natAbs)] 56), (b5, .cells #[nv p, nv r, nv c, .slice Ao (r * c) co] 30), (b4, .cells #[iv 0, iv 0, iv 0, .slice none 0 0] 30), (b3, .cells #[nv r, nv c, E] 36)] ++ (z.2 ++ []),
        fun z => z.1 ≤ L.length ∧ OwnN z.2 (.slice Ao (r * c) co) (r * c) (resS p (r * c) L z.1), fun z => L.length - z.1⟩ (0, N) ⟨by dsimp only; omega, by rw [resS_zero]; exact hO⟩ (by repeat first | exact trivial | refine ⟨rfl, ?_⟩) (by (first | exact HSub.refl _ | (repeat' first | exact HSub.nil _ | exact HSub.refl _ | refine HSub.at 0 rfl ?_ | refine HSub.at 1 rfl ?_ | refine HSub.at 2 rfl ?_ | refine HSub.at 3 rfl ?_ | refine HSub.at 4 rfl ?_ | refine HSub.at 5 rfl ?_ | refine HSub.at 6 rfl ?_ | refine HSub.at 7 rfl ?_))) (fun z hz => ?_)
      clear hO
      obtain ⟨k, N⟩ := z
      obtain ⟨hk, hO⟩ := hz
      dsimp only at hk hO ⊢
      have hek := he k
      by_cases hkk : k < L.length
      · (repeat' (first | refine JC.seq ?_ | refine JC.ops ?_ | refine JO.nil ?_ | refine JX.thenN ?_ | (apply r_move; (iterate 3 exact rfl)) | (apply r_assign; (iterate 3 exact rfl)) | (apply r_loadN; (iterate 4 exact rfl); (first | exact at0 | exact at1); exact rfl) | (apply r_idxX; (iterate 4 exact rfl); (first | assumption | exact WX.rd (by assumption) rfl [] | exact OwnX.rd (by assumption)); (first | assumption | omega)) | (apply r_ldX; (iterate 4 exact rfl); (first | assumption | exact WX.rd (by assumption) rfl [] | exact OwnX.rd (by assumption)); (repeat' first | exact HSub.nil _ | exact HSub.hd | exact HSub.in0 | exact HSub.refl _ | refine HSub.skip ?_ | refine HSub.skipN ?_); (first | assumption | omega)) | (apply r_storeN; exact rfl; (first | exact trivial | exact ⟨rfl, rfl⟩); exact rfl; exact rfl; (first | exact at0 | exact at1); (iterate 3 exact rfl)) | (apply r_lss; (iterate 4 exact rfl); all_goals intro hc; all_goals try (exfalso; omega)) | (apply r_allocZ; (iterate 3 exact rfl); intro _) | (apply r_storeN; exact rfl; (first | exact trivial | exact ⟨rfl, rfl⟩); exact rfl; exact rfl; (first | exact at0 | exact at1); (iterate 3 exact rfl)) | refine JC.skip ?_ | refine JC.condT rfl ?_ | refine JC.block ?_))
        rename_i b8
        refine r_call0 (by first | trivial | exact ⟨rfl, rfl⟩) rfl rfl rfl (fun w hk _ => c_Quo w _ _ (xval (L.getD k w0x)) p K (IsZ.x hek) (IsZ.can (pr_bd hp9 h8)) (by omega)) fun w v w' _ _ _ hR => ?_
        rw [if_neg hne] at hR
        subst hR
        (repeat' (first | refine JC.opsD ?_ | refine JO.nil ?_ | refine JX.thenN ?_ | (apply r_move; (iterate 3 exact rfl)) | (apply r_fieldAddr; (iterate 3 exact rfl)) | (apply r_assign; (iterate 3 exact rfl)) | (apply r_load; (iterate 4 exact rfl); (first | exact at0 | exact at1 | exact at4); exact rfl) | (apply r_loadN; (iterate 4 exact rfl); (first | exact at0 | exact at1 | exact at4); exact rfl) | (apply r_extract; (iterate 4 exact rfl)) | (apply r_storeN; exact rfl; (first | exact trivial | exact ⟨rfl, rfl⟩); exact rfl; exact rfl; (first | exact at0 | exact at1 | exact at4); (iterate 3 exact rfl)) | (apply r_allocZ; (iterate 3 exact rfl); intro _) | (apply r_storeN; exact rfl; (first | exact trivial | exact ⟨rfl, rfl⟩); exact rfl; exact rfl; (first | exact at0 | exact at1 | exact at4); (iterate 3 exact rfl))))
        refine r_call0 (by first | trivial | exact ⟨rfl, rfl⟩) rfl rfl rfl (fun w hk _ => c_Int w _ (xval (L.getD k w0x) % (p : Int)) 8 (IsZ.can (rem_bd _ (by omega) hp9)) (by omega)) fun w v w' _ _ _ hR => ?_
        rw [ires_md (by omega) hp9] at hR
        subst hR
        (repeat' (first | (apply r_move; (iterate 3 exact rfl)) | (apply r_idxN; (iterate 4 exact rfl); (first | assumption | exact WN.rd (by assumption) rfl [] | exact OwnN.rd (by assumption)); (first | assumption | omega)) | (apply r_extract; (iterate 4 exact rfl))))
        refine r_stN (A := [_, _, _, _, _, _, _]) (u := md (xval (L.getD k w0x)) p) hO rfl rfl (by first | trivial | exact ⟨rfl, rfl⟩) rfl rfl (by omega) (fun N' hO' => ?_)
        rw [resS_set (by omega)] at hO'
        (repeat' (first | refine JC.ops ?_ | refine JO.nil ?_ | refine JX.thenN ?_ | (apply r_move; (iterate 3 exact rfl)) | (apply r_add1; (iterate 4 exact rfl); omega) | refine JX.blockN ?_))
        exact JX.roundH (k + 1, N') ⟨by dsimp only; omega, hO'⟩ (by dsimp only; omega) (by repeat first | exact trivial | refine ⟨rfl, ?_⟩) (by (repeat' first | exact HSub.refl _ | exact HSub.nil _ | refine HSub.at 0 rfl ?_ | refine HSub.at 1 rfl ?_ | refine HSub.at 2 rfl ?_ | refine HSub.at 3 rfl ?_ | refine HSub.at 4 rfl ?_ | refine HSub.at 5 rfl ?_ | refine HSub.at 6 rfl ?_ | refine HSub.at 7 rfl ?_ | refine HSub.at 8 rfl ?_ | refine HSub.at 9 rfl ?_ | refine HSub.at 10 rfl ?_ | refine HSub.at 11 rfl ?_ | refine HSub.at 12 rfl ?_ | refine HSub.at 13 rfl ?_ | refine HSub.at 14 rfl ?_ | refine HSub.at 15 rfl ?_ | refine HSub.at 16 rfl ?_ | refine HSub.at 17 rfl ?_ | refine HSub.at 18 rfl ?_ | refine HSub.at 19 rfl ?_ | refine HSub.segH ?_ | refine HSub.skip ?_ | refine HSub.skipN ?_))
      · (repeat' (first | refine JC.seq ?_ | refine JC.ops ?_ | refine JO.nil ?_ | refine JX.thenN ?_ | (apply r_loadN; (iterate 4 exact rfl); (first | exact at1 | exact at2); exact rfl) | (apply r_storeN; exact rfl; (first | exact trivial | exact ⟨rfl, rfl⟩); exact rfl; exact rfl; (first | exact at1 | exact at2); (iterate 3 exact rfl)) | (apply r_lss; (iterate 4 exact rfl); all_goals intro hc; all_goals try (exfalso; omega)) | (apply r_storeN; exact rfl; (first | exact trivial | exact ⟨rfl, rfl⟩); exact rfl; exact rfl; (first | exact at1 | exact at2); (iterate 3 exact rfl)) | refine JX.thenE ?_ | refine JC.exit ?_ | refine JC.ret ?_ | refine JC.condF rfl ?_ | refine JX.blockE ?_))
        rw [show k = r * c by omega, resS_end hlen] at hO
        exact JX.retC 2 rfl rfl rfl (fun a w' st => ⟨st.kp, _, Res.of L hp hr hcc hlen, N, st.newOf rfl (by (repeat' first | exact HSub.nil _ | exact HSub.hd | exact HSub.in0 | exact HSub.refl _ | refine HSub.skip ?_ | refine HSub.skipN ?_)), ((fdOwnM.mk' hO).int)⟩)
  · refine calls_of_S [⟨9, 2, [], []⟩] [] (by simp) [] Tryd.func13 rfl mixed (by kernel_rfl) Tryd.ntmps13 Tryd.results13 rfl ⟨by simp, by simp⟩ (by simp) ?_
    simp only [toS, textOps, toSOp, kindAt, kindOf, odAt, sopsAt, ordOf, zipF]
    (repeat' (first | refine JC.seq ?_ | refine JC.ops ?_ | refine JO.nil ?_ | refine JX.thenN ?_ | (apply r_move; (iterate 3 exact rfl)) | (apply r_fieldAddr; (iterate 3 exact rfl)) | (apply r_load; (iterate 4 exact rfl); exact at1; exact rfl) | (apply r_allocZ; (iterate 3 exact rfl); intro _) | (apply r_boxA; (iterate 4 exact rfl); intro _)))
    rename_i b3 b4
    refine r_call0 trivial rfl rfl rfl (fun w hk _ => c_zeroF p R C hf w) fun w v w' _ _ _ hR => ?_
    subst hR
    unfold zeroV
    (repeat' (first | refine JC.seq ?_ | refine JC.ops ?_ | refine JO.nil ?_ | refine JX.thenN ?_ | (apply r_move; (iterate 3 exact rfl)) | (apply r_fieldAddr; (iterate 3 exact rfl)) | (apply r_load; (iterate 4 exact rfl); (first | exact at0 | exact at1); exact rfl) | (apply r_pickT; (iterate 4 exact rfl)) | (apply r_storeN; exact rfl; (first | exact trivial | exact ⟨rfl, rfl⟩); exact rfl; exact rfl; (first | exact at0 | exact at1); (iterate 3 exact rfl)) | (apply r_eql; (iterate 4 exact rfl); all_goals intro hc; all_goals try (exfalso; omega)) | (apply r_allocZ; (iterate 3 exact rfl); intro _) | (apply r_buildL; (iterate 5 exact rfl)) | (apply r_storeN; exact rfl; (first | exact trivial | exact ⟨rfl, rfl⟩); exact rfl; exact rfl; (first | exact at0 | exact at1); (iterate 3 exact rfl)) | refine JX.thenR ?_ | refine JC.ret ?_ | refine JC.condT rfl ?_ | (apply r_skip; exact rfl; exact rfl; (first | (intro h; cases h; done) | (intro _; rfl)))))
    exact JX.retC 1 rfl rfl rfl (fun a w' st => ⟨st.kp, zeroF, ⟨fun q => absurd q.1 hf, fun _ => rfl⟩, GivesF.zero rfl⟩)

set_option maxHeartbeats 8000000 in
theorem c_rMod (w : World) (v : Value) (p : Int) (a : XM) (K : Nat) (ha : IsX w v a) (hl : a.E.length < 1000000000) (hK : K ≤ 10000) (h8 : 8 ≤ K) (he : ∀ i, (a.E.getD i w0x).2.length ≤ K) :
    Calls Tryd.prog 15 #[iv p, v] w (Ret fun v w' => Kp [] w w' ∧ ∃ o, Res p a o ∧ GivesF o w v w') := by
  obtain ⟨E, rfl, hE⟩ := ha
  obtain ⟨R, C, L⟩ := a
  dsimp only at hl hE he ⊢
  by_cases hf : Fits p R C
  · obtain ⟨p, r, c, rfl, rfl, rfl, hp, hr, hcc⟩ := hf
    have hrc := rc_le hr hcc
    have hp2 := hp.1
    have hp9 := hp.2.1
    refine calls_of_S [⟨7, 3, [], []⟩, ⟨8, 2, [], []⟩] [] (by simp) [] Tryd.func15 rfl mixed (by kernel_rfl) Tryd.ntmps15 Tryd.results15 rfl ⟨by simp, by simp⟩ (by simp) ?_
    simp only [toS, textOps, toSOp, kindAt, kindOf, odAt, sopsAt, ordOf, zipF]
    (repeat' (first | refine JC.seq ?_ | refine JC.ops ?_ | refine JO.nil ?_ | refine JX.thenN ?_ | (apply r_move; (iterate 3 exact rfl)) | (apply r_fieldAddr; (iterate 3 exact rfl)) | (apply r_load; (iterate 4 exact rfl); exact at1; exact rfl) | (apply r_allocZ; (iterate 3 exact rfl); intro _) | (apply r_boxA; (iterate 4 exact rfl); intro _)))
    rename_i b3 b4
    refine r_callA (A := [_, _]) (B := []) rfl trivial rfl rfl rfl (fun w hk _ => fdc_refZero p r c hp hr hcc w) fun w v w' _ _ _ hR => ?_
    obtain ⟨N, Eo, hN, rfl, hO⟩ := hR
    obtain ⟨Ao, co, rfl⟩ := hO.form
    refine ⟨N, hN, ?_⟩
    (repeat' (first | refine JC.seq ?_ | refine JC.ops ?_ | refine JO.nil ?_ | refine JX.thenN ?_ | (apply r_move; (iterate 3 exact rfl)) | (apply r_fieldAddr; (iterate 3 exact rfl)) | (apply r_assign; (iterate 3 exact rfl)) | (apply r_load; (iterate 4 exact rfl); (first | exact at0 | exact at1 | exact at2); exact rfl) | (apply r_lenX; (iterate 3 exact rfl); (first | assumption | exact WX.rd (by assumption) rfl [] | exact OwnX.rd (by assumption))) | (apply r_mulN; (iterate 4 exact rfl); (first | assumption | omega)) | (apply r_pickF; (iterate 4 exact rfl)) | (apply r_storeN; exact rfl; (first | exact trivial | exact ⟨rfl, rfl⟩); exact rfl; exact rfl; (first | exact at0 | exact at1 | exact at2); (iterate 3 exact rfl)) | (apply r_eql; (iterate 4 exact rfl); all_goals intro hc; all_goals try (exfalso; omega)) | (apply r_neq; (iterate 4 exact rfl); all_goals intro hc; all_goals try (exfalso; omega)) | (apply r_allocZ; (iterate 3 exact rfl); intro _) | (apply r_buildL; (iterate 5 exact rfl)) | (apply r_storeN; exact rfl; (first | exact trivial | exact ⟨rfl, rfl⟩); exact rfl; exact rfl; (first | exact at0 | exact at1 | exact at2); (iterate 3 exact rfl)) | refine JX.thenR ?_ | refine JC.skip ?_ | refine JC.ret ?_ | refine JC.condT rfl ?_ | refine JC.condF rfl ?_ | refine JC.block ?_))
    · exact JX.retC 1 rfl rfl rfl (fun a w' st => ⟨st.kp, zeroF, Res.mis (fun e => hc (by rw [e])), GivesF.zero rfl⟩)
    · rename_i b5 hne
      have hlen : L.length = r * c := by omega
      refine JC.loopH (ι := Nat × SHeap) ⟨fun z => [(6, nv z.1), (5, .pointer (some ⟨b5, 0, none⟩)), (4, .pointer (some ⟨b4, 0, none⟩)), (3, .pointer (some ⟨b3, 0, none⟩)), (0, nv p)],
        fun z => [(b5, .cells #[nv p, nv r, nv c, .slice Ao (r * c) co] 30), (b4, .cells #[iv 0, iv 0, iv 0, .slice none 0 0] 30), (b3, .cells #[nv r, nv c, E] 36)] ++ (z.2 ++ []),
        fun z => z.1 ≤ L.length ∧ OwnN z.2 (.slice Ao (r * c) co) (r * c) (resS p (r * c) L z.1), fun z => L.length - z.1⟩ (0, N) ⟨by dsimp only; omega, by rw [resS_zero]; exact hO⟩ (by repeat first | exact trivial | refine ⟨rfl, ?_⟩) (by (first | exact HSub.refl _ | (repeat' first | exact HSub.nil _ | exact HSub.refl _ | refine HSub.at 0 rfl ?_ | refine HSub.at 1 rfl ?_ | refine HSub.at 2 rfl ?_ | refine HSub.at 3 rfl ?_ | refine HSub.at 4 rfl ?_ | refine HSub.at 5 rfl ?_ | refine HSub.at 6 rfl ?_ | refine HSub.at 7 rfl ?_))) (fun z hz => ?_)
      clear hO
      obtain ⟨k, N⟩ := z
      obtain ⟨hk, hO⟩ := hz
      dsimp only at hk hO ⊢
      have hek := he k
      by_cases hkk : k < L.length
      · (repeat' (first | refine JC.seq ?_ | refine JC.ops ?_ | refine JC.opsD ?_ | refine JO.nil ?_ | refine JX.thenN ?_ | (apply r_move; (iterate 3 exact rfl)) | (apply r_fieldAddr; (iterate 3 exact rfl)) | (apply r_load; (iterate 4 exact rfl); exact at2; exact rfl) | (apply r_idxX; (iterate 4 exact rfl); (first | assumption | exact WX.rd (by assumption) rfl [] | exact OwnX.rd (by assumption)); (first | assumption | omega)) | (apply r_ldX; (iterate 4 exact rfl); (first | assumption | exact WX.rd (by assumption) rfl [] | exact OwnX.rd (by assumption)); (repeat' first | exact HSub.nil _ | exact HSub.hd | exact HSub.in0 | exact HSub.refl _ | refine HSub.skip ?_ | refine HSub.skipN ?_); (first | assumption | omega)) | (apply r_lenX; (iterate 3 exact rfl); (first | assumption | exact WX.rd (by assumption) rfl [] | exact OwnX.rd (by assumption))) | (apply r_lss; (iterate 4 exact rfl); all_goals intro hc; all_goals try (exfalso; omega)) | refine JC.skip ?_ | refine JC.condT rfl ?_ | refine JC.block ?_))
        refine r_call0 (by first | trivial | exact ⟨rfl, rfl⟩) rfl rfl rfl (fun w hk _ => c_FromR w p (by omega) (by omega)) fun w v w' _ _ _ hR => ?_
        subst hR
        skip
        refine r_call0 (by first | trivial | exact ⟨rfl, rfl⟩) rfl rfl rfl (fun w hk _ => c_QuoR w _ _ (xval (L.getD k w0x)) p K (IsZ.x hek) (IsZ.can (pr_bd hp9 h8)) (by omega)) fun w v w' _ _ _ hR => ?_
        rw [if_neg hne] at hR
        subst hR
        (repeat' (first | refine JC.opsD ?_ | refine JO.nil ?_ | refine JX.thenN ?_ | (apply r_move; (iterate 3 exact rfl)) | (apply r_fieldAddr; (iterate 3 exact rfl)) | (apply r_assign; (iterate 3 exact rfl)) | (apply r_load; (iterate 4 exact rfl); (first | exact at0 | exact at1 | exact at2); exact rfl) | (apply r_loadN; (iterate 4 exact rfl); (first | exact at0 | exact at1 | exact at2); exact rfl) | (apply r_extract; (iterate 4 exact rfl)) | (apply r_storeN; exact rfl; (first | exact trivial | exact ⟨rfl, rfl⟩); exact rfl; exact rfl; (first | exact at0 | exact at1 | exact at2); (iterate 3 exact rfl)) | (apply r_allocZ; (iterate 3 exact rfl); intro _) | (apply r_storeN; exact rfl; (first | exact trivial | exact ⟨rfl, rfl⟩); exact rfl; exact rfl; (first | exact at0 | exact at1 | exact at2); (iterate 3 exact rfl))))
        refine r_call0 (by first | trivial | exact ⟨rfl, rfl⟩) rfl rfl rfl (fun w hk _ => c_IntR w _ (xval (L.getD k w0x) % (p : Int)) 8 (IsZ.can (rem_bd _ (by omega) hp9)) (by omega)) fun w v w' _ _ _ hR => ?_
        rw [ires_md (by omega) hp9] at hR
        subst hR
        (repeat' (first | (apply r_move; (iterate 3 exact rfl)) | (apply r_idxN; (iterate 4 exact rfl); (first | assumption | exact WN.rd (by assumption) rfl [] | exact OwnN.rd (by assumption)); (first | assumption | omega)) | (apply r_extract; (iterate 4 exact rfl))))
        refine r_stN (A := [_, _, _, _, _]) (u := md (xval (L.getD k w0x)) p) hO rfl rfl (by first | trivial | exact ⟨rfl, rfl⟩) rfl rfl (by omega) (fun N' hO' => ?_)
        rw [resS_set (by omega)] at hO'
        (repeat' (first | refine JC.ops ?_ | refine JO.nil ?_ | refine JX.thenN ?_ | (apply r_move; (iterate 3 exact rfl)) | (apply r_assign; (iterate 3 exact rfl)) | (apply r_add1; (iterate 4 exact rfl); omega) | refine JX.blockN ?_))
        exact JX.roundH (k + 1, N') ⟨by dsimp only; omega, hO'⟩ (by dsimp only; omega) (by repeat first | exact trivial | refine ⟨rfl, ?_⟩) (by (repeat' first | exact HSub.refl _ | exact HSub.nil _ | refine HSub.at 0 rfl ?_ | refine HSub.at 1 rfl ?_ | refine HSub.at 2 rfl ?_ | refine HSub.at 3 rfl ?_ | refine HSub.at 4 rfl ?_ | refine HSub.at 5 rfl ?_ | refine HSub.at 6 rfl ?_ | refine HSub.at 7 rfl ?_ | refine HSub.at 8 rfl ?_ | refine HSub.at 9 rfl ?_ | refine HSub.at 10 rfl ?_ | refine HSub.at 11 rfl ?_ | refine HSub.at 12 rfl ?_ | refine HSub.at 13 rfl ?_ | refine HSub.at 14 rfl ?_ | refine HSub.at 15 rfl ?_ | refine HSub.at 16 rfl ?_ | refine HSub.at 17 rfl ?_ | refine HSub.at 18 rfl ?_ | refine HSub.at 19 rfl ?_ | refine HSub.segH ?_ | refine HSub.skip ?_ | refine HSub.skipN ?_))
      · (repeat' (first | refine JC.seq ?_ | refine JC.ops ?_ | refine JO.nil ?_ | refine JX.thenN ?_ | (apply r_move; (iterate 3 exact rfl)) | (apply r_fieldAddr; (iterate 3 exact rfl)) | (apply r_load; (iterate 4 exact rfl); (first | exact at0 | exact at1 | exact at2); exact rfl) | (apply r_loadN; (iterate 4 exact rfl); (first | exact at0 | exact at1 | exact at2); exact rfl) | (apply r_lenX; (iterate 3 exact rfl); (first | assumption | exact WX.rd (by assumption) rfl [] | exact OwnX.rd (by assumption))) | (apply r_storeN; exact rfl; (first | exact trivial | exact ⟨rfl, rfl⟩); exact rfl; exact rfl; (first | exact at0 | exact at1 | exact at2); (iterate 3 exact rfl)) | (apply r_lss; (iterate 4 exact rfl); all_goals intro hc; all_goals try (exfalso; omega)) | (apply r_storeN; exact rfl; (first | exact trivial | exact ⟨rfl, rfl⟩); exact rfl; exact rfl; (first | exact at0 | exact at1 | exact at2); (iterate 3 exact rfl)) | refine JX.thenE ?_ | refine JC.exit ?_ | refine JC.ret ?_ | refine JC.condF rfl ?_ | refine JX.blockE ?_))
        rw [show k = r * c by omega, resS_end hlen] at hO
        exact JX.retC 1 rfl rfl rfl (fun a w' st => ⟨st.kp, _, Res.of L hp hr hcc hlen, N, st.newOf rfl (by (repeat' first | exact HSub.nil _ | exact HSub.hd | exact HSub.in0 | exact HSub.refl _ | refine HSub.skip ?_ | refine HSub.skipN ?_)), ((fdOwnM.mk' hO).int)⟩)
  · refine calls_of_S [⟨7, 3, [], []⟩, ⟨8, 2, [], []⟩] [] (by simp) [] Tryd.func15 rfl mixed (by kernel_rfl) Tryd.ntmps15 Tryd.results15 rfl ⟨by simp, by simp⟩ (by simp) ?_
    simp only [toS, textOps, toSOp, kindAt, kindOf, odAt, sopsAt, ordOf, zipF]
    (repeat' (first | refine JC.seq ?_ | refine JC.ops ?_ | refine JO.nil ?_ | refine JX.thenN ?_ | (apply r_move; (iterate 3 exact rfl)) | (apply r_fieldAddr; (iterate 3 exact rfl)) | (apply r_load; (iterate 4 exact rfl); exact at1; exact rfl) | (apply r_allocZ; (iterate 3 exact rfl); intro _) | (apply r_boxA; (iterate 4 exact rfl); intro _)))
    rename_i b3 b4
    refine r_call0 trivial rfl rfl rfl (fun w hk _ => fdc_refZeroF p R C hf w) fun w v w' _ _ _ hR => ?_
    subst hR
    unfold zeroV
    (repeat' (first | refine JC.seq ?_ | refine JC.ops ?_ | refine JO.nil ?_ | refine JX.thenN ?_ | (apply r_move; (iterate 3 exact rfl)) | (apply r_fieldAddr; (iterate 3 exact rfl)) | (apply r_load; (iterate 4 exact rfl); (first | exact at0 | exact at1); exact rfl) | (apply r_pickT; (iterate 4 exact rfl)) | (apply r_storeN; exact rfl; (first | exact trivial | exact ⟨rfl, rfl⟩); exact rfl; exact rfl; (first | exact at0 | exact at1); (iterate 3 exact rfl)) | (apply r_eql; (iterate 4 exact rfl); all_goals intro hc; all_goals try (exfalso; omega)) | (apply r_allocZ; (iterate 3 exact rfl); intro _) | (apply r_buildL; (iterate 5 exact rfl)) | (apply r_storeN; exact rfl; (first | exact trivial | exact ⟨rfl, rfl⟩); exact rfl; exact rfl; (first | exact at0 | exact at1); (iterate 3 exact rfl)) | refine JX.thenR ?_ | refine JC.ret ?_ | refine JC.condT rfl ?_ | (apply r_skip; exact rfl; exact rfl; (first | (intro h; cases h; done) | (intro _; rfl)))))
    exact JX.retC 1 rfl rfl rfl (fun a w' st => ⟨st.kp, zeroF, ⟨fun q => absurd q.1 hf, fun _ => rfl⟩, GivesF.zero rfl⟩)


set_option maxHeartbeats 2000000 in
theorem c_OneF (w : World) (p n : Int) (hf : ¬ Fits p n n) :
    Calls Tryd.prog 11 #[iv p, iv n] w (Ret fun v w' => Kp [] w w' ∧ v = zeroV) := by
  refine calls_of_S [] [] (by simp) [] Tryd.func11 rfl mixed (by kernel_rfl) Tryd.ntmps11 Tryd.results11 rfl ⟨by simp, by simp⟩ (by simp) ?_
  simp only [toS, textOps, toSOp, kindAt, kindOf, odAt, sopsAt, ordOf, zipF]
  (repeat' (first | refine JC.seq ?_ | refine JC.ops ?_ | refine JO.nil ?_ | refine JX.thenN ?_ | (apply r_move; (iterate 3 exact rfl)) | (apply r_allocZ; (iterate 3 exact rfl); intro _)))
  rename_i b4
  refine r_call0 trivial rfl rfl rfl (fun w hk _ => c_zeroF p n n hf w) fun w v w' _ _ _ hR => ?_
  subst hR
  unfold zeroV
  (repeat' (first | refine JC.seq ?_ | refine JC.ops ?_ | refine JO.nil ?_ | refine JX.thenN ?_ | (apply r_move; (iterate 3 exact rfl)) | (apply r_fieldAddr; (iterate 3 exact rfl)) | (apply r_load; (iterate 4 exact rfl); exact at0; exact rfl) | (apply r_allocZ; (iterate 3 exact rfl); intro _) | (apply r_storeN; exact rfl; (first | exact trivial | exact ⟨rfl, rfl⟩); exact rfl; exact rfl; exact at0; (iterate 3 exact rfl)) | refine JC.block ?_))
  rename_i b5
  refine JC.loopH (ι := Unit) ⟨fun z => [(13, nv 0), (12, nv 0), (0, iv p), (1, iv n), (5, .pointer (some ⟨b5, 0, none⟩)), (4, .pointer (some ⟨b4, 0, none⟩))],
    fun z => [(b5, .cells #[iv 0, iv 0, iv 0, .slice none 0 0] 30), (b4, .cells #[iv 0, iv 0, iv 0, .slice none 0 0] 30)], fun _ => True, fun _ => 0⟩ () trivial (by repeat first | exact trivial | refine ⟨rfl, ?_⟩) (by (first | exact HSub.refl _ | (repeat' first | exact HSub.nil _ | exact HSub.refl _ | refine HSub.at 0 rfl ?_ | refine HSub.at 1 rfl ?_ | refine HSub.at 2 rfl ?_ | refine HSub.at 3 rfl ?_ | refine HSub.at 4 rfl ?_ | refine HSub.at 5 rfl ?_ | refine HSub.at 6 rfl ?_ | refine HSub.at 7 rfl ?_))) (fun _ _ => ?_)
  dsimp only
  (repeat' (first | refine JC.seq ?_ | refine JC.ops ?_ | refine JO.nil ?_ | refine JX.thenN ?_ | (apply r_loadN; (iterate 4 exact rfl); (first | exact at0 | exact at1); exact rfl) | (apply r_lss; (iterate 4 exact rfl); all_goals intro hc; all_goals try (exfalso; omega)) | (apply r_storeN; exact rfl; (first | exact trivial | exact ⟨rfl, rfl⟩); exact rfl; exact rfl; (first | exact at0 | exact at1); (iterate 3 exact rfl)) | refine JX.thenE ?_ | refine JC.exit ?_ | refine JC.ret ?_ | refine JC.condF rfl ?_ | refine JX.blockE ?_))
  exact JX.retC 1 rfl rfl rfl (fun a w' st => ⟨st.kp, rfl⟩)

set_option maxHeartbeats 2000000 in
theorem c_refOneF5 (w : World) (p n : Int) (hf : ¬ Fits p n n) :
    Calls Tryd.prog 12 #[iv p, iv n] w (Ret fun v w' => Kp [] w w' ∧ v = zeroV) := by
  refine calls_of_S [] [] (by simp) [] Tryd.func12 rfl mixed (by kernel_rfl) Tryd.ntmps12 Tryd.results12 rfl ⟨by simp, by simp⟩ (by simp) ?_
  simp only [toS, textOps, toSOp, kindAt, kindOf, odAt, sopsAt, ordOf, zipF]
  (repeat' (first | refine JC.seq ?_ | refine JC.ops ?_ | refine JO.nil ?_ | refine JX.thenN ?_ | (apply r_move; (iterate 3 exact rfl)) | (apply r_allocZ; (iterate 3 exact rfl); intro _)))
  rename_i b4
  refine r_call0 trivial rfl rfl rfl (fun w hk _ => fdc_refZeroF p n n hf w) fun w v w' _ _ _ hR => ?_
  subst hR
  unfold zeroV
  (repeat' (first | refine JC.seq ?_ | refine JC.ops ?_ | refine JO.nil ?_ | refine JX.thenN ?_ | (apply r_assign; (iterate 3 exact rfl)) | (apply r_allocZ; (iterate 3 exact rfl); intro _) | (apply r_storeN; exact rfl; (first | exact trivial | exact ⟨rfl, rfl⟩); exact rfl; exact rfl; exact at0; (iterate 3 exact rfl)) | refine JC.block ?_))
  rename_i b5
  refine JC.loopH (ι := Unit) ⟨fun z => [(6, nv 0), (0, iv p), (1, iv n), (5, .pointer (some ⟨b5, 0, none⟩)), (4, .pointer (some ⟨b4, 0, none⟩))],
    fun z => [(b5, .cells #[iv 0, iv 0, iv 0, .slice none 0 0] 30), (b4, .cells #[iv 0, iv 0, iv 0, .slice none 0 0] 30)], fun _ => True, fun _ => 0⟩ () trivial (by repeat first | exact trivial | refine ⟨rfl, ?_⟩) (by (first | exact HSub.refl _ | (repeat' first | exact HSub.nil _ | exact HSub.refl _ | refine HSub.at 0 rfl ?_ | refine HSub.at 1 rfl ?_ | refine HSub.at 2 rfl ?_ | refine HSub.at 3 rfl ?_ | refine HSub.at 4 rfl ?_ | refine HSub.at 5 rfl ?_ | refine HSub.at 6 rfl ?_ | refine HSub.at 7 rfl ?_))) (fun _ _ => ?_)
  dsimp only
  (repeat' (first | refine JC.seq ?_ | refine JC.ops ?_ | refine JO.nil ?_ | refine JX.thenN ?_ | (apply r_move; (iterate 3 exact rfl)) | (apply r_fieldAddr; (iterate 3 exact rfl)) | (apply r_load; (iterate 4 exact rfl); (first | exact at0 | exact at1); exact rfl) | (apply r_loadN; (iterate 4 exact rfl); (first | exact at0 | exact at1); exact rfl) | (apply r_lss; (iterate 4 exact rfl); all_goals intro hc; all_goals try (exfalso; omega)) | (apply r_storeN; exact rfl; (first | exact trivial | exact ⟨rfl, rfl⟩); exact rfl; exact rfl; (first | exact at0 | exact at1); (iterate 3 exact rfl)) | refine JX.thenE ?_ | refine JC.exit ?_ | refine JC.ret ?_ | refine JC.condF rfl ?_ | refine JX.blockE ?_))
  exact JX.retC 1 rfl rfl rfl (fun a w' st => ⟨st.kp, rfl⟩)

def OneG (p n : Int) (o : FM) : Prop := (∃ p' n' : Nat, p = p' ∧ n = n' ∧ Pr p' ∧ n' ≤ 400 ∧ o = (oneM p' n').fm) ∨ (¬ Fits p n n ∧ o = zeroF)
theorem Fits.one {p n : Int} (h : Fits p n n) : ∃ p' n' : Nat, p = p' ∧ n = n' ∧ Pr p' ∧ n' ≤ 400 := by
  obtain ⟨p', n', _, rfl, rfl, _, h1, h2, _⟩ := h
  exact ⟨p', n', rfl, rfl, h1, h2⟩
theorem OneG.ex (p n : Int) : ∃ o, OneG p n o := by
  by_cases h : Fits p n n
  · obtain ⟨p', n', e1, e2, h1, h2⟩ := h.one
    exact ⟨_, .inl ⟨p', n', e1, e2, h1, h2, rfl⟩⟩
  · exact ⟨_, .inr ⟨h, rfl⟩⟩
theorem c_OneG (w : World) (p n : Int) (o : FM) (h : OneG p n o) : Calls Tryd.prog 11 #[iv p, iv n] w (Ret fun v w' => Kp [] w w' ∧ GivesF o w v w') := by
  rcases h with ⟨p', n', rfl, rfl, h1, h2, rfl⟩ | ⟨h, rfl⟩
  · exact Ret.mono (fdc_One w p' n' h1 h2) fun v w' h => ⟨h.1, h.2.of⟩
  · exact Ret.mono (c_OneF w p n h) fun v w' h => ⟨h.1, GivesF.zero h.2⟩
theorem c_refOneG (w : World) (p n : Int) (o : FM) (h : OneG p n o) : Calls Tryd.prog 12 #[iv p, iv n] w (Ret fun v w' => Kp [] w w' ∧ GivesF o w v w') := by
  rcases h with ⟨p', n', rfl, rfl, h1, h2, rfl⟩ | ⟨h, rfl⟩
  · exact Ret.mono (fdc_refOne w p' n' h1 h2) fun v w' h => ⟨h.1, h.2.of⟩
  · exact Ret.mono (c_refOneF5 w p n h) fun v w' h => ⟨h.1, GivesF.zero h.2⟩


theorem md_tm (n : Int) {p : Nat} (hp : 0 < p) : md (n.tmod p) p = md n p := by
  have h1 := md_eq (n.tmod p) hp
  have h2 := md_eq n hp
  have h3 := Int.mul_tdiv_add_tmod n p
  have h4 : n % (p : Int) = ((p : Int) * n.tdiv p + n.tmod p) % (p : Int) := by rw [h3]
  rw [Int.mul_add_emod_self_left] at h4
  omega

set_option maxHeartbeats 4000000 in
theorem c_refOf5 (w : World) (v : Value) (p : Nat) (xss : List (List Int)) (hv : fdIsRows w v xss) (hp : Pr p) (hr : xss.length ≤ 400) (hcc : fdofC xss xss.length ≤ 400) :
    Calls Tryd.prog 10 #[nv p, v] w (Ret fun v w' => Kp [] w w' ∧ fdGivesM (ofM p xss) w v w') := by
  obtain ⟨ss, hss, hrow⟩ := hv
  have hrc := rc_le hr hcc
  have hp2 := hp.1
  have hp9 := hp.2.1
  have hlen : ∀ i, i < xss.length → (xss.getD i []).length ≤ 400 := fun i hi => Nat.le_trans (fdofC_le xss hi) hcc
  have hsl : ss.length = xss.length := by have := hss.1; omega
  refine calls_of_S [⟨13, 2, [], []⟩] [] (by simp) [] Tryd.func10 rfl mixed (by kernel_rfl) Tryd.ntmps10 Tryd.results10 rfl ⟨by simp, by simp⟩ (by simp) ?_
  simp only [toS, textOps, toSOp, kindAt, kindOf, odAt, sopsAt, ordOf, zipF]
  have hR : Rd ⟨Tryd.prog, 63, w, [], by simp⟩ [] 1 v xss.length ss := hss.rd rfl []
  (repeat' (first | refine JC.seq ?_ | refine JC.ops ?_ | refine JO.nil ?_ | refine JX.thenN ?_ | (apply r_assign; (iterate 3 exact rfl)) | (apply r_allocZ; (iterate 3 exact rfl); intro _) | refine JC.block ?_))
  rename_i b4
  refine JC.loopH (ι := Nat) ⟨fun k => [(6, nv k), (5, nv (fdofC xss k)), (0, nv p), (1, v), (4, .pointer (some ⟨b4, 0, none⟩))], fun _ => [(b4, .cells #[iv 0, iv 0, iv 0, .slice none 0 0] 30)],
    fun k => k ≤ xss.length, fun k => xss.length - k⟩ 0 (by dsimp only; omega) (by repeat first | exact trivial | refine ⟨rfl, ?_⟩) (by (first | exact HSub.refl _ | (repeat' first | exact HSub.nil _ | exact HSub.refl _ | refine HSub.at 0 rfl ?_ | refine HSub.at 1 rfl ?_ | refine HSub.at 2 rfl ?_ | refine HSub.at 3 rfl ?_ | refine HSub.at 4 rfl ?_ | refine HSub.at 5 rfl ?_ | refine HSub.at 6 rfl ?_ | refine HSub.at 7 rfl ?_))) (fun k hk => ?_)
  dsimp only at hk ⊢
  (repeat' (first | refine JC.seq ?_ | refine JC.ops ?_ | (apply r_move; (iterate 3 exact rfl))))
  refine r_lenR rfl rfl rfl hR ?_
  by_cases hkk : k < xss.length
  · have hwi := hrow k hkk
    have hl4 := hlen k hkk
    (repeat' (first | refine JC.seq ?_ | refine JC.ops ?_ | refine JO.nil ?_ | refine JX.thenN ?_ | (apply r_move; (iterate 3 exact rfl)) | (apply r_lss; (iterate 4 exact rfl); all_goals intro hc; all_goals try (exfalso; omega)) | refine JC.skip ?_ | refine JC.condT rfl ?_ | refine JC.block ?_))
    refine r_idxR1 rfl rfl rfl rfl hR hkk ?_
    refine r_ldR rfl rfl rfl rfl hR (HSub.nil _) (gD_lt (d := iv 0) (by omega)) ?_
    (repeat' (first | refine JC.ops ?_ | refine JO.nil ?_ | refine JX.thenN ?_ | (apply r_move; (iterate 3 exact rfl)) | (apply r_assign; (iterate 3 exact rfl)) | (apply r_lenI; (iterate 3 exact rfl); (first | assumption | exact WI.rd (by assumption) rfl [] | exact OwnI.rd (by assumption))) | (apply r_add1; (iterate 4 exact rfl); omega) | (apply r_max; (iterate 4 exact rfl)) | refine JX.blockN ?_))
    refine JX.roundH (k + 1) (by dsimp only; omega) (by dsimp only; omega) (by dsimp only [fdofC]; unfold nv; rw [← fdmax_nv]; exact (by repeat first | exact trivial | refine ⟨rfl, ?_⟩)) (by (first | exact HSub.refl _ | (repeat' first | exact HSub.nil _ | exact HSub.refl _ | refine HSub.at 0 rfl ?_ | refine HSub.at 1 rfl ?_ | refine HSub.at 2 rfl ?_ | refine HSub.at 3 rfl ?_ | refine HSub.at 4 rfl ?_ | refine HSub.at 5 rfl ?_ | refine HSub.at 6 rfl ?_ | refine HSub.at 7 rfl ?_)))
  · have : k = xss.length := by omega
    subst this
    (repeat' (first | refine JC.seq ?_ | refine JC.ops ?_ | refine JO.nil ?_ | refine JX.thenN ?_ | (apply r_move; (iterate 3 exact rfl)) | (apply r_lss; (iterate 4 exact rfl); all_goals intro hc; all_goals try (exfalso; omega)) | refine JX.thenE ?_ | refine JC.exit ?_ | refine JC.condF rfl ?_ | refine JX.blockE ?_))
    refine r_lenR rfl rfl rfl hR ?_
    (repeat' (first | (apply r_move; (iterate 3 exact rfl))))
    refine r_callA (A := [_]) (B := []) rfl trivial rfl rfl rfl (fun w hk _ => fdc_refZero p xss.length _ hp hr hcc w) fun w v' w' _ _ _ hR' => ?_
    obtain ⟨N, Eo, hN, rfl, hO⟩ := hR'
    obtain ⟨Ao, co, rfl⟩ := hO.form
    refine ⟨N, hN, ?_⟩
    have hdone : ∀ N', OwnN N' (.slice Ao (xss.length * fdofC xss xss.length) co) (xss.length * fdofC xss xss.length) (tab2 xss.length (fdofC xss xss.length) (fdofE p xss)) → fdOwnM N' (.agg #[nv p, nv xss.length, nv (fdofC xss xss.length), .slice Ao (xss.length * fdofC xss xss.length) co]) (ofM p xss) := fun N' h => fdOwnM.mk' h
    (repeat' (first | refine JC.seq ?_ | refine JC.ops ?_ | refine JO.nil ?_ | refine JX.thenN ?_ | (apply r_assign; (iterate 3 exact rfl)) | (apply r_allocZ; (iterate 3 exact rfl); intro _) | (apply r_storeN; exact rfl; (first | exact trivial | exact ⟨rfl, rfl⟩); exact rfl; exact rfl; exact at0; (iterate 3 exact rfl)) | refine JC.block ?_))
    rename_i b7
    refine JC.loopH (ι := Nat × SHeap) ⟨fun z => [(8, nv z.1), (5, nv (fdofC xss xss.length)), (0, nv p), (1, v), (7, .pointer (some ⟨b7, 0, none⟩)), (4, .pointer (some ⟨b4, 0, none⟩))],
      fun z => [(b7, .cells #[nv p, nv xss.length, nv (fdofC xss xss.length), .slice Ao (xss.length * fdofC xss xss.length) co] 30), (b4, .cells #[iv 0, iv 0, iv 0, .slice none 0 0] 30)] ++ (z.2 ++ []),
      fun z => z.1 ≤ xss.length ∧ OwnN z.2 (.slice Ao (xss.length * fdofC xss xss.length) co) (xss.length * fdofC xss xss.length) (tab2 xss.length (fdofC xss xss.length) (fdofS p xss z.1 0)), fun z => xss.length - z.1⟩ (0, N) ⟨by dsimp only; omega, by rw [fdofS_zero]; exact hO⟩ (by repeat first | exact trivial | refine ⟨rfl, ?_⟩) (by (first | exact HSub.refl _ | (repeat' first | exact HSub.nil _ | exact HSub.refl _ | refine HSub.at 0 rfl ?_ | refine HSub.at 1 rfl ?_ | refine HSub.at 2 rfl ?_ | refine HSub.at 3 rfl ?_ | refine HSub.at 4 rfl ?_ | refine HSub.at 5 rfl ?_ | refine HSub.at 6 rfl ?_ | refine HSub.at 7 rfl ?_))) (fun z hz => ?_)
    clear hO
    obtain ⟨i, N⟩ := z
    obtain ⟨hi, hO⟩ := hz
    dsimp only at hi hO ⊢
    by_cases hii : i < xss.length
    · have hwi := hrow i hii
      have hl4 := hlen i hii
      have hlc := fdofC_le xss hii
      (repeat' (first | refine JC.seq ?_ | refine JC.ops ?_ | refine JO.nil ?_ | refine JX.thenN ?_ | (apply r_move; (iterate 3 exact rfl)) | (apply r_fieldAddr; (iterate 3 exact rfl)) | (apply r_assign; (iterate 3 exact rfl)) | (apply r_load; (iterate 4 exact rfl); exact at0; exact rfl) | (apply r_lss; (iterate 4 exact rfl); all_goals intro hc; all_goals try (exfalso; omega)) | refine JC.skip ?_ | refine JC.condT rfl ?_ | refine JC.block ?_))
      refine JC.loopH (ι := Nat × SHeap) ⟨fun z => [(9, nv z.1), (8, nv i), (5, nv (fdofC xss xss.length)), (0, nv p), (1, v), (7, .pointer (some ⟨b7, 0, none⟩)), (4, .pointer (some ⟨b4, 0, none⟩))],
        fun z => [(b7, .cells #[nv p, nv xss.length, nv (fdofC xss xss.length), .slice Ao (xss.length * fdofC xss xss.length) co] 30), (b4, .cells #[iv 0, iv 0, iv 0, .slice none 0 0] 30)] ++ (z.2 ++ []),
        fun z => z.1 ≤ (xss.getD i []).length ∧ OwnN z.2 (.slice Ao (xss.length * fdofC xss xss.length) co) (xss.length * fdofC xss xss.length) (tab2 xss.length (fdofC xss xss.length) (fdofS p xss i z.1)), fun z => (xss.getD i []).length - z.1⟩ (0, N) ⟨by dsimp only; omega, hO⟩ (by repeat first | exact trivial | refine ⟨rfl, ?_⟩) (by (first | exact HSub.refl _ | (repeat' first | exact HSub.nil _ | exact HSub.refl _ | refine HSub.at 0 rfl ?_ | refine HSub.at 1 rfl ?_ | refine HSub.at 2 rfl ?_ | refine HSub.at 3 rfl ?_ | refine HSub.at 4 rfl ?_ | refine HSub.at 5 rfl ?_ | refine HSub.at 6 rfl ?_ | refine HSub.at 7 rfl ?_))) (fun z hz => ?_)
      clear hO
      obtain ⟨j, N⟩ := z
      obtain ⟨hj, hO⟩ := hz
      dsimp only at hj hO ⊢
      (repeat' (first | refine JC.seq ?_ | refine JC.ops ?_ | (apply r_move; (iterate 3 exact rfl))))
      refine r_idxR1 rfl rfl rfl rfl hR hii ?_
      refine r_ldR rfl rfl rfl rfl hR (HSub.nil _) (gD_lt (d := iv 0) (by omega)) ?_
      by_cases hjj : j < (xss.getD i []).length
      · have hjc : j < fdofC xss xss.length := by omega
        have hidx := fdidx_lt hii hjc
        have hb1 : i * fdofC xss xss.length ≤ 160000 := Nat.mul_le_mul (show i ≤ 400 by omega) hcc
        have htb := fdtmod_bd ((xss.getD i []).getD j 0) (m := p) (by omega) (by omega)
        (repeat' (first | refine JC.seq ?_ | refine JC.opsD ?_ | refine JO.nil ?_ | refine JX.thenN ?_ | (apply r_move; (iterate 3 exact rfl)) | (apply r_fieldAddr; (iterate 3 exact rfl)) | (apply r_load; (iterate 4 exact rfl); exact at0; exact rfl) | (apply r_lenI; (iterate 3 exact rfl); (first | assumption | exact WI.rd (by assumption) rfl [] | exact OwnI.rd (by assumption))) | (apply r_addN; (iterate 4 exact rfl); omega) | (apply r_mulN; (iterate 4 exact rfl); (first | assumption | omega)) | (apply r_lss; (iterate 4 exact rfl); all_goals intro hc; all_goals try (exfalso; omega)) | refine JC.skip ?_ | refine JC.condT rfl ?_ | refine JC.block ?_))
        refine r_idxR1 rfl rfl rfl rfl hR hii ?_
        refine r_ldR rfl rfl rfl rfl hR (HSub.nil _) (gD_lt (d := iv 0) (by omega)) ?_
        (repeat' (first | (apply r_move; (iterate 3 exact rfl)) | (apply r_idxI; (iterate 4 exact rfl); (first | assumption | exact WI.rd (by assumption) rfl [] | exact OwnI.rd (by assumption)); (first | assumption | omega)) | (apply r_ldI; (iterate 4 exact rfl); (first | assumption | exact WI.rd (by assumption) rfl [] | exact OwnI.rd (by assumption)); (repeat' first | exact HSub.nil _ | exact HSub.hd | exact HSub.in0 | exact HSub.refl _ | refine HSub.skip ?_ | refine HSub.skipN ?_); (first | assumption | omega)) | (apply r_mod; (iterate 4 exact rfl); omega)))
        refine r_call0 trivial rfl rfl rfl (fun w _ _ => c_Mod01 w (((xss.getD i []).getD j 0).tmod p) p (by omega) (by omega)) fun w v w' _ _ _ hR9 => ?_
        rw [md_tm _ (by omega)] at hR9
        subst hR9
        (repeat' (first | (apply r_idxN; (iterate 4 exact rfl); (first | assumption | exact WN.rd (by assumption) rfl [] | exact OwnN.rd (by assumption)); (first | assumption | omega))))
        refine r_stN (A := [_, _]) (u := fdofE p xss i j) hO rfl rfl (by first | trivial | exact ⟨rfl, rfl⟩) rfl rfl hidx (fun N' hO' => ?_)
        rw [fdofS_set hjc] at hO'
        (repeat' (first | refine JC.ops ?_ | refine JO.nil ?_ | refine JX.thenN ?_ | (apply r_move; (iterate 3 exact rfl)) | (apply r_assign; (iterate 3 exact rfl)) | (apply r_add1; (iterate 4 exact rfl); omega) | refine JX.blockN ?_))
        exact JX.roundH (j + 1, N') ⟨by dsimp only; omega, hO'⟩ (by dsimp only; omega) (by repeat first | exact trivial | refine ⟨rfl, ?_⟩) (by (first | exact HSub.refl _ | (repeat' first | exact HSub.nil _ | exact HSub.refl _ | refine HSub.at 0 rfl ?_ | refine HSub.at 1 rfl ?_ | refine HSub.at 2 rfl ?_ | refine HSub.at 3 rfl ?_ | refine HSub.at 4 rfl ?_ | refine HSub.at 5 rfl ?_ | refine HSub.at 6 rfl ?_ | refine HSub.at 7 rfl ?_)))
      · rw [fdofS_row (show (xss.getD i []).length ≤ j by omega)] at hO
        (repeat' (first | refine JC.ops ?_ | refine JO.nil ?_ | refine JX.thenN ?_ | (apply r_move; (iterate 3 exact rfl)) | (apply r_assign; (iterate 3 exact rfl)) | (apply r_lenI; (iterate 3 exact rfl); (first | assumption | exact WI.rd (by assumption) rfl [] | exact OwnI.rd (by assumption))) | (apply r_add1; (iterate 4 exact rfl); omega) | (apply r_lss; (iterate 4 exact rfl); all_goals intro hc; all_goals try (exfalso; omega)) | refine JX.thenE ?_ | refine JC.exit ?_ | refine JC.condF rfl ?_ | refine JX.blockN ?_ | refine JX.blockE ?_))
        exact JX.roundH (i + 1, N) ⟨by dsimp only; omega, hO⟩ (by dsimp only; omega) (by repeat first | exact trivial | refine ⟨rfl, ?_⟩) (by (first | exact HSub.refl _ | (repeat' first | exact HSub.nil _ | exact HSub.refl _ | refine HSub.at 0 rfl ?_ | refine HSub.at 1 rfl ?_ | refine HSub.at 2 rfl ?_ | refine HSub.at 3 rfl ?_ | refine HSub.at 4 rfl ?_ | refine HSub.at 5 rfl ?_ | refine HSub.at 6 rfl ?_ | refine HSub.at 7 rfl ?_)))
    · rw [fdofS_end (show xss.length ≤ i by omega)] at hO
      (repeat' (first | refine JC.seq ?_ | refine JC.ops ?_ | refine JO.nil ?_ | refine JX.thenN ?_ | (apply r_move; (iterate 3 exact rfl)) | (apply r_fieldAddr; (iterate 3 exact rfl)) | (apply r_load; (iterate 4 exact rfl); (first | exact at0 | exact at1); exact rfl) | (apply r_loadN; (iterate 4 exact rfl); (first | exact at0 | exact at1); exact rfl) | (apply r_lss; (iterate 4 exact rfl); all_goals intro hc; all_goals try (exfalso; omega)) | (apply r_storeN; exact rfl; (first | exact trivial | exact ⟨rfl, rfl⟩); exact rfl; exact rfl; (first | exact at0 | exact at1); (iterate 3 exact rfl)) | refine JX.thenE ?_ | refine JC.exit ?_ | refine JC.ret ?_ | refine JC.condF rfl ?_ | refine JX.blockE ?_))
      exact JX.retC 1 rfl rfl rfl (fun a w' st => ⟨st.kp, N, st.newOf rfl (by (repeat' first | exact HSub.nil _ | exact HSub.hd | exact HSub.in0 | exact HSub.refl _ | refine HSub.skip ?_ | refine HSub.skipN ?_)), hdone _ hO⟩)

set_option maxHeartbeats 4000000 in
theorem c_refOfF5 (w : World) (v : Value) (p : Int) (xss : List (List Int)) (hv : fdIsRows w v xss) (hf : ¬ Fits p xss.length (fdofC xss xss.length)) (hr : xss.length < 4611686018427387904) (hb : ∀ i, (xss.getD i []).length < 4611686018427387904) :
    Calls Tryd.prog 10 #[iv p, v] w (Ret fun v w' => Kp [] w w' ∧ v = zeroV) := by
  obtain ⟨ss, hss, hrow⟩ := hv
  have hsl : ss.length = xss.length := by have := hss.1; omega
  have hoc := ofC_lt xss (show 0 < 4611686018427387904 by omega) hb
  refine calls_of_S [⟨13, 2, [], []⟩] [] (by simp) [] Tryd.func10 rfl mixed (by kernel_rfl) Tryd.ntmps10 Tryd.results10 rfl ⟨by simp, by simp⟩ (by simp) ?_
  simp only [toS, textOps, toSOp, kindAt, kindOf, odAt, sopsAt, ordOf, zipF]
  have hR : Rd ⟨Tryd.prog, 63, w, [], by simp⟩ [] 1 v xss.length ss := hss.rd rfl []
  (repeat' (first | refine JC.seq ?_ | refine JC.ops ?_ | refine JO.nil ?_ | refine JX.thenN ?_ | (apply r_assign; (iterate 3 exact rfl)) | (apply r_allocZ; (iterate 3 exact rfl); intro _) | refine JC.block ?_))
  rename_i b4
  refine JC.loopH (ι := Nat) ⟨fun k => [(6, nv k), (5, nv (fdofC xss k)), (0, iv p), (1, v), (4, .pointer (some ⟨b4, 0, none⟩))], fun _ => [(b4, .cells #[iv 0, iv 0, iv 0, .slice none 0 0] 30)],
    fun k => k ≤ xss.length, fun k => xss.length - k⟩ 0 (by dsimp only; omega) (by repeat first | exact trivial | refine ⟨rfl, ?_⟩) (by (first | exact HSub.refl _ | (repeat' first | exact HSub.nil _ | exact HSub.refl _ | refine HSub.at 0 rfl ?_ | refine HSub.at 1 rfl ?_ | refine HSub.at 2 rfl ?_ | refine HSub.at 3 rfl ?_ | refine HSub.at 4 rfl ?_ | refine HSub.at 5 rfl ?_ | refine HSub.at 6 rfl ?_ | refine HSub.at 7 rfl ?_))) (fun k hk => ?_)
  dsimp only at hk ⊢
  (repeat' (first | refine JC.seq ?_ | refine JC.ops ?_ | (apply r_move; (iterate 3 exact rfl))))
  refine r_lenR rfl rfl rfl hR ?_
  by_cases hkk : k < xss.length
  · have hwi := hrow k hkk
    have hl4 := hb k
    (repeat' (first | refine JC.seq ?_ | refine JC.ops ?_ | refine JO.nil ?_ | refine JX.thenN ?_ | (apply r_move; (iterate 3 exact rfl)) | (apply r_lss; (iterate 4 exact rfl); all_goals intro hc; all_goals try (exfalso; omega)) | refine JC.skip ?_ | refine JC.condT rfl ?_ | refine JC.block ?_))
    refine r_idxR1 rfl rfl rfl rfl hR hkk ?_
    refine r_ldR rfl rfl rfl rfl hR (HSub.nil _) (gD_lt (d := iv 0) (by omega)) ?_
    (repeat' (first | refine JC.ops ?_ | refine JO.nil ?_ | refine JX.thenN ?_ | (apply r_move; (iterate 3 exact rfl)) | (apply r_assign; (iterate 3 exact rfl)) | (apply r_lenI; (iterate 3 exact rfl); (first | assumption | exact WI.rd (by assumption) rfl [] | exact OwnI.rd (by assumption))) | (apply r_add1; (iterate 4 exact rfl); omega) | (apply r_max; (iterate 4 exact rfl)) | refine JX.blockN ?_))
    refine JX.roundH (k + 1) (by dsimp only; omega) (by dsimp only; omega) (by dsimp only [fdofC]; unfold nv; rw [← fdmax_nv]; exact (by repeat first | exact trivial | refine ⟨rfl, ?_⟩)) (by (first | exact HSub.refl _ | (repeat' first | exact HSub.nil _ | exact HSub.refl _ | refine HSub.at 0 rfl ?_ | refine HSub.at 1 rfl ?_ | refine HSub.at 2 rfl ?_ | refine HSub.at 3 rfl ?_ | refine HSub.at 4 rfl ?_ | refine HSub.at 5 rfl ?_ | refine HSub.at 6 rfl ?_ | refine HSub.at 7 rfl ?_)))
  · have : k = xss.length := by omega
    subst this
    (repeat' (first | refine JC.seq ?_ | refine JC.ops ?_ | refine JO.nil ?_ | refine JX.thenN ?_ | (apply r_move; (iterate 3 exact rfl)) | (apply r_lss; (iterate 4 exact rfl); all_goals intro hc; all_goals try (exfalso; omega)) | refine JX.thenE ?_ | refine JC.exit ?_ | refine JC.condF rfl ?_ | refine JX.blockE ?_))
    refine r_lenR rfl rfl rfl hR ?_
    (repeat' (first | (apply r_move; (iterate 3 exact rfl))))
    refine r_call0 trivial rfl rfl rfl (fun w hk _ => fdc_refZeroF p _ _ hf w) fun w v' w' _ _ _ hR' => ?_
    subst hR'
    unfold zeroV
    (repeat' (first | refine JC.seq ?_ | refine JC.ops ?_ | refine JO.nil ?_ | refine JX.thenN ?_ | (apply r_assign; (iterate 3 exact rfl)) | (apply r_allocZ; (iterate 3 exact rfl); intro _) | (apply r_storeN; exact rfl; (first | exact trivial | exact ⟨rfl, rfl⟩); exact rfl; exact rfl; exact at0; (iterate 3 exact rfl)) | refine JC.block ?_))
    rename_i b7
    refine JC.loopH (ι := Unit) ⟨fun z => [(8, nv 0), (5, nv (fdofC xss xss.length)), (0, iv p), (1, v), (7, .pointer (some ⟨b7, 0, none⟩)), (4, .pointer (some ⟨b4, 0, none⟩))],
      fun z => [(b7, .cells #[iv 0, iv 0, iv 0, .slice none 0 0] 30), (b4, .cells #[iv 0, iv 0, iv 0, .slice none 0 0] 30)], fun _ => True, fun _ => 0⟩ () trivial (by repeat first | exact trivial | refine ⟨rfl, ?_⟩) (by (first | exact HSub.refl _ | (repeat' first | exact HSub.nil _ | exact HSub.refl _ | refine HSub.at 0 rfl ?_ | refine HSub.at 1 rfl ?_ | refine HSub.at 2 rfl ?_ | refine HSub.at 3 rfl ?_ | refine HSub.at 4 rfl ?_ | refine HSub.at 5 rfl ?_ | refine HSub.at 6 rfl ?_ | refine HSub.at 7 rfl ?_))) (fun _ _ => ?_)
    dsimp only
    (repeat' (first | refine JC.seq ?_ | refine JC.ops ?_ | refine JO.nil ?_ | refine JX.thenN ?_ | (apply r_move; (iterate 3 exact rfl)) | (apply r_fieldAddr; (iterate 3 exact rfl)) | (apply r_load; (iterate 4 exact rfl); (first | exact at0 | exact at1); exact rfl) | (apply r_loadN; (iterate 4 exact rfl); (first | exact at0 | exact at1); exact rfl) | (apply r_lss; (iterate 4 exact rfl); all_goals intro hc; all_goals try (exfalso; omega)) | (apply r_storeN; exact rfl; (first | exact trivial | exact ⟨rfl, rfl⟩); exact rfl; exact rfl; (first | exact at0 | exact at1); (iterate 3 exact rfl)) | refine JX.thenE ?_ | refine JC.exit ?_ | refine JC.ret ?_ | refine JC.condF rfl ?_ | refine JX.blockE ?_))
    exact JX.retC 1 rfl rfl rfl (fun a w' st => ⟨st.kp, rfl⟩)

def OfG (p : Int) (xss : List (List Int)) (o : FM) : Prop := (∃ p' : Nat, p = p' ∧ Pr p' ∧ o = (ofM p' xss).fm) ∨ (¬ Fits p xss.length (fdofC xss xss.length) ∧ o = zeroF)
theorem OfG.ex (p : Int) (xss : List (List Int)) : ∃ o, OfG p xss o := by
  by_cases h : Fits p xss.length (fdofC xss xss.length)
  · obtain ⟨p', _, _, e1, _, _, h1, _⟩ := h
    exact ⟨_, .inl ⟨p', e1, h1, rfl⟩⟩
  · exact ⟨_, .inr ⟨h, rfl⟩⟩
theorem c_OfG (w : World) (v : Value) (p : Int) (xss : List (List Int)) (o : FM) (h : OfG p xss o) (hv : fdIsRows w v xss) (hr : xss.length ≤ 400) (hc : fdofC xss xss.length ≤ 400) (hb : ∀ i, (xss.getD i []).length ≤ 400) :
    Calls Tryd.prog 9 #[iv p, v] w (Ret fun v w' => Kp [] w w' ∧ GivesF o w v w') := by
  rcases h with ⟨p', rfl, h1, rfl⟩ | ⟨h, rfl⟩
  · exact Ret.mono (fdc_Of w v p' xss hv h1 hr hc) fun v w' h => ⟨h.1, h.2.of⟩
  · exact Ret.mono (c_OfF w v p xss hv h (by omega) (fun i => by have := hb i; omega)) fun v w' h => ⟨h.1, GivesF.zero h.2⟩
theorem c_refOfG (w : World) (v : Value) (p : Int) (xss : List (List Int)) (o : FM) (h : OfG p xss o) (hv : fdIsRows w v xss) (hr : xss.length ≤ 400) (hc : fdofC xss xss.length ≤ 400) (hb : ∀ i, (xss.getD i []).length ≤ 400) :
    Calls Tryd.prog 10 #[iv p, v] w (Ret fun v w' => Kp [] w w' ∧ GivesF o w v w') := by
  rcases h with ⟨p', rfl, h1, rfl⟩ | ⟨h, rfl⟩
  · exact Ret.mono (c_refOf5 w v p' xss hv h1 hr hc) fun v w' h => ⟨h.1, h.2.of⟩
  · exact Ret.mono (c_refOfF5 w v p xss hv h (by omega) (fun i => by have := hb i; omega)) fun v w' h => ⟨h.1, GivesF.zero h.2⟩

end Go.Proofs.YtdoogoglfbohaaaDoor

namespace Go.Proofs.YtdoogoglfbohaaaDoor
open Go Go.RowKit Go.ChangeShapes Go.WideShapes Go.ChangeAt
set_option linter.unusedSimpArgs false
set_option linter.unusedVariables false
set_option linter.unusedSectionVars false

theorem own : ownKnob Tryd.prog.godebug = none := by kernel_rfl
theorem laidOut : laidOutB Tryd.prog = true := by kernel_rfl
theorem cellsS : Tryd.prog.cellsOf 25 = 3 := by kernel_rfl

theorem u8_nat {n : Int} (h : (Lit.int .u8 n).wf = true) : ∃ m : Nat, n = m ∧ m < 256 := by
  have h1 : 0 ≤ n ∧ n < 256 := by
    have hmin : IntKind.u8.min = 0 := by decide
    have hmax : IntKind.u8.max = 255 := by decide
    simp only [Lit.wf, Bool.and_eq_true, decide_eq_true_eq, hmin, hmax] at h
    omega
  exact ⟨n.toNat, by omega, by omega⟩
theorem i64_wf {n : Int} (h : (Lit.int .i64 n).wf = true) : I64 n := by
  have hmin : IntKind.i64.min = -9223372036854775808 := by decide
  have hmax : IntKind.i64.max = 9223372036854775807 := by decide
  simp only [Lit.wf, Bool.and_eq_true, decide_eq_true_eq, hmin, hmax] at h
  unfold I64
  omega
theorem i64_getD {l : List Int} (h : ∀ n ∈ l, I64 n) (i : Nat) : I64 (l.getD i 0) := by
  rw [List.getD]
  cases hi : l[i]? with
  | none => exact ⟨by decide, by decide⟩
  | some x => exact h x (List.mem_of_getElem? hi)

theorem WI.of_row {w : World} {a : Addr} {len cap : Nat} {zs : List Int} (hl : len ≤ cap) (hz : zs.length = cap) (hc : ∀ i, i < zs.length → w.cell? (a.add i) = some (.int .i64 (zs.getD i 0))) : WI w (.slice (some a) len cap) len (zs.take len) := by
  refine ⟨by simp [hz]; omega, some a, cap, rfl, hl, fun h0 => ?_⟩
  obtain ⟨b, o, sp⟩ := a
  have hsp : sp = none := by
    have := hc 0 (by omega)
    cases sp with
    | none => rfl
    | some s =>
      simp only [Addr.add, if_true, World.cell?] at this
      split at this <;> simp at this
  subst hsp
  refine ⟨⟨b, o, rfl⟩, fun j u hu => ?_⟩
  simp only [vAt]
  rw [List.getElem?_map, List.getElem?_take] at hu
  split at hu
  · rename_i hj
    have hjz : j < zs.length := by omega
    rw [gD_lt (d := 0) hjz] at hu
    cases hu
    rw [← add_none]
    exact hc j hjz
  · cases hu

set_option maxRecDepth 100000 in
theorem open_shape {H : Type} {enc : TypeId × Value → H} {w : World} {r : Reach} {b0 : Nat} {held : Bool} {v : Value} {d : DataW H} {ps : List MemPlace} (hv : Value.okWide Tryd.prog w r b0 25 v)
    (h : DataW.Trod enc Tryd.prog w 0 (fun _ => true) held 25 v d ps) : ∃ R C L, IsS w v R C L := by
  obtain ⟨v0, v1, v2, y0, y1, y2, n, rfl, rfl, _, h0, h1, h2⟩ := Joins.open_agg3 Tryd.underlying25 (by kernel_rfl) cellsS hv h
  obtain ⟨n0, e0, _, w0⟩ := DataW.trod_int Tryd.underlying5 h0
  obtain ⟨n1, e1, _, w1⟩ := DataW.trod_int Tryd.underlying5 h1
  simp only [List.cons.injEq, and_true] at e0 e1
  subst e0 e1
  obtain ⟨m0, rfl, l0⟩ := u8_nat w0
  obtain ⟨m1, rfl, l1⟩ := u8_nat w1
  rcases open_ints Tryd.underlying23 Tryd.underlying3 (by kernel_rfl) h2 with ⟨hcs, _⟩ | ⟨x, l, c, zs, hcs, _, hl, hm, hz, _, hcell, hwz⟩
  · simp only [List.cons.injEq, and_true] at hcs
    subst hcs
    exact ⟨m0, m1, [], l0, l1, fun i => ⟨by simp, by simp⟩, _, rfl, ⟨rfl, none, 0, rfl, Nat.le_refl _, fun h => absurd h (Nat.lt_irrefl _)⟩⟩
  · simp only [List.cons.injEq, and_true] at hcs
    subst hcs
    have hzl : zs.length = c := by simpa using hz
    have hW := WI.of_row hl hzl hcell
    have hlen : (zs.take l).length = l := by simp [hzl]; omega
    exact ⟨m0, m1, zs.take l, l0, l1, i64_getD fun n hn => i64_wf (hwz n (List.mem_of_mem_take hn)), _, rfl, by rw [hlen]; exact hW⟩


def IsL (w : World) (v : Value) (L : List Int) : Prop := (∀ i, I64 (L.getD i 0)) ∧ WI w v L.length L ∧ L.length < 9223372036854775808
theorem IsL.mono {w w' : World} {v : Value} {L : List Int} (h : IsL w v L) (hk : Kp [] w w') : IsL w' v L := ⟨h.1, h.2.1.mono hk, h.2.2⟩

theorem IsL.of_trod {H : Type} {enc : TypeId × Value → H} {w : World} {held : Bool} {v : Value} {n base : Nat} {sp : Nat → Bool} {y : DataW H × List MemPlace}
    (hf : DataW.trod enc Tryd.prog w base sp held n 23 [v] = some y) : ∃ L, IsL w v L := by
  rcases open_ints Tryd.underlying23 Tryd.underlying3 (by kernel_rfl) hf with ⟨hcs, _⟩ | ⟨x, l, c, zs, hcs, _, hl, hm, hz, _, hcell, hwz⟩
  · simp only [List.cons.injEq, and_true] at hcs
    subst hcs
    exact ⟨[], fun i => ⟨by simp, by simp⟩, ⟨rfl, none, 0, rfl, Nat.le_refl _, fun h => absurd h (Nat.lt_irrefl _)⟩, by simp⟩
  · simp only [List.cons.injEq, and_true] at hcs
    subst hcs
    unfold maxLen at hm
    have hlz : l ≤ zs.length := by rw [hz]; split <;> omega
    have hz2 : zs.length ≤ c := by rw [hz]; split <;> omega
    have hlen : (zs.take l).length = l := by simp; omega
    refine ⟨zs.take l, i64_getD fun n hn => i64_wf (hwz n (List.mem_of_mem_take hn)), ?_, by omega⟩
    rw [hlen]
    refine ⟨by simp; omega, some x, c, rfl, hl, fun h0 => ?_⟩
    obtain ⟨b, o, sp⟩ := x
    have hsp : sp = none := by
      have := hcell 0 (by omega)
      cases sp with
      | none => rfl
      | some s =>
        simp only [Addr.add, if_true, World.cell?] at this
        split at this <;> simp at this
    subst hsp
    refine ⟨⟨b, o, rfl⟩, fun j u hu => ?_⟩
    simp only [vAt]
    rw [List.getElem?_map, List.getElem?_take] at hu
    split at hu
    · rename_i hj
      have hjz : j < zs.length := by omega
      rw [gD_lt (d := 0) hjz] at hu
      cases hu
      rw [← add_none]
      exact hcell j hjz
    · cases hu

theorem slice_cells {H : Type} {enc : TypeId × Value → H} {P : Program} {w : World} {base : Nat} {sp : Nat → Bool} {held : Bool} {fuel sz : Nat} {t e : TypeId} {cs : List Value} {y : DataW H × List MemPlace} (ht : P.underlying t = some (.slice e)) (hc : P.cellsOf e = sz) (h0 : 0 < sz)
    (h : DataW.trod enc P w base sp held fuel t cs = some y) : cs = [.slice none 0 0] ∨ ∃ (A : Option Addr) (len cap : Nat) (f : Nat → List Value), cs = [.slice A len cap] ∧ len < 9223372036854775808 ∧ (∀ i, i < len → (f i).length = sz ∧ ∃ n z, DataW.trod enc P w base sp held n e (f i) = some z) ∧
      RdW w sz (.slice A len cap) len ((List.range len).flatMap f) := by
  rcases DataW.trod_slice ht h with ⟨h1, _⟩ | ⟨a, len, cap, elems, rest, n, _, rfl, _, hb, hl, hm, hlen, hel, _, _⟩
  · exact .inl h1
  right
  have hs0 : 0 < len → a.spot = none := fun hp => by
    have h1 := hel 0 hp
    rw [List.getElem?_eq_getElem (by omega), Option.bind_eq_some_iff, hc] at h1
    obtain ⟨l, hl1, hl2⟩ := h1
    obtain ⟨_, h3, h4⟩ := World.cells?_some hl1
    have h5 := h4 0 (by omega)
    rw [List.getElem?_eq_getElem (by omega)] at h5
    obtain ⟨b, o, s⟩ := a
    cases s with
    | none => rfl
    | some s =>
      simp only [Addr.add, World.cell?, Nat.zero_mul, if_true] at h5
      split at h5 <;> simp at h5
  have each : ∀ i, i < len → ∃ l : List Value, l.length = sz ∧ (∃ z, DataW.trod enc P w base sp held n e l = some z) ∧ ∀ j, j < sz → w.cell? (a.add (i * sz + j)) = l[j]? := fun i hi => by
    have h1 := hel i hi
    rw [List.getElem?_eq_getElem (by omega), Option.bind_eq_some_iff, hc] at h1
    obtain ⟨l, hl1, hl2⟩ := h1
    obtain ⟨_, h3, h4⟩ := World.cells?_some hl1
    refine ⟨l, h3, ⟨_, hl2⟩, fun j hj => ?_⟩
    rw [← h4 j hj]
    congr 1
    obtain ⟨b, o, s⟩ := a
    obtain rfl : s = none := hs0 (by omega)
    rw [add_none, add_none, add_none, Nat.add_assoc]
  have : ∃ f : Nat → List Value, ∀ i, i < len → (f i).length = sz ∧ (∃ z, DataW.trod enc P w base sp held n e (f i) = some z) ∧ ∀ j, j < sz → w.cell? (a.add (i * sz + j)) = (f i)[j]? := by
    refine ⟨fun i => if hi : i < len then (each i hi).choose else [], fun i hi => ?_⟩
    simp only [dif_pos hi]
    exact (each i hi).choose_spec
  obtain ⟨f, hf⟩ := this
  unfold maxLen at hm
  have hfl : ∀ k, k ≤ len → ((List.range k).flatMap f).length = k * sz ∧ ∀ i, i < k → ∀ j, j < sz → ((List.range k).flatMap f)[i * sz + j]? = (f i)[j]? := fun k => by
    induction k with
    | zero => intro _; exact ⟨by simp, fun i hi => absurd hi (Nat.not_lt_zero _)⟩
    | succ k ih =>
      intro hk
      obtain ⟨h1, h2⟩ := ih (by omega)
      have h3 := (hf k (by omega)).1
      rw [List.range_succ, List.flatMap_append]
      refine ⟨by simp [h1, h3, Nat.add_mul], fun i hi j hj => ?_⟩
      by_cases hik : i < k
      · have : i * sz + j < k * sz := by
          have := Nat.mul_le_mul_right sz (show i + 1 ≤ k by omega)
          rw [Nat.add_mul, Nat.one_mul] at this
          omega
        rw [List.getElem?_append_left (by omega)]
        exact h2 i hik j hj
      · obtain rfl : i = k := by omega
        rw [List.getElem?_append_right (by omega), h1, Nat.add_sub_cancel_left]
        simp
  refine ⟨some a, len, cap, f, rfl, by omega, fun i hi => ⟨(hf i hi).1, _, (hf i hi).2.1⟩, (hfl len (Nat.le_refl _)).1, some a, cap, rfl, hl, fun hp => ?_⟩
  obtain ⟨b, o, s⟩ := a
  have hs : s = none := hs0 hp
  subst hs
  refine ⟨⟨b, o, rfl⟩, fun j u hu => ?_⟩
  have hj : j < len * sz := by
    have := (List.getElem?_eq_some_iff.1 hu).1
    rw [(hfl len (Nat.le_refl _)).1] at this
    exact this
  have hi2 : j / sz < len := (Nat.div_lt_iff_lt_mul h0).2 hj
  have hm2 := Nat.mod_lt j h0
  have hdm : j / sz * sz + j % sz = j := by rw [Nat.mul_comm]; exact Nat.div_add_mod j sz
  have h3 := (hf _ hi2).2.2 _ hm2
  rw [← (hfl len (Nat.le_refl _)).2 _ hi2 _ hm2, hdm, add_none] at h3
  simp only [vAt]
  rw [h3, hu]

def IsLL (w : World) (v : Value) (X : List (List Int)) : Prop := X.length < 9223372036854775808 ∧ ∃ ss : List Value, RdW w 1 v X.length ss ∧ ∀ i, i < X.length → IsL w (ss.getD i (iv 0)) (X.getD i [])
theorem IsLL.mono {w w' : World} {v : Value} {X : List (List Int)} (h : IsLL w v X) (hk : Kp [] w w') : IsLL w' v X := by
  obtain ⟨h0, ss, h1, h2⟩ := h
  exact ⟨h0, ss, h1.mono hk, fun i hi => (h2 i hi).mono hk⟩
theorem one_cells {f : Nat → List Value} : ∀ {n : Nat}, (∀ i, i < n → (f i).length = 1) → (List.range n).flatMap f = (List.range n).map fun i => (f i).getD 0 (iv 0)
  | 0, _ => rfl
  | n + 1, h => by
    rw [List.range_succ, List.flatMap_append, List.map_append, one_cells fun i hi => h i (by omega)]
    have := h n (by omega)
    congr 1
    simp only [List.flatMap_singleton, List.map_singleton]
    match hf : f n, this with
    | [a], _ => rfl

set_option maxRecDepth 100000 in
theorem open_lists {H : Type} {enc : TypeId × Value → H} {w : World} {r : Reach} {b0 : Nat} {held : Bool} {v : Value} {d : DataW H} {ps : List MemPlace} (hv : Value.okWide Tryd.prog w r b0 22 v)
    (h : DataW.Trod enc Tryd.prog w 0 (fun _ => true) held 22 v d ps) : ∃ X, IsLL w v X := by
  obtain ⟨a1, len, cap, rfl⟩ := okWide_slice Tryd.underlying22 hv
  obtain ⟨fuel, hf⟩ := h
  have hc : Tryd.prog.cellsOf 23 = 1 := by kernel_rfl
  rcases slice_cells (cs := [.slice a1 len cap]) Tryd.underlying22 hc (by omega) (show DataW.trod enc Tryd.prog w 0 (fun _ => true) held fuel 22 [.slice a1 len cap] = some _ from hf) with hcs | ⟨A, l, c, f, hcs, hl, hall, hR⟩
  · simp only [List.cons.injEq, and_true, Value.slice.injEq] at hcs
    obtain ⟨rfl, rfl, rfl⟩ := hcs
    exact ⟨[], by simp, [], ⟨rfl, none, 0, rfl, Nat.le_refl _, fun h => absurd h (Nat.lt_irrefl _)⟩, fun i hi => absurd hi (Nat.not_lt_zero _)⟩
  · simp only [List.cons.injEq, and_true, Value.slice.injEq] at hcs
    obtain ⟨rfl, rfl, rfl⟩ := hcs
    rw [one_cells fun i hi => (hall i hi).1] at hR
    have each : ∀ i, i < len → ∃ L, IsL w ((f i).getD 0 (iv 0)) L := fun i hi => by
      obtain ⟨h1, n, z, h2⟩ := hall i hi
      match hfi : f i, h1 with
      | [a], _ =>
        rw [hfi] at h2
        exact IsL.of_trod h2
    have : ∃ g : Nat → List Int, ∀ i, i < len → IsL w ((f i).getD 0 (iv 0)) (g i) := ⟨fun i => if hi : i < len then (each i hi).choose else [], fun i hi => by simp only [dif_pos hi]; exact (each i hi).choose_spec⟩
    obtain ⟨g, hg⟩ := this
    refine ⟨(List.range len).map g, by simpa using hl, _, by simpa using hR, fun i hi => ?_⟩
    have hi : i < len := by simpa using hi
    have := hg i hi
    simpa [List.getD, List.getElem?_map, List.getElem?_range hi] using this

theorem cells1i : Tryd.prog.cellsOf 3 = 1 := by kernel_rfl
theorem okWide_array2 {P : Program} {w : World} {r : Reach} {base : Nat} {t : TypeId} {v : Value} {n : Nat} {e : TypeId} (ht : P.underlying t = some (.array n e)) (h : Value.okWide P w r base t v) : ∃ cs, v = .agg cs ∧ cs.size = P.cellsOf t := by
  unfold Value.okWide at h
  rw [ht] at h
  cases v <;> simp at h
  exact ⟨_, rfl, h.1⟩

theorem bits_and1i (n : Int) : bits .and .i64 n 1 = n % 2 := by
  have h1 : (BitVec.ofInt 64 1).toNat = 2 ^ 1 - 1 := by decide
  have key : (BitVec.ofInt 64 n &&& BitVec.ofInt 64 1).toNat = (n % ((2 ^ 64 : Nat) : Int)).toNat % 2 ^ 1 := by
    rw [BitVec.toNat_and, BitVec.toNat_ofInt, h1, Nat.and_two_pow_sub_one_eq_mod]
  show IntKind.i64.wrap ((BitVec.ofInt 64 n &&& BitVec.ofInt 64 1).toNat : Nat) = n % 2
  rw [key, IntKind.wrap_i64]
  omega
theorem bits_and1023 (n : Int) : bits .and .i64 n 1023 = n % 1024 := by
  have h1 : (BitVec.ofInt 64 1023).toNat = 2 ^ 10 - 1 := by decide
  have key : (BitVec.ofInt 64 n &&& BitVec.ofInt 64 1023).toNat = (n % ((2 ^ 64 : Nat) : Int)).toNat % 2 ^ 10 := by
    rw [BitVec.toNat_and, BitVec.toNat_ofInt, h1, Nat.and_two_pow_sub_one_eq_mod]
  show IntKind.i64.wrap ((BitVec.ofInt 64 n &&& BitVec.ofInt 64 1023).toNat : Nat) = n % 1024
  rw [key, IntKind.wrap_i64]
  omega

section
variable {c : Cx} {Q : Exit → Act → World → Prop} {m : Mode} {F : SFrame} {H : SHeap} {r : List SOp} {g : Option (Option Tmp × Bool)} {ns : Bool} {d : Tmp} {ty t t' : TypeId} {x y : Operand}
theorem r_andI1 {i : Int} (hd : dstOk c.n (some d) = true) (hg : guardF F g = some true) (hx : ev F x = some (.int .i64 i)) (hy : ev F y = some (.int .i64 1))
    (h : JO c Q m r ((d, .int .i64 (i % 2)) :: F) H) : JO c Q m (⟨some d, .binOp .and t x y t', ty, g, .mov, ns⟩ :: r) F H :=
  r_arith hd hg hx hy (fun w => by rw [binOp_and, intBits_and, bits_and1i]; rfl) h
theorem r_and1023 {i : Int} (hd : dstOk c.n (some d) = true) (hg : guardF F g = some true) (hx : ev F x = some (.int .i64 i)) (hy : ev F y = some (.int .i64 1023))
    (h : JO c Q m r ((d, .int .i64 (i % 1024)) :: F) H) : JO c Q m (⟨some d, .binOp .and t x y t', ty, g, .mov, ns⟩ :: r) F H :=
  r_arith hd hg hx hy (fun w => by rw [binOp_and, intBits_and, bits_and1023]; rfl) h
end

theorem cells3 : Tryd.prog.cellsOf 39 = 3 := by kernel_rfl

set_option maxRecDepth 100000 in
theorem open_tri {H : Type} {enc : TypeId × Value → H} {w : World} {r : Reach} {b0 : Nat} {held : Bool} {v : Value} {d : DataW H} {ps : List MemPlace} (hv : Value.okWide Tryd.prog w r b0 39 v)
    (h : DataW.Trod enc Tryd.prog w 0 (fun _ => true) held 39 v d ps) : ∃ q0 q1 q2 : Int, v = .agg #[iv q0, iv q1, iv q2] ∧ I64 q0 ∧ I64 q1 ∧ I64 q2 := by
  obtain ⟨cs, rfl, hsz⟩ := okWide_array2 Tryd.underlying39 hv
  rw [cells3] at hsz
  obtain ⟨l⟩ := cs
  obtain ⟨c0, c1, c2, rfl⟩ : ∃ c0 c1 c2, l = [c0, c1, c2] := by
    match l, hsz with
    | [a, b, c], _ => exact ⟨a, b, c, rfl⟩
  obtain ⟨fuel, hf⟩ := h
  obtain ⟨xs, m, _, _, _, hx, hall⟩ := DataW.trod_array Tryd.underlying39 hf
  have a0 := hall 0 (by omega)
  have a1 := hall 1 (by omega)
  have a2 := hall 2 (by omega)
  rw [cells1i] at a0 a1 a2
  rw [List.getElem?_eq_getElem (by omega)] at a0 a1 a2
  obtain ⟨n0, e0, _, w0⟩ := DataW.trod_int Tryd.underlying3 (show DataW.trod enc Tryd.prog w 0 (fun _ => true) held m 3 [c0] = some _ from a0)
  obtain ⟨n1, e1, _, w1⟩ := DataW.trod_int Tryd.underlying3 (show DataW.trod enc Tryd.prog w 0 (fun _ => true) held m 3 [c1] = some _ from a1)
  obtain ⟨n2, e2, _, w2⟩ := DataW.trod_int Tryd.underlying3 (show DataW.trod enc Tryd.prog w 0 (fun _ => true) held m 3 [c2] = some _ from a2)
  simp only [List.cons.injEq, and_true] at e0 e1 e2
  subst e0 e1 e2
  exact ⟨n0, n1, n2, rfl, i64_wf w0, i64_wf w1, i64_wf w2⟩

end Go.Proofs.YtdoogoglfbohaaaDoor

namespace Go.Proofs.YtdoogoglfbohaaaDoor
open Go Go.RowKit
set_option linter.unusedSimpArgs false
set_option linter.unusedVariables false
set_option linter.unusedSectionVars false


section
variable {c : Cx} {Q : Exit → Act → World → Prop} {m : Mode} {F : SFrame} {H : SHeap} {r : List SOp} {g : Option (Option Tmp × Bool)} {ns : Bool} {d : Tmp} {ty t t' : TypeId} {x y : Operand}
end

section
variable {c : Cx} {Q : Exit → Act → World → Prop} {m : Mode} {F : SFrame} {H : SHeap} {r : List SOp} {g : Option (Option Tmp × Bool)} {ns : Bool} {d : Tmp} {ty t t' : TypeId} {x y : Operand} {N : SHeap} {n : Nat} {v : Value}
theorem r_appendTL {A B N2 Hs : SHeap} {v2 u : Value} {ss : List Value} [TSl c.P t 23] [TE c.P 23 1 24 #[.slice none 0 0]] (hO : OwnRow 23 1 N v n ss) (h2 : Rd c N2 1 v2 1 [u]) (hu : u.oneCell' = true) (hN2 : HSub N2 H) (hH : H = A ++ (N ++ B)) (hm : HSub Hs (A ++ B)) (hd : dstOk c.n (some d) = true) (hg : guardF F g = some true) (hx : ev F x = some v) (hy : ev F y = some v2)
    (hb : n + 1 ≤ 1000000000) (h : ∀ v' N', OwnRow 23 1 N' v' (n + 1) (ss ++ [u]) → JO c Q (.draw Hs true) r ((d, v') :: F) (A ++ (N' ++ B))) :
    JO c Q (.draw Hs true) (⟨some d, .call ⟨.builtin .append, #[x, y], #[t, t]⟩, ty, g, .seq, ns⟩ :: r) F H :=
  r_appendL (e := 23) (sz := 1) (bytes := 24) (zc := #[.slice none 0 0]) (n := n) (mm := 1) rfl hO h2 hN2 hH hm hd hg hx hy (fun w hw => by cases List.mem_singleton.1 hw; exact hu) (by simp only [maxLen]; omega) (by omega) h
end
theorem own_oneT (b : Nat) (u : Value) : OwnRow 23 1 [(b, .cells ⟨[u]⟩ 23)] (.slice (some ⟨b, 0, none⟩) 1 1) 1 [u] :=
  OwnRow.mk' (e := 23) (sz := 1) (n := 1) (b := b) (cs := ⟨[u]⟩) (by simp) (by simp only [maxLen]; omega)
theorem OwnRow.form' {e : TypeId} {sz n : Nat} {N : SHeap} {v : Value} {cs : List Value} (h : OwnRow e sz N v n cs) : ∃ A cap, v = .slice A n cap := by
  obtain ⟨_, ⟨rfl, rfl, rfl⟩ | ⟨b, cap, cur, rfl, _⟩⟩ := h
  · exact ⟨_, _, rfl⟩
  · exact ⟨_, _, rfl⟩

def rows8 (X : List (List Int)) (k : Nat) : List (List Int) := (List.range k).map fun i => (X.getD i []).take (min (X.getD i []).length 8)
theorem rows8_get {X : List (List Int)} {k i : Nat} (hi : i < k) : (rows8 X k).getD i [] = (X.getD i []).take (min (X.getD i []).length 8) := by
  unfold rows8
  rw [List.getD, List.getElem?_map, List.getElem?_range hi]
  rfl
theorem rows8_len (X : List (List Int)) (k : Nat) : (rows8 X k).length = k := by simp [rows8]
theorem rows8_le (X : List (List Int)) (k i : Nat) : ((rows8 X k).getD i []).length ≤ 8 := by
  by_cases hi : i < k
  · rw [rows8_get hi, List.length_take]; omega
  · rw [List.getD, List.getElem?_eq_none (by rw [rows8_len]; omega)]; exact Nat.zero_le _
theorem rows8_is {w : World} {v : Value} {X : List (List Int)} {k : Nat} {ss : List Value} (h : RdW w 1 v k ss) (hr : ∀ i, i < k → WI w (ss.getD i (iv 0)) (min (X.getD i []).length 8) ((X.getD i []).take (min (X.getD i []).length 8))) : IsRows w v (rows8 X k) :=
  ⟨ss, by rw [rows8_len]; exact h, fun i hi => by
    rw [rows8_len] at hi
    rw [rows8_get hi, List.length_take, Nat.min_eq_left (Nat.min_le_left _ _)]
    exact hr i hi⟩


def dT : TR := ([], undef, [])
def tv (ts : List TR) (i : Nat) : Value := (ts.getD i dT).2.1
def tr' (ts : List TR) (i : Nat) : List Int := (ts.getD i dT).2.2
def tM (ts : List TR) : Mi := fun i j => (tr' ts i).getD j 0
theorem tg_mem {ts : List TR} {i : Nat} (h : i < ts.length) : ts.getD i dT ∈ ts := mem_getD h
theorem OwnT.row {N : SHeap} {v : Value} {c : Nat} {ts : List TR} (h : OwnT N v c ts) {i : Nat} (hi : i < ts.length) : OwnZ (ts.getD i dT).1 (tv ts i) c (tr' ts i) := h.rows _ (tg_mem hi)
section
variable {c : Cx} {Q : Exit → Act → World → Prop} {m : Mode} {F : SFrame} {H : SHeap} {r : List SOp} {g : Option (Option Tmp × Bool)} {ns : Bool} {d : Tmp} {ty t t' : TypeId} {x y : Operand} {N : SHeap} {v : Value} {cc : Nat} {ts : List TR}
theorem OwnT.rd (h : OwnT N v cc ts) : Rd c N 1 v ts.length (ts.map (·.2.1)) := OwnRow.rd h.outer
end

section
variable {c : Cx} {Q : Exit → Act → World → Prop} {m : Mode} {F : SFrame} {H : SHeap} {r : List SOp} {g : Option (Option Tmp × Bool)} {ns : Bool} {d : Tmp} {ty t t' : TypeId} {x y : Operand}
end


theorem smI_bd' {B : Nat} : ∀ {n : Nat} {f : Nat → Int}, (∀ i, i < n → (f i).natAbs ≤ B) → (smI n f).natAbs ≤ n * B
  | 0, f, _ => by simp [smI]
  | n + 1, f, h => by
    rw [smI]
    have h1 := smI_bd' (n := n) (f := f) (fun i hi => h i (by omega))
    have h2 := h n (by omega)
    have h3 := Int.natAbs_add_le (smI n f) (f n)
    rw [Nat.add_mul, Nat.one_mul]
    omega
theorem det_bd {K : Nat} : ∀ {n : Nat} {A : Mi}, n ≤ 256 → (∀ i j, (A i j).natAbs < 256 ^ K) → (det n A).natAbs ≤ 256 ^ (n * (K + 1))
  | 0, A, _, _ => by simp [det]
  | n + 1, A, hn, h => by
    rw [det]
    have h1 := smI_bd' (n := n + 1) (f := fun i => sg i * A i 0 * det n (fun a b => A (sk i a) (b + 1))) (B := 256 ^ K * 256 ^ (n * (K + 1))) (fun i hi => by
      have h2 := det_bd (n := n) (A := fun a b => A (sk i a) (b + 1)) (by omega) (fun a b => h _ _)
      have h3 : (sg i * A i 0).natAbs ≤ 256 ^ K := by
        have := h i 0
        unfold sg
        split
        · rw [Int.one_mul]; omega
        · rw [show (-1 : Int) * A i 0 = -(A i 0) by omega, Int.natAbs_neg]; omega
      rw [Int.natAbs_mul]
      exact Nat.mul_le_mul h3 h2)
    refine Nat.le_trans h1 ?_
    have e : 256 ^ ((n + 1) * (K + 1)) = 256 * (256 ^ K * 256 ^ (n * (K + 1))) := by
      rw [← Nat.pow_add, ← Nat.pow_succ']
      congr 1
      rw [Nat.add_mul]; omega
    rw [e]
    exact Nat.mul_le_mul_right _ hn
theorem bm_bd {K k n : Nat} {A : Mi} {i j : Nat} (hk : k < n) (hn : n ≤ 200) (h : ∀ i j, (A i j).natAbs < 256 ^ K) : (bm k A i j).natAbs < 256 ^ (n * (K + 1) + 1) := by
  have h1 := det_bd (K := K) (n := k + 1) (A := bd k A i j) (by omega) (fun a b => h _ _)
  unfold bm
  refine Nat.lt_of_le_of_lt h1 (Nat.pow_lt_pow_right (by decide) ?_)
  have := Nat.mul_le_mul_right (K + 1) (show k + 1 ≤ n from hk)
  omega


structure DetI (n K : Nat) (A0 : Mi) (k : Nat) (last : Int) (ts : List TR) : Prop where
  ex : ∃ A, Bar n A k (tM ts) last ∧ det n A = det n A0 ∧ ∀ i j, (A i j).natAbs < 256 ^ K
  bd : ∀ i j, i < n → j < n → (tM ts i j).natAbs < 256 ^ (n * (K + 1) + 1)

theorem Bar.lt {n k K : Nat} {A M : Mi} {last : Int} (h : Bar n A k M last) (hn : n ≤ 200) (hA : ∀ i j, (A i j).natAbs < 256 ^ K) {i j : Nat} (hi : k ≤ i) (hin : i < n) (hj : k ≤ j) (hjn : j < n) : (M i j).natAbs < 256 ^ (n * (K + 1) + 1) := by
  rw [h.eq i j hi hin hj hjn]
  exact bm_bd (by omega) hn hA

def swR (M : Mi) (k p j : Nat) : Mi := fun a b => if p ≠ k ∧ b < j then (if a = p then M k b else if a = k then M p b else M a b) else M a b
theorem swR_same (M : Mi) (k j : Nat) (a b : Nat) : swR M k k j a b = M a b := by unfold swR; rw [if_neg (by omega)]
structure DetR (n K : Nat) (A0 : Mi) (k : Nat) (last : Int) (tn : Bool) (es : List Int) : Prop where
  ex : ∃ A, Bar n A k (enz n es) last ∧ det n A = (if tn then -1 else 1) * det n A0 ∧ ∀ i j, (A i j).natAbs < 256 ^ K
  bd : ∀ i j, i < n → j < n → (enz n es i j).natAbs < 256 ^ (n * (K + 1) + 1)
theorem DetR.swap {n K k p : Nat} {A0 : Mi} {last : Int} {tn : Bool} {es es2 : List Int} (h : DetR n K A0 k last tn es) (hk : k ≤ p) (hp : p < n) (h2 : ∀ i j, i < n → j < n → enz n es2 i j = swR (enz n es) k p n i j) : DetR n K A0 k last (tn != !decide (p = k)) es2 := by
  have hb : ∀ i j, i < n → j < n → (enz n es2 i j).natAbs < 256 ^ (n * (K + 1) + 1) := fun i j hi hj => by
    rw [h2 i j hi hj]
    unfold swR
    split
    · split
      · exact h.bd _ _ (by omega) hj
      · split
        · exact h.bd _ _ hp hj
        · exact h.bd _ _ hi hj
    · exact h.bd _ _ hi hj
  refine ⟨?_, hb⟩
  obtain ⟨A, hbar, hdet, hA⟩ := h.ex
  by_cases hpk : p = k
  · subst hpk
    have e : (tn != !decide (p = p)) = tn := by simp
    rw [e]
    exact ⟨A, ⟨hbar.eqd, hbar.ne, fun i j hi hin hj hjn => by rw [h2 i j hin hjn, swR_same]; exact hbar.eq i j hi hin hj hjn⟩, hdet, hA⟩
  · have hsw := hbar.swap (M' := enz n es2) 1 (q := p) (by omega) hp (fun j hj => by rw [h2 _ _ (by omega) hj, Int.one_mul]; unfold swR; rw [if_pos ⟨hpk, hj⟩, if_neg (fun e => hpk e.symm), if_pos rfl])
      (fun j hj => by rw [h2 _ _ hp hj]; unfold swR; rw [if_pos ⟨hpk, hj⟩, if_pos rfl]) (fun i j hi hj h3 h4 => by rw [h2 _ _ hi hj]; unfold swR; rw [if_pos ⟨hpk, hj⟩, if_neg h4, if_neg h3])
    refine ⟨_, hsw.1, ?_, fun i j => ?_⟩
    · rw [hsw.2, hdet]
      simp only [hpk, decide_false, Bool.not_false]
      cases tn <;> simp
    · by_cases hi : i = k
      · subst hi
        rw [setRow_self, Int.one_mul]
        exact hA _ _
      · rw [setRow_ne hi]
        unfold swp
        rw [if_neg hi]
        split <;> exact hA _ _
theorem DetR.none {n K k : Nat} {A0 : Mi} {last : Int} {tn : Bool} {es : List Int} (h : DetR n K A0 k last tn es) (hk : k < n) (hz : ∀ i, k ≤ i → i < n → enz n es i k = 0) : det n A0 = 0 := by
  obtain ⟨A, hbar, hdet, _⟩ := h.ex
  have h0 := hbar.none hk hz
  rw [h0] at hdet
  cases tn <;> simp at hdet <;> omega

section
variable {c : Cx} {Q : Exit → Act → World → Prop} {F : SFrame} {H : SHeap}
theorem JC.later {s : SCode} {ι : Type} (F0 : ι → SFrame) (H0 : ι → SHeap) (p : ι → Prop) (rest : ∀ z, p z → JX c Q .normal (F0 z) (H0 z)) (h : (∀ z, p z → JX c Q .normal (F0 z) (H0 z)) → JC c Q s F H) : JC c Q s F H := h rest
end


open Classical in
def GivesLB (zs : List Int) (b : Bool) (w : World) (v : Value) (w' : World) : Prop := ∃ N E, New N w w' ∧ v = .tuple #[E, .bool b] ∧ OwnZ N E zs.length zs
theorem GivesLB.nil {w w' : World} {v : Value} (h : v = .tuple #[.slice none 0 0, .bool false]) : GivesLB [] false w v w' := ⟨[], _, New.nil _ _, h, OwnZ.nil⟩
theorem BdL.of {L : Nat} {zs : List Int} (h : ∀ i, (zs.getD i 0).natAbs < 256 ^ L) : BdL L zs := h

section
variable {c : Cx} {Q : Exit → Act → World → Prop} {m : Mode} {F : SFrame} {H : SHeap} {r : List SOp} {g : Option (Option Tmp × Bool)} {ns : Bool} {d : Tmp} {ty t t' : TypeId} {x y : Operand} {N : SHeap} {n : Nat} {v : Value}
end


end Go.Proofs.YtdoogoglfbohaaaDoor

namespace Go.Proofs.YtdoogoglfbohaaaDoor
open Go
set_option linter.unusedSimpArgs false
set_option linter.unusedVariables false
set_option linter.unusedSectionVars false

end Go.Proofs.YtdoogoglfbohaaaDoor

namespace Go.Proofs.YtdoogoglfbohaaaDoor
open Go Go.RowKit
set_option linter.unusedSimpArgs false
set_option linter.unusedVariables false
set_option linter.unusedSectionVars false

section
variable {c : Cx} {Q : Exit → Act → World → Prop} {m : Mode} {F : SFrame} {H : SHeap} {r : List SOp} {g : Option (Option Tmp × Bool)} {ns : Bool} {ty : TypeId} {N : SHeap} {v : Value} {cc : Nat} {ts : List TR}
end

structure RedI (n cc k : Nat) (M0 : Mi) (X E : Nat) (i : Nat) (ts : List TR) : Prop where
  red : Red n M0 (tM ts)
  top : ∀ a, a < k → ∀ b, tM ts a b = M0 a b
  zer : ∀ a, k < a → a < i → tM ts a k = 0
  col : ∀ a, k ≤ a → a < n → (tM ts a k).natAbs ≤ X
  all : ∀ a b, k ≤ a → a < n → (tM ts a b).natAbs ≤ E
  zs : ∀ b, (∀ a, k ≤ a → a < n → M0 a b = 0) → ∀ a, k ≤ a → a < n → tM ts a b = 0

end Go.Proofs.YtdoogoglfbohaaaDoor

namespace Go.Proofs.YtdoogoglfbohaaaDoor
open Go
set_option linter.unusedSimpArgs false
set_option linter.unusedVariables false
set_option linter.unusedSectionVars false

def SolL (n : Nat) (A M : Mi) : Prop := ∀ i, i < n → ∀ j, j < n → M i j = smI n fun t => M i (n + t) * A t j
theorem SolL.addr {n : Nat} {A M : Mi} {r s : Nat} {t : Int} (h : SolL n A M) (hr : r < n) (hs : s < n) : SolL n A (setRow M r fun j => M r j + t * M s j) := fun i hi j hj => by
  by_cases he : i = r
  · subst he
    rw [setRow_self, smI_congr (g := fun u => M i (n + u) * A u j + t * (M s (n + u) * A u j)) (fun u _ => by rw [setRow_self]; grind), smI_add, smI_mull, ← h i hi j hj, ← h s hs j hj]
  · rw [setRow_ne he, smI_congr (g := fun u => M i (n + u) * A u j) (fun u _ => by rw [setRow_ne he]), ← h i hi j hj]
theorem SolL.mulr {n : Nat} {A M : Mi} {r : Nat} {t : Int} (h : SolL n A M) (hr : r < n) : SolL n A (setRow M r fun j => t * M r j) := fun i hi j hj => by
  by_cases he : i = r
  · subst he
    rw [setRow_self, smI_congr (g := fun u => t * (M i (n + u) * A u j)) (fun u _ => by rw [setRow_self]; grind), smI_mull, ← h i hi j hj]
  · rw [setRow_ne he, smI_congr (g := fun u => M i (n + u) * A u j) (fun u _ => by rw [setRow_ne he]), ← h i hi j hj]
theorem SolL.swp {n : Nat} {A M : Mi} {r s : Nat} (h : SolL n A M) (hr : r < n) (hs : s < n) : SolL n A (swp M r s) := fun i hi j hj => by
  by_cases h1 : i = r
  · subst h1
    rw [smI_congr (g := fun u => M s (n + u) * A u j) (fun u _ => by rw [Proofs.YtdoogoglfbohaaaDoor.swp, if_pos rfl]), ← h s hs j hj, Proofs.YtdoogoglfbohaaaDoor.swp, if_pos rfl]
  · by_cases h2 : i = s
    · subst h2
      rw [smI_congr (g := fun u => M r (n + u) * A u j) (fun u _ => by rw [Proofs.YtdoogoglfbohaaaDoor.swp, if_neg h1, if_pos rfl]), ← h r hr j hj, Proofs.YtdoogoglfbohaaaDoor.swp, if_neg h1, if_pos rfl]
    · rw [smI_congr (g := fun u => M i (n + u) * A u j) (fun u _ => by rw [Proofs.YtdoogoglfbohaaaDoor.swp, if_neg h1, if_neg h2]), ← h i hi j hj, Proofs.YtdoogoglfbohaaaDoor.swp, if_neg h1, if_neg h2]
theorem SolL.red {n : Nat} {A M M' : Mi} (hr : Red n M M') (h : SolL n A M) : SolL n A M' := by
  induction hr with
  | refl => exact h
  | add r s t hr hs hn _ ih => exact ih (h.addr hr hs)
  | swap r s hr hs hn _ ih => exact ih (h.swp hr hs)
theorem Red.detA {n : Nat} {M M' : Mi} (hr : Red n M M') : (det n M').natAbs = (det n M).natAbs := by
  induction hr with
  | refl => rfl
  | add r s t hr hs hn _ ih => rw [ih, det_addr t hr hs hn]
  | swap r s hr hs hn _ ih => rw [ih, det_swap hr hs hn, Int.natAbs_neg]
theorem det_mulr {n : Nat} {M : Mi} {r : Nat} (t : Int) (hr : r < n) : det n (setRow M r fun j => t * M r j) = t * det n M := by
  have h := det_lin (A := M) (f := fun _ => 0) (g := M r) t hr
  rw [setRow_id, det_zrow hr (fun _ _ => rfl)] at h
  rw [show (fun j => t * M r j) = fun j => 0 + t * M r j by funext j; omega, h, Int.zero_add]
theorem det_piv {n k : Nat} {M : Mi} (hk : k < n) (hu : ∀ j, j < k → ∀ i, i < n → M i j = if i = j then 1 else 0) (hz : ∀ i, k < i → i < n → M i k = 0) : ∃ x, det n M = M k k * x := by
  refine ⟨det n (setRow (tr M) k (unit k)), ?_⟩
  rw [← det_tr (A := M)]
  conv => lhs; rw [← setRow_id (tr M) k]
  rw [det_units hk, smI_one (k := k) hk (fun i hi hne => ?_)]
  · rfl
  · rcases Nat.lt_or_ge i k with h | h
    · rw [det_congr (B := setRow (setRow (tr M) i (unit i)) k (unit i)) (fun a ha b hb => ?_), det_same (r := i) (s := k) hi hk (by omega) (fun j => by rw [setRow_self, setRow_ne hne, setRow_self]), Int.mul_zero]
      by_cases h1 : a = k
      · subst h1; rw [setRow_self, setRow_self]
      · rw [setRow_ne h1, setRow_ne h1]
        by_cases h2 : a = i
        · subst h2
          rw [setRow_self]
          show M b a = unit a b
          rw [hu a h b hb]
          unfold unit
          by_cases h3 : b = a
          · rw [if_pos h3, if_pos h3.symm]
          · rw [if_neg h3, if_neg (Ne.symm h3)]
        · rw [setRow_ne h2]
    · show M i k * _ = 0
      rw [hz i (by omega) hi, Int.zero_mul]

structure Stg (n : Nat) (A : Mi) (k : Nat) (M : Mi) : Prop where
  sol : SolL n A M
  dt : (det n M).natAbs = 1
  un : ∀ j, j < k → ∀ i, i < n → M i j = if i = j then 1 else 0
structure Mid (n : Nat) (A : Mi) (k : Nat) (M : Mi) (i : Nat) : Prop where
  stg : Stg n A k M
  low : ∀ a, k < a → a < n → M a k = 0
  top : ∀ a, a < i → a < k → M a k = 0
  piv : M k k = 1
theorem Stg.start {n : Nat} {A M : Mi} (hA : (det n A).natAbs = 1) (h1 : ∀ i, i < n → ∀ j, j < n → M i j = A i j) (h2 : ∀ i, i < n → ∀ t, t < n → M i (n + t) = if i = t then 1 else 0) : Stg n A 0 M :=
  ⟨fun i hi j hj => by
    rw [h1 i hi j hj, smI_one (k := i) hi (fun t ht hne => by rw [h2 i hi t ht, if_neg (Ne.symm hne), Int.zero_mul]), h2 i hi i hi, if_pos rfl, Int.one_mul],
   by rw [det_congr (B := A) (fun i hi j hj => h1 i hi j hj)]; exact hA, fun j hj => by omega⟩
theorem Stg.done {n : Nat} {A M : Mi} (h : Stg n A n M) {i j : Nat} (hi : i < n) (hj : j < n) : (smI n fun t => M i (n + t) * A t j) = if i = j then 1 else 0 := by rw [← h.sol i hi j hj, h.un j hj i hi]
theorem Stg.red {n k : Nat} {A M M' : Mi} (h : Stg n A k M) (hk : k < n) (hr : Red n M M') (ht : ∀ a, a < k → ∀ b, M' a b = M a b) (hz : ∀ b, (∀ a, k ≤ a → a < n → M a b = 0) → ∀ a, k ≤ a → a < n → M' a b = 0) (hl : ∀ a, k < a → a < n → M' a k = 0) :
    Stg n A k M' ∧ (M' k k).natAbs = 1 := by
  have hs : Stg n A k M' := ⟨h.sol.red hr, by rw [hr.detA]; exact h.dt, fun j hj i hi => by
    rcases Nat.lt_or_ge i k with hik | hik
    · rw [ht i hik, h.un j hj i hi]
    · rw [if_neg (by omega)]
      exact hz j (fun a h1 h2 => by rw [h.un j hj a h2, if_neg (by omega)]) i hik hi⟩
  obtain ⟨x, hx⟩ := det_piv hk hs.un hl
  have h1 := hs.dt
  rw [hx, Int.natAbs_mul] at h1
  exact ⟨hs, Nat.dvd_one.1 ⟨_, h1.symm⟩⟩
theorem Stg.neg {n k : Nat} {A M : Mi} (h : Stg n A k M) (hk : k < n) : Stg n A k (setRow M k fun j => -1 * M k j) := ⟨h.sol.mulr hk, by rw [det_mulr _ hk, Int.natAbs_mul]; simpa using h.dt, fun j hj i hi => by
  by_cases he : i = k
  · subst he
    rw [setRow_self, h.un j hj i hi, if_neg (by omega)]; rfl
  · rw [setRow_ne he, h.un j hj i hi]⟩
theorem Mid.done {n k : Nat} {A M : Mi} (h : Mid n A k M k) : Stg n A (k + 1) M := ⟨h.stg.sol, h.stg.dt, fun j hj i hi => by
  by_cases he : j = k
  · subst he
    split
    · rename_i h1; subst h1; exact h.piv
    · rcases Nat.lt_or_ge i j with h2 | h2
      · exact h.top i h2 h2
      · exact h.low i (by omega) hi
  · exact h.stg.un j (by omega) i hi⟩

end Go.Proofs.YtdoogoglfbohaaaDoor

namespace Go.Proofs.YtdoogoglfbohaaaDoor
open Go Go.RowKit
set_option linter.unusedSimpArgs false
set_option linter.unusedVariables false
set_option linter.unusedSectionVars false

structure InvP (n : Nat) (A : Mi) (e u : Nat → Nat) (k : Nat) (M : Mi) : Prop where
  stg : Stg n A k M
  lo : ∀ a b, k ≤ a → a < n → (M a b).natAbs ≤ e k
  up : ∀ a b, a < k → (M a b).natAbs ≤ u k
structure MidP (n : Nat) (A : Mi) (e u : Nat → Nat) (k i : Nat) (M : Mi) : Prop where
  mid : Mid n A k M i
  lo : ∀ a b, k ≤ a → a < n → (M a b).natAbs ≤ e (k + 1)
  up : ∀ a b, i ≤ a → a < k → (M a b).natAbs ≤ u k
  up1 : ∀ a b, a < i → a < k → (M a b).natAbs ≤ u k * (1 + e (k + 1))
section
variable {c : Cx} {Q : Exit → Act → World → Prop} {m : Mode} {F : SFrame} {H : SHeap} {r : List SOp} {g : Option (Option Tmp × Bool)} {ns : Bool} {d : Tmp} {ty t t' : TypeId} {x y : Operand}
end

end Go.Proofs.YtdoogoglfbohaaaDoor

