import Derived.Test.YtdlmnloikakjpaaDoorMe
import Derived.Test.YtdlmnloikakjpaaDoorMd
/- The reference model: the sum. Written by genR1.py. -/
namespace Go.Proofs.YtdlmnloikakjpaaDoor
open Go Go.RowKit
set_option linter.unusedSimpArgs false
set_option linter.unusedVariables false
set_option linter.unusedSectionVars false

end Go.Proofs.YtdlmnloikakjpaaDoor

/- The reference model: the difference. Written by genR1.py. -/
namespace Go.Proofs.YtdlmnloikakjpaaDoor
open Go Go.RowKit
set_option linter.unusedSimpArgs false
set_option linter.unusedVariables false
set_option linter.unusedSectionVars false

end Go.Proofs.YtdlmnloikakjpaaDoor

/- The reference model: digits compared. -/
namespace Go.Proofs.YtdlmnloikakjpaaDoor
open Go Go.RowKit
set_option linter.unusedSimpArgs false
set_option linter.unusedVariables false
set_option linter.unusedSectionVars false

end Go.Proofs.YtdlmnloikakjpaaDoor

/- The reference model: the product. Written by genR2.py. -/
namespace Go.Proofs.YtdlmnloikakjpaaDoor
open Go Go.RowKit
set_option linter.unusedSimpArgs false
set_option linter.unusedVariables false
set_option linter.unusedSectionVars false

end Go.Proofs.YtdlmnloikakjpaaDoor

/- The reference model: a digit times a number; the quotient by search. Written by genR3.py. -/
namespace Go.Proofs.YtdlmnloikakjpaaDoor
open Go Go.RowKit
set_option linter.unusedSimpArgs false
set_option linter.unusedVariables false
set_option linter.unusedSectionVars false

end Go.Proofs.YtdlmnloikakjpaaDoor

/- The reference model: the canonical number of digits. Written by genR4.py. -/
namespace Go.Proofs.YtdlmnloikakjpaaDoor
open Go Go.RowKit
set_option linter.unusedSimpArgs false
set_option linter.unusedVariables false
set_option linter.unusedSectionVars false

theorem WN.hd {w : World} {A : Option Addr} {n k cap : Nat} {xs : List Nat} (hv : WN w (.slice A n cap) n xs) (hk : k ≤ n) : WN w (.slice A k cap) k (xs.take k) := by
  have hl := hv.len
  obtain ⟨h1, A', cap', h2, h3, h4⟩ := hv
  simp only [Value.slice.injEq] at h2
  obtain ⟨rfl, _, rfl⟩ := h2
  refine ⟨by simp; omega, A, cap, rfl, by omega, fun h0 => ⟨(h4 (by omega)).1, fun j u hu => ?_⟩⟩
  obtain ⟨⟨b, o, rfl⟩, h5⟩ := h4 (by omega)
  refine h5 j u ?_
  rw [List.map_take, List.getElem?_take] at hu
  split at hu
  · exact hu
  · cases hu
/-- Bytes with no zero in front are canonical. -/
theorem lead {p : Bool} {l : List UInt8} {V : Nat} (h1 : (bts l).getD 0 0 ≠ 0) (h2 : bval (bts l) = V) : wv p l = Wv (sgn p V) := by
  have hl : l.dropWhile (· == 0) = l := by
    cases l with
    | nil => rfl
    | cons a l =>
      have : (a == 0) = false := by
        simp only [beq_eq_false_iff_ne]
        intro e
        subst e
        exact h1 rfl
      rw [List.dropWhile, this]
  have hm := magU_of (l := l)
  rw [hl, h2] at hm
  rw [Wv_sgn, ← hm]
  have hne : l ≠ [] := fun e => by subst e; exact h1 rfl
  rw [decide_eq_true hne, Bool.and_true]

theorem getD_snoc0 {l : List Nat} {x : Nat} (h : l.getD 0 0 ≠ 0) : (l ++ [x]).getD 0 0 ≠ 0 := by
  cases l with
  | nil => exact absurd rfl h
  | cons a l => exact h
theorem top_ne {l : List Nat} {i : Nat} (h : nrm l = l) (hi : l.length = i + 1) : l.getD i 0 ≠ 0 := by
  intro h0
  have e : l = l.take i ++ [0] := by
    conv => lhs; rw [← List.take_append_drop i l, List.drop_eq_getElem_cons (show i < l.length by omega), List.drop_eq_nil_of_le (by omega)]
    rw [List.getD, List.getElem?_eq_getElem (show i < l.length by omega)] at h0
    rw [show l[i]'(by omega) = 0 from h0]
  have h2 := congrArg List.length h
  rw [e, nrm_snoc0] at h2
  have h3 : ∀ r : List Nat, (nrm r).length ≤ r.length := fun r => by
    induction r with
    | nil => exact Nat.le_refl _
    | cons x r ih =>
      rw [nrm]
      cases hn : nrm r with
      | nil => by_cases hx : x = 0 <;> simp [hx]
      | cons y s => rw [hn] at ih; simp at ih ⊢; exact ih
  have h4 := h3 (l.take i)
  simp at h2 h4
  omega

set_option maxHeartbeats 8000000 in
theorem c_wideR (w : World) (v : Value) (n : Nat) (xs : List Nat) (p : Bool) (hv : WN w v n xs) (hx : ∀ x ∈ xs, x < B16) (hn : n ≤ 1000000000) :
    Calls Tryd.prog 84 #[.bool p, v] w (Ret fun r w' => Kp [] w w' ∧ r = Wv (sgn p (val B16 xs))) := by
  obtain ⟨A, cap, rfl⟩ := hv.form
  refine calls_of_S [⟨11, 0, [], [(2, .seq)]⟩] [] (by simp) [] Tryd.func84 rfl mixed (by kernel_rfl) Tryd.ntmps84 Tryd.results84 rfl ⟨by simp, by simp⟩ (by simp) ?_
  simp only [toS, textOps, toSOp, kindAt, kindOf, odAt, sopsAt, ordOf, zipF]
  (repeat' (first | refine JC.seq ?_ | refine JC.ops ?_ | refine JO.nil ?_ | refine JX.thenN ?_ | (apply r_move; exact rfl; exact rfl; exact rfl) | (apply r_allocZ; exact rfl; exact rfl; exact rfl; intro _)))
  rename_i b4
  refine r_call0 trivial rfl rfl rfl (fun w hk hs => c_trim w _ _ _ _ (hv.mono hk) (by omega)) fun w v w' _ _ _ hR => ?_
  obtain ⟨k, hkn, rfl, hnk⟩ := hR
  have hvk := hv.hd hkn
  rw [← hnk] at hvk
  have hlk : (nrm xs).length = k := hvk.len
  have hval0 : val B16 xs = val B16 (nrm xs) := (val_nrm _ _).symm
  have hxl : ∀ x ∈ nrm xs, x < B16 := fun x h => hx x (nrm_mem x h)
  have hnn := nrm_nrm xs
  rw [hval0]
  generalize nrm xs = zs at hvk hlk hxl hnn
  by_cases hk0 : k = 0
  · (repeat' (first | refine JC.seq ?_ | refine JC.ops ?_ | refine JO.nil ?_ | refine JX.thenN ?_ | (apply r_move; exact rfl; exact rfl; exact rfl) | (apply r_assign; exact rfl; exact rfl; exact rfl) | (apply r_len; exact rfl; exact rfl; exact rfl) | (apply r_storeN; exact rfl; (first | exact trivial | exact ⟨rfl, rfl⟩); exact rfl; exact rfl; (first | exact at0 | exact at1 | exact at2 | exact at3 | exact at4 | exact at5 | exact at6 | exact at7 | exact at8 | exact at9); exact rfl; exact rfl; exact rfl) | (apply r_eql; exact rfl; exact rfl; exact rfl; exact rfl; all_goals intro hc; all_goals try (exfalso; omega)) | (apply r_buildL; exact rfl; exact rfl; exact rfl; exact rfl; exact rfl) | (apply r_storeN; exact rfl; (first | exact trivial | exact ⟨rfl, rfl⟩); exact rfl; exact rfl; (first | exact at0 | exact at1 | exact at2 | exact at3 | exact at4 | exact at5 | exact at6 | exact at7 | exact at8 | exact at9); exact rfl; exact rfl; exact rfl) | refine JX.thenR ?_ | refine JC.ret ?_ | refine JC.condT rfl ?_))
    obtain rfl : zs = [] := List.eq_nil_of_length_eq_zero (by omega)
    exact JX.retC 0 rfl rfl rfl (fun a w' st => ⟨st.kp, by rw [show val B16 [] = 0 from rfl, sgn_zero]; rfl⟩)
  · (repeat' (first | refine JC.seq ?_ | refine JC.ops ?_ | refine JO.nil ?_ | refine JX.thenN ?_ | (apply r_move; exact rfl; exact rfl; exact rfl) | (apply r_assign; exact rfl; exact rfl; exact rfl) | (apply r_len; exact rfl; exact rfl; exact rfl) | (apply r_sub1; exact rfl; exact rfl; exact rfl; exact rfl; omega) | (apply r_eql; exact rfl; exact rfl; exact rfl; exact rfl; all_goals intro hc; all_goals try (exfalso; omega)) | refine JC.skip ?_ | refine JC.condF rfl ?_ | refine JC.block ?_))
    have e0 : Value.int .i64 ((k - 1 : Nat) : Int) = iv ((k : Int) - 1) := by
      show iv _ = iv _
      congr 1
      omega
    rw [e0]
    refine JC.loopH (ι := Nat × Value × SHeap × List Nat) ⟨fun z => [(6, iv ((z.1 : Int) - 1)), (5, z.2.1), (4, .pointer (some ⟨b4, 0, none⟩)), (1, .slice A k cap), (0, .bool p)], fun z => (b4, .cells #[.bool false, .string ⟨#[]⟩] 41) :: (z.2.2.1 ++ []),
      fun z => z.1 ≤ k ∧ OwnY z.2.2.1 z.2.1 z.2.2.2.length z.2.2.2 ∧ (∀ x ∈ z.2.2.2, x < 256) ∧ z.2.2.2.length ≤ 2 * (k - z.1) ∧ bval z.2.2.2 = val B16 (zs.drop z.1) ∧ (z.1 < k → z.2.2.2.getD 0 0 ≠ 0) ∧ (z.1 = k → z.2.2.2 = []), fun z => z.1⟩
      (k, _, [], []) ⟨Nat.le_refl _, OwnY.nil, fun _ h => absurd h List.not_mem_nil, by simp, by dsimp only; rw [val_drop_nil (by omega)]; rfl, fun h => absurd h (Nat.lt_irrefl _), fun _ => rfl⟩ (by repeat first | exact trivial | refine ⟨rfl, ?_⟩) (by (repeat' first | exact HSub.refl _ | exact HSub.nil _ | refine HSub.at 0 rfl ?_ | refine HSub.at 1 rfl ?_ | refine HSub.at 2 rfl ?_ | refine HSub.at 3 rfl ?_ | refine HSub.at 4 rfl ?_ | refine HSub.at 5 rfl ?_ | refine HSub.at 6 rfl ?_ | refine HSub.at 7 rfl ?_ | refine HSub.at 8 rfl ?_ | refine HSub.at 9 rfl ?_ | refine HSub.at 10 rfl ?_ | refine HSub.at 11 rfl ?_ | refine HSub.at 12 rfl ?_ | refine HSub.at 13 rfl ?_ | refine HSub.at 14 rfl ?_ | refine HSub.at 15 rfl ?_ | refine HSub.at 16 rfl ?_ | refine HSub.at 17 rfl ?_ | refine HSub.at 18 rfl ?_ | refine HSub.at 19 rfl ?_ | refine HSub.segH ?_ | refine HSub.skip ?_ | refine HSub.skipN ?_)) (fun z hz => ?_)
    obtain ⟨m, vb, Nb, bs⟩ := z
    obtain ⟨hm, hO, hbs, hbl, hval, hhd, hnil⟩ := hz
    dsimp only at hm hO hbs hbl hval hhd hnil ⊢
    rcases m with _ | i
    · (repeat' (first | refine JC.seq ?_ | refine JC.ops ?_ | refine JO.nil ?_ | refine JX.thenN ?_ | (apply r_move; exact rfl; exact rfl; exact rfl) | (apply r_geq; exact rfl; exact rfl; exact rfl; exact rfl; all_goals intro hc; all_goals try (exfalso; omega)) | refine JX.thenE ?_ | refine JC.exit ?_ | refine JC.condF rfl ?_ | refine JX.blockE ?_))
      refine r_toStr hbs hO.rd (by (repeat' first | exact HSub.nil _ | exact HSub.hd | exact HSub.in0 | exact HSub.refl _ | refine HSub.skip ?_ | refine HSub.skipN ?_)) trivial rfl rfl rfl (fun l hl => ?_)
      (repeat' (first | refine JO.nil ?_ | refine JX.thenN ?_ | (apply r_storeN; exact rfl; (first | exact trivial | exact ⟨rfl, rfl⟩); exact rfl; exact rfl; (first | exact at0 | exact at1 | exact at2 | exact at3 | exact at4 | exact at5 | exact at6 | exact at7 | exact at8 | exact at9); exact rfl; exact rfl; exact rfl) | (apply r_buildL; exact rfl; exact rfl; exact rfl; exact rfl; exact rfl) | (apply r_storeN; exact rfl; (first | exact trivial | exact ⟨rfl, rfl⟩); exact rfl; exact rfl; (first | exact at0 | exact at1 | exact at2 | exact at3 | exact at4 | exact at5 | exact at6 | exact at7 | exact at8 | exact at9); exact rfl; exact rfl; exact rfl) | refine JC.ret ?_))
      rw [List.drop_zero] at hval
      have hfin := lead (p := p) (l := l) (V := val B16 zs) (by rw [hl]; exact hhd (by omega)) (by rw [hl]; exact hval)
      exact JX.retC 0 rfl rfl rfl (fun a w' st => ⟨st.kp, hfin⟩)
    · have hiv : iv (((i + 1 : Nat) : Int) - 1) = nv i := by
        show iv _ = iv _
        congr 1
        omega
      rw [hiv]
      have hxi : zs.getD i 0 < 65536 := mem_getD_lt (b := B16) (by decide) hxl i
      have hxv : val B16 (zs.drop i) = zs.getD i 0 + 65536 * val B16 (zs.drop (i + 1)) := val_drop (show i < zs.length by omega)
      by_cases h1 : i < k - 1
      · (repeat' (first | refine JC.seq ?_ | refine JC.ops ?_ | refine JO.nil ?_ | refine JX.thenN ?_ | (apply r_move; exact rfl; exact rfl; exact rfl) | (apply r_idxN; exact rfl; exact rfl; exact rfl; exact rfl; (first | assumption | exact WN.rd (by assumption) rfl [] | exact OwnN.rd (by assumption)); (first | assumption | omega)) | (apply r_ldN; exact rfl; exact rfl; exact rfl; exact rfl; (first | assumption | exact WN.rd (by assumption) rfl [] | exact OwnN.rd (by assumption)); (repeat' first | exact HSub.nil _ | exact HSub.hd | exact HSub.in0 | exact HSub.refl _ | refine HSub.skip ?_ | refine HSub.skipN ?_); (first | assumption | omega)) | (apply r_len; exact rfl; exact rfl; exact rfl) | (apply r_divN (j := 256); exact rfl; exact rfl; exact rfl; exact rfl; omega) | (apply r_sub1; exact rfl; exact rfl; exact rfl; exact rfl; omega) | (apply r_pickT; exact rfl; exact rfl; exact rfl; exact rfl) | (apply r_toU8; exact rfl; exact rfl; exact rfl) | (apply r_lss; exact rfl; exact rfl; exact rfl; exact rfl; all_goals intro hc; all_goals try (exfalso; omega)) | (apply r_geq; exact rfl; exact rfl; exact rfl; exact rfl; all_goals intro hc; all_goals try (exfalso; omega)) | (apply r_build1; exact rfl; exact rfl; exact rfl; exact rfl; exact rfl; (repeat first | exact trivial | refine ⟨rfl, ?_⟩); decide; decide; intro _) | refine JC.skip ?_ | refine JC.condT rfl ?_ | refine JC.block ?_ | (apply r_skip; exact rfl; exact rfl; (first | (intro h; cases h; done) | (intro _; rfl)))))
        rename_i c2
        refine r_appendY (A := [_, _]) hO (own_litY c2 1 [zs.getD i 0 / 256 % 256] _ rfl rfl (by decide)).rd (by (repeat' first | exact HSub.nil _ | exact HSub.hd | exact HSub.in0 | exact HSub.refl _ | refine HSub.skip ?_ | refine HSub.skipN ?_)) rfl trivial rfl rfl rfl rfl (by omega) (fun v1 N1 hO1 => ?_)
        (repeat' (first | refine JC.ops ?_ | refine JO.nil ?_ | refine JX.thenN ?_ | (apply r_move; exact rfl; exact rfl; exact rfl) | (apply r_assign; exact rfl; exact rfl; exact rfl) | (apply r_idxN; exact rfl; exact rfl; exact rfl; exact rfl; (first | assumption | exact WN.rd (by assumption) rfl [] | exact OwnN.rd (by assumption)); (first | assumption | omega)) | (apply r_ldN; exact rfl; exact rfl; exact rfl; exact rfl; (first | assumption | exact WN.rd (by assumption) rfl [] | exact OwnN.rd (by assumption)); (repeat' first | exact HSub.nil _ | exact HSub.hd | exact HSub.in0 | exact HSub.refl _ | refine HSub.skip ?_ | refine HSub.skipN ?_); (first | assumption | omega)) | (apply r_modN (j := 256); exact rfl; exact rfl; exact rfl; exact rfl; omega) | (apply r_toU8; exact rfl; exact rfl; exact rfl) | (apply r_build1; exact rfl; exact rfl; exact rfl; exact rfl; exact rfl; (repeat first | exact trivial | refine ⟨rfl, ?_⟩); decide; decide; intro _)))
        rename_i c3
        refine r_appendY (A := [_, _, _]) hO1 (own_litY c3 1 [zs.getD i 0 % 256 % 256] _ rfl rfl (by decide)).rd (by (repeat' first | exact HSub.nil _ | exact HSub.hd | exact HSub.in0 | exact HSub.refl _ | refine HSub.skip ?_ | refine HSub.skipN ?_)) rfl trivial rfl rfl rfl rfl (by omega) (fun v2 N2 hO2 => ?_)
        (repeat' (first | refine JC.ops ?_ | refine JO.nil ?_ | refine JX.thenN ?_ | (apply r_move; exact rfl; exact rfl; exact rfl) | (apply r_assign; exact rfl; exact rfl; exact rfl) | (apply r_sub; exact rfl; exact rfl; exact rfl; exact rfl; omega) | refine JX.blockN ?_))
        refine JX.roundH (i, v2, N2, (bs ++ [zs.getD i 0 / 256 % 256]) ++ [zs.getD i 0 % 256 % 256]) ⟨by dsimp only; omega, by simp only [List.length_append, List.length_singleton]; exact hO2, snoc_lt (snoc_lt hbs (Nat.mod_lt _ (by decide))) (Nat.mod_lt _ (by decide)), by simp only [List.length_append, List.length_singleton]; omega, ?_, fun _ => ?_, fun h => ?_⟩ (by dsimp only; omega) (by repeat first | exact trivial | refine ⟨rfl, ?_⟩) (by (repeat' first | exact HSub.refl _ | exact HSub.nil _ | refine HSub.at 0 rfl ?_ | refine HSub.at 1 rfl ?_ | refine HSub.at 2 rfl ?_ | refine HSub.at 3 rfl ?_ | refine HSub.at 4 rfl ?_ | refine HSub.at 5 rfl ?_ | refine HSub.at 6 rfl ?_ | refine HSub.at 7 rfl ?_ | refine HSub.at 8 rfl ?_ | refine HSub.at 9 rfl ?_ | refine HSub.at 10 rfl ?_ | refine HSub.at 11 rfl ?_ | refine HSub.at 12 rfl ?_ | refine HSub.at 13 rfl ?_ | refine HSub.at 14 rfl ?_ | refine HSub.at 15 rfl ?_ | refine HSub.at 16 rfl ?_ | refine HSub.at 17 rfl ?_ | refine HSub.at 18 rfl ?_ | refine HSub.at 19 rfl ?_ | refine HSub.segH ?_ | refine HSub.skip ?_ | refine HSub.skipN ?_))
        · dsimp only
          rw [bval_snoc, bval_snoc, hval, hxv]
          omega
        · exact getD_snoc0 (getD_snoc0 (hhd (by omega)))
        · dsimp only at h; omega
      · have htop := top_ne hnn (i := i) (by omega)
        obtain rfl := hnil (by omega)
        by_cases h2 : 256 ≤ zs.getD i 0
        · (repeat' (first | refine JC.seq ?_ | refine JC.ops ?_ | refine JO.nil ?_ | refine JX.thenN ?_ | (apply r_move; exact rfl; exact rfl; exact rfl) | (apply r_idxN; exact rfl; exact rfl; exact rfl; exact rfl; (first | assumption | exact WN.rd (by assumption) rfl [] | exact OwnN.rd (by assumption)); (first | assumption | omega)) | (apply r_ldN; exact rfl; exact rfl; exact rfl; exact rfl; (first | assumption | exact WN.rd (by assumption) rfl [] | exact OwnN.rd (by assumption)); (repeat' first | exact HSub.nil _ | exact HSub.hd | exact HSub.in0 | exact HSub.refl _ | refine HSub.skip ?_ | refine HSub.skipN ?_); (first | assumption | omega)) | (apply r_len; exact rfl; exact rfl; exact rfl) | (apply r_divN (j := 256); exact rfl; exact rfl; exact rfl; exact rfl; omega) | (apply r_sub1; exact rfl; exact rfl; exact rfl; exact rfl; omega) | (apply r_pickF; exact rfl; exact rfl; exact rfl; exact rfl) | (apply r_toU8; exact rfl; exact rfl; exact rfl) | (apply r_lss; exact rfl; exact rfl; exact rfl; exact rfl; all_goals intro hc; all_goals try (exfalso; omega)) | (apply r_geq; exact rfl; exact rfl; exact rfl; exact rfl; all_goals intro hc; all_goals try (exfalso; omega)) | (apply r_build1; exact rfl; exact rfl; exact rfl; exact rfl; exact rfl; (repeat first | exact trivial | refine ⟨rfl, ?_⟩); decide; decide; intro _) | refine JC.skip ?_ | refine JC.condT rfl ?_ | refine JC.block ?_))
          rename_i c2
          refine r_appendY (A := [_, _]) hO (own_litY c2 1 [zs.getD i 0 / 256 % 256] _ rfl rfl (by decide)).rd (by (repeat' first | exact HSub.nil _ | exact HSub.hd | exact HSub.in0 | exact HSub.refl _ | refine HSub.skip ?_ | refine HSub.skipN ?_)) rfl trivial rfl rfl rfl rfl (by omega) (fun v1 N1 hO1 => ?_)
          (repeat' (first | refine JC.ops ?_ | refine JO.nil ?_ | refine JX.thenN ?_ | (apply r_move; exact rfl; exact rfl; exact rfl) | (apply r_assign; exact rfl; exact rfl; exact rfl) | (apply r_idxN; exact rfl; exact rfl; exact rfl; exact rfl; (first | assumption | exact WN.rd (by assumption) rfl [] | exact OwnN.rd (by assumption)); (first | assumption | omega)) | (apply r_ldN; exact rfl; exact rfl; exact rfl; exact rfl; (first | assumption | exact WN.rd (by assumption) rfl [] | exact OwnN.rd (by assumption)); (repeat' first | exact HSub.nil _ | exact HSub.hd | exact HSub.in0 | exact HSub.refl _ | refine HSub.skip ?_ | refine HSub.skipN ?_); (first | assumption | omega)) | (apply r_modN (j := 256); exact rfl; exact rfl; exact rfl; exact rfl; omega) | (apply r_toU8; exact rfl; exact rfl; exact rfl) | (apply r_build1; exact rfl; exact rfl; exact rfl; exact rfl; exact rfl; (repeat first | exact trivial | refine ⟨rfl, ?_⟩); decide; decide; intro _)))
          rename_i c3
          refine r_appendY (A := [_, _, _]) hO1 (own_litY c3 1 [zs.getD i 0 % 256 % 256] _ rfl rfl (by decide)).rd (by (repeat' first | exact HSub.nil _ | exact HSub.hd | exact HSub.in0 | exact HSub.refl _ | refine HSub.skip ?_ | refine HSub.skipN ?_)) rfl trivial rfl rfl rfl rfl (by omega) (fun v2 N2 hO2 => ?_)
          (repeat' (first | refine JC.ops ?_ | refine JO.nil ?_ | refine JX.thenN ?_ | (apply r_move; exact rfl; exact rfl; exact rfl) | (apply r_assign; exact rfl; exact rfl; exact rfl) | (apply r_sub; exact rfl; exact rfl; exact rfl; exact rfl; omega) | refine JX.blockN ?_))
          refine JX.roundH (i, v2, N2, ([] ++ [zs.getD i 0 / 256 % 256]) ++ [zs.getD i 0 % 256 % 256]) ⟨by dsimp only; omega, by simp only [List.length_append, List.length_singleton]; exact hO2, snoc_lt (snoc_lt hbs (Nat.mod_lt _ (by decide))) (Nat.mod_lt _ (by decide)), by simp only [List.length_append, List.length_singleton]; omega, ?_, fun _ => ?_, fun h => ?_⟩ (by dsimp only; omega) (by repeat first | exact trivial | refine ⟨rfl, ?_⟩) (by (repeat' first | exact HSub.refl _ | exact HSub.nil _ | refine HSub.at 0 rfl ?_ | refine HSub.at 1 rfl ?_ | refine HSub.at 2 rfl ?_ | refine HSub.at 3 rfl ?_ | refine HSub.at 4 rfl ?_ | refine HSub.at 5 rfl ?_ | refine HSub.at 6 rfl ?_ | refine HSub.at 7 rfl ?_ | refine HSub.at 8 rfl ?_ | refine HSub.at 9 rfl ?_ | refine HSub.at 10 rfl ?_ | refine HSub.at 11 rfl ?_ | refine HSub.at 12 rfl ?_ | refine HSub.at 13 rfl ?_ | refine HSub.at 14 rfl ?_ | refine HSub.at 15 rfl ?_ | refine HSub.at 16 rfl ?_ | refine HSub.at 17 rfl ?_ | refine HSub.at 18 rfl ?_ | refine HSub.at 19 rfl ?_ | refine HSub.segH ?_ | refine HSub.skip ?_ | refine HSub.skipN ?_))
          · dsimp only
            rw [bval_snoc, bval_snoc, hval, hxv]
            omega
          · show zs.getD i 0 / 256 % 256 ≠ 0; omega
          · dsimp only at h; omega
        · (repeat' (first | refine JC.seq ?_ | refine JC.ops ?_ | refine JO.nil ?_ | refine JX.thenN ?_ | (apply r_move; exact rfl; exact rfl; exact rfl) | (apply r_idxN; exact rfl; exact rfl; exact rfl; exact rfl; (first | assumption | exact WN.rd (by assumption) rfl [] | exact OwnN.rd (by assumption)); (first | assumption | omega)) | (apply r_ldN; exact rfl; exact rfl; exact rfl; exact rfl; (first | assumption | exact WN.rd (by assumption) rfl [] | exact OwnN.rd (by assumption)); (repeat' first | exact HSub.nil _ | exact HSub.hd | exact HSub.in0 | exact HSub.refl _ | refine HSub.skip ?_ | refine HSub.skipN ?_); (first | assumption | omega)) | (apply r_len; exact rfl; exact rfl; exact rfl) | (apply r_modN (j := 256); exact rfl; exact rfl; exact rfl; exact rfl; omega) | (apply r_sub1; exact rfl; exact rfl; exact rfl; exact rfl; omega) | (apply r_pickF; exact rfl; exact rfl; exact rfl; exact rfl) | (apply r_toU8; exact rfl; exact rfl; exact rfl) | (apply r_lss; exact rfl; exact rfl; exact rfl; exact rfl; all_goals intro hc; all_goals try (exfalso; omega)) | (apply r_geq; exact rfl; exact rfl; exact rfl; exact rfl; all_goals intro hc; all_goals try (exfalso; omega)) | (apply r_build1; exact rfl; exact rfl; exact rfl; exact rfl; exact rfl; (repeat first | exact trivial | refine ⟨rfl, ?_⟩); decide; decide; intro _) | refine JC.skip ?_ | refine JC.condT rfl ?_ | refine JC.condF rfl ?_ | refine JC.block ?_))
          rename_i c3
          refine r_appendY (A := [_, _]) hO (own_litY c3 1 [zs.getD i 0 % 256 % 256] _ rfl rfl (by decide)).rd (by (repeat' first | exact HSub.nil _ | exact HSub.hd | exact HSub.in0 | exact HSub.refl _ | refine HSub.skip ?_ | refine HSub.skipN ?_)) rfl trivial rfl rfl rfl rfl (by omega) (fun v2 N2 hO2 => ?_)
          (repeat' (first | refine JC.ops ?_ | refine JO.nil ?_ | refine JX.thenN ?_ | (apply r_move; exact rfl; exact rfl; exact rfl) | (apply r_assign; exact rfl; exact rfl; exact rfl) | (apply r_sub; exact rfl; exact rfl; exact rfl; exact rfl; omega) | refine JX.blockN ?_))
          refine JX.roundH (i, v2, N2, [] ++ [zs.getD i 0 % 256 % 256]) ⟨by dsimp only; omega, by simp only [List.length_append, List.length_singleton]; exact hO2, snoc_lt hbs (Nat.mod_lt _ (by decide)), by simp only [List.length_append, List.length_singleton]; omega, ?_, fun _ => ?_, fun h => ?_⟩ (by dsimp only; omega) (by repeat first | exact trivial | refine ⟨rfl, ?_⟩) (by (repeat' first | exact HSub.refl _ | exact HSub.nil _ | refine HSub.at 0 rfl ?_ | refine HSub.at 1 rfl ?_ | refine HSub.at 2 rfl ?_ | refine HSub.at 3 rfl ?_ | refine HSub.at 4 rfl ?_ | refine HSub.at 5 rfl ?_ | refine HSub.at 6 rfl ?_ | refine HSub.at 7 rfl ?_ | refine HSub.at 8 rfl ?_ | refine HSub.at 9 rfl ?_ | refine HSub.at 10 rfl ?_ | refine HSub.at 11 rfl ?_ | refine HSub.at 12 rfl ?_ | refine HSub.at 13 rfl ?_ | refine HSub.at 14 rfl ?_ | refine HSub.at 15 rfl ?_ | refine HSub.at 16 rfl ?_ | refine HSub.at 17 rfl ?_ | refine HSub.at 18 rfl ?_ | refine HSub.at 19 rfl ?_ | refine HSub.segH ?_ | refine HSub.skip ?_ | refine HSub.skipN ?_))
          · dsimp only
            rw [bval_nil] at hval
            rw [bval_snoc, bval_nil, hxv]
            omega
          · show zs.getD i 0 % 256 % 256 ≠ 0; omega
          · dsimp only at h; omega

end Go.Proofs.YtdlmnloikakjpaaDoor

/- The reference model: numbers with a sign. Written by genR5.py. -/
namespace Go.Proofs.YtdlmnloikakjpaaDoor
open Go Go.RowKit
set_option linter.unusedSimpArgs false
set_option linter.unusedVariables false
set_option linter.unusedSectionVars false

end Go.Proofs.YtdlmnloikakjpaaDoor

/- The reference model: the quotient. -/
namespace Go.Proofs.YtdlmnloikakjpaaDoor
open Go Go.RowKit
set_option linter.unusedSimpArgs false
set_option linter.unusedVariables false
set_option linter.unusedSectionVars false

end Go.Proofs.YtdlmnloikakjpaaDoor

/- The reference model: From. Written by genR6.py. -/
namespace Go.Proofs.YtdlmnloikakjpaaDoor
open Go Go.RowKit
set_option linter.unusedSimpArgs false
set_option linter.unusedVariables false
set_option linter.unusedSectionVars false

theorem from_pow {m j : Nat} (h : m < 65536 ^ (4 - j)) (h0 : 0 < m) (hj : j ≤ 4) : j < 4 ∧ m / 65536 < 65536 ^ (4 - (j + 1)) := by
  have hj4 : j < 4 := by
    refine Decidable.byContradiction fun h1 => ?_
    obtain rfl : j = 4 := by omega
    simp at h
    omega
  refine ⟨hj4, ?_⟩
  rw [show 4 - j = 4 - (j + 1) + 1 by omega, Nat.pow_succ] at h
  exact Nat.div_lt_of_lt_mul (by rw [Nat.mul_comm]; exact h)

set_option maxHeartbeats 4000000 in
theorem c_FromR (w : World) (n : Int) (h1 : -9223372036854775808 ≤ n) (h2 : n < 9223372036854775808) :
    Calls Tryd.prog 51 #[iv n] w (Ret fun r w' => Kp [] w w' ∧ r = Wv n) := by
  have hm : n.natAbs ≤ 9223372036854775808 := by omega
  have hm2 : n.natAbs < 18446744073709551616 := by omega
  by_cases hn : n < 0
  · refine calls_of_S [] [] (by simp) [] Tryd.func51 rfl mixed (by kernel_rfl) Tryd.ntmps51 Tryd.results51 rfl ⟨by simp, by simp⟩ (by simp) ?_
    simp only [toS, textOps, toSOp, kindAt, kindOf, odAt, sopsAt, ordOf, zipF]
    (repeat' (first | refine JC.seq ?_ | refine JC.ops ?_ | refine JO.nil ?_ | refine JX.thenN ?_ | (apply r_move; exact rfl; exact rfl; exact rfl) | (apply r_assign; exact rfl; exact rfl; exact rfl) | (apply r_allocZ; exact rfl; exact rfl; exact rfl; intro _)))
    rename_i b2
    refine r_i64U (18446744073709551616 - n.natAbs) rfl rfl rfl (by rw [IntKind.wrap_u64]; omega) ?_
    (repeat' (first | refine JC.seq ?_ | refine JC.ops ?_ | refine JO.nil ?_ | refine JX.thenN ?_ | (apply r_move; exact rfl; exact rfl; exact rfl) | (apply r_assign; exact rfl; exact rfl; exact rfl) | (apply r_lss; exact rfl; exact rfl; exact rfl; exact rfl; all_goals intro hc; all_goals try (exfalso; omega)) | refine JC.condT rfl ?_))
    refine r_negU rfl rfl rfl (by omega) ?_
    rw [show (18446744073709551616 - (18446744073709551616 - n.natAbs)) % 18446744073709551616 = n.natAbs by omega]
    (repeat' (first | refine JC.seq ?_ | refine JO.nil ?_ | refine JX.thenN ?_ | (apply r_assign; exact rfl; exact rfl; exact rfl) | refine JC.block ?_))
    refine JC.loopH (ι := Nat × Value × SHeap × List Nat) ⟨fun z => [(4, uv z.1), (3, z.2.1), (2, .pointer (some ⟨b2, 0, none⟩)), (0, iv n)], fun z => (b2, .cells #[.bool false, .string ⟨#[]⟩] 41) :: (z.2.2.1 ++ []),
      fun z => z.2.2.2.length ≤ 4 ∧ z.1 < 65536 ^ (4 - z.2.2.2.length) ∧ z.1 < 18446744073709551616 ∧ OwnN z.2.2.1 z.2.1 z.2.2.2.length z.2.2.2 ∧ (∀ x ∈ z.2.2.2, x < B16) ∧ val B16 z.2.2.2 + B16 ^ z.2.2.2.length * z.1 = n.natAbs, fun z => z.1⟩
      (n.natAbs, _, [], []) ⟨Nat.zero_le _, by show n.natAbs < 65536 ^ 4; omega, hm2, OwnN.nil, fun _ h => absurd h List.not_mem_nil, by simp [val]⟩ (by repeat first | exact trivial | refine ⟨rfl, ?_⟩) (by (repeat' first | exact HSub.refl _ | exact HSub.nil _ | refine HSub.at 0 rfl ?_ | refine HSub.at 1 rfl ?_ | refine HSub.at 2 rfl ?_ | refine HSub.at 3 rfl ?_ | refine HSub.at 4 rfl ?_ | refine HSub.at 5 rfl ?_ | refine HSub.at 6 rfl ?_ | refine HSub.at 7 rfl ?_ | refine HSub.at 8 rfl ?_ | refine HSub.at 9 rfl ?_ | refine HSub.at 10 rfl ?_ | refine HSub.at 11 rfl ?_ | refine HSub.at 12 rfl ?_ | refine HSub.at 13 rfl ?_ | refine HSub.at 14 rfl ?_ | refine HSub.at 15 rfl ?_ | refine HSub.at 16 rfl ?_ | refine HSub.at 17 rfl ?_ | refine HSub.at 18 rfl ?_ | refine HSub.at 19 rfl ?_ | refine HSub.segH ?_ | refine HSub.skip ?_ | refine HSub.skipN ?_)) (fun z hz => ?_)
    obtain ⟨m, vo, N, zs⟩ := z
    obtain ⟨hl4, hmp, hm64, hO, hz, hval⟩ := hz
    dsimp only at hl4 hmp hm64 hO hz hval ⊢
    by_cases h0 : 0 < m
    · obtain ⟨hj4, hmp'⟩ := from_pow hmp h0 hl4
      (repeat' (first | refine JC.seq ?_ | refine JC.ops ?_ | refine JO.nil ?_ | refine JX.thenN ?_ | (apply r_move; exact rfl; exact rfl; exact rfl) | (apply r_gtr; exact rfl; exact rfl; exact rfl; exact rfl; all_goals intro hc; all_goals try (exfalso; omega)) | refine JC.skip ?_ | refine JC.condT rfl ?_ | refine JC.block ?_))
      refine r_remU (j := 65536) rfl rfl rfl rfl (by omega) ?_
      refine r_convK (k' := .i64) ((m % 65536 : Nat) : Int) rfl rfl rfl (by rw [IntKind.wrap_i64]; omega) ?_
      (repeat' (first | (apply r_build1; exact rfl; exact rfl; exact rfl; exact rfl; exact rfl; (repeat first | exact trivial | refine ⟨rfl, ?_⟩); decide; decide; intro _)))
      rename_i c2
      refine r_appendN (A := [_, _]) hO (own_lit c2 1 [m % 65536] _ rfl rfl (by decide)).rd (by (repeat' first | exact HSub.nil _ | exact HSub.hd | exact HSub.in0 | exact HSub.refl _ | refine HSub.skip ?_ | refine HSub.skipN ?_)) rfl trivial rfl rfl rfl rfl (by omega) (fun v' N' hO' => ?_)
      (repeat' (first | refine JC.ops ?_ | refine JO.nil ?_ | refine JX.thenN ?_ | (apply r_move; exact rfl; exact rfl; exact rfl) | (apply r_assign; exact rfl; exact rfl; exact rfl)))
      refine r_quoU (j := 65536) rfl rfl rfl rfl (by omega) ?_
      (repeat' (first | refine JO.nil ?_ | (apply r_assign; exact rfl; exact rfl; exact rfl) | refine JX.blockN ?_))
      refine JX.roundH (m / 65536, v', N', zs ++ [m % 65536]) ⟨by simp only [List.length_append, List.length_singleton]; omega, by simp only [List.length_append, List.length_singleton]; exact hmp', by dsimp only; omega, by simp only [List.length_append, List.length_singleton]; exact hO', snoc_lt hz (Nat.mod_lt _ (by decide)), ?_⟩ (by dsimp only; omega) (by repeat first | exact trivial | refine ⟨rfl, ?_⟩) (by (repeat' first | exact HSub.refl _ | exact HSub.nil _ | refine HSub.at 0 rfl ?_ | refine HSub.at 1 rfl ?_ | refine HSub.at 2 rfl ?_ | refine HSub.at 3 rfl ?_ | refine HSub.at 4 rfl ?_ | refine HSub.at 5 rfl ?_ | refine HSub.at 6 rfl ?_ | refine HSub.at 7 rfl ?_ | refine HSub.at 8 rfl ?_ | refine HSub.at 9 rfl ?_ | refine HSub.at 10 rfl ?_ | refine HSub.at 11 rfl ?_ | refine HSub.at 12 rfl ?_ | refine HSub.at 13 rfl ?_ | refine HSub.at 14 rfl ?_ | refine HSub.at 15 rfl ?_ | refine HSub.at 16 rfl ?_ | refine HSub.at 17 rfl ?_ | refine HSub.at 18 rfl ?_ | refine HSub.at 19 rfl ?_ | refine HSub.segH ?_ | refine HSub.skip ?_ | refine HSub.skipN ?_))
      dsimp only
      rw [val_snoc, List.length_append, List.length_singleton, Nat.pow_succ, ← hval, Nat.add_assoc, Nat.mul_assoc, ← Nat.mul_add, Nat.mod_add_div]
    · (repeat' (first | refine JC.seq ?_ | refine JC.ops ?_ | refine JO.nil ?_ | refine JX.thenN ?_ | (apply r_move; exact rfl; exact rfl; exact rfl) | (apply r_lss; exact rfl; exact rfl; exact rfl; exact rfl; all_goals intro hc; all_goals try (exfalso; omega)) | (apply r_gtr; exact rfl; exact rfl; exact rfl; exact rfl; all_goals intro hc; all_goals try (exfalso; omega)) | refine JX.thenE ?_ | refine JC.exit ?_ | refine JC.condF rfl ?_ | refine JX.blockE ?_))
      refine r_call0 trivial rfl rfl rfl (fun w hk hs => c_wideR w _ _ zs true (hO.rd.at hk hs (by (repeat' first | exact HSub.nil _ | exact HSub.hd | exact HSub.in0 | exact HSub.refl _ | refine HSub.skip ?_ | refine HSub.skipN ?_))) hz (by omega)) fun w v w' _ _ _ hR => ?_
      subst hR
      (repeat' (first | refine JO.nil ?_ | refine JX.thenN ?_ | (apply r_storeN; exact rfl; (first | exact trivial | exact ⟨rfl, rfl⟩); exact rfl; exact rfl; (first | exact at0 | exact at1 | exact at2 | exact at3 | exact at4 | exact at5 | exact at6 | exact at7 | exact at8 | exact at9); exact rfl; exact rfl; exact rfl) | (apply r_storeN; exact rfl; (first | exact trivial | exact ⟨rfl, rfl⟩); exact rfl; exact rfl; (first | exact at0 | exact at1 | exact at2 | exact at3 | exact at4 | exact at5 | exact at6 | exact at7 | exact at8 | exact at9); exact rfl; exact rfl; exact rfl) | refine JC.ret ?_))
      obtain rfl : m = 0 := by omega
      rw [Nat.mul_zero, Nat.add_zero] at hval
      exact JX.retC 0 rfl rfl rfl (fun a w' st => ⟨st.kp, by show Wv (sgn true (val B16 zs)) = _; rw [hval]; congr 1; simp only [sgn, if_true, Bool.false_eq_true, if_false]; omega⟩)
  · refine calls_of_S [] [] (by simp) [] Tryd.func51 rfl mixed (by kernel_rfl) Tryd.ntmps51 Tryd.results51 rfl ⟨by simp, by simp⟩ (by simp) ?_
    simp only [toS, textOps, toSOp, kindAt, kindOf, odAt, sopsAt, ordOf, zipF]
    (repeat' (first | refine JC.seq ?_ | refine JC.ops ?_ | refine JO.nil ?_ | refine JX.thenN ?_ | (apply r_move; exact rfl; exact rfl; exact rfl) | (apply r_assign; exact rfl; exact rfl; exact rfl) | (apply r_allocZ; exact rfl; exact rfl; exact rfl; intro _)))
    rename_i b2
    refine r_i64U n.natAbs rfl rfl rfl (by rw [IntKind.wrap_u64]; omega) ?_
    (repeat' (first | refine JC.seq ?_ | refine JC.ops ?_ | refine JO.nil ?_ | refine JX.thenN ?_ | (apply r_move; exact rfl; exact rfl; exact rfl) | (apply r_assign; exact rfl; exact rfl; exact rfl) | (apply r_lss; exact rfl; exact rfl; exact rfl; exact rfl; all_goals intro hc; all_goals try (exfalso; omega)) | refine JC.skip ?_ | refine JC.condF rfl ?_ | refine JC.block ?_))
    refine JC.loopH (ι := Nat × Value × SHeap × List Nat) ⟨fun z => [(4, uv z.1), (3, z.2.1), (2, .pointer (some ⟨b2, 0, none⟩)), (0, iv n)], fun z => (b2, .cells #[.bool false, .string ⟨#[]⟩] 41) :: (z.2.2.1 ++ []),
      fun z => z.2.2.2.length ≤ 4 ∧ z.1 < 65536 ^ (4 - z.2.2.2.length) ∧ z.1 < 18446744073709551616 ∧ OwnN z.2.2.1 z.2.1 z.2.2.2.length z.2.2.2 ∧ (∀ x ∈ z.2.2.2, x < B16) ∧ val B16 z.2.2.2 + B16 ^ z.2.2.2.length * z.1 = n.natAbs, fun z => z.1⟩
      (n.natAbs, _, [], []) ⟨Nat.zero_le _, by show n.natAbs < 65536 ^ 4; omega, hm2, OwnN.nil, fun _ h => absurd h List.not_mem_nil, by simp [val]⟩ (by repeat first | exact trivial | refine ⟨rfl, ?_⟩) (by (repeat' first | exact HSub.refl _ | exact HSub.nil _ | refine HSub.at 0 rfl ?_ | refine HSub.at 1 rfl ?_ | refine HSub.at 2 rfl ?_ | refine HSub.at 3 rfl ?_ | refine HSub.at 4 rfl ?_ | refine HSub.at 5 rfl ?_ | refine HSub.at 6 rfl ?_ | refine HSub.at 7 rfl ?_ | refine HSub.at 8 rfl ?_ | refine HSub.at 9 rfl ?_ | refine HSub.at 10 rfl ?_ | refine HSub.at 11 rfl ?_ | refine HSub.at 12 rfl ?_ | refine HSub.at 13 rfl ?_ | refine HSub.at 14 rfl ?_ | refine HSub.at 15 rfl ?_ | refine HSub.at 16 rfl ?_ | refine HSub.at 17 rfl ?_ | refine HSub.at 18 rfl ?_ | refine HSub.at 19 rfl ?_ | refine HSub.segH ?_ | refine HSub.skip ?_ | refine HSub.skipN ?_)) (fun z hz => ?_)
    obtain ⟨m, vo, N, zs⟩ := z
    obtain ⟨hl4, hmp, hm64, hO, hz, hval⟩ := hz
    dsimp only at hl4 hmp hm64 hO hz hval ⊢
    by_cases h0 : 0 < m
    · obtain ⟨hj4, hmp'⟩ := from_pow hmp h0 hl4
      (repeat' (first | refine JC.seq ?_ | refine JC.ops ?_ | refine JO.nil ?_ | refine JX.thenN ?_ | (apply r_move; exact rfl; exact rfl; exact rfl) | (apply r_gtr; exact rfl; exact rfl; exact rfl; exact rfl; all_goals intro hc; all_goals try (exfalso; omega)) | refine JC.skip ?_ | refine JC.condT rfl ?_ | refine JC.block ?_))
      refine r_remU (j := 65536) rfl rfl rfl rfl (by omega) ?_
      refine r_convK (k' := .i64) ((m % 65536 : Nat) : Int) rfl rfl rfl (by rw [IntKind.wrap_i64]; omega) ?_
      (repeat' (first | (apply r_build1; exact rfl; exact rfl; exact rfl; exact rfl; exact rfl; (repeat first | exact trivial | refine ⟨rfl, ?_⟩); decide; decide; intro _)))
      rename_i c2
      refine r_appendN (A := [_, _]) hO (own_lit c2 1 [m % 65536] _ rfl rfl (by decide)).rd (by (repeat' first | exact HSub.nil _ | exact HSub.hd | exact HSub.in0 | exact HSub.refl _ | refine HSub.skip ?_ | refine HSub.skipN ?_)) rfl trivial rfl rfl rfl rfl (by omega) (fun v' N' hO' => ?_)
      (repeat' (first | refine JC.ops ?_ | refine JO.nil ?_ | refine JX.thenN ?_ | (apply r_move; exact rfl; exact rfl; exact rfl) | (apply r_assign; exact rfl; exact rfl; exact rfl)))
      refine r_quoU (j := 65536) rfl rfl rfl rfl (by omega) ?_
      (repeat' (first | refine JO.nil ?_ | (apply r_assign; exact rfl; exact rfl; exact rfl) | refine JX.blockN ?_))
      refine JX.roundH (m / 65536, v', N', zs ++ [m % 65536]) ⟨by simp only [List.length_append, List.length_singleton]; omega, by simp only [List.length_append, List.length_singleton]; exact hmp', by dsimp only; omega, by simp only [List.length_append, List.length_singleton]; exact hO', snoc_lt hz (Nat.mod_lt _ (by decide)), ?_⟩ (by dsimp only; omega) (by repeat first | exact trivial | refine ⟨rfl, ?_⟩) (by (repeat' first | exact HSub.refl _ | exact HSub.nil _ | refine HSub.at 0 rfl ?_ | refine HSub.at 1 rfl ?_ | refine HSub.at 2 rfl ?_ | refine HSub.at 3 rfl ?_ | refine HSub.at 4 rfl ?_ | refine HSub.at 5 rfl ?_ | refine HSub.at 6 rfl ?_ | refine HSub.at 7 rfl ?_ | refine HSub.at 8 rfl ?_ | refine HSub.at 9 rfl ?_ | refine HSub.at 10 rfl ?_ | refine HSub.at 11 rfl ?_ | refine HSub.at 12 rfl ?_ | refine HSub.at 13 rfl ?_ | refine HSub.at 14 rfl ?_ | refine HSub.at 15 rfl ?_ | refine HSub.at 16 rfl ?_ | refine HSub.at 17 rfl ?_ | refine HSub.at 18 rfl ?_ | refine HSub.at 19 rfl ?_ | refine HSub.segH ?_ | refine HSub.skip ?_ | refine HSub.skipN ?_))
      dsimp only
      rw [val_snoc, List.length_append, List.length_singleton, Nat.pow_succ, ← hval, Nat.add_assoc, Nat.mul_assoc, ← Nat.mul_add, Nat.mod_add_div]
    · (repeat' (first | refine JC.seq ?_ | refine JC.ops ?_ | refine JO.nil ?_ | refine JX.thenN ?_ | (apply r_move; exact rfl; exact rfl; exact rfl) | (apply r_lss; exact rfl; exact rfl; exact rfl; exact rfl; all_goals intro hc; all_goals try (exfalso; omega)) | (apply r_gtr; exact rfl; exact rfl; exact rfl; exact rfl; all_goals intro hc; all_goals try (exfalso; omega)) | refine JX.thenE ?_ | refine JC.exit ?_ | refine JC.condF rfl ?_ | refine JX.blockE ?_))
      refine r_call0 trivial rfl rfl rfl (fun w hk hs => c_wideR w _ _ zs false (hO.rd.at hk hs (by (repeat' first | exact HSub.nil _ | exact HSub.hd | exact HSub.in0 | exact HSub.refl _ | refine HSub.skip ?_ | refine HSub.skipN ?_))) hz (by omega)) fun w v w' _ _ _ hR => ?_
      subst hR
      (repeat' (first | refine JO.nil ?_ | refine JX.thenN ?_ | (apply r_storeN; exact rfl; (first | exact trivial | exact ⟨rfl, rfl⟩); exact rfl; exact rfl; (first | exact at0 | exact at1 | exact at2 | exact at3 | exact at4 | exact at5 | exact at6 | exact at7 | exact at8 | exact at9); exact rfl; exact rfl; exact rfl) | (apply r_storeN; exact rfl; (first | exact trivial | exact ⟨rfl, rfl⟩); exact rfl; exact rfl; (first | exact at0 | exact at1 | exact at2 | exact at3 | exact at4 | exact at5 | exact at6 | exact at7 | exact at8 | exact at9); exact rfl; exact rfl; exact rfl) | refine JC.ret ?_))
      obtain rfl : m = 0 := by omega
      rw [Nat.mul_zero, Nat.add_zero] at hval
      exact JX.retC 0 rfl rfl rfl (fun a w' st => ⟨st.kp, by show Wv (sgn false (val B16 zs)) = _; rw [hval]; congr 1; simp only [sgn, if_true, Bool.false_eq_true, if_false]; omega⟩)

end Go.Proofs.YtdlmnloikakjpaaDoor

