/- Walks of field: comparisons. -/
import Derived.Test.YtdoogoglfbohaaaFld1
namespace Go.Proofs.Ytdoogoglfbohaaa
open Go Go.RowKit
set_option linter.unusedSimpArgs false
set_option linter.unusedVariables false
set_option linter.unusedSectionVars false

theorem eq_of_getD {xs ys : List Int} {n k : Nat} (hx : xs.length = n) (hy : ys.length = n) (hk : n ≤ k) (h : ∀ i, i < k → xs.getD i 0 = ys.getD i 0) : xs = ys :=
  ext_getD (d := 0) (hx.trans hy.symm) fun i hi => h i (by omega)
theorem ne_of_getD {xs ys : List Int} {k : Nat} (h : ¬ xs.getD k 0 = ys.getD k 0) : xs ≠ ys := fun e => h (by rw [e])

set_option maxHeartbeats 1000000 in
theorem c_sEqual (w : World) (v u : Value) (n n' : Nat) (xs ys : List Int) (hv : WI w v n xs) (hu : WI w u n' ys) (hn : n < 1000000000) (hn' : n' < 1000000000) :
    Calls Try.prog 47 #[v, u] w (Ret fun v w' => Kp [] w w' ∧ BoolIs (xs = ys) v) := by
  have hl := hv.len
  have hl' := hu.len
  by_cases h : n = n'
  · subst h
    refine calls_of_S [⟨6, 1, [], []⟩] [] (by simp) [] Try.func47 rfl mixed (by kernel_rfl) Try.ntmps47 Try.results47 rfl ⟨by simp, by simp⟩ (by simp) ?_
    simp only [toS, textOps, toSOp, kindAt, kindOf, odAt, sopsAt, ordOf, zipF]
    (repeat' (first | refine JC.seq ?_ | refine JC.ops ?_ | refine JO.nil ?_ | refine JX.thenN ?_ | (apply r_move; exact rfl; exact rfl; exact rfl) | (apply r_assign; exact rfl; exact rfl; exact rfl) | (apply r_lenI; exact rfl; exact rfl; exact rfl; (first | assumption | exact WI.rd (by assumption) rfl [] | exact OwnI.rd (by assumption))) | (apply r_neq; exact rfl; exact rfl; exact rfl; exact rfl; all_goals intro hc; all_goals try (exfalso; omega)) | refine JC.skip ?_ | refine JC.condF rfl ?_ | refine JC.block ?_))
    refine JC.loopH (ι := Nat) ⟨fun k => [(13, nv k), (12, nv n), (0, v), (1, u)], fun _ => [], fun k => k ≤ n ∧ ∀ i, i < k → xs.getD i 0 = ys.getD i 0, fun k => n - k⟩ 0 ⟨by omega, fun i h => by omega⟩ ⟨rfl, rfl, rfl, rfl, trivial⟩ (HSub.nil _) (fun k hk => ?_)
    obtain ⟨hkn, hpr⟩ := hk
    dsimp only
    (repeat' (first | refine JC.seq ?_ | refine JC.ops ?_ | refine JC.opsD ?_ | refine JO.nil ?_ | refine JX.thenN ?_ | (apply r_move; exact rfl; exact rfl; exact rfl) | (apply r_assign; exact rfl; exact rfl; exact rfl) | (apply r_idxI; exact rfl; exact rfl; exact rfl; exact rfl; (first | assumption | exact WI.rd (by assumption) rfl [] | exact OwnI.rd (by assumption)); (first | assumption | omega)) | (apply r_ldI; exact rfl; exact rfl; exact rfl; exact rfl; (first | assumption | exact WI.rd (by assumption) rfl [] | exact OwnI.rd (by assumption)); (repeat' first | exact HSub.nil _ | exact HSub.hd | exact HSub.in0 | exact HSub.refl _ | refine HSub.skip ?_ | refine HSub.skipN ?_); (first | assumption | omega)) | (apply r_add1; exact rfl; exact rfl; exact rfl; exact rfl; omega) | (apply r_lss; exact rfl; exact rfl; exact rfl; exact rfl; all_goals intro hc; all_goals try (exfalso; omega)) | (apply r_neq; exact rfl; exact rfl; exact rfl; exact rfl; all_goals intro hc; all_goals try (exfalso; omega)) | refine JX.thenE ?_ | refine JX.thenR ?_ | refine JC.skip ?_ | refine JC.exit ?_ | refine JC.ret ?_ | refine JC.condT rfl ?_ | refine JC.condF rfl ?_ | refine JC.block ?_ | refine JX.blockN ?_ | refine JX.blockR ?_ | refine JX.blockE ?_))
    · exact JX.ret1 rfl (fun a w' st => ⟨st.kp, BoolIs.f (ne_of_getD hc)⟩)
    · refine JX.roundH (k + 1) ⟨by omega, fun i h => ?_⟩ (by dsimp only; omega) ⟨rfl, rfl, rfl, rfl, trivial⟩ (HSub.nil _)
      rcases Nat.lt_or_ge i k with h' | h'
      · exact hpr i h'
      · have : i = k := by omega
        subst this; omega
    · exact JX.ret1 rfl (fun a w' st => ⟨st.kp, BoolIs.t (eq_of_getD hl hl' (by omega) hpr)⟩)
  · refine calls_of_S [⟨6, 1, [], []⟩] [] (by simp) [] Try.func47 rfl mixed (by kernel_rfl) Try.ntmps47 Try.results47 rfl ⟨by simp, by simp⟩ (by simp) ?_
    simp only [toS, textOps, toSOp, kindAt, kindOf, odAt, sopsAt, ordOf, zipF]
    (repeat' (first | refine JC.seq ?_ | refine JC.ops ?_ | refine JO.nil ?_ | refine JX.thenN ?_ | (apply r_move; exact rfl; exact rfl; exact rfl) | (apply r_assign; exact rfl; exact rfl; exact rfl) | (apply r_lenI; exact rfl; exact rfl; exact rfl; (first | assumption | exact WI.rd (by assumption) rfl [] | exact OwnI.rd (by assumption))) | (apply r_neq; exact rfl; exact rfl; exact rfl; exact rfl; all_goals intro hc; all_goals try (exfalso; omega)) | refine JX.thenR ?_ | refine JC.ret ?_ | refine JC.condT rfl ?_))
    exact JX.ret1 rfl (fun a w' st => ⟨st.kp, BoolIs.f (fun e => h (by rw [← hl, ← hl', e]))⟩)

set_option maxHeartbeats 1000000 in
theorem c_Ints (w : World) (v u : Value) (n n' : Nat) (xs ys : List Int) (hv : WI w v n xs) (hu : WI w u n' ys) (hn : n < 1000000000) (hn' : n' < 1000000000) :
    Calls Try.prog 16 #[v, u] w (Ret fun v w' => Kp [] w w' ∧ BoolIs (xs = ys) v) := by
  have hl := hv.len
  have hl' := hu.len
  by_cases h : n = n'
  · subst h
    refine calls_of_S [⟨6, 1, [], []⟩] [] (by simp) [] Try.func16 rfl mixed (by kernel_rfl) Try.ntmps16 Try.results16 rfl ⟨by simp, by simp⟩ (by simp) ?_
    simp only [toS, textOps, toSOp, kindAt, kindOf, odAt, sopsAt, ordOf, zipF]
    (repeat' (first | refine JC.seq ?_ | refine JC.ops ?_ | refine JO.nil ?_ | refine JX.thenN ?_ | (apply r_move; exact rfl; exact rfl; exact rfl) | (apply r_assign; exact rfl; exact rfl; exact rfl) | (apply r_lenI; exact rfl; exact rfl; exact rfl; (first | assumption | exact WI.rd (by assumption) rfl [] | exact OwnI.rd (by assumption))) | (apply r_neq; exact rfl; exact rfl; exact rfl; exact rfl; all_goals intro hc; all_goals try (exfalso; omega)) | refine JC.skip ?_ | refine JC.condF rfl ?_ | refine JC.block ?_))
    refine JC.loopH (ι := Nat) ⟨fun k => [(5, nv k), (0, v), (1, u)], fun _ => [], fun k => k ≤ n ∧ ∀ i, i < k → xs.getD i 0 = ys.getD i 0, fun k => n - k⟩ 0 ⟨by omega, fun i h => by omega⟩ ⟨rfl, rfl, rfl, trivial⟩ (HSub.nil _) (fun k hk => ?_)
    obtain ⟨hkn, hpr⟩ := hk
    dsimp only
    (repeat' (first | refine JC.seq ?_ | refine JC.ops ?_ | refine JC.opsD ?_ | refine JO.nil ?_ | refine JX.thenN ?_ | (apply r_move; exact rfl; exact rfl; exact rfl) | (apply r_assign; exact rfl; exact rfl; exact rfl) | (apply r_idxI; exact rfl; exact rfl; exact rfl; exact rfl; (first | assumption | exact WI.rd (by assumption) rfl [] | exact OwnI.rd (by assumption)); (first | assumption | omega)) | (apply r_ldI; exact rfl; exact rfl; exact rfl; exact rfl; (first | assumption | exact WI.rd (by assumption) rfl [] | exact OwnI.rd (by assumption)); (repeat' first | exact HSub.nil _ | exact HSub.hd | exact HSub.in0 | exact HSub.refl _ | refine HSub.skip ?_ | refine HSub.skipN ?_); (first | assumption | omega)) | (apply r_lenI; exact rfl; exact rfl; exact rfl; (first | assumption | exact WI.rd (by assumption) rfl [] | exact OwnI.rd (by assumption))) | (apply r_add1; exact rfl; exact rfl; exact rfl; exact rfl; omega) | (apply r_lss; exact rfl; exact rfl; exact rfl; exact rfl; all_goals intro hc; all_goals try (exfalso; omega)) | (apply r_neq; exact rfl; exact rfl; exact rfl; exact rfl; all_goals intro hc; all_goals try (exfalso; omega)) | refine JX.thenE ?_ | refine JX.thenR ?_ | refine JC.skip ?_ | refine JC.exit ?_ | refine JC.ret ?_ | refine JC.condT rfl ?_ | refine JC.condF rfl ?_ | refine JC.block ?_ | refine JX.blockN ?_ | refine JX.blockR ?_ | refine JX.blockE ?_))
    · exact JX.ret1 rfl (fun a w' st => ⟨st.kp, BoolIs.f (ne_of_getD hc)⟩)
    · refine JX.roundH (k + 1) ⟨by omega, fun i h => ?_⟩ (by dsimp only; omega) ⟨rfl, rfl, rfl, trivial⟩ (HSub.nil _)
      rcases Nat.lt_or_ge i k with h' | h'
      · exact hpr i h'
      · have : i = k := by omega
        subst this; omega
    · exact JX.ret1 rfl (fun a w' st => ⟨st.kp, BoolIs.t (eq_of_getD hl hl' (by omega) hpr)⟩)
  · refine calls_of_S [⟨6, 1, [], []⟩] [] (by simp) [] Try.func16 rfl mixed (by kernel_rfl) Try.ntmps16 Try.results16 rfl ⟨by simp, by simp⟩ (by simp) ?_
    simp only [toS, textOps, toSOp, kindAt, kindOf, odAt, sopsAt, ordOf, zipF]
    (repeat' (first | refine JC.seq ?_ | refine JC.ops ?_ | refine JO.nil ?_ | refine JX.thenN ?_ | (apply r_move; exact rfl; exact rfl; exact rfl) | (apply r_assign; exact rfl; exact rfl; exact rfl) | (apply r_lenI; exact rfl; exact rfl; exact rfl; (first | assumption | exact WI.rd (by assumption) rfl [] | exact OwnI.rd (by assumption))) | (apply r_neq; exact rfl; exact rfl; exact rfl; exact rfl; all_goals intro hc; all_goals try (exfalso; omega)) | refine JX.thenR ?_ | refine JC.ret ?_ | refine JC.condT rfl ?_))
    exact JX.ret1 rfl (fun a w' st => ⟨st.kp, BoolIs.f (fun e => h (by rw [← hl, ← hl', e]))⟩)

theorem outside_of {p x : Int} (h : x < 0 ∨ p ≤ x) : ¬ (0 ≤ x ∧ x < p) := by omega

set_option maxHeartbeats 2000000 in
theorem c_refRight (w : World) (v : Value) (a : FM) (ha : IsF w v a) (hl : a.E.length < 1000000000) : Calls Try.prog 34 #[v] w (Ret fun v w' => Kp [] w w' ∧ BoolIs (RF a) v) := by
  obtain ⟨E, rfl, hE⟩ := ha
  unfold fmV
  by_cases hf : Fits a.P a.R a.C
  · obtain ⟨p, r, c, E'⟩ := a
    obtain ⟨p, r, c, rfl, rfl, rfl, hp, hr, hc⟩ := hf
    dsimp only at *
    have hrc := rc_le hr hc
    have hiff := RF.iff (E := E') hp hr hc
    refine calls_of_S [] [] (by simp) [] Try.func34 rfl mixed (by kernel_rfl) Try.ntmps34 Try.results34 rfl ⟨by simp, by simp⟩ (by simp) ?_
    simp only [toS, textOps, toSOp, kindAt, kindOf, odAt, sopsAt, ordOf, zipF]
    (repeat' (first | refine JC.seq ?_ | refine JC.ops ?_ | refine JO.nil ?_ | refine JX.thenN ?_ | (apply r_fieldAddr; exact rfl; exact rfl; exact rfl) | (apply r_assign; exact rfl; exact rfl; exact rfl) | (apply r_load; exact rfl; exact rfl; exact rfl; exact rfl; (first | exact at0 | exact at1 | exact at2 | exact at3 | exact at4 | exact at5 | exact at6 | exact at7); exact rfl) | (apply r_boxA; exact rfl; exact rfl; exact rfl; exact rfl; intro _)))
    rename_i b
    refine r_call0 trivial rfl rfl rfl (fun w _ _ => c_refPrime p w) fun w v w' _ _ _ hR => ?_
    obtain ⟨b', rfl, hb⟩ := hR
    obtain rfl := hb.2 ⟨p, rfl, hp⟩
    (repeat' (first | refine JC.seq ?_ | refine JC.ops ?_ | refine JO.nil ?_ | refine JX.thenN ?_ | (apply r_fieldAddr; exact rfl; exact rfl; exact rfl) | (apply r_assign; exact rfl; exact rfl; exact rfl) | (apply r_load; exact rfl; exact rfl; exact rfl; exact rfl; (first | exact at0 | exact at1 | exact at2 | exact at3 | exact at4 | exact at5 | exact at6 | exact at7); exact rfl)))
    refine r_call0 trivial rfl rfl rfl (fun w _ _ => c_refFits r c w) fun w v w' _ _ _ hR => ?_
    obtain ⟨b', rfl, hb'⟩ := hR
    obtain rfl := hb'.2 (by omega)
    (repeat' (first | refine JC.seq ?_ | refine JC.ops ?_ | refine JO.nil ?_ | refine JX.thenN ?_ | (apply r_move; exact rfl; exact rfl; exact rfl) | (apply r_fieldAddr; exact rfl; exact rfl; exact rfl) | (apply r_assign; exact rfl; exact rfl; exact rfl) | (apply r_load; exact rfl; exact rfl; exact rfl; exact rfl; (first | exact at0 | exact at1 | exact at2 | exact at3 | exact at4 | exact at5 | exact at6 | exact at7); exact rfl) | (apply r_lenI; exact rfl; exact rfl; exact rfl; (first | assumption | exact WI.rd (by assumption) rfl [] | exact OwnI.rd (by assumption))) | (apply r_mulN; exact rfl; exact rfl; exact rfl; exact rfl; (first | assumption | omega)) | (apply r_pickF; exact rfl; exact rfl; exact rfl; exact rfl) | (apply r_not; exact rfl; exact rfl; exact rfl) | (apply r_neq; exact rfl; exact rfl; exact rfl; exact rfl; all_goals intro hc; all_goals try (exfalso; omega)) | refine JX.thenR ?_ | refine JC.skip ?_ | refine JC.ret ?_ | refine JC.condT rfl ?_ | refine JC.condF rfl ?_ | refine JC.block ?_))
    · exact JX.ret1 rfl (fun a w' st => ⟨st.kp, BoolIs.f (fun h => by have := (hiff.1 h).1; omega)⟩)
    · refine JC.loopH (ι := Nat) ⟨fun k => [(5, nv k), (1, .pointer (some ⟨b, 0, none⟩))], fun _ => [(b, .cells #[nv p, nv r, nv c, E] 27)], fun k => k ≤ E'.length ∧ ∀ i, i < k → 0 ≤ E'.getD i 0 ∧ E'.getD i 0 < p, fun k => E'.length - k⟩ 0 ⟨by omega, fun i h => by omega⟩ ⟨rfl, rfl, trivial⟩ (HSub.hd) (fun k hk => ?_)
      obtain ⟨hkn, hpr⟩ := hk
      dsimp only
      (repeat' (first | refine JC.seq ?_ | refine JC.ops ?_ | refine JC.opsD ?_ | refine JO.nil ?_ | refine JX.thenN ?_ | (apply r_move; exact rfl; exact rfl; exact rfl) | (apply r_fieldAddr; exact rfl; exact rfl; exact rfl) | (apply r_assign; exact rfl; exact rfl; exact rfl) | (apply r_load; exact rfl; exact rfl; exact rfl; exact rfl; (first | exact at0 | exact at1 | exact at2 | exact at3 | exact at4 | exact at5 | exact at6 | exact at7); exact rfl) | (apply r_idxI; exact rfl; exact rfl; exact rfl; exact rfl; (first | assumption | exact WI.rd (by assumption) rfl [] | exact OwnI.rd (by assumption)); (first | assumption | omega)) | (apply r_ldI; exact rfl; exact rfl; exact rfl; exact rfl; (first | assumption | exact WI.rd (by assumption) rfl [] | exact OwnI.rd (by assumption)); (repeat' first | exact HSub.nil _ | exact HSub.hd | exact HSub.in0 | exact HSub.refl _ | refine HSub.skip ?_ | refine HSub.skipN ?_); (first | assumption | omega)) | (apply r_lenI; exact rfl; exact rfl; exact rfl; (first | assumption | exact WI.rd (by assumption) rfl [] | exact OwnI.rd (by assumption))) | (apply r_add1; exact rfl; exact rfl; exact rfl; exact rfl; omega) | (apply r_pickT; exact rfl; exact rfl; exact rfl; exact rfl) | (apply r_pickF; exact rfl; exact rfl; exact rfl; exact rfl) | (apply r_lss; exact rfl; exact rfl; exact rfl; exact rfl; all_goals intro hc; all_goals try (exfalso; omega)) | (apply r_geq; exact rfl; exact rfl; exact rfl; exact rfl; all_goals intro hc; all_goals try (exfalso; omega)) | refine JX.thenE ?_ | refine JX.thenR ?_ | refine JC.skip ?_ | refine JC.exit ?_ | refine JC.ret ?_ | refine JC.condT rfl ?_ | refine JC.condF rfl ?_ | refine JC.block ?_ | refine JX.blockN ?_ | refine JX.blockR ?_ | refine JX.blockE ?_ | (apply r_skip; exact rfl; exact rfl; (first | (intro h; cases h; done) | (intro _; rfl)))))
      · exact JX.ret1 rfl (fun a w' st => ⟨st.kp, BoolIs.f (fun h => by have := (hiff.1 h).2 (E'.getD k 0) (mem_getD (by omega)); omega)⟩)
      · exact JX.ret1 rfl (fun a w' st => ⟨st.kp, BoolIs.f (fun h => by have := (hiff.1 h).2 (E'.getD k 0) (mem_getD (by omega)); omega)⟩)
      · refine JX.roundH (k + 1) ⟨by omega, fun i h => ?_⟩ (by dsimp only; omega) ⟨rfl, rfl, trivial⟩ HSub.hd
        rcases Nat.lt_or_ge i k with h' | h'
        · exact hpr i h'
        · have : i = k := by omega
          subst this; omega
      · refine JX.ret1 rfl (fun a w' st => ⟨st.kp, BoolIs.t (hiff.2 ⟨by omega, fun x hx => ?_⟩)⟩)
        obtain ⟨i, hi, rfl⟩ := List.mem_iff_getElem.1 hx
        have := hpr i (by omega)
        simp only [List.getD, List.getElem?_eq_getElem hi, Option.getD_some] at this
        exact this
  · refine calls_of_S [] [] (by simp) [] Try.func34 rfl mixed (by kernel_rfl) Try.ntmps34 Try.results34 rfl ⟨by simp, by simp⟩ (by simp) ?_
    simp only [toS, textOps, toSOp, kindAt, kindOf, odAt, sopsAt, ordOf, zipF]
    (repeat' (first | refine JC.seq ?_ | refine JC.ops ?_ | refine JO.nil ?_ | refine JX.thenN ?_ | (apply r_fieldAddr; exact rfl; exact rfl; exact rfl) | (apply r_assign; exact rfl; exact rfl; exact rfl) | (apply r_load; exact rfl; exact rfl; exact rfl; exact rfl; (first | exact at0 | exact at1 | exact at2 | exact at3 | exact at4 | exact at5 | exact at6 | exact at7); exact rfl) | (apply r_boxA; exact rfl; exact rfl; exact rfl; exact rfl; intro _)))
    refine r_call0 trivial rfl rfl rfl (fun w _ _ => c_refPrime a.P w) fun w v w' _ _ _ hR => ?_
    obtain ⟨b, rfl, hb⟩ := hR
    (repeat' (first | refine JC.seq ?_ | refine JC.ops ?_ | refine JO.nil ?_ | refine JX.thenN ?_ | (apply r_fieldAddr; exact rfl; exact rfl; exact rfl) | (apply r_assign; exact rfl; exact rfl; exact rfl) | (apply r_load; exact rfl; exact rfl; exact rfl; exact rfl; (first | exact at0 | exact at1 | exact at2 | exact at3 | exact at4 | exact at5 | exact at6 | exact at7); exact rfl)))
    refine r_call0 trivial rfl rfl rfl (fun w _ _ => c_refFits a.R a.C w) fun w v w' _ _ _ hR => ?_
    obtain ⟨b', rfl, hb'⟩ := hR
    cases b <;> cases b'
    all_goals try (exfalso; exact hf (Fits.iff.2 ⟨hb.1 rfl, by have := hb'.1 rfl; omega⟩))
    all_goals (repeat' (first | refine JC.seq ?_ | refine JC.ops ?_ | refine JO.nil ?_ | refine JX.thenN ?_ | (apply r_move; exact rfl; exact rfl; exact rfl) | (apply r_assign; exact rfl; exact rfl; exact rfl) | (apply r_pickT; exact rfl; exact rfl; exact rfl; exact rfl) | (apply r_pickF; exact rfl; exact rfl; exact rfl; exact rfl) | (apply r_not; exact rfl; exact rfl; exact rfl) | refine JX.thenR ?_ | refine JC.ret ?_ | refine JC.condT rfl ?_ | (apply r_skip; exact rfl; exact rfl; (first | (intro h; cases h; done) | (intro _; rfl)))))
    all_goals exact JX.ret1 rfl (fun a w' st => ⟨st.kp, BoolIs.f (not_fits_not_right hf)⟩)

/-- Two right matrices of one field. -/
def OneF (a b : FM) : Prop := RF a ∧ RF b ∧ a.P = b.P

set_option maxHeartbeats 1000000 in
theorem c_one (w : World) (v u : Value) (a b : FM) (ha : IsF w v a) (hb : IsF w u b) (hl : a.E.length < 1000000000) (hl' : b.E.length < 1000000000) : Calls Try.prog 46 #[v, u] w (Ret fun v w' => Kp [] w w' ∧ BoolIs (OneF a b) v) := by
  obtain ⟨E, rfl, hE⟩ := ha
  obtain ⟨E', rfl, hE'⟩ := hb
  unfold fmV
  refine calls_of_S [] [] (by simp) [] Try.func46 rfl mixed (by kernel_rfl) Try.ntmps46 Try.results46 rfl ⟨by simp, by simp⟩ (by simp) ?_
  simp only [toS, textOps, toSOp, kindAt, kindOf, odAt, sopsAt, ordOf, zipF]
  (repeat' (first | refine JC.seq ?_ | refine JC.ops ?_ | refine JO.nil ?_ | refine JX.thenN ?_ | (apply r_assign; exact rfl; exact rfl; exact rfl) | (apply r_loadN; exact rfl; exact rfl; exact rfl; exact rfl; (first | exact at0 | exact at1 | exact at2 | exact at3 | exact at4 | exact at5 | exact at6 | exact at7); exact rfl) | (apply r_boxA; exact rfl; exact rfl; exact rfl; exact rfl; intro _)))
  refine r_call0 trivial rfl rfl rfl (fun w hk _ => c_Right w _ a ⟨E, rfl, hE.mono hk⟩ (by omega)) fun w v w' _ _ _ hR => ?_
  obtain ⟨b', rfl, hb⟩ := hR
  cases b'
  · (repeat' (first | refine JO.nil ?_ | refine JX.thenN ?_ | (apply r_move; exact rfl; exact rfl; exact rfl) | (apply r_assign; exact rfl; exact rfl; exact rfl) | (apply r_pickF; exact rfl; exact rfl; exact rfl; exact rfl) | refine JC.ret ?_ | (apply r_skip; exact rfl; exact rfl; (first | (intro h; cases h; done) | (intro _; rfl)))))
    exact JX.ret1 rfl (fun a w' st => ⟨st.kp, BoolIs.f (fun h => by cases hb.2 h.1)⟩)
  · (repeat' (first | (apply r_move; exact rfl; exact rfl; exact rfl) | (apply r_loadN; exact rfl; exact rfl; exact rfl; exact rfl; (first | exact at0 | exact at1 | exact at2 | exact at3 | exact at4 | exact at5 | exact at6 | exact at7); exact rfl)))
    refine r_call0 trivial rfl rfl rfl (fun w hk _ => c_Right w _ b ⟨E', rfl, hE'.mono hk⟩ (by omega)) fun w v w' _ _ _ hR => ?_
    obtain ⟨b', rfl, hb'⟩ := hR
    cases b'
    · (repeat' (first | refine JO.nil ?_ | refine JX.thenN ?_ | (apply r_move; exact rfl; exact rfl; exact rfl) | (apply r_assign; exact rfl; exact rfl; exact rfl) | (apply r_pickT; exact rfl; exact rfl; exact rfl; exact rfl) | (apply r_pickF; exact rfl; exact rfl; exact rfl; exact rfl) | refine JC.ret ?_ | (apply r_skip; exact rfl; exact rfl; (first | (intro h; cases h; done) | (intro _; rfl)))))
      exact JX.ret1 rfl (fun a w' st => ⟨st.kp, BoolIs.f (fun h => by cases hb'.2 h.2.1)⟩)
    · (repeat' (first | refine JO.nil ?_ | refine JX.thenN ?_ | (apply r_move; exact rfl; exact rfl; exact rfl) | (apply r_fieldAddr; exact rfl; exact rfl; exact rfl) | (apply r_assign; exact rfl; exact rfl; exact rfl) | (apply r_load; exact rfl; exact rfl; exact rfl; exact rfl; (first | exact at0 | exact at1 | exact at2 | exact at3 | exact at4 | exact at5 | exact at6 | exact at7); exact rfl) | (apply r_pickT; exact rfl; exact rfl; exact rfl; exact rfl) | (apply r_eql; exact rfl; exact rfl; exact rfl; exact rfl; all_goals intro hc; all_goals try (exfalso; omega)) | refine JC.ret ?_))
      · exact JX.ret1 rfl (fun a w' st => ⟨st.kp, BoolIs.t ⟨hb.1 rfl, hb'.1 rfl, hc⟩⟩)
      · exact JX.ret1 rfl (fun a w' st => ⟨st.kp, BoolIs.f fun h => hc h.2.2⟩)

set_option maxHeartbeats 1000000 in
theorem c_refone (w : World) (v u : Value) (a b : FM) (ha : IsF w v a) (hb : IsF w u b) (hl : a.E.length < 1000000000) (hl' : b.E.length < 1000000000) : Calls Try.prog 52 #[v, u] w (Ret fun v w' => Kp [] w w' ∧ BoolIs (OneF a b) v) := by
  obtain ⟨E, rfl, hE⟩ := ha
  obtain ⟨E', rfl, hE'⟩ := hb
  unfold fmV
  refine calls_of_S [] [] (by simp) [] Try.func52 rfl mixed (by kernel_rfl) Try.ntmps52 Try.results52 rfl ⟨by simp, by simp⟩ (by simp) ?_
  simp only [toS, textOps, toSOp, kindAt, kindOf, odAt, sopsAt, ordOf, zipF]
  (repeat' (first | refine JC.seq ?_ | refine JC.ops ?_ | refine JO.nil ?_ | refine JX.thenN ?_ | (apply r_assign; exact rfl; exact rfl; exact rfl) | (apply r_loadN; exact rfl; exact rfl; exact rfl; exact rfl; (first | exact at0 | exact at1 | exact at2 | exact at3 | exact at4 | exact at5 | exact at6 | exact at7); exact rfl) | (apply r_boxA; exact rfl; exact rfl; exact rfl; exact rfl; intro _)))
  refine r_call0 trivial rfl rfl rfl (fun w hk _ => c_refRight w _ a ⟨E, rfl, hE.mono hk⟩ (by omega)) fun w v w' _ _ _ hR => ?_
  obtain ⟨b', rfl, hb⟩ := hR
  (repeat' (first | refine JC.seq ?_ | refine JC.ops ?_ | refine JO.nil ?_ | refine JX.thenN ?_ | (apply r_assign; exact rfl; exact rfl; exact rfl) | (apply r_loadN; exact rfl; exact rfl; exact rfl; exact rfl; (first | exact at0 | exact at1 | exact at2 | exact at3 | exact at4 | exact at5 | exact at6 | exact at7); exact rfl)))
  refine r_call0 trivial rfl rfl rfl (fun w hk _ => c_refRight w _ b ⟨E', rfl, hE'.mono hk⟩ (by omega)) fun w v w' _ _ _ hR => ?_
  obtain ⟨b'', rfl, hb'⟩ := hR
  cases b' <;> cases b'' <;> (repeat' (first | refine JC.seq ?_ | refine JC.ops ?_ | refine JO.nil ?_ | refine JX.thenN ?_ | (apply r_move; exact rfl; exact rfl; exact rfl) | (apply r_fieldAddr; exact rfl; exact rfl; exact rfl) | (apply r_assign; exact rfl; exact rfl; exact rfl) | (apply r_load; exact rfl; exact rfl; exact rfl; exact rfl; (first | exact at0 | exact at1 | exact at2 | exact at3 | exact at4 | exact at5 | exact at6 | exact at7); exact rfl) | (apply r_pickT; exact rfl; exact rfl; exact rfl; exact rfl) | (apply r_pickF; exact rfl; exact rfl; exact rfl; exact rfl) | (apply r_eql; exact rfl; exact rfl; exact rfl; exact rfl; all_goals intro hc; all_goals try (exfalso; omega)) | refine JC.ret ?_ | (apply r_skip; exact rfl; exact rfl; (first | (intro h; cases h; done) | (intro _; rfl)))))
  · exact JX.ret1 rfl (fun a w' st => ⟨st.kp, BoolIs.f (fun h => by cases hb.2 h.1)⟩)
  · exact JX.ret1 rfl (fun a w' st => ⟨st.kp, BoolIs.f (fun h => by cases hb.2 h.1)⟩)
  · exact JX.ret1 rfl (fun a w' st => ⟨st.kp, BoolIs.f (fun h => by cases hb'.2 h.2.1)⟩)
  · exact JX.ret1 rfl (fun a w' st => ⟨st.kp, BoolIs.t ⟨hb.1 rfl, hb'.1 rfl, hc⟩⟩)
  · exact JX.ret1 rfl (fun a w' st => ⟨st.kp, BoolIs.f fun h => hc h.2.2⟩)

theorem FM.ext' {a b : FM} (h1 : a.P = b.P) (h2 : a.R = b.R) (h3 : a.C = b.C) (h4 : a.E = b.E) : a = b := by
  cases a; cases b; simp_all

set_option maxHeartbeats 1000000 in
theorem c_Same (w : World) (v u : Value) (a b : FM) (ha : IsF w v a) (hb : IsF w u b) (hl : a.E.length < 1000000000) (hl' : b.E.length < 1000000000) : Calls Try.prog 26 #[v, u] w (Ret fun v w' => Kp [] w w' ∧ BoolIs (a = b) v) := by
  obtain ⟨E, rfl, hE⟩ := ha
  obtain ⟨E', rfl, hE'⟩ := hb
  unfold fmV
  refine calls_of_S [] [] (by simp) [] Try.func26 rfl mixed (by kernel_rfl) Try.ntmps26 Try.results26 rfl ⟨by simp, by simp⟩ (by simp) ?_
  simp only [toS, textOps, toSOp, kindAt, kindOf, odAt, sopsAt, ordOf, zipF]
  (repeat' (first | refine JC.seq ?_ | refine JC.ops ?_ | refine JO.nil ?_ | refine JX.thenN ?_ | (apply r_move; exact rfl; exact rfl; exact rfl) | (apply r_fieldAddr; exact rfl; exact rfl; exact rfl) | (apply r_assign; exact rfl; exact rfl; exact rfl) | (apply r_load; exact rfl; exact rfl; exact rfl; exact rfl; (first | exact at0 | exact at1 | exact at2 | exact at3 | exact at4 | exact at5 | exact at6 | exact at7); exact rfl) | (apply r_pickT; exact rfl; exact rfl; exact rfl; exact rfl) | (apply r_pickF; exact rfl; exact rfl; exact rfl; exact rfl) | (apply r_neq; exact rfl; exact rfl; exact rfl; exact rfl; all_goals intro hc; all_goals try (exfalso; omega)) | (apply r_boxA; exact rfl; exact rfl; exact rfl; exact rfl; intro _) | refine JX.thenR ?_ | refine JC.skip ?_ | refine JC.ret ?_ | refine JC.condT rfl ?_ | refine JC.condF rfl ?_ | (apply r_skip; exact rfl; exact rfl; (first | (intro h; cases h; done) | (intro _; rfl)))))
  · exact JX.ret1 rfl (fun a w' st => ⟨st.kp, BoolIs.f fun h => hc (by rw [h])⟩)
  · exact JX.ret1 rfl (fun a w' st => ⟨st.kp, BoolIs.f fun h => hc (by rw [h])⟩)
  · exact JX.ret1 rfl (fun a w' st => ⟨st.kp, BoolIs.f fun h => hc (by rw [h])⟩)
  · refine r_call0 trivial rfl rfl rfl (fun w hk _ => c_Ints w _ _ _ _ _ _ (hE.mono hk) (hE'.mono hk) hl hl') fun w v w' _ _ _ hR => ?_
    obtain ⟨b', rfl, hb⟩ := hR
    (repeat' (first | refine JO.nil ?_ | refine JX.thenN ?_ | (apply r_assign; exact rfl; exact rfl; exact rfl) | refine JC.ret ?_))
    refine JX.ret1 rfl (fun a w' st => ⟨st.kp, b', rfl, hb.trans ⟨fun h => ?_, fun h => by rw [h]⟩⟩)
    exact FM.ext' (by omega) (by omega) (by omega) h

set_option maxHeartbeats 1000000 in
theorem c_Equal (w : World) (v u : Value) (a b : FM) (ha : IsF w v a) (hb : IsF w u b) (hl : a.E.length < 1000000000) (hl' : b.E.length < 1000000000) : Calls Try.prog 15 #[v, u] w (Ret fun v w' => Kp [] w w' ∧ BoolIs (RF a ∧ a = b) v) := by
  obtain ⟨E, rfl, hE⟩ := ha
  obtain ⟨E', rfl, hE'⟩ := hb
  unfold fmV
  refine calls_of_S [] [] (by simp) [] Try.func15 rfl mixed (by kernel_rfl) Try.ntmps15 Try.results15 rfl ⟨by simp, by simp⟩ (by simp) ?_
  simp only [toS, textOps, toSOp, kindAt, kindOf, odAt, sopsAt, ordOf, zipF]
  (repeat' (first | refine JC.seq ?_ | refine JC.ops ?_ | refine JO.nil ?_ | refine JX.thenN ?_ | (apply r_assign; exact rfl; exact rfl; exact rfl) | (apply r_loadN; exact rfl; exact rfl; exact rfl; exact rfl; (first | exact at0 | exact at1 | exact at2 | exact at3 | exact at4 | exact at5 | exact at6 | exact at7); exact rfl) | (apply r_boxA; exact rfl; exact rfl; exact rfl; exact rfl; intro _)))
  refine r_call0 trivial rfl rfl rfl (fun w hk _ => c_one w _ _ a b ⟨E, rfl, hE.mono hk⟩ ⟨E', rfl, hE'.mono hk⟩ (by omega) (by omega)) fun w v w' _ _ _ hR => ?_
  obtain ⟨b', rfl, hb⟩ := hR
  cases b'
  · (repeat' (first | refine JO.nil ?_ | refine JX.thenN ?_ | (apply r_move; exact rfl; exact rfl; exact rfl) | (apply r_assign; exact rfl; exact rfl; exact rfl) | (apply r_pickF; exact rfl; exact rfl; exact rfl; exact rfl) | refine JC.ret ?_ | (apply r_skip; exact rfl; exact rfl; (first | (intro h; cases h; done) | (intro _; rfl)))))
    exact JX.ret1 rfl (fun a w' st => ⟨st.kp, BoolIs.f (fun h => by cases hb.2 ⟨h.1, h.2 ▸ h.1, by rw [h.2]⟩)⟩)
  · have h1 := hb.1 rfl
    (repeat' (first | refine JO.nil ?_ | refine JX.thenN ?_ | (apply r_move; exact rfl; exact rfl; exact rfl) | (apply r_fieldAddr; exact rfl; exact rfl; exact rfl) | (apply r_assign; exact rfl; exact rfl; exact rfl) | (apply r_load; exact rfl; exact rfl; exact rfl; exact rfl; (first | exact at0 | exact at1 | exact at2 | exact at3 | exact at4 | exact at5 | exact at6 | exact at7); exact rfl) | (apply r_pickT; exact rfl; exact rfl; exact rfl; exact rfl) | (apply r_pickF; exact rfl; exact rfl; exact rfl; exact rfl) | (apply r_eql; exact rfl; exact rfl; exact rfl; exact rfl; all_goals intro hc; all_goals try (exfalso; omega)) | refine JC.ret ?_ | (apply r_skip; exact rfl; exact rfl; (first | (intro h; cases h; done) | (intro _; rfl)))))
    · refine r_call0 trivial rfl rfl rfl (fun w hk _ => c_sEqual w _ _ _ _ _ _ (hE.mono hk) (hE'.mono hk) hl hl') fun w v w' _ _ _ hR => ?_
      obtain ⟨b', rfl, hb⟩ := hR
      (repeat' (first | refine JO.nil ?_ | refine JX.thenN ?_ | (apply r_assign; exact rfl; exact rfl; exact rfl) | (apply r_pickT; exact rfl; exact rfl; exact rfl; exact rfl) | refine JC.ret ?_))
      refine JX.ret1 rfl (fun a w' st => ⟨st.kp, b', rfl, hb.trans ⟨fun h => ⟨h1.1, ?_⟩, fun h => by rw [h.2]⟩⟩)
      exact FM.ext' h1.2.2 (by omega) (by omega) h
    · exact JX.ret1 rfl (fun a w' st => ⟨st.kp, BoolIs.f fun h => hc (by rw [h.2])⟩)
    · exact JX.ret1 rfl (fun a w' st => ⟨st.kp, BoolIs.f fun h => hc (by rw [h.2])⟩)

set_option maxHeartbeats 1000000 in
theorem c_refEqual (w : World) (v u : Value) (a b : FM) (ha : IsF w v a) (hb : IsF w u b) (hl : a.E.length < 1000000000) (hl' : b.E.length < 1000000000) : Calls Try.prog 42 #[v, u] w (Ret fun v w' => Kp [] w w' ∧ BoolIs (RF a ∧ a = b) v) := by
  obtain ⟨E, rfl, hE⟩ := ha
  obtain ⟨E', rfl, hE'⟩ := hb
  unfold fmV
  refine calls_of_S [] [] (by simp) [] Try.func42 rfl mixed (by kernel_rfl) Try.ntmps42 Try.results42 rfl ⟨by simp, by simp⟩ (by simp) ?_
  simp only [toS, textOps, toSOp, kindAt, kindOf, odAt, sopsAt, ordOf, zipF]
  (repeat' (first | refine JC.seq ?_ | refine JC.ops ?_ | refine JO.nil ?_ | refine JX.thenN ?_ | (apply r_assign; exact rfl; exact rfl; exact rfl) | (apply r_loadN; exact rfl; exact rfl; exact rfl; exact rfl; (first | exact at0 | exact at1 | exact at2 | exact at3 | exact at4 | exact at5 | exact at6 | exact at7); exact rfl) | (apply r_boxA; exact rfl; exact rfl; exact rfl; exact rfl; intro _)))
  refine r_call0 trivial rfl rfl rfl (fun w hk _ => c_refone w _ _ a b ⟨E, rfl, hE.mono hk⟩ ⟨E', rfl, hE'.mono hk⟩ (by omega) (by omega)) fun w v w' _ _ _ hR => ?_
  obtain ⟨b', rfl, hb⟩ := hR
  cases b'
  · (repeat' (first | refine JC.seq ?_ | refine JC.ops ?_ | refine JO.nil ?_ | refine JX.thenN ?_ | (apply r_move; exact rfl; exact rfl; exact rfl) | (apply r_assign; exact rfl; exact rfl; exact rfl) | (apply r_pickF; exact rfl; exact rfl; exact rfl; exact rfl) | refine JC.ret ?_ | (apply r_skip; exact rfl; exact rfl; (first | (intro h; cases h; done) | (intro _; rfl)))))
    exact JX.ret1 rfl (fun a w' st => ⟨st.kp, BoolIs.f (fun h => by cases hb.2 ⟨h.1, h.2 ▸ h.1, by rw [h.2]⟩)⟩)
  · have h1 := hb.1 rfl
    (repeat' (first | refine JC.seq ?_ | refine JC.ops ?_ | refine JO.nil ?_ | refine JX.thenN ?_ | (apply r_move; exact rfl; exact rfl; exact rfl) | (apply r_assign; exact rfl; exact rfl; exact rfl) | (apply r_loadN; exact rfl; exact rfl; exact rfl; exact rfl; (first | exact at0 | exact at1 | exact at2 | exact at3 | exact at4 | exact at5 | exact at6 | exact at7); exact rfl)))
    refine r_call0 trivial rfl rfl rfl (fun w hk _ => c_Same w _ _ a b ⟨E, rfl, hE.mono hk⟩ ⟨E', rfl, hE'.mono hk⟩ (by omega) (by omega)) fun w v w' _ _ _ hR => ?_
    obtain ⟨b', rfl, hb⟩ := hR
    (repeat' (first | refine JO.nil ?_ | refine JX.thenN ?_ | (apply r_assign; exact rfl; exact rfl; exact rfl) | (apply r_pickT; exact rfl; exact rfl; exact rfl; exact rfl) | refine JC.ret ?_))
    exact JX.ret1 rfl (fun a w' st => ⟨st.kp, b', rfl, hb.trans ⟨fun h => ⟨h1.1, h⟩, fun h => h.2⟩⟩)

end Go.Proofs.Ytdoogoglfbohaaa
