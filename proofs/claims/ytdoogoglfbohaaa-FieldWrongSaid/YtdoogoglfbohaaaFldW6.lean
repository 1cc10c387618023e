/- Walks of field: echelon forms, ranks, members of lists. -/
import Derived.Test.YtdoogoglfbohaaaFldW5
import Derived.Test.YtdoogoglfbohaaaExL
namespace Go.Proofs.Ytdoogoglfbohaaa
open Go Go.RowKit
set_option linter.unusedSimpArgs false
set_option linter.unusedVariables false
set_option linter.unusedSectionVars false

theorem echM_els {m : NM} (hm : Big m) : (echM m).e.length = m.r * m.c := by
  haveI := hm.pr.nz
  exact (redTo_ok hm.pr hm.els m.c (Nat.le_refl _)).els.len
theorem piv_le {m : NM} (hm : Big m) : (pivM m).length ≤ m.r := by
  haveI := hm.pr.nz
  exact (redTo_ok hm.pr hm.els m.c (Nat.le_refl _)).red.kr

set_option maxHeartbeats 2000000 in
theorem c_Echelon (w : World) (v : Value) (m : NM) (hm : Rt m) (hv : IsM w v m) :
    Calls Try.prog 13 #[v] w (Ret fun v w' => Kp [] w w' ∧ GivesML (echM m) (pivM m) w v w') := by
  have hv0 := hv
  obtain ⟨E, rfl, hE⟩ := hv
  refine calls_of_S [] [] (by simp) [] Try.func13 rfl mixed (by kernel_rfl) Try.ntmps13 Try.results13 rfl ⟨by simp, by simp⟩ (by simp) ?_
  simp only [toS, textOps, toSOp, kindAt, kindOf, odAt, sopsAt, ordOf, zipF]
  (repeat' (first | refine JC.seq ?_ | refine JC.ops ?_ | refine JO.nil ?_ | refine JX.thenN ?_ | (apply r_assign; exact rfl; exact rfl; exact rfl) | (apply r_loadN; exact rfl; exact rfl; exact rfl; exact rfl; (first | exact at0 | exact at1 | exact at2 | exact at3 | exact at4 | exact at5 | exact at6 | exact at7); exact rfl) | (apply r_allocZ; exact rfl; exact rfl; exact rfl; intro _) | (apply r_boxA; exact rfl; exact rfl; exact rfl; exact rfl; intro _)))
  refine r_call0 trivial rfl rfl rfl (fun w hk _ => c_Right w _ m.fm (hv0.f.mono hk) (by have := hm.flen; omega)) fun w v w' _ _ _ hR => ?_
  obtain ⟨b', rfl, hb⟩ := hR
  obtain rfl := hb.2 hm.rf
  (repeat' (first | refine JC.seq ?_ | refine JC.ops ?_ | refine JO.nil ?_ | refine JX.thenN ?_ | (apply r_loadN; exact rfl; exact rfl; exact rfl; exact rfl; (first | exact at0 | exact at1 | exact at2 | exact at3 | exact at4 | exact at5 | exact at6 | exact at7); exact rfl) | (apply r_not; exact rfl; exact rfl; exact rfl) | refine JC.skip ?_ | refine JC.condF rfl ?_))
  refine r_callA (A := [_, _]) (B := []) rfl trivial rfl rfl rfl (fun w hk _ => c_reduce w _ m hm.big (hv0.mono hk)) fun w v w' _ _ _ hR => ?_
  obtain ⟨N, N2, u, x, rfl, hN, ⟨Eo, rfl, hO⟩, hO2⟩ := hR
  obtain ⟨Ao, co, rfl⟩ := hO.form
  refine ⟨_, hN, ?_⟩
  (repeat' (first | refine JO.nil ?_ | refine JX.thenN ?_ | (apply r_assign; exact rfl; exact rfl; exact rfl) | (apply r_extract; exact rfl; exact rfl; exact rfl; exact rfl) | (apply r_storeN; exact rfl; (first | exact trivial | exact ⟨rfl, rfl⟩); exact rfl; exact rfl; (first | exact at0 | exact at1 | exact at2 | exact at3 | exact at4 | exact at5 | exact at6 | exact at7); exact rfl; exact rfl; exact rfl) | refine JC.ret ?_))
  refine JX.retCT 0 rfl rfl rfl rfl (fun a w' st => ⟨st.kp, N, N2, _, _, rfl, st.newOf rfl (by (repeat' first | exact HSub.nil _ | exact HSub.hd | exact HSub.in0 | exact HSub.refl _ | refine HSub.skip ?_ | refine HSub.skipN ?_)), ⟨_, rfl, hO⟩, hO2⟩)

set_option maxHeartbeats 2000000 in
theorem c_refEchelon (w : World) (v : Value) (m : NM) (hm : Rt m) (hv : IsM w v m) :
    Calls Try.prog 31 #[v] w (Ret fun v w' => Kp [] w w' ∧ GivesML (echM m) (pivM m) w v w') := by
  have hv0 := hv
  obtain ⟨E, rfl, hE⟩ := hv
  refine calls_of_S [] [] (by simp) [] Try.func31 rfl mixed (by kernel_rfl) Try.ntmps31 Try.results31 rfl ⟨by simp, by simp⟩ (by simp) ?_
  simp only [toS, textOps, toSOp, kindAt, kindOf, odAt, sopsAt, ordOf, zipF]
  (repeat' (first | refine JC.seq ?_ | refine JC.ops ?_ | refine JO.nil ?_ | refine JX.thenN ?_ | (apply r_assign; exact rfl; exact rfl; exact rfl) | (apply r_loadN; exact rfl; exact rfl; exact rfl; exact rfl; (first | exact at0 | exact at1 | exact at2 | exact at3 | exact at4 | exact at5 | exact at6 | exact at7); exact rfl) | (apply r_allocZ; exact rfl; exact rfl; exact rfl; intro _) | (apply r_boxA; exact rfl; exact rfl; exact rfl; exact rfl; intro _)))
  refine r_call0 trivial rfl rfl rfl (fun w hk _ => c_refRight w _ m.fm (hv0.f.mono hk) hm.flen) fun w v w' _ _ _ hR => ?_
  obtain ⟨b', rfl, hb⟩ := hR
  obtain rfl := hb.2 hm.rf
  (repeat' (first | refine JC.seq ?_ | refine JC.ops ?_ | refine JO.nil ?_ | refine JX.thenN ?_ | (apply r_move; exact rfl; exact rfl; exact rfl) | (apply r_assign; exact rfl; exact rfl; exact rfl) | (apply r_loadN; exact rfl; exact rfl; exact rfl; exact rfl; (first | exact at0 | exact at1 | exact at2 | exact at3 | exact at4 | exact at5 | exact at6 | exact at7); exact rfl) | (apply r_not; exact rfl; exact rfl; exact rfl) | refine JC.skip ?_ | refine JC.condF rfl ?_))
  refine r_callA (A := [_, _]) (B := []) rfl trivial rfl rfl rfl (fun w hk _ => c_refreduce w _ m hm.big (hv0.mono hk)) fun w v w' _ _ _ hR => ?_
  obtain ⟨N, N2, u, x, rfl, hN, ⟨Eo, rfl, hO⟩, hO2⟩ := hR
  obtain ⟨Ao, co, rfl⟩ := hO.form
  refine ⟨_, hN, ?_⟩
  (repeat' (first | refine JO.nil ?_ | refine JX.thenN ?_ | (apply r_assign; exact rfl; exact rfl; exact rfl) | (apply r_extract; exact rfl; exact rfl; exact rfl; exact rfl) | (apply r_storeN; exact rfl; (first | exact trivial | exact ⟨rfl, rfl⟩); exact rfl; exact rfl; (first | exact at0 | exact at1 | exact at2 | exact at3 | exact at4 | exact at5 | exact at6 | exact at7); exact rfl; exact rfl; exact rfl) | refine JC.ret ?_))
  refine JX.retCT 0 rfl rfl rfl rfl (fun a w' st => ⟨st.kp, N, N2, _, _, rfl, st.newOf rfl (by (repeat' first | exact HSub.nil _ | exact HSub.hd | exact HSub.in0 | exact HSub.refl _ | refine HSub.skip ?_ | refine HSub.skipN ?_)), ⟨_, rfl, hO⟩, hO2⟩)

theorem c_EchelonF (w : World) (v : Value) (a : FM) (h : ¬ RF a) (ha : IsF w v a) (hl : a.E.length < 1000000000) :
    Calls Try.prog 13 #[v] w (Ret fun v w' => Kp [] w w' ∧ v = .tuple #[zeroV, .slice none 0 0]) := by
  have hvF := ha
  obtain ⟨E, rfl, hE⟩ := ha
  unfold fmV
  refine calls_of_S [] [] (by simp) [] Try.func13 rfl mixed (by kernel_rfl) Try.ntmps13 Try.results13 rfl ⟨by simp, by simp⟩ (by simp) ?_
  simp only [toS, textOps, toSOp, kindAt, kindOf, odAt, sopsAt, ordOf, zipF]
  (repeat' (first | refine JC.seq ?_ | refine JC.ops ?_ | refine JO.nil ?_ | refine JX.thenN ?_ | (apply r_assign; exact rfl; exact rfl; exact rfl) | (apply r_loadN; exact rfl; exact rfl; exact rfl; exact rfl; (first | exact at0 | exact at1 | exact at2 | exact at3 | exact at4 | exact at5 | exact at6 | exact at7); exact rfl) | (apply r_allocZ; exact rfl; exact rfl; exact rfl; intro _) | (apply r_boxA; exact rfl; exact rfl; exact rfl; exact rfl; intro _)))
  refine r_call0 trivial rfl rfl rfl (fun w hk _ => c_Right w _ a (hvF.mono hk) (by omega)) fun w v w' _ _ _ hR => ?_
  obtain ⟨b', rfl, hb⟩ := hR
  cases b'
  · (repeat' (first | refine JC.seq ?_ | refine JC.ops ?_ | refine JO.nil ?_ | refine JX.thenN ?_ | (apply r_assign; exact rfl; exact rfl; exact rfl) | (apply r_not; exact rfl; exact rfl; exact rfl) | (apply r_buildL; exact rfl; exact rfl; exact rfl; exact rfl; exact rfl) | (apply r_storeN; exact rfl; (first | exact trivial | exact ⟨rfl, rfl⟩); exact rfl; exact rfl; (first | exact at0 | exact at1 | exact at2 | exact at3 | exact at4 | exact at5 | exact at6 | exact at7); exact rfl; exact rfl; exact rfl) | refine JX.thenR ?_ | refine JC.ret ?_ | refine JC.condT rfl ?_))
    exact JX.retCT 0 rfl rfl rfl rfl (fun a w' st => ⟨st.kp, rfl⟩)
  · exact absurd (hb.1 rfl) h
theorem c_refEchelonF (w : World) (v : Value) (a : FM) (h : ¬ RF a) (ha : IsF w v a) (hl : a.E.length < 1000000000) :
    Calls Try.prog 31 #[v] w (Ret fun v w' => Kp [] w w' ∧ v = .tuple #[zeroV, .slice none 0 0]) := by
  have hvF := ha
  obtain ⟨E, rfl, hE⟩ := ha
  unfold fmV
  refine calls_of_S [] [] (by simp) [] Try.func31 rfl mixed (by kernel_rfl) Try.ntmps31 Try.results31 rfl ⟨by simp, by simp⟩ (by simp) ?_
  simp only [toS, textOps, toSOp, kindAt, kindOf, odAt, sopsAt, ordOf, zipF]
  (repeat' (first | refine JC.seq ?_ | refine JC.ops ?_ | refine JO.nil ?_ | refine JX.thenN ?_ | (apply r_assign; exact rfl; exact rfl; exact rfl) | (apply r_loadN; exact rfl; exact rfl; exact rfl; exact rfl; (first | exact at0 | exact at1 | exact at2 | exact at3 | exact at4 | exact at5 | exact at6 | exact at7); exact rfl) | (apply r_allocZ; exact rfl; exact rfl; exact rfl; intro _) | (apply r_boxA; exact rfl; exact rfl; exact rfl; exact rfl; intro _)))
  refine r_call0 trivial rfl rfl rfl (fun w hk _ => c_refRight w _ a (hvF.mono hk) (by omega)) fun w v w' _ _ _ hR => ?_
  obtain ⟨b', rfl, hb⟩ := hR
  cases b'
  · (repeat' (first | refine JC.seq ?_ | refine JC.ops ?_ | refine JO.nil ?_ | refine JX.thenN ?_ | (apply r_move; exact rfl; exact rfl; exact rfl) | (apply r_assign; exact rfl; exact rfl; exact rfl) | (apply r_not; exact rfl; exact rfl; exact rfl) | (apply r_buildL; exact rfl; exact rfl; exact rfl; exact rfl; exact rfl) | (apply r_storeN; exact rfl; (first | exact trivial | exact ⟨rfl, rfl⟩); exact rfl; exact rfl; (first | exact at0 | exact at1 | exact at2 | exact at3 | exact at4 | exact at5 | exact at6 | exact at7); exact rfl; exact rfl; exact rfl) | refine JX.thenR ?_ | refine JC.ret ?_ | refine JC.condT rfl ?_))
    exact JX.retCT 0 rfl rfl rfl rfl (fun a w' st => ⟨st.kp, rfl⟩)
  · exact absurd (hb.1 rfl) h

/-- The rank of a matrix, right or not. -/
def rankF (a : FM) : Nat := match toN a with
  | some m => (pivM m).length
  | none => 0
theorem rankF_fm {m : NM} (hm : Rt m) : rankF m.fm = (pivM m).length := by unfold rankF; rw [toN_fm hm]
theorem toN_rf {a : FM} (h : RF a) : ∃ m, toN a = some m ∧ a = m.fm ∧ Rt m := by
  obtain ⟨m, hm, rfl⟩ := h
  exact ⟨m, toN_fm hm, rfl, hm⟩
theorem toN_nrf {a : FM} (h : ¬ RF a) : toN a = none := by
  cases ht : toN a with
  | none => rfl
  | some m => obtain ⟨h1, h2⟩ := toN_some ht; exact absurd ⟨m, h2, h1⟩ h
theorem rankF_nrf {a : FM} (h : ¬ RF a) : rankF a = 0 := by unfold rankF; rw [toN_nrf h]

set_option maxHeartbeats 2000000 in
theorem c_Rank (w : World) (v : Value) (a : FM) (hv : IsF w v a) (hl : a.E.length < 1000000000) :
    Calls Try.prog 20 #[v] w (Ret fun v w' => Kp [] w w' ∧ v = nv (rankF a)) := by
  have hv0 := hv
  obtain ⟨E, rfl, hE⟩ := hv
  unfold fmV
  by_cases hr : RF a
  · obtain ⟨m, hm, rfl⟩ := hr
    rw [rankF_fm hm]
    refine calls_of_S [] [] (by simp) [] Try.func20 rfl mixed (by kernel_rfl) Try.ntmps20 Try.results20 rfl ⟨by simp, by simp⟩ (by simp) ?_
    simp only [toS, textOps, toSOp, kindAt, kindOf, odAt, sopsAt, ordOf, zipF]
    (repeat' (first | refine JC.seq ?_ | refine JC.ops ?_ | refine JO.nil ?_ | refine JX.thenN ?_ | (apply r_assign; exact rfl; exact rfl; exact rfl) | (apply r_loadN; exact rfl; exact rfl; exact rfl; exact rfl; (first | exact at0 | exact at1 | exact at2 | exact at3 | exact at4 | exact at5 | exact at6 | exact at7); exact rfl) | (apply r_boxA; exact rfl; exact rfl; exact rfl; exact rfl; intro _)))
    refine r_callA (A := [_]) (B := []) rfl trivial rfl rfl rfl (fun w hk _ => c_Echelon w _ m hm (hv0.nat.mono hk)) fun w v w' _ _ _ hR => ?_
    obtain ⟨N, N2, u, x, rfl, hN, ⟨Eo, rfl, hO⟩, hO2⟩ := hR
    obtain ⟨Ao, co, rfl⟩ := hO.form
    refine ⟨_, hN, ?_⟩
    (repeat' (first | refine JC.seq ?_ | refine JC.ops ?_ | refine JO.nil ?_ | refine JX.thenN ?_ | (apply r_move; exact rfl; exact rfl; exact rfl) | (apply r_assign; exact rfl; exact rfl; exact rfl) | (apply r_lenN; exact rfl; exact rfl; exact rfl; (first | assumption | exact WN.rd (by assumption) rfl [] | exact OwnN.rd (by assumption))) | (apply r_extract; exact rfl; exact rfl; exact rfl; exact rfl) | (apply r_allocZ; exact rfl; exact rfl; exact rfl; intro _) | (apply r_storeN; exact rfl; (first | exact trivial | exact ⟨rfl, rfl⟩); exact rfl; exact rfl; (first | exact at0 | exact at1 | exact at2 | exact at3 | exact at4 | exact at5 | exact at6 | exact at7); exact rfl; exact rfl; exact rfl) | refine JC.ret ?_))
    exact JX.ret1 rfl (fun a w' st => ⟨st.kp, rfl⟩)
  · rw [rankF_nrf hr]
    refine calls_of_S [] [] (by simp) [] Try.func20 rfl mixed (by kernel_rfl) Try.ntmps20 Try.results20 rfl ⟨by simp, by simp⟩ (by simp) ?_
    simp only [toS, textOps, toSOp, kindAt, kindOf, odAt, sopsAt, ordOf, zipF]
    (repeat' (first | refine JC.seq ?_ | refine JC.ops ?_ | refine JO.nil ?_ | refine JX.thenN ?_ | (apply r_assign; exact rfl; exact rfl; exact rfl) | (apply r_loadN; exact rfl; exact rfl; exact rfl; exact rfl; (first | exact at0 | exact at1 | exact at2 | exact at3 | exact at4 | exact at5 | exact at6 | exact at7); exact rfl) | (apply r_boxA; exact rfl; exact rfl; exact rfl; exact rfl; intro _)))
    refine r_call0 trivial rfl rfl rfl (fun w hk _ => c_EchelonF w _ a hr (hv0.mono hk) hl) fun w v w' _ _ _ hR => ?_
    subst hR
    unfold zeroV
    (repeat' (first | refine JC.seq ?_ | refine JC.ops ?_ | refine JO.nil ?_ | refine JX.thenN ?_ | (apply r_move; exact rfl; exact rfl; exact rfl) | (apply r_assign; exact rfl; exact rfl; exact rfl) | (apply r_len; exact rfl; exact rfl; exact rfl) | (apply r_extract; exact rfl; exact rfl; exact rfl; exact rfl) | (apply r_allocZ; exact rfl; exact rfl; exact rfl; intro _) | (apply r_storeN; exact rfl; (first | exact trivial | exact ⟨rfl, rfl⟩); exact rfl; exact rfl; (first | exact at0 | exact at1 | exact at2 | exact at3 | exact at4 | exact at5 | exact at6 | exact at7); exact rfl; exact rfl; exact rfl) | refine JC.ret ?_))
    exact JX.ret1 rfl (fun a w' st => ⟨st.kp, rfl⟩)

set_option maxHeartbeats 2000000 in
theorem c_refRank (w : World) (v : Value) (a : FM) (hv : IsF w v a) (hl : a.E.length < 1000000000) :
    Calls Try.prog 38 #[v] w (Ret fun v w' => Kp [] w w' ∧ v = nv (rankF a)) := by
  have hv0 := hv
  obtain ⟨E, rfl, hE⟩ := hv
  unfold fmV
  by_cases hr : RF a
  · obtain ⟨m, hm, rfl⟩ := hr
    rw [rankF_fm hm]
    refine calls_of_S [] [] (by simp) [] Try.func38 rfl mixed (by kernel_rfl) Try.ntmps38 Try.results38 rfl ⟨by simp, by simp⟩ (by simp) ?_
    simp only [toS, textOps, toSOp, kindAt, kindOf, odAt, sopsAt, ordOf, zipF]
    (repeat' (first | refine JC.seq ?_ | refine JC.ops ?_ | refine JO.nil ?_ | refine JX.thenN ?_ | (apply r_assign; exact rfl; exact rfl; exact rfl) | (apply r_loadN; exact rfl; exact rfl; exact rfl; exact rfl; (first | exact at0 | exact at1 | exact at2 | exact at3 | exact at4 | exact at5 | exact at6 | exact at7); exact rfl) | (apply r_boxA; exact rfl; exact rfl; exact rfl; exact rfl; intro _)))
    refine r_callA (A := [_]) (B := []) rfl trivial rfl rfl rfl (fun w hk _ => c_refEchelon w _ m hm (hv0.nat.mono hk)) fun w v w' _ _ _ hR => ?_
    obtain ⟨N, N2, u, x, rfl, hN, ⟨Eo, rfl, hO⟩, hO2⟩ := hR
    obtain ⟨Ao, co, rfl⟩ := hO.form
    refine ⟨_, hN, ?_⟩
    (repeat' (first | refine JC.seq ?_ | refine JC.ops ?_ | refine JO.nil ?_ | refine JX.thenN ?_ | (apply r_move; exact rfl; exact rfl; exact rfl) | (apply r_assign; exact rfl; exact rfl; exact rfl) | (apply r_lenN; exact rfl; exact rfl; exact rfl; (first | assumption | exact WN.rd (by assumption) rfl [] | exact OwnN.rd (by assumption))) | (apply r_extract; exact rfl; exact rfl; exact rfl; exact rfl) | (apply r_allocZ; exact rfl; exact rfl; exact rfl; intro _) | (apply r_storeN; exact rfl; (first | exact trivial | exact ⟨rfl, rfl⟩); exact rfl; exact rfl; (first | exact at0 | exact at1 | exact at2 | exact at3 | exact at4 | exact at5 | exact at6 | exact at7); exact rfl; exact rfl; exact rfl) | refine JC.ret ?_))
    exact JX.ret1 rfl (fun a w' st => ⟨st.kp, rfl⟩)
  · rw [rankF_nrf hr]
    refine calls_of_S [] [] (by simp) [] Try.func38 rfl mixed (by kernel_rfl) Try.ntmps38 Try.results38 rfl ⟨by simp, by simp⟩ (by simp) ?_
    simp only [toS, textOps, toSOp, kindAt, kindOf, odAt, sopsAt, ordOf, zipF]
    (repeat' (first | refine JC.seq ?_ | refine JC.ops ?_ | refine JO.nil ?_ | refine JX.thenN ?_ | (apply r_assign; exact rfl; exact rfl; exact rfl) | (apply r_loadN; exact rfl; exact rfl; exact rfl; exact rfl; (first | exact at0 | exact at1 | exact at2 | exact at3 | exact at4 | exact at5 | exact at6 | exact at7); exact rfl) | (apply r_boxA; exact rfl; exact rfl; exact rfl; exact rfl; intro _)))
    refine r_call0 trivial rfl rfl rfl (fun w hk _ => c_refEchelonF w _ a hr (hv0.mono hk) hl) fun w v w' _ _ _ hR => ?_
    subst hR
    unfold zeroV
    (repeat' (first | refine JC.seq ?_ | refine JC.ops ?_ | refine JO.nil ?_ | refine JX.thenN ?_ | (apply r_move; exact rfl; exact rfl; exact rfl) | (apply r_assign; exact rfl; exact rfl; exact rfl) | (apply r_len; exact rfl; exact rfl; exact rfl) | (apply r_extract; exact rfl; exact rfl; exact rfl; exact rfl) | (apply r_allocZ; exact rfl; exact rfl; exact rfl; intro _) | (apply r_storeN; exact rfl; (first | exact trivial | exact ⟨rfl, rfl⟩); exact rfl; exact rfl; (first | exact at0 | exact at1 | exact at2 | exact at3 | exact at4 | exact at5 | exact at6 | exact at7); exact rfl; exact rfl; exact rfl) | refine JC.ret ?_))
    exact JX.ret1 rfl (fun a w' st => ⟨st.kp, rfl⟩)

set_option maxHeartbeats 2000000 in
theorem c_Index (w : World) (v : Value) (n x : Nat) (xs : List Nat) (hv : WN w v n xs) (hn : n ≤ 1000000) :
    Calls Try.prog 70 #[v, nv x] w (Ret fun v w' => Kp [] w w' ∧ ∃ i : Int, v = iv i ∧ (0 ≤ i ↔ x ∈ xs)) := by
  have hl := hv.len
  refine calls_of_S [] [] (by simp) [] Try.func70 rfl mixed (by kernel_rfl) Try.ntmps70 Try.results70 rfl ⟨by simp, by simp⟩ (by simp) ?_
  simp only [toS, textOps, toSOp, kindAt, kindOf, odAt, sopsAt, ordOf, zipF]
  (repeat' (first | refine JC.seq ?_ | refine JC.ops ?_ | refine JO.nil ?_ | refine JX.thenN ?_ | (apply r_move; exact rfl; exact rfl; exact rfl) | (apply r_assign; exact rfl; exact rfl; exact rfl) | (apply r_lenN; exact rfl; exact rfl; exact rfl; (first | assumption | exact WN.rd (by assumption) rfl [] | exact OwnN.rd (by assumption))) | refine JC.block ?_))
  refine JC.loopH (ι := Nat) ⟨fun k => [(8, nv k), (7, nv n), (0, v), (1, nv x)], fun _ => [], fun k => k ≤ n ∧ ∀ i, i < k → xs.getD i 0 ≠ x, fun k => n - k⟩ 0 ⟨by omega, fun i h => by omega⟩ (by repeat first | exact trivial | refine ⟨rfl, ?_⟩) (HSub.nil _) (fun k hk => ?_)
  obtain ⟨hkn, hpr⟩ := hk
  dsimp only
  (repeat' (first | refine JC.seq ?_ | refine JC.ops ?_ | refine JO.nil ?_ | refine JX.thenN ?_ | (apply r_move; exact rfl; exact rfl; exact rfl) | (apply r_assign; exact rfl; exact rfl; exact rfl) | (apply r_idxN; exact rfl; exact rfl; exact rfl; exact rfl; (first | assumption | exact WN.rd (by assumption) rfl [] | exact OwnN.rd (by assumption)); (first | assumption | omega)) | (apply r_ldN; exact rfl; exact rfl; exact rfl; exact rfl; (first | assumption | exact WN.rd (by assumption) rfl [] | exact OwnN.rd (by assumption)); (repeat' first | exact HSub.nil _ | exact HSub.hd | exact HSub.in0 | exact HSub.refl _ | refine HSub.skip ?_ | refine HSub.skipN ?_); (first | assumption | omega)) | (apply r_add1; exact rfl; exact rfl; exact rfl; exact rfl; omega) | (apply r_lss; exact rfl; exact rfl; exact rfl; exact rfl; all_goals intro hc; all_goals try (exfalso; omega)) | (apply r_eql; exact rfl; exact rfl; exact rfl; exact rfl; all_goals intro hc; all_goals try (exfalso; omega)) | refine JX.thenE ?_ | refine JX.thenR ?_ | refine JC.skip ?_ | refine JC.exit ?_ | refine JC.ret ?_ | refine JC.condT rfl ?_ | refine JC.condF rfl ?_ | refine JC.block ?_ | refine JX.blockN ?_ | refine JX.blockR ?_ | refine JX.blockE ?_))
  · exact JX.ret1 rfl (fun a w' st => ⟨st.kp, k, rfl, ⟨fun _ => by
      have : x = xs.getD k 0 := by omega
      rw [this]; exact mem_getD (by omega), fun _ => by omega⟩⟩)
  · refine JX.roundH (k + 1) ⟨by omega, fun i h => ?_⟩ (by dsimp only; omega) (by repeat first | exact trivial | refine ⟨rfl, ?_⟩) (HSub.nil _)
    rcases Nat.lt_or_ge i k with h' | h'
    · exact hpr i h'
    · have : i = k := by omega
      subst this; omega
  · exact JX.ret1 rfl (fun a w' st => ⟨st.kp, -1, rfl, ⟨fun h => by omega, fun hx => by
      obtain ⟨i, hi, rfl⟩ := List.mem_iff_getElem.1 hx
      have := hpr i (by omega)
      simp only [List.getD, List.getElem?_eq_getElem hi, Option.getD_some] at this
      exact absurd rfl this⟩⟩)

theorem c_Contains (w : World) (v : Value) (n x : Nat) (xs : List Nat) (hv : WN w v n xs) (hn : n ≤ 1000000) :
    Calls Try.prog 54 #[v, nv x] w (Ret fun v w' => Kp [] w w' ∧ v = .bool (decide (x ∈ xs))) := by
  refine calls_of_S [] [] (by simp) [] Try.func54 rfl mixed (by kernel_rfl) Try.ntmps54 Try.results54 rfl ⟨by simp, by simp⟩ (by simp) ?_
  simp only [toS, textOps, toSOp, kindAt, kindOf, odAt, sopsAt, ordOf, zipF]
  (repeat' (first | refine JC.seq ?_ | refine JC.ops ?_ | refine JO.nil ?_ | refine JX.thenN ?_ | (apply r_move; exact rfl; exact rfl; exact rfl) | (apply r_assign; exact rfl; exact rfl; exact rfl)))
  refine r_call0 trivial rfl rfl rfl (fun w hk _ => c_Index w _ n x xs (hv.mono hk) hn) fun w u w' _ _ _ hR => ?_
  obtain ⟨i, rfl, hi⟩ := hR
  (repeat' (first | refine JO.nil ?_ | refine JX.thenN ?_ | (apply r_assign; exact rfl; exact rfl; exact rfl) | (apply r_geq; exact rfl; exact rfl; exact rfl; exact rfl; all_goals intro hc; all_goals try (exfalso; omega)) | refine JC.ret ?_))
  · exact JX.ret1 rfl (fun a w' st => ⟨st.kp, by rw [decide_eq_true (hi.1 (by omega))]⟩)
  · exact JX.ret1 rfl (fun a w' st => ⟨st.kp, by rw [decide_eq_false (fun h => hc (hi.2 h))]⟩)

set_option maxHeartbeats 2000000 in
theorem c_among (w : World) (v : Value) (n x : Nat) (xs : List Nat) (hv : WN w v n xs) (hn : n ≤ 1000000) :
    Calls Try.prog 61 #[v, nv x] w (Ret fun v w' => Kp [] w w' ∧ v = .bool (decide (x ∈ xs))) := by
  have hl := hv.len
  refine calls_of_S [] [] (by simp) [] Try.func61 rfl mixed (by kernel_rfl) Try.ntmps61 Try.results61 rfl ⟨by simp, by simp⟩ (by simp) ?_
  simp only [toS, textOps, toSOp, kindAt, kindOf, odAt, sopsAt, ordOf, zipF]
  (repeat' (first | refine JC.seq ?_ | refine JC.ops ?_ | refine JO.nil ?_ | refine JX.thenN ?_ | (apply r_assign; exact rfl; exact rfl; exact rfl) | refine JC.block ?_))
  refine JC.loopH (ι := Nat) ⟨fun k => [(5, nv k), (0, v), (1, nv x)], fun _ => [], fun k => k ≤ n ∧ ∀ i, i < k → xs.getD i 0 ≠ x, fun k => n - k⟩ 0 ⟨by omega, fun i h => by omega⟩ (by repeat first | exact trivial | refine ⟨rfl, ?_⟩) (HSub.nil _) (fun k hk => ?_)
  obtain ⟨hkn, hpr⟩ := hk
  dsimp only
  (repeat' (first | refine JC.seq ?_ | refine JC.ops ?_ | refine JO.nil ?_ | refine JX.thenN ?_ | (apply r_move; exact rfl; exact rfl; exact rfl) | (apply r_assign; exact rfl; exact rfl; exact rfl) | (apply r_idxN; exact rfl; exact rfl; exact rfl; exact rfl; (first | assumption | exact WN.rd (by assumption) rfl [] | exact OwnN.rd (by assumption)); (first | assumption | omega)) | (apply r_ldN; exact rfl; exact rfl; exact rfl; exact rfl; (first | assumption | exact WN.rd (by assumption) rfl [] | exact OwnN.rd (by assumption)); (repeat' first | exact HSub.nil _ | exact HSub.hd | exact HSub.in0 | exact HSub.refl _ | refine HSub.skip ?_ | refine HSub.skipN ?_); (first | assumption | omega)) | (apply r_lenN; exact rfl; exact rfl; exact rfl; (first | assumption | exact WN.rd (by assumption) rfl [] | exact OwnN.rd (by assumption))) | (apply r_add1; exact rfl; exact rfl; exact rfl; exact rfl; omega) | (apply r_lss; exact rfl; exact rfl; exact rfl; exact rfl; all_goals intro hc; all_goals try (exfalso; omega)) | (apply r_eql; exact rfl; exact rfl; exact rfl; exact rfl; all_goals intro hc; all_goals try (exfalso; omega)) | refine JX.thenE ?_ | refine JX.thenR ?_ | refine JC.skip ?_ | refine JC.exit ?_ | refine JC.ret ?_ | refine JC.condT rfl ?_ | refine JC.condF rfl ?_ | refine JC.block ?_ | refine JX.blockN ?_ | refine JX.blockR ?_ | refine JX.blockE ?_))
  · exact JX.ret1 rfl (fun a w' st => ⟨st.kp, by
      have : x = xs.getD k 0 := by omega
      rw [decide_eq_true (by rw [this]; exact mem_getD (by omega))]⟩)
  · refine JX.roundH (k + 1) ⟨by omega, fun i h => ?_⟩ (by dsimp only; omega) (by repeat first | exact trivial | refine ⟨rfl, ?_⟩) (HSub.nil _)
    rcases Nat.lt_or_ge i k with h' | h'
    · exact hpr i h'
    · have : i = k := by omega
      subst this; omega
  · exact JX.ret1 rfl (fun a w' st => ⟨st.kp, by
      rw [decide_eq_false]
      intro hx
      obtain ⟨i, hi, rfl⟩ := List.mem_iff_getElem.1 hx
      have := hpr i (by omega)
      simp only [List.getD, List.getElem?_eq_getElem hi, Option.getD_some] at this
      exact absurd rfl this⟩)

end Go.Proofs.Ytdoogoglfbohaaa
