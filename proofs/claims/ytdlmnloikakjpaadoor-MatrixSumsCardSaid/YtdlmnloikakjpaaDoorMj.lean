import Derived.Test.YtdlmnloikakjpaaDoorMg
import Derived.Test.YtdlmnloikakjpaaDoorMe
import Derived.Test.YtdlmnloikakjpaaDoorMh
namespace Go.Proofs.YtdlmnloikakjpaaDoor
open Go Go.RowKit
set_option linter.unusedSimpArgs false
set_option linter.unusedVariables false
set_option linter.unusedSectionVars false

set_option maxHeartbeats 2000000 in
theorem c_Lists (w : World) (v u : Value) (n k : Nat) (xs ys : List WR) (hv : WX w v n xs) (hu : WX w u k ys) (hn : n < 1000000000) (hk : k < 1000000000) : Calls Tryd.prog 33 #[v, u] w (Ret fun v w' => Kp [] w w' ∧ IsB (xs = ys) v) := by
  have hl := hv.len
  have hl' := hu.len
  refine calls_of_S [⟨6, 1, [], []⟩] [] (by simp) [] Tryd.func33 rfl mixed (by kernel_rfl) Tryd.ntmps33 Tryd.results33 rfl ⟨by simp, by simp⟩ (by simp) ?_
  simp only [toS, textOps, toSOp, kindAt, kindOf, odAt, sopsAt, ordOf, zipF]
  have hR := WX.rd (c := ⟨Tryd.prog, 26, w, [], by simp⟩) hv rfl []
  have hR' := WX.rd (c := ⟨Tryd.prog, 26, w, [], by simp⟩) hu rfl []
  (repeat' (first | refine JC.seq ?_ | refine JC.ops ?_ | refine JO.nil ?_ | refine JX.thenN ?_ | (apply r_move; (iterate 3 exact rfl)) | (apply r_assign; (iterate 3 exact rfl)) | (apply r_lenX; (iterate 3 exact rfl); (first | assumption | exact WX.rd (by assumption) rfl [] | exact OwnX.rd (by assumption))) | (apply r_neq; (iterate 4 exact rfl); all_goals intro hc; all_goals try (exfalso; omega)) | refine JX.thenR ?_ | refine JC.skip ?_ | refine JC.ret ?_ | refine JC.condT rfl ?_ | refine JC.condF rfl ?_ | refine JC.block ?_))
  · exact JX.ret1 rfl (fun a w' st => ⟨st.kp, IsB.f (fun h => hc (by rw [← hl, ← hl', h]))⟩)
  · have hnk : n = k := by omega
    subst hnk
    refine JC.loopH (ι := Nat) ⟨fun i => [(5, nv i), (0, v), (1, u)], fun _ => [], fun i => i ≤ n ∧ ∀ j, j < i → xs.getD j w0x = ys.getD j w0x, fun i => n - i⟩ 0 ⟨by omega, fun j h => by omega⟩ (by repeat first | exact trivial | refine ⟨rfl, ?_⟩) (HSub.nil _) (fun i hi => ?_)
    obtain ⟨hin, hpr⟩ := hi
    dsimp only
    by_cases hlt : i < n
    · (repeat' (first | refine JC.seq ?_ | refine JC.ops ?_ | refine JC.opsD ?_ | refine JO.nil ?_ | refine JX.thenN ?_ | (apply r_move; (iterate 3 exact rfl)) | (apply r_idxX; (iterate 4 exact rfl); (first | assumption | exact WX.rd (by assumption) rfl [] | exact OwnX.rd (by assumption)); (first | assumption | omega)) | (apply r_ldX; (iterate 4 exact rfl); (first | assumption | exact WX.rd (by assumption) rfl [] | exact OwnX.rd (by assumption)); (repeat' first | exact HSub.nil _ | exact HSub.hd | exact HSub.in0 | exact HSub.refl _ | refine HSub.skip ?_ | refine HSub.skipN ?_); (first | assumption | omega)) | (apply r_lenX; (iterate 3 exact rfl); (first | assumption | exact WX.rd (by assumption) rfl [] | exact OwnX.rd (by assumption))) | (apply r_lss; (iterate 4 exact rfl); all_goals intro hc; all_goals try (exfalso; omega)) | refine JC.skip ?_ | refine JC.condT rfl ?_ | refine JC.block ?_))
      refine r_neW rfl rfl rfl rfl ?_
      by_cases he : xs.getD i w0x = ys.getD i w0x
      · rw [he]
        simp only [BEq.rfl, decide_true, Bool.and_self, Bool.not_true]
        (repeat' (first | refine JC.ops ?_ | refine JO.nil ?_ | refine JX.thenN ?_ | (apply r_move; (iterate 3 exact rfl)) | (apply r_assign; (iterate 3 exact rfl)) | (apply r_add1; (iterate 4 exact rfl); omega) | refine JC.skip ?_ | refine JC.condF rfl ?_ | refine JX.blockN ?_))
        refine JX.roundH (i + 1) ⟨by omega, fun j h => ?_⟩ (by dsimp only; omega) (by repeat first | exact trivial | refine ⟨rfl, ?_⟩) (HSub.nil _)
        rcases Nat.lt_or_ge j i with h' | h'
        · exact hpr j h'
        · have : j = i := by omega
          subst this; exact he
      · have hb : (!((xs.getD i w0x).1 == (ys.getD i w0x).1 && decide ((xs.getD i w0x).2 = (ys.getD i w0x).2))) = true := by
          simp only [Bool.not_eq_true', Bool.and_eq_false_iff]
          by_cases h1 : (xs.getD i w0x).1 = (ys.getD i w0x).1
          · refine .inr ?_
            simp only [decide_eq_false_iff_not]
            exact fun h2 => he (Prod.ext h1 h2)
          · exact .inl (by simpa using h1)
        rw [hb]
        (repeat' (first | refine JC.seq ?_ | refine JC.ops ?_ | refine JO.nil ?_ | refine JX.thenN ?_ | (apply r_assign; (iterate 3 exact rfl)) | refine JX.thenR ?_ | refine JC.ret ?_ | refine JC.condT rfl ?_ | refine JX.blockR ?_))
        exact JX.ret1 rfl (fun a w' st => ⟨st.kp, IsB.f (fun h => he (by rw [h]))⟩)
    · (repeat' (first | refine JC.seq ?_ | refine JC.ops ?_ | refine JO.nil ?_ | refine JX.thenN ?_ | (apply r_move; (iterate 3 exact rfl)) | (apply r_assign; (iterate 3 exact rfl)) | (apply r_lenX; (iterate 3 exact rfl); (first | assumption | exact WX.rd (by assumption) rfl [] | exact OwnX.rd (by assumption))) | (apply r_lss; (iterate 4 exact rfl); all_goals intro hc; all_goals try (exfalso; omega)) | refine JX.thenE ?_ | refine JC.exit ?_ | refine JC.ret ?_ | refine JC.condF rfl ?_ | refine JX.blockE ?_))
      refine JX.ret1 rfl (fun a w' st => ⟨st.kp, IsB.t (ext_getD (d := w0x) (by omega) (fun j hj => hpr j (by omega)))⟩)

set_option maxHeartbeats 2000000 in
theorem c_same (w : World) (v u : Value) (a b : XM) (ha : IsX w v a) (hb : IsX w u b) (hl : a.E.length < 1000000000) (hl' : b.E.length < 1000000000) : Calls Tryd.prog 22 #[v, u] w (Ret fun v w' => Kp [] w w' ∧ IsB (a = b) v) := by
  obtain ⟨E, rfl, hE⟩ := ha
  obtain ⟨E', rfl, hE'⟩ := hb
  refine calls_of_S [] [] (by simp) [] Tryd.func22 rfl mixed (by kernel_rfl) Tryd.ntmps22 Tryd.results22 rfl ⟨by simp, by simp⟩ (by simp) ?_
  simp only [toS, textOps, toSOp, kindAt, kindOf, odAt, sopsAt, ordOf, zipF]
  (repeat' (first | refine JC.seq ?_ | refine JC.ops ?_ | refine JO.nil ?_ | refine JX.thenN ?_ | (apply r_move; (iterate 3 exact rfl)) | (apply r_fieldAddr; (iterate 3 exact rfl)) | (apply r_assign; (iterate 3 exact rfl)) | (apply r_load; (iterate 4 exact rfl); (first | exact at0 | exact at1); exact rfl) | (apply r_pickT; (iterate 4 exact rfl)) | (apply r_pickF; (iterate 4 exact rfl)) | (apply r_eql; (iterate 4 exact rfl); all_goals intro hc; all_goals try (exfalso; omega)) | (apply r_boxA; (iterate 4 exact rfl); intro _) | refine JC.ret ?_ | (apply r_skip; exact rfl; exact rfl; (first | (intro h; cases h; done) | (intro _; rfl)))))
  all_goals first
    | exact JX.ret1 rfl (fun a w' st => ⟨st.kp, IsB.f (fun h => by subst h; first | exact hc rfl | (rename_i hd; exact hd rfl) | omega)⟩)
    | skip
  refine r_call0 trivial rfl rfl rfl (fun w hk _ => c_Lists w _ _ _ _ _ _ (hE.mono hk) (hE'.mono hk) hl hl') fun w v w' _ _ _ hR => ?_
  obtain ⟨b', rfl, hb'⟩ := hR
  (repeat' (first | refine JO.nil ?_ | refine JX.thenN ?_ | (apply r_assign; (iterate 3 exact rfl)) | (apply r_pickT; (iterate 4 exact rfl)) | refine JC.ret ?_))
  refine JX.ret1 rfl (fun a w' st => ⟨st.kp, b', rfl, hb'.trans ⟨fun h => XM.ext' (by omega) (by omega) h, fun h => by rw [h]⟩⟩)

theorem canon_bad {xs : List WR} {k : Nat} (hk : k < xs.length) (h : badW (xs.getD k w0x) = true) : ¬ Canon xs := fun hc => canon_iff.1 hc ⟨_, mem_getD hk, h⟩

set_option maxHeartbeats 2000000 in
theorem c_refCanonical (w : World) (E : Value) (n : Nat) (xs : List WR) (hE : WX w E n xs) (hn : n < 1000000000) :
    Calls Tryd.prog 72 #[E] w (Ret fun v w' => Kp [] w w' ∧ IsB (Canon xs) v) := by
  have hl := hE.len
  refine calls_of_S [] [] (by simp) [] Tryd.func72 rfl mixed (by kernel_rfl) Tryd.ntmps72 Tryd.results72 rfl ⟨by simp, by simp⟩ (by simp) ?_
  simp only [toS, textOps, toSOp, kindAt, kindOf, odAt, sopsAt, ordOf, zipF]
  have hR := WX.rd (c := ⟨Tryd.prog, 40, w, [], by simp⟩) hE rfl []
  (repeat' (first | refine JC.seq ?_ | refine JC.ops ?_ | refine JO.nil ?_ | refine JX.thenN ?_ | (apply r_assign; (iterate 3 exact rfl)) | refine JC.block ?_))
  refine JC.loopH (ι := Nat) ⟨fun k => [(3, nv k), (0, E)], fun _ => [], fun k => k ≤ n ∧ ∀ j, j < k → badW (xs.getD j w0x) = false, fun k => n - k⟩ 0 ⟨by omega, fun j h => by omega⟩ (by repeat first | exact trivial | refine ⟨rfl, ?_⟩) (HSub.nil _) (fun k hk => ?_)
  obtain ⟨hkn, hpr⟩ := hk
  dsimp only
  by_cases hlt : k < n
  · (repeat' (first | refine JC.seq ?_ | refine JC.ops ?_ | refine JO.nil ?_ | refine JX.thenN ?_ | (apply r_move; (iterate 3 exact rfl)) | (apply r_idxX; (iterate 4 exact rfl); (first | assumption | exact WX.rd (by assumption) rfl [] | exact OwnX.rd (by assumption)); (first | assumption | omega)) | (apply r_ldXm; (iterate 4 exact rfl); (first | assumption | exact WX.rd (by assumption) rfl [] | exact OwnX.rd (by assumption)); (repeat' first | exact HSub.nil _ | exact HSub.hd | exact HSub.in0 | exact HSub.refl _ | refine HSub.skip ?_ | refine HSub.skipN ?_); (first | assumption | omega)) | (apply r_fieldX; (iterate 3 exact rfl); (first | assumption | exact WX.rd (by assumption) rfl [] | exact OwnX.rd (by assumption)); omega) | (apply r_lenX; (iterate 3 exact rfl); (first | assumption | exact WX.rd (by assumption) rfl [] | exact OwnX.rd (by assumption))) | (apply r_eqS; (iterate 4 exact rfl)) | (apply r_lss; (iterate 4 exact rfl); all_goals intro hc; all_goals try (exfalso; omega)) | refine JC.skip ?_ | refine JC.condT rfl ?_ | refine JC.block ?_))
    have hxk : ∀ x, xs.getD k w0x = x → badW x = true → ¬ Canon xs := fun x hx hb => canon_bad (k := k) (by omega) (by rw [hx]; exact hb)
    have hnx : ∀ x, xs.getD k w0x = x → badW x = false → ∀ j, j < k + 1 → badW (xs.getD j w0x) = false := fun x hx hb j hj => by
      rcases Nat.lt_or_ge j k with h | h
      · exact hpr j h
      · obtain rfl : j = k := by omega
        rw [hx]; exact hb
    rcases hx : xs.getD k w0x with ⟨p, l⟩
    cases l with
    | nil =>
      simp only [decide_true]
      (repeat' (first | (apply r_move; (iterate 3 exact rfl)) | (apply r_idxX; (iterate 4 exact rfl); (first | assumption | exact WX.rd (by assumption) rfl [] | exact OwnX.rd (by assumption)); (first | assumption | omega)) | (apply r_ldXs; (iterate 4 exact rfl); (first | assumption | exact WX.rd (by assumption) rfl [] | exact OwnX.rd (by assumption)); (repeat' first | exact HSub.nil _ | exact HSub.hd | exact HSub.in0 | exact HSub.refl _ | refine HSub.skip ?_ | refine HSub.skipN ?_); (first | assumption | omega)) | (apply r_fieldX; (iterate 3 exact rfl); (first | assumption | exact WX.rd (by assumption) rfl [] | exact OwnX.rd (by assumption)); omega) | (apply r_pickT; (iterate 4 exact rfl))))
      rw [hx]
      cases p
      · (repeat' (first | (apply r_move; (iterate 3 exact rfl)) | (apply r_idxX; (iterate 4 exact rfl); (first | assumption | exact WX.rd (by assumption) rfl [] | exact OwnX.rd (by assumption)); (first | assumption | omega)) | (apply r_ldXm; (iterate 4 exact rfl); (first | assumption | exact WX.rd (by assumption) rfl [] | exact OwnX.rd (by assumption)); (repeat' first | exact HSub.nil _ | exact HSub.hd | exact HSub.in0 | exact HSub.refl _ | refine HSub.skip ?_ | refine HSub.skipN ?_); (first | assumption | omega)) | (apply r_fieldX; (iterate 3 exact rfl); (first | assumption | exact WX.rd (by assumption) rfl [] | exact OwnX.rd (by assumption)); omega) | (apply r_neS; (iterate 4 exact rfl))))
        rw [hx, show decide ((false, ([] : List UInt8)).snd ≠ []) = false from rfl]
        (repeat' (first | refine JC.ops ?_ | refine JO.nil ?_ | refine JX.thenN ?_ | (apply r_move; (iterate 3 exact rfl)) | (apply r_assign; (iterate 3 exact rfl)) | (apply r_add1; (iterate 4 exact rfl); omega) | (apply r_pickF; (iterate 4 exact rfl)) | refine JC.skip ?_ | refine JC.condF rfl ?_ | refine JX.blockN ?_ | (apply r_skip; exact rfl; exact rfl; (first | (intro h; cases h; done) | (intro _; rfl)))))
        exact JX.roundH (k + 1) ⟨by omega, hnx _ hx rfl⟩ (by dsimp only; omega) (by repeat first | exact trivial | refine ⟨rfl, ?_⟩) (HSub.nil _)
      · (repeat' (first | refine JC.seq ?_ | refine JC.ops ?_ | refine JO.nil ?_ | refine JX.thenN ?_ | (apply r_assign; (iterate 3 exact rfl)) | (apply r_pickT; (iterate 4 exact rfl)) | refine JX.thenR ?_ | refine JC.ret ?_ | refine JC.condT rfl ?_ | refine JX.blockR ?_ | (apply r_skip; exact rfl; exact rfl; (first | (intro h; cases h; done) | (intro _; rfl)))))
        exact JX.ret1 rfl (fun a w' st => ⟨st.kp, IsB.f (hxk _ hx rfl)⟩)
    | cons x r =>
      rw [show decide ((p, x :: r).snd = ([] : List UInt8)) = false from rfl]
      (repeat' (first | (apply r_move; (iterate 3 exact rfl)) | (apply r_idxX; (iterate 4 exact rfl); (first | assumption | exact WX.rd (by assumption) rfl [] | exact OwnX.rd (by assumption)); (first | assumption | omega)) | (apply r_ldXm; (iterate 4 exact rfl); (first | assumption | exact WX.rd (by assumption) rfl [] | exact OwnX.rd (by assumption)); (repeat' first | exact HSub.nil _ | exact HSub.hd | exact HSub.in0 | exact HSub.refl _ | refine HSub.skip ?_ | refine HSub.skipN ?_); (first | assumption | omega)) | (apply r_fieldX; (iterate 3 exact rfl); (first | assumption | exact WX.rd (by assumption) rfl [] | exact OwnX.rd (by assumption)); omega) | (apply r_pickF; (iterate 4 exact rfl)) | (apply r_neS; (iterate 4 exact rfl)) | (apply r_skip; exact rfl; exact rfl; (first | (intro h; cases h; done) | (intro _; rfl)))))
      rw [hx, show decide ((p, x :: r).snd ≠ ([] : List UInt8)) = true from rfl]
      (repeat' (first | (apply r_move; (iterate 3 exact rfl)) | (apply r_idxX; (iterate 4 exact rfl); (first | assumption | exact WX.rd (by assumption) rfl [] | exact OwnX.rd (by assumption)); (first | assumption | omega)) | (apply r_ldXm; (iterate 4 exact rfl); (first | assumption | exact WX.rd (by assumption) rfl [] | exact OwnX.rd (by assumption)); (repeat' first | exact HSub.nil _ | exact HSub.hd | exact HSub.in0 | exact HSub.refl _ | refine HSub.skip ?_ | refine HSub.skipN ?_); (first | assumption | omega)) | (apply r_fieldX; (iterate 3 exact rfl); (first | assumption | exact WX.rd (by assumption) rfl [] | exact OwnX.rd (by assumption)); omega)))
      rw [hx]
      (repeat' (first | refine JC.seq ?_ | refine JC.ops ?_ | refine JO.nil ?_ | refine JX.thenN ?_ | (apply r_move; (iterate 3 exact rfl)) | (apply r_assign; (iterate 3 exact rfl)) | (apply r_add1; (iterate 4 exact rfl); omega) | (apply r_pickT; (iterate 4 exact rfl)) | (apply r_pickF; (iterate 4 exact rfl)) | (apply r_idxS0; (iterate 4 exact rfl)) | (apply r_eql; (iterate 4 exact rfl); all_goals intro hc; all_goals try (exfalso; omega)) | refine JX.thenR ?_ | refine JC.skip ?_ | refine JC.ret ?_ | refine JC.condT rfl ?_ | refine JC.condF rfl ?_ | refine JX.blockN ?_ | refine JX.blockR ?_))
      · exact JX.ret1 rfl (fun _ w' st => ⟨st.kp, IsB.f (hxk _ hx (by have : x = 0 := UInt8.toNat.inj (by simpa using hc); subst this; rfl))⟩)
      · exact JX.roundH (k + 1) ⟨by omega, hnx _ hx (by have : x ≠ 0 := fun e => hc (by subst e; rfl); simp [badW, this])⟩ (by dsimp only; omega) (by repeat first | exact trivial | refine ⟨rfl, ?_⟩) (HSub.nil _)
  · (repeat' (first | refine JC.seq ?_ | refine JC.ops ?_ | refine JO.nil ?_ | refine JX.thenN ?_ | (apply r_move; (iterate 3 exact rfl)) | (apply r_assign; (iterate 3 exact rfl)) | (apply r_lenX; (iterate 3 exact rfl); (first | assumption | exact WX.rd (by assumption) rfl [] | exact OwnX.rd (by assumption))) | (apply r_lss; (iterate 4 exact rfl); all_goals intro hc; all_goals try (exfalso; omega)) | refine JX.thenE ?_ | refine JC.exit ?_ | refine JC.ret ?_ | refine JC.condF rfl ?_ | refine JX.blockE ?_))
    refine JX.ret1 rfl (fun a w' st => ⟨st.kp, IsB.t (canon_iff.2 ?_)⟩)
    rintro ⟨x, hx, hb⟩
    obtain ⟨j, hj, rfl⟩ := List.mem_iff_getElem.1 hx
    have := hpr j (by omega)
    rw [List.getD, List.getElem?_eq_getElem hj, Option.getD_some, hb] at this
    cases this

set_option maxHeartbeats 1000000 in
theorem c_refRight (w : World) (v : Value) (a : XM) (ha : IsX w v a) (hl : a.E.length < 1000000000) : Calls Tryd.prog 55 #[v] w (Ret fun v w' => Kp [] w w' ∧ IsB (RX a) v) := by
  obtain ⟨E, rfl, hE⟩ := ha
  by_cases hf : 0 ≤ a.R ∧ a.R ≤ 200 ∧ 0 ≤ a.C ∧ a.C ≤ 200
  · obtain ⟨R, C, xs⟩ := a
    obtain ⟨h1, h2, h3, h4⟩ := hf
    dsimp only at *
    obtain ⟨r, rfl⟩ := Int.eq_ofNat_of_zero_le h1
    obtain ⟨c, rfl⟩ := Int.eq_ofNat_of_zero_le h3
    have hr : r ≤ 200 := by omega
    have hc : c ≤ 200 := by omega
    have hrc := rcZ hr hc
    have hiff := RX.iff (E := xs) hr hc
    refine calls_of_S [] [] (by simp) [] Tryd.func55 rfl mixed (by kernel_rfl) Tryd.ntmps55 Tryd.results55 rfl ⟨by simp, by simp⟩ (by simp) ?_
    simp only [toS, textOps, toSOp, kindAt, kindOf, odAt, sopsAt, ordOf, zipF]
    have hR := WX.rd (c := ⟨Tryd.prog, 25, w, [], by simp⟩) hE rfl []
    (repeat' (first | refine JC.seq ?_ | refine JC.ops ?_ | refine JO.nil ?_ | refine JX.thenN ?_ | (apply r_fieldAddr; (iterate 3 exact rfl)) | (apply r_assign; (iterate 3 exact rfl)) | (apply r_load; (iterate 4 exact rfl); exact at0; exact rfl) | (apply r_boxA; (iterate 4 exact rfl); intro _)))
    refine r_call0 trivial rfl rfl rfl (fun w _ _ => c_refFits r c w) fun w v w' _ _ _ hv => ?_
    obtain ⟨b', rfl, hb⟩ := hv
    obtain rfl := hb.2 ⟨h1, h2, h3, h4⟩
    (repeat' (first | refine JC.seq ?_ | refine JC.ops ?_ | refine JO.nil ?_ | refine JX.thenN ?_ | (apply r_move; (iterate 3 exact rfl)) | (apply r_fieldAddr; (iterate 3 exact rfl)) | (apply r_assign; (iterate 3 exact rfl)) | (apply r_load; (iterate 4 exact rfl); exact at0; exact rfl) | (apply r_lenX; (iterate 3 exact rfl); (first | assumption | exact WX.rd (by assumption) rfl [] | exact OwnX.rd (by assumption))) | (apply r_mulN; (iterate 4 exact rfl); (first | assumption | omega)) | (apply r_pickF; (iterate 4 exact rfl)) | (apply r_not; (iterate 3 exact rfl)) | (apply r_neq; (iterate 4 exact rfl); all_goals intro hc; all_goals try (exfalso; omega)) | refine JX.thenR ?_ | refine JC.skip ?_ | refine JC.ret ?_ | refine JC.condT rfl ?_ | refine JC.condF rfl ?_))
    · exact JX.ret1 rfl (fun a w' st => ⟨st.kp, IsB.f (fun h => by have := (hiff.1 h).1; omega)⟩)
    · refine r_call0 trivial rfl rfl rfl (fun w' hk hs => c_refCanonical w' E _ _ (hE.mono hk) hl) fun w v w' _ _ _ hv => ?_
      obtain ⟨b', rfl, hb⟩ := hv
      (repeat' (first | refine JO.nil ?_ | refine JX.thenN ?_ | (apply r_assign; (iterate 3 exact rfl)) | refine JC.ret ?_))
      exact JX.ret1 rfl (fun a w' st => ⟨st.kp, b', rfl, hb.trans ⟨fun h => hiff.2 ⟨by omega, h⟩, fun h => (hiff.1 h).2⟩⟩)
  · refine calls_of_S [] [] (by simp) [] Tryd.func55 rfl mixed (by kernel_rfl) Tryd.ntmps55 Tryd.results55 rfl ⟨by simp, by simp⟩ (by simp) ?_
    simp only [toS, textOps, toSOp, kindAt, kindOf, odAt, sopsAt, ordOf, zipF]
    (repeat' (first | refine JC.seq ?_ | refine JC.ops ?_ | refine JO.nil ?_ | refine JX.thenN ?_ | (apply r_fieldAddr; (iterate 3 exact rfl)) | (apply r_assign; (iterate 3 exact rfl)) | (apply r_load; (iterate 4 exact rfl); exact at0; exact rfl) | (apply r_boxA; (iterate 4 exact rfl); intro _)))
    refine r_call0 trivial rfl rfl rfl (fun w _ _ => c_refFits a.R a.C w) fun w v w' _ _ _ hv => ?_
    obtain ⟨b', rfl, hb⟩ := hv
    cases b' with
    | true => exact absurd (hb.1 rfl) hf
    | false =>
      (repeat' (first | refine JC.seq ?_ | refine JC.ops ?_ | refine JO.nil ?_ | refine JX.thenN ?_ | (apply r_move; (iterate 3 exact rfl)) | (apply r_assign; (iterate 3 exact rfl)) | (apply r_pickT; (iterate 4 exact rfl)) | (apply r_not; (iterate 3 exact rfl)) | refine JX.thenR ?_ | refine JC.ret ?_ | refine JC.condT rfl ?_ | (apply r_skip; exact rfl; exact rfl; (first | (intro h; cases h; done) | (intro _; rfl)))))
      exact JX.ret1 rfl (fun a w' st => ⟨st.kp, IsB.f (fun h => hf h.fits)⟩)

set_option maxHeartbeats 1000000 in
theorem c_refAlike (w : World) (v u : Value) (a b : XM) (ha : IsX w v a) (hb : IsX w u b) (hl : a.E.length < 1000000000) (hl' : b.E.length < 1000000000) : Calls Tryd.prog 82 #[v, u] w (Ret fun v w' => Kp [] w w' ∧ IsB (Alike a b) v) := by
  obtain ⟨E, rfl, hE⟩ := ha
  obtain ⟨E', rfl, hE'⟩ := hb
  refine calls_of_S [] [] (by simp) [] Tryd.func82 rfl mixed (by kernel_rfl) Tryd.ntmps82 Tryd.results82 rfl ⟨by simp, by simp⟩ (by simp) ?_
  simp only [toS, textOps, toSOp, kindAt, kindOf, odAt, sopsAt, ordOf, zipF]
  (repeat' (first | refine JC.seq ?_ | refine JC.ops ?_ | refine JO.nil ?_ | refine JX.thenN ?_ | (apply r_assign; (iterate 3 exact rfl)) | (apply r_loadN; (iterate 4 exact rfl); exact at1; exact rfl) | (apply r_boxA; (iterate 4 exact rfl); intro _)))
  refine r_call0 trivial rfl rfl rfl (fun w hk _ => c_refRight w _ a ⟨E, rfl, hE.mono hk⟩ hl) fun w v w' _ _ _ hR => ?_
  obtain ⟨b', rfl, hb⟩ := hR
  (repeat' (first | refine JC.seq ?_ | refine JC.ops ?_ | refine JO.nil ?_ | refine JX.thenN ?_ | (apply r_assign; (iterate 3 exact rfl)) | (apply r_loadN; (iterate 4 exact rfl); exact at0; exact rfl)))
  refine r_call0 trivial rfl rfl rfl (fun w hk _ => c_refRight w _ b ⟨E', rfl, hE'.mono hk⟩ hl') fun w v w' _ _ _ hR => ?_
  obtain ⟨b2, rfl, hb'⟩ := hR
  cases b' <;> cases b2
  · (repeat' (first | refine JC.seq ?_ | refine JC.ops ?_ | refine JO.nil ?_ | refine JX.thenN ?_ | (apply r_move; (iterate 3 exact rfl)) | (apply r_assign; (iterate 3 exact rfl)) | (apply r_pickF; (iterate 4 exact rfl)) | refine JC.ret ?_ | (apply r_skip; exact rfl; exact rfl; (first | (intro h; cases h; done) | (intro _; rfl)))))
    exact JX.ret1 rfl (fun a w' st => ⟨st.kp, IsB.f (fun h => by cases hb.2 h.1)⟩)
  · (repeat' (first | refine JC.seq ?_ | refine JC.ops ?_ | refine JO.nil ?_ | refine JX.thenN ?_ | (apply r_move; (iterate 3 exact rfl)) | (apply r_assign; (iterate 3 exact rfl)) | (apply r_pickF; (iterate 4 exact rfl)) | refine JC.ret ?_ | (apply r_skip; exact rfl; exact rfl; (first | (intro h; cases h; done) | (intro _; rfl)))))
    exact JX.ret1 rfl (fun a w' st => ⟨st.kp, IsB.f (fun h => by cases hb.2 h.1)⟩)
  · (repeat' (first | refine JC.seq ?_ | refine JC.ops ?_ | refine JO.nil ?_ | refine JX.thenN ?_ | (apply r_move; (iterate 3 exact rfl)) | (apply r_assign; (iterate 3 exact rfl)) | (apply r_pickT; (iterate 4 exact rfl)) | (apply r_pickF; (iterate 4 exact rfl)) | refine JC.ret ?_ | (apply r_skip; exact rfl; exact rfl; (first | (intro h; cases h; done) | (intro _; rfl)))))
    exact JX.ret1 rfl (fun a w' st => ⟨st.kp, IsB.f (fun h => by cases hb'.2 h.2.1)⟩)
  · (repeat' (first | refine JC.seq ?_ | refine JC.ops ?_ | refine JO.nil ?_ | refine JX.thenN ?_ | (apply r_move; (iterate 3 exact rfl)) | (apply r_fieldAddr; (iterate 3 exact rfl)) | (apply r_assign; (iterate 3 exact rfl)) | (apply r_load; (iterate 4 exact rfl); (first | exact at0 | exact at1); exact rfl) | (apply r_pickT; (iterate 4 exact rfl)) | (apply r_pickF; (iterate 4 exact rfl)) | (apply r_eql; (iterate 4 exact rfl); all_goals intro hc; all_goals try (exfalso; omega)) | refine JC.ret ?_ | (apply r_skip; exact rfl; exact rfl; (first | (intro h; cases h; done) | (intro _; rfl)))))
    all_goals first
      | exact JX.ret1 rfl (fun a w' st => ⟨st.kp, IsB.t ⟨hb.1 rfl, hb'.1 rfl, by omega, by omega⟩⟩)
      | exact JX.ret1 rfl (fun a w' st => ⟨st.kp, IsB.f fun h => by have h1 := h.2.2.1; have h2 := h.2.2.2; omega⟩)


theorem gives_z {w w' : World} {v : Value} (h : v = .tuple #[zeroM, .bool false]) : GivesMB zM false w v w' := ⟨[], zeroM, h, New.nil _ _, OwnM.zero⟩
theorem xm_len {m : ZM} (h : RtZ m) : m.xm.E.length < 1000000000 := by have := h.le; simp [ZM.xm]; omega

set_option maxHeartbeats 2000000 in
theorem c_refAdd (K : Nat) (w : World) (v u : Value) (m n : ZM) (hm : RtZ m) (hn : RtZ n) (hr : m.r = n.r) (hc : m.c = n.c) (hK : K ≤ 90000000) (hx : BdZ K m) (hy : BdZ K n) (hv : IsM w v m) (hu : IsM w u n) :
    Calls Tryd.prog 46 #[v, u] w (Ret fun v w' => Kp [] w w' ∧ GivesMB (addZ m n) true w v w') := by
  have hvX := hv.x
  have huX := hu.x
  obtain ⟨E, rfl, hE⟩ := hv
  obtain ⟨E', rfl, hE'⟩ := hu
  have hle := hm.le
  have hl := hm.len
  have hl' := hn.len
  rw [← hr, ← hc] at hl'
  rw [hl] at hE
  rw [hl'] at hE'
  have hgx := mapZ_eq (· + ·) hm hn hr hc
  refine calls_of_S [⟨8, 2, [], []⟩] [] (by simp) [] Tryd.func46 rfl mixed (by kernel_rfl) Tryd.ntmps46 Tryd.results46 rfl ⟨by simp, by simp⟩ (by simp) ?_
  simp only [toS, textOps, toSOp, kindAt, kindOf, odAt, sopsAt, ordOf, zipF]
  have hR := WZ.rd (c := ⟨Tryd.prog, 43, w, [], by simp⟩) hE rfl []
  have hR' := WZ.rd (c := ⟨Tryd.prog, 43, w, [], by simp⟩) hE' rfl []
  (repeat' (first | refine JC.seq ?_ | refine JC.ops ?_ | refine JO.nil ?_ | refine JX.thenN ?_ | (apply r_assign; (iterate 3 exact rfl)) | (apply r_loadN; (iterate 4 exact rfl); (first | exact at1 | exact at2); exact rfl) | (apply r_allocZ; (iterate 3 exact rfl); intro _) | (apply r_boxA; (iterate 4 exact rfl); intro _)))
  rename_i b2 b3 b4
  refine r_call0 trivial rfl rfl rfl (fun w hk _ => c_refAlike w _ _ m.xm n.xm (hvX.mono hk) (huX.mono hk) (xm_len hm) (xm_len hn)) fun w v w' _ _ _ hR => ?_
  obtain ⟨b', rfl, hb⟩ := hR
  obtain rfl := hb.2 ⟨hm.rx, hn.rx, by simp [ZM.xm, hr], by simp [ZM.xm, hc]⟩
  (repeat' (first | refine JC.seq ?_ | refine JC.ops ?_ | refine JO.nil ?_ | refine JX.thenN ?_ | (apply r_move; (iterate 3 exact rfl)) | (apply r_fieldAddr; (iterate 3 exact rfl)) | (apply r_assign; (iterate 3 exact rfl)) | (apply r_load; (iterate 4 exact rfl); exact at2; exact rfl) | (apply r_not; (iterate 3 exact rfl)) | refine JC.skip ?_ | refine JC.condF rfl ?_))
  refine r_callA (A := [_, _, _]) (B := []) rfl (by first | trivial | exact ⟨rfl, rfl⟩) rfl rfl rfl (fun w _ _ => c_refZero m.r m.c hm.r hm.c w) fun w v w' _ _ _ hR => ?_
  obtain ⟨N, Eo, hN, rfl, hO⟩ := hR
  obtain ⟨Ao, co, rfl⟩ := hO.form
  refine ⟨N, hN, ?_⟩
  (repeat' (first | refine JC.seq ?_ | refine JC.ops ?_ | refine JO.nil ?_ | refine JX.thenN ?_ | (apply r_assign; (iterate 3 exact rfl)) | (apply r_storeN; exact rfl; (first | exact trivial | exact ⟨rfl, rfl⟩); exact rfl; exact rfl; exact at0; (iterate 3 exact rfl)) | (apply r_allocZ; (iterate 3 exact rfl); intro _) | (apply r_storeN; exact rfl; (first | exact trivial | exact ⟨rfl, rfl⟩); exact rfl; exact rfl; exact at0; (iterate 3 exact rfl)) | refine JC.block ?_))
  rename_i b7
  refine JC.loopH (ι := Nat × SHeap) ⟨fun z => [(8, nv z.1), (2, .pointer (some ⟨b2, 0, none⟩)), (3, .pointer (some ⟨b3, 0, none⟩)), (4, .pointer (some ⟨b4, 0, none⟩)), (7, .pointer (some ⟨b7, 0, none⟩))],
    fun z => [(b7, .cells #[nv m.r, nv m.c, .slice Ao (m.r * m.c) co] 29), (b4, .cells #[iv 0, iv 0, .slice none 0 0] 29), (b3, .cells #[nv n.r, nv n.c, E'] 29), (b2, .cells #[nv m.r, nv m.c, E] 29)] ++ (z.2 ++ []),
    fun z => z.1 ≤ m.r * m.c ∧ OwnZ z.2 (.slice Ao (m.r * m.c) co) (m.r * m.c) (tab (m.r * m.c) fun i => if i < z.1 then m.e.getD i 0 + n.e.getD i 0 else 0), fun z => m.r * m.c - z.1⟩ (0, N) ⟨by omega, by simpa using hO⟩ (by repeat first | exact trivial | refine ⟨rfl, ?_⟩) (by (first | exact HSub.refl _ | (repeat' first | exact HSub.nil _ | exact HSub.refl _ | refine HSub.at 0 rfl ?_ | refine HSub.at 1 rfl ?_ | refine HSub.at 2 rfl ?_ | refine HSub.at 3 rfl ?_ | refine HSub.at 4 rfl ?_ | refine HSub.at 5 rfl ?_ | refine HSub.at 6 rfl ?_ | refine HSub.at 7 rfl ?_))) (fun z hz => ?_)
  clear hO
  obtain ⟨k, N⟩ := z
  obtain ⟨hk, hO⟩ := hz
  dsimp only at hk hO ⊢
  by_cases hkk : k < m.r * m.c
  · (repeat' (first | refine JC.seq ?_ | refine JC.ops ?_ | refine JC.opsD ?_ | refine JO.nil ?_ | refine JX.thenN ?_ | (apply r_move; (iterate 3 exact rfl)) | (apply r_fieldAddr; (iterate 3 exact rfl)) | (apply r_load; (iterate 4 exact rfl); (first | exact at0 | exact at2 | exact at3); exact rfl) | (apply r_idxZ; (iterate 4 exact rfl); (first | assumption | exact WZ.rd (by assumption) rfl [] | exact OwnZ.rd (by assumption)); (first | assumption | omega)) | (apply r_ldZ; (iterate 4 exact rfl); (first | assumption | exact WZ.rd (by assumption) rfl [] | exact OwnZ.rd (by assumption)); (repeat' first | exact HSub.nil _ | exact HSub.hd | exact HSub.in0 | exact HSub.refl _ | refine HSub.skip ?_ | refine HSub.skipN ?_); (first | assumption | omega)) | (apply r_lenZ; (iterate 3 exact rfl); (first | assumption | exact WZ.rd (by assumption) rfl [] | exact OwnZ.rd (by assumption))) | (apply r_lss; (iterate 4 exact rfl); all_goals intro hc; all_goals try (exfalso; omega)) | refine JC.skip ?_ | refine JC.condT rfl ?_ | refine JC.block ?_))
    refine r_call0 (by first | trivial | exact ⟨rfl, rfl⟩) rfl rfl rfl (fun w _ _ => c_AddR w _ _ (m.e.getD k 0) (n.e.getD k 0) K (IsZ.can (hx k)) (IsZ.can (hy k)) (by omega)) fun w v w' _ _ _ hR => ?_
    subst hR
    (repeat' (first | (apply r_idxZ; (iterate 4 exact rfl); (first | assumption | exact WZ.rd (by assumption) rfl [] | exact OwnZ.rd (by assumption)); (first | assumption | omega))))
    refine r_stZ (A := [_, _, _, _]) (u := m.e.getD k 0 + n.e.getD k 0) hO rfl rfl (by first | trivial | exact ⟨rfl, rfl⟩) rfl rfl hkk (fun N' hO' => ?_)
    rw [zip_step (f := fun i => m.e.getD i 0 + n.e.getD i 0)] at hO'
    (repeat' (first | refine JC.ops ?_ | refine JO.nil ?_ | refine JX.thenN ?_ | (apply r_move; (iterate 3 exact rfl)) | (apply r_assign; (iterate 3 exact rfl)) | (apply r_add1; (iterate 4 exact rfl); omega) | refine JX.blockN ?_))
    exact JX.roundH (k + 1, N') ⟨by dsimp only; omega, hO'⟩ (by dsimp only; omega) (by repeat first | exact trivial | refine ⟨rfl, ?_⟩) (HSub.refl _)
  · (repeat' (first | refine JC.seq ?_ | refine JC.ops ?_ | refine JO.nil ?_ | refine JX.thenN ?_ | (apply r_move; (iterate 3 exact rfl)) | (apply r_fieldAddr; (iterate 3 exact rfl)) | (apply r_assign; (iterate 3 exact rfl)) | (apply r_load; (iterate 4 exact rfl); (first | exact at0 | exact at1); exact rfl) | (apply r_loadN; (iterate 4 exact rfl); (first | exact at0 | exact at1); exact rfl) | (apply r_lenZ; (iterate 3 exact rfl); (first | assumption | exact WZ.rd (by assumption) rfl [] | exact OwnZ.rd (by assumption))) | (apply r_storeN; exact rfl; (first | exact trivial | exact ⟨rfl, rfl⟩); exact rfl; exact rfl; (first | exact at0 | exact at1); (iterate 3 exact rfl)) | (apply r_lss; (iterate 4 exact rfl); all_goals intro hc; all_goals try (exfalso; omega)) | (apply r_storeN; exact rfl; (first | exact trivial | exact ⟨rfl, rfl⟩); exact rfl; exact rfl; (first | exact at0 | exact at1); (iterate 3 exact rfl)) | refine JX.thenE ?_ | refine JC.exit ?_ | refine JC.ret ?_ | refine JC.condF rfl ?_ | refine JX.blockE ?_))
    rw [tab_congr (g' := fun i => m.e.getD i 0 + n.e.getD i 0) (fun i hi => if_pos (by omega)), hgx] at hO
    exact JX.retCT 1 rfl rfl rfl rfl (fun a w' st => ⟨st.kp, N, _, rfl, st.newOf rfl (by (repeat' first | exact HSub.nil _ | exact HSub.hd | exact HSub.in0 | exact HSub.refl _ | refine HSub.skip ?_ | refine HSub.skipN ?_)), OwnM.mk' hO⟩)

set_option maxHeartbeats 1000000 in
theorem c_refAddF (w : World) (v u : Value) (a b : XM) (h : ¬ Alike a b) (ha : IsX w v a) (hb : IsX w u b) (hl : a.E.length < 1000000000) (hl' : b.E.length < 1000000000) :
    Calls Tryd.prog 46 #[v, u] w (Ret fun v w' => Kp [] w w' ∧ v = .tuple #[zeroM, .bool false]) := by
  have ha0 := ha
  have hb0 := hb
  obtain ⟨E, rfl, hE⟩ := ha
  obtain ⟨E', rfl, hE'⟩ := hb
  refine calls_of_S [⟨8, 2, [], []⟩] [] (by simp) [] Tryd.func46 rfl mixed (by kernel_rfl) Tryd.ntmps46 Tryd.results46 rfl ⟨by simp, by simp⟩ (by simp) ?_
  simp only [toS, textOps, toSOp, kindAt, kindOf, odAt, sopsAt, ordOf, zipF]
  (repeat' (first | refine JC.seq ?_ | refine JC.ops ?_ | refine JO.nil ?_ | refine JX.thenN ?_ | (apply r_assign; (iterate 3 exact rfl)) | (apply r_loadN; (iterate 4 exact rfl); (first | exact at1 | exact at2); exact rfl) | (apply r_allocZ; (iterate 3 exact rfl); intro _) | (apply r_boxA; (iterate 4 exact rfl); intro _)))
  refine r_call0 trivial rfl rfl rfl (fun w hk _ => c_refAlike w _ _ a b (ha0.mono hk) (hb0.mono hk) hl hl') fun w v w' _ _ _ hR => ?_
  obtain ⟨b', rfl, hb⟩ := hR
  cases b' with
  | true => exact absurd (hb.1 rfl) h
  | false =>
    (repeat' (first | refine JC.seq ?_ | refine JC.ops ?_ | refine JO.nil ?_ | refine JX.thenN ?_ | (apply r_move; (iterate 3 exact rfl)) | (apply r_assign; (iterate 3 exact rfl)) | (apply r_not; (iterate 3 exact rfl)) | (apply r_storeN; exact rfl; (first | exact trivial | exact ⟨rfl, rfl⟩); exact rfl; exact rfl; exact at0; (iterate 3 exact rfl)) | (apply r_buildL; (iterate 5 exact rfl)) | (apply r_storeN; exact rfl; (first | exact trivial | exact ⟨rfl, rfl⟩); exact rfl; exact rfl; exact at0; (iterate 3 exact rfl)) | refine JX.thenR ?_ | refine JC.ret ?_ | refine JC.condT rfl ?_))
    exact JX.retCT 0 rfl rfl rfl rfl (fun a w' st => ⟨st.kp, rfl⟩)

set_option maxHeartbeats 2000000 in
theorem c_refSub (K : Nat) (w : World) (v u : Value) (m n : ZM) (hm : RtZ m) (hn : RtZ n) (hr : m.r = n.r) (hc : m.c = n.c) (hK : K ≤ 90000000) (hx : BdZ K m) (hy : BdZ K n) (hv : IsM w v m) (hu : IsM w u n) :
    Calls Tryd.prog 48 #[v, u] w (Ret fun v w' => Kp [] w w' ∧ GivesMB (subZ m n) true w v w') := by
  have hvX := hv.x
  have huX := hu.x
  obtain ⟨E, rfl, hE⟩ := hv
  obtain ⟨E', rfl, hE'⟩ := hu
  have hle := hm.le
  have hl := hm.len
  have hl' := hn.len
  rw [← hr, ← hc] at hl'
  rw [hl] at hE
  rw [hl'] at hE'
  have hgx := mapZ_eq (· - ·) hm hn hr hc
  refine calls_of_S [⟨8, 2, [], []⟩] [] (by simp) [] Tryd.func48 rfl mixed (by kernel_rfl) Tryd.ntmps48 Tryd.results48 rfl ⟨by simp, by simp⟩ (by simp) ?_
  simp only [toS, textOps, toSOp, kindAt, kindOf, odAt, sopsAt, ordOf, zipF]
  have hR := WZ.rd (c := ⟨Tryd.prog, 43, w, [], by simp⟩) hE rfl []
  have hR' := WZ.rd (c := ⟨Tryd.prog, 43, w, [], by simp⟩) hE' rfl []
  (repeat' (first | refine JC.seq ?_ | refine JC.ops ?_ | refine JO.nil ?_ | refine JX.thenN ?_ | (apply r_assign; (iterate 3 exact rfl)) | (apply r_loadN; (iterate 4 exact rfl); (first | exact at1 | exact at2); exact rfl) | (apply r_allocZ; (iterate 3 exact rfl); intro _) | (apply r_boxA; (iterate 4 exact rfl); intro _)))
  rename_i b2 b3 b4
  refine r_call0 trivial rfl rfl rfl (fun w hk _ => c_refAlike w _ _ m.xm n.xm (hvX.mono hk) (huX.mono hk) (xm_len hm) (xm_len hn)) fun w v w' _ _ _ hR => ?_
  obtain ⟨b', rfl, hb⟩ := hR
  obtain rfl := hb.2 ⟨hm.rx, hn.rx, by simp [ZM.xm, hr], by simp [ZM.xm, hc]⟩
  (repeat' (first | refine JC.seq ?_ | refine JC.ops ?_ | refine JO.nil ?_ | refine JX.thenN ?_ | (apply r_move; (iterate 3 exact rfl)) | (apply r_fieldAddr; (iterate 3 exact rfl)) | (apply r_assign; (iterate 3 exact rfl)) | (apply r_load; (iterate 4 exact rfl); exact at2; exact rfl) | (apply r_not; (iterate 3 exact rfl)) | refine JC.skip ?_ | refine JC.condF rfl ?_))
  refine r_callA (A := [_, _, _]) (B := []) rfl (by first | trivial | exact ⟨rfl, rfl⟩) rfl rfl rfl (fun w _ _ => c_refZero m.r m.c hm.r hm.c w) fun w v w' _ _ _ hR => ?_
  obtain ⟨N, Eo, hN, rfl, hO⟩ := hR
  obtain ⟨Ao, co, rfl⟩ := hO.form
  refine ⟨N, hN, ?_⟩
  (repeat' (first | refine JC.seq ?_ | refine JC.ops ?_ | refine JO.nil ?_ | refine JX.thenN ?_ | (apply r_assign; (iterate 3 exact rfl)) | (apply r_storeN; exact rfl; (first | exact trivial | exact ⟨rfl, rfl⟩); exact rfl; exact rfl; exact at0; (iterate 3 exact rfl)) | (apply r_allocZ; (iterate 3 exact rfl); intro _) | (apply r_storeN; exact rfl; (first | exact trivial | exact ⟨rfl, rfl⟩); exact rfl; exact rfl; exact at0; (iterate 3 exact rfl)) | refine JC.block ?_))
  rename_i b7
  refine JC.loopH (ι := Nat × SHeap) ⟨fun z => [(8, nv z.1), (2, .pointer (some ⟨b2, 0, none⟩)), (3, .pointer (some ⟨b3, 0, none⟩)), (4, .pointer (some ⟨b4, 0, none⟩)), (7, .pointer (some ⟨b7, 0, none⟩))],
    fun z => [(b7, .cells #[nv m.r, nv m.c, .slice Ao (m.r * m.c) co] 29), (b4, .cells #[iv 0, iv 0, .slice none 0 0] 29), (b3, .cells #[nv n.r, nv n.c, E'] 29), (b2, .cells #[nv m.r, nv m.c, E] 29)] ++ (z.2 ++ []),
    fun z => z.1 ≤ m.r * m.c ∧ OwnZ z.2 (.slice Ao (m.r * m.c) co) (m.r * m.c) (tab (m.r * m.c) fun i => if i < z.1 then m.e.getD i 0 - n.e.getD i 0 else 0), fun z => m.r * m.c - z.1⟩ (0, N) ⟨by omega, by simpa using hO⟩ (by repeat first | exact trivial | refine ⟨rfl, ?_⟩) (by (first | exact HSub.refl _ | (repeat' first | exact HSub.nil _ | exact HSub.refl _ | refine HSub.at 0 rfl ?_ | refine HSub.at 1 rfl ?_ | refine HSub.at 2 rfl ?_ | refine HSub.at 3 rfl ?_ | refine HSub.at 4 rfl ?_ | refine HSub.at 5 rfl ?_ | refine HSub.at 6 rfl ?_ | refine HSub.at 7 rfl ?_))) (fun z hz => ?_)
  clear hO
  obtain ⟨k, N⟩ := z
  obtain ⟨hk, hO⟩ := hz
  dsimp only at hk hO ⊢
  by_cases hkk : k < m.r * m.c
  · (repeat' (first | refine JC.seq ?_ | refine JC.ops ?_ | refine JC.opsD ?_ | refine JO.nil ?_ | refine JX.thenN ?_ | (apply r_move; (iterate 3 exact rfl)) | (apply r_fieldAddr; (iterate 3 exact rfl)) | (apply r_load; (iterate 4 exact rfl); (first | exact at0 | exact at2 | exact at3); exact rfl) | (apply r_idxZ; (iterate 4 exact rfl); (first | assumption | exact WZ.rd (by assumption) rfl [] | exact OwnZ.rd (by assumption)); (first | assumption | omega)) | (apply r_ldZ; (iterate 4 exact rfl); (first | assumption | exact WZ.rd (by assumption) rfl [] | exact OwnZ.rd (by assumption)); (repeat' first | exact HSub.nil _ | exact HSub.hd | exact HSub.in0 | exact HSub.refl _ | refine HSub.skip ?_ | refine HSub.skipN ?_); (first | assumption | omega)) | (apply r_lenZ; (iterate 3 exact rfl); (first | assumption | exact WZ.rd (by assumption) rfl [] | exact OwnZ.rd (by assumption))) | (apply r_lss; (iterate 4 exact rfl); all_goals intro hc; all_goals try (exfalso; omega)) | refine JC.skip ?_ | refine JC.condT rfl ?_ | refine JC.block ?_))
    refine r_call0 (by first | trivial | exact ⟨rfl, rfl⟩) rfl rfl rfl (fun w _ _ => c_SubR w _ _ (m.e.getD k 0) (n.e.getD k 0) K (IsZ.can (hx k)) (IsZ.can (hy k)) (by omega)) fun w v w' _ _ _ hR => ?_
    subst hR
    (repeat' (first | (apply r_idxZ; (iterate 4 exact rfl); (first | assumption | exact WZ.rd (by assumption) rfl [] | exact OwnZ.rd (by assumption)); (first | assumption | omega))))
    refine r_stZ (A := [_, _, _, _]) (u := m.e.getD k 0 - n.e.getD k 0) hO rfl rfl (by first | trivial | exact ⟨rfl, rfl⟩) rfl rfl hkk (fun N' hO' => ?_)
    rw [zip_step (f := fun i => m.e.getD i 0 - n.e.getD i 0)] at hO'
    (repeat' (first | refine JC.ops ?_ | refine JO.nil ?_ | refine JX.thenN ?_ | (apply r_move; (iterate 3 exact rfl)) | (apply r_assign; (iterate 3 exact rfl)) | (apply r_add1; (iterate 4 exact rfl); omega) | refine JX.blockN ?_))
    exact JX.roundH (k + 1, N') ⟨by dsimp only; omega, hO'⟩ (by dsimp only; omega) (by repeat first | exact trivial | refine ⟨rfl, ?_⟩) (HSub.refl _)
  · (repeat' (first | refine JC.seq ?_ | refine JC.ops ?_ | refine JO.nil ?_ | refine JX.thenN ?_ | (apply r_move; (iterate 3 exact rfl)) | (apply r_fieldAddr; (iterate 3 exact rfl)) | (apply r_assign; (iterate 3 exact rfl)) | (apply r_load; (iterate 4 exact rfl); (first | exact at0 | exact at1); exact rfl) | (apply r_loadN; (iterate 4 exact rfl); (first | exact at0 | exact at1); exact rfl) | (apply r_lenZ; (iterate 3 exact rfl); (first | assumption | exact WZ.rd (by assumption) rfl [] | exact OwnZ.rd (by assumption))) | (apply r_storeN; exact rfl; (first | exact trivial | exact ⟨rfl, rfl⟩); exact rfl; exact rfl; (first | exact at0 | exact at1); (iterate 3 exact rfl)) | (apply r_lss; (iterate 4 exact rfl); all_goals intro hc; all_goals try (exfalso; omega)) | (apply r_storeN; exact rfl; (first | exact trivial | exact ⟨rfl, rfl⟩); exact rfl; exact rfl; (first | exact at0 | exact at1); (iterate 3 exact rfl)) | refine JX.thenE ?_ | refine JC.exit ?_ | refine JC.ret ?_ | refine JC.condF rfl ?_ | refine JX.blockE ?_))
    rw [tab_congr (g' := fun i => m.e.getD i 0 - n.e.getD i 0) (fun i hi => if_pos (by omega)), hgx] at hO
    exact JX.retCT 1 rfl rfl rfl rfl (fun a w' st => ⟨st.kp, N, _, rfl, st.newOf rfl (by (repeat' first | exact HSub.nil _ | exact HSub.hd | exact HSub.in0 | exact HSub.refl _ | refine HSub.skip ?_ | refine HSub.skipN ?_)), OwnM.mk' hO⟩)

set_option maxHeartbeats 1000000 in
theorem c_refSubF (w : World) (v u : Value) (a b : XM) (h : ¬ Alike a b) (ha : IsX w v a) (hb : IsX w u b) (hl : a.E.length < 1000000000) (hl' : b.E.length < 1000000000) :
    Calls Tryd.prog 48 #[v, u] w (Ret fun v w' => Kp [] w w' ∧ v = .tuple #[zeroM, .bool false]) := by
  have ha0 := ha
  have hb0 := hb
  obtain ⟨E, rfl, hE⟩ := ha
  obtain ⟨E', rfl, hE'⟩ := hb
  refine calls_of_S [⟨8, 2, [], []⟩] [] (by simp) [] Tryd.func48 rfl mixed (by kernel_rfl) Tryd.ntmps48 Tryd.results48 rfl ⟨by simp, by simp⟩ (by simp) ?_
  simp only [toS, textOps, toSOp, kindAt, kindOf, odAt, sopsAt, ordOf, zipF]
  (repeat' (first | refine JC.seq ?_ | refine JC.ops ?_ | refine JO.nil ?_ | refine JX.thenN ?_ | (apply r_assign; (iterate 3 exact rfl)) | (apply r_loadN; (iterate 4 exact rfl); (first | exact at1 | exact at2); exact rfl) | (apply r_allocZ; (iterate 3 exact rfl); intro _) | (apply r_boxA; (iterate 4 exact rfl); intro _)))
  refine r_call0 trivial rfl rfl rfl (fun w hk _ => c_refAlike w _ _ a b (ha0.mono hk) (hb0.mono hk) hl hl') fun w v w' _ _ _ hR => ?_
  obtain ⟨b', rfl, hb⟩ := hR
  cases b' with
  | true => exact absurd (hb.1 rfl) h
  | false =>
    (repeat' (first | refine JC.seq ?_ | refine JC.ops ?_ | refine JO.nil ?_ | refine JX.thenN ?_ | (apply r_move; (iterate 3 exact rfl)) | (apply r_assign; (iterate 3 exact rfl)) | (apply r_not; (iterate 3 exact rfl)) | (apply r_storeN; exact rfl; (first | exact trivial | exact ⟨rfl, rfl⟩); exact rfl; exact rfl; exact at0; (iterate 3 exact rfl)) | (apply r_buildL; (iterate 5 exact rfl)) | (apply r_storeN; exact rfl; (first | exact trivial | exact ⟨rfl, rfl⟩); exact rfl; exact rfl; exact at0; (iterate 3 exact rfl)) | refine JX.thenR ?_ | refine JC.ret ?_ | refine JC.condT rfl ?_))
    exact JX.retCT 0 rfl rfl rfl rfl (fun a w' st => ⟨st.kp, rfl⟩)

set_option maxHeartbeats 8000000 in
theorem c_refMul (K L : Nat) (w : World) (v u : Value) (m n : ZM) (hm : RtZ m) (hn : RtZ n) (hr : m.c = n.r) (hK : K + L ≤ 90000000) (hx : BdZ K m) (hy : BdZ L n) (hv : IsM w v m) (hu : IsM w u n) :
    Calls Tryd.prog 49 #[v, u] w (Ret fun v w' => Kp [] w w' ∧ GivesMB (mulZ m n) true w v w') := by
  have hvX := hv.x
  have huX := hu.x
  obtain ⟨E, rfl, hE⟩ := hv
  obtain ⟨E', rfl, hE'⟩ := hu
  have hle := hm.le
  have hle' := hn.le
  have hbr := hm.r
  have hbc := hm.c
  have hbc' := hn.c
  have hrc := rcZ hbr hbc'
  rw [hm.len] at hE
  rw [hn.len] at hE'
  refine calls_of_S [⟨19, 2, [], []⟩] [] (by simp) [] Tryd.func49 rfl mixed (by kernel_rfl) Tryd.ntmps49 Tryd.results49 rfl ⟨by simp, by simp⟩ (by simp) ?_
  simp only [toS, textOps, toSOp, kindAt, kindOf, odAt, sopsAt, ordOf, zipF]
  have hR := WZ.rd (c := ⟨Tryd.prog, 104, w, [], by simp⟩) hE rfl []
  have hR' := WZ.rd (c := ⟨Tryd.prog, 104, w, [], by simp⟩) hE' rfl []
  (repeat' (first | refine JC.seq ?_ | refine JC.ops ?_ | refine JO.nil ?_ | refine JX.thenN ?_ | (apply r_assign; (iterate 3 exact rfl)) | (apply r_loadN; (iterate 4 exact rfl); exact at2; exact rfl) | (apply r_allocZ; (iterate 3 exact rfl); intro _) | (apply r_boxA; (iterate 4 exact rfl); intro _)))
  rename_i b2 b3 b4
  refine r_call0 trivial rfl rfl rfl (fun w hk _ => c_refRight w _ m.xm (hvX.mono hk) (xm_len hm)) fun w v w' _ _ _ hc0 => ?_
  obtain ⟨b', rfl, hb⟩ := hc0
  obtain rfl := hb.2 hm.rx
  (repeat' (first | refine JC.seq ?_ | refine JC.ops ?_ | refine JO.nil ?_ | refine JX.thenN ?_ | (apply r_assign; (iterate 3 exact rfl)) | (apply r_loadN; (iterate 4 exact rfl); exact at1; exact rfl)))
  refine r_call0 trivial rfl rfl rfl (fun w hk _ => c_refRight w _ n.xm (huX.mono hk) (xm_len hn)) fun w v w' _ _ _ hc0 => ?_
  obtain ⟨b', rfl, hb'⟩ := hc0
  obtain rfl := hb'.2 hn.rx
  (repeat' (first | refine JC.seq ?_ | refine JC.ops ?_ | refine JO.nil ?_ | refine JX.thenN ?_ | (apply r_move; (iterate 3 exact rfl)) | (apply r_fieldAddr; (iterate 3 exact rfl)) | (apply r_assign; (iterate 3 exact rfl)) | (apply r_load; (iterate 4 exact rfl); (first | exact at1 | exact at2); exact rfl) | (apply r_pickF; (iterate 4 exact rfl)) | (apply r_not; (iterate 3 exact rfl)) | (apply r_neq; (iterate 4 exact rfl); all_goals intro hc; all_goals try (exfalso; omega)) | refine JC.skip ?_ | refine JC.condF rfl ?_))
  all_goals first
    | (exfalso; omega)
    | skip
  refine r_callA (A := [_, _, _]) (B := []) rfl (by first | trivial | exact ⟨rfl, rfl⟩) rfl rfl rfl (fun w _ _ => c_refZero m.r n.c hbr hbc' w) fun w v w' _ _ _ hR => ?_
  obtain ⟨N, Eo, hN, rfl, hO⟩ := hR
  obtain ⟨Ao, co, rfl⟩ := hO.form
  refine ⟨N, hN, ?_⟩
  (repeat' (first | refine JC.seq ?_ | refine JC.ops ?_ | refine JO.nil ?_ | refine JX.thenN ?_ | (apply r_assign; (iterate 3 exact rfl)) | (apply r_storeN; exact rfl; (first | exact trivial | exact ⟨rfl, rfl⟩); exact rfl; exact rfl; exact at0; (iterate 3 exact rfl)) | (apply r_allocZ; (iterate 3 exact rfl); intro _) | (apply r_storeN; exact rfl; (first | exact trivial | exact ⟨rfl, rfl⟩); exact rfl; exact rfl; exact at0; (iterate 3 exact rfl)) | refine JC.block ?_))
  rename_i b8
  refine JC.loopH (ι := Nat × SHeap) ⟨fun z => [(9, nv z.1), (2, .pointer (some ⟨b2, 0, none⟩)), (3, .pointer (some ⟨b3, 0, none⟩)), (4, .pointer (some ⟨b4, 0, none⟩)), (8, .pointer (some ⟨b8, 0, none⟩))],
    fun z => [(b8, .cells #[nv m.r, nv n.c, .slice Ao (m.r * n.c) co] 29), (b4, .cells #[iv 0, iv 0, .slice none 0 0] 29), (b3, .cells #[nv n.r, nv n.c, E'] 29), (b2, .cells #[nv m.r, nv m.c, E] 29)] ++ (z.2 ++ []),
    fun z => z.1 ≤ m.r ∧ OwnZ z.2 (.slice Ao (m.r * n.c) co) (m.r * n.c) (muE m n (List.range z.1)), fun z => m.r - z.1⟩ (0, N) ⟨by omega, by rw [show List.range 0 = [] from rfl, muE_zero]; exact hO⟩ (by repeat first | exact trivial | refine ⟨rfl, ?_⟩) (by (first | exact HSub.refl _ | (repeat' first | exact HSub.nil _ | exact HSub.refl _ | refine HSub.at 0 rfl ?_ | refine HSub.at 1 rfl ?_ | refine HSub.at 2 rfl ?_ | refine HSub.at 3 rfl ?_ | refine HSub.at 4 rfl ?_ | refine HSub.at 5 rfl ?_ | refine HSub.at 6 rfl ?_ | refine HSub.at 7 rfl ?_))) (fun z hz => ?_)
  clear hO
  obtain ⟨i, N⟩ := z
  obtain ⟨hi, hO⟩ := hz
  dsimp only at hi hO ⊢
  by_cases hii : i < m.r
  · have q1 : i * m.c ≤ 40000 := Nat.mul_le_mul (show i ≤ 200 by omega) hbc
    have q2 : i * n.c ≤ 40000 := Nat.mul_le_mul (show i ≤ 200 by omega) hbc'
    (repeat' (first | refine JC.seq ?_ | refine JC.ops ?_ | refine JO.nil ?_ | refine JX.thenN ?_ | (apply r_move; (iterate 3 exact rfl)) | (apply r_fieldAddr; (iterate 3 exact rfl)) | (apply r_assign; (iterate 3 exact rfl)) | (apply r_load; (iterate 4 exact rfl); exact at3; exact rfl) | (apply r_lss; (iterate 4 exact rfl); all_goals intro hc; all_goals try (exfalso; omega)) | refine JC.skip ?_ | refine JC.condT rfl ?_ | refine JC.block ?_))
    refine JC.loopH (ι := Nat × SHeap) ⟨fun z => [(10, nv z.1), (9, nv i), (2, .pointer (some ⟨b2, 0, none⟩)), (3, .pointer (some ⟨b3, 0, none⟩)), (4, .pointer (some ⟨b4, 0, none⟩)), (8, .pointer (some ⟨b8, 0, none⟩))],
      fun z => [(b8, .cells #[nv m.r, nv n.c, .slice Ao (m.r * n.c) co] 29), (b4, .cells #[iv 0, iv 0, .slice none 0 0] 29), (b3, .cells #[nv n.r, nv n.c, E'] 29), (b2, .cells #[nv m.r, nv m.c, E] 29)] ++ (z.2 ++ []),
      fun z => z.1 ≤ m.c ∧ OwnZ z.2 (.slice Ao (m.r * n.c) co) (m.r * n.c) (muS m n (List.range i) i (List.range z.1) 0 0), fun z => m.c - z.1⟩ (0, N) ⟨by omega, by rw [show List.range 0 = [] from rfl, muS_start]; exact hO⟩ (by repeat first | exact trivial | refine ⟨rfl, ?_⟩) (HSub.refl _) (fun z hz => ?_)
    clear hO
    obtain ⟨k, N⟩ := z
    obtain ⟨hk, hO⟩ := hz
    dsimp only at hk hO ⊢
    by_cases hkk : k < m.c
    · have hik := zx_lt hii hkk
      have q3 : k * n.c ≤ 40000 := Nat.mul_le_mul (show k ≤ 200 by omega) hbc'
      (repeat' (first | refine JC.seq ?_ | refine JC.ops ?_ | refine JO.nil ?_ | refine JX.thenN ?_ | (apply r_move; (iterate 3 exact rfl)) | (apply r_fieldAddr; (iterate 3 exact rfl)) | (apply r_assign; (iterate 3 exact rfl)) | (apply r_load; (iterate 4 exact rfl); (first | exact at0 | exact at3); exact rfl) | (apply r_idxZ; (iterate 4 exact rfl); (first | assumption | exact WZ.rd (by assumption) rfl [] | exact OwnZ.rd (by assumption)); (first | assumption | omega)) | (apply r_ldZ; (iterate 4 exact rfl); (first | assumption | exact WZ.rd (by assumption) rfl [] | exact OwnZ.rd (by assumption)); (repeat' first | exact HSub.nil _ | exact HSub.hd | exact HSub.in0 | exact HSub.refl _ | refine HSub.skip ?_ | refine HSub.skipN ?_); (first | assumption | omega)) | (apply r_addN; (iterate 4 exact rfl); omega) | (apply r_mulN; (iterate 4 exact rfl); (first | assumption | omega)) | (apply r_storeN; exact rfl; (first | exact trivial | exact ⟨rfl, rfl⟩); exact rfl; exact rfl; (first | exact at0 | exact at3); (iterate 3 exact rfl)) | (apply r_lss; (iterate 4 exact rfl); all_goals intro hc; all_goals try (exfalso; omega)) | (apply r_allocZ; (iterate 3 exact rfl); intro _) | (apply r_storeN; exact rfl; (first | exact trivial | exact ⟨rfl, rfl⟩); exact rfl; exact rfl; (first | exact at0 | exact at3); (iterate 3 exact rfl)) | refine JC.skip ?_ | refine JC.condT rfl ?_ | refine JC.block ?_))
      rename_i b11
      refine JC.loopH (ι := Nat × SHeap) ⟨fun z => [(12, nv z.1), (11, .pointer (some ⟨b11, 0, none⟩)), (10, nv k), (9, nv i), (2, .pointer (some ⟨b2, 0, none⟩)), (3, .pointer (some ⟨b3, 0, none⟩)), (4, .pointer (some ⟨b4, 0, none⟩)), (8, .pointer (some ⟨b8, 0, none⟩))],
        fun z => [(b11, .cells (wc (m.at i k)) 41), (b8, .cells #[nv m.r, nv n.c, .slice Ao (m.r * n.c) co] 29), (b4, .cells #[iv 0, iv 0, .slice none 0 0] 29), (b3, .cells #[nv n.r, nv n.c, E'] 29), (b2, .cells #[nv m.r, nv m.c, E] 29)] ++ (z.2 ++ []),
        fun z => z.1 ≤ n.c ∧ (m.at i k = 0 → z.1 = 0) ∧ OwnZ z.2 (.slice Ao (m.r * n.c) co) (m.r * n.c) (muS m n (List.range i) i (List.range k) k z.1), fun z => n.c - z.1⟩ (0, N) ⟨by omega, fun _ => rfl, by rw [muS_k m n (List.range i) i (List.range k) k 0]; exact hO⟩ (by repeat first | exact trivial | refine ⟨rfl, ?_⟩) (HSub.refl _) (fun z hz => ?_)
      clear hO
      obtain ⟨j, N⟩ := z
      obtain ⟨hj, hjz, hO⟩ := hz
      dsimp only at hj hjz hO ⊢
      by_cases hjj : j < n.c
      · have hkj := zx_lt (show k < n.r by omega) hjj
        have hij := zx_lt hii hjj
        (repeat' (first | refine JC.seq ?_ | refine JC.ops ?_ | refine JO.nil ?_ | refine JX.thenN ?_ | (apply r_move; (iterate 3 exact rfl)) | (apply r_fieldAddr; (iterate 3 exact rfl)) | (apply r_load; (iterate 4 exact rfl); (first | exact at0 | exact at3); exact rfl) | (apply r_pickT; (iterate 4 exact rfl)) | (apply r_neS; (iterate 4 exact rfl)) | (apply r_lss; (iterate 4 exact rfl); all_goals intro hc; all_goals try (exfalso; omega))))
        by_cases hz : m.at i k = 0
        · rw [show decide (magU (m.at i k).natAbs ≠ []) = false from decide_eq_false (fun h => h (magU_nil.2 (by omega)))]
          (repeat' (first | refine JC.ops ?_ | refine JO.nil ?_ | refine JX.thenN ?_ | (apply r_move; (iterate 3 exact rfl)) | (apply r_assign; (iterate 3 exact rfl)) | (apply r_add1; (iterate 4 exact rfl); omega) | refine JX.thenE ?_ | refine JC.exit ?_ | refine JC.condF rfl ?_ | refine JX.blockN ?_ | refine JX.blockE ?_))
          have hj0 : j = 0 := hjz hz
          subst hj0
          rw [muS_k m n (List.range i) i (List.range k) k 0, muS_jump hz, ← List.range_succ] at hO
          exact JX.roundH (k + 1, N) ⟨by dsimp only; omega, hO⟩ (by dsimp only; omega) (by repeat first | exact trivial | refine ⟨rfl, ?_⟩) (HSub.skip (HSub.refl _))
        · rw [show decide (magU (m.at i k).natAbs ≠ []) = true from decide_eq_true (fun h => hz (by have := magU_nil.1 h; omega))]
          (repeat' (first | refine JC.seq ?_ | refine JC.ops ?_ | refine JO.nil ?_ | refine JX.thenN ?_ | (apply r_move; (iterate 3 exact rfl)) | (apply r_fieldAddr; (iterate 3 exact rfl)) | (apply r_load; (iterate 4 exact rfl); (first | exact at0 | exact at3); exact rfl) | (apply r_idxZ; (iterate 4 exact rfl); (first | assumption | exact WZ.rd (by assumption) rfl [] | exact OwnZ.rd (by assumption)); (first | assumption | omega)) | (apply r_ldZ; (iterate 4 exact rfl); (first | assumption | exact WZ.rd (by assumption) rfl [] | exact OwnZ.rd (by assumption)); (repeat' first | exact HSub.nil _ | exact HSub.hd | exact HSub.in0 | exact HSub.refl _ | refine HSub.skip ?_ | refine HSub.skipN ?_); (first | assumption | omega)) | (apply r_addN; (iterate 4 exact rfl); omega) | (apply r_mulN; (iterate 4 exact rfl); (first | assumption | omega)) | (apply r_storeN; exact rfl; (first | exact trivial | exact ⟨rfl, rfl⟩); exact rfl; exact rfl; (first | exact at0 | exact at3); (iterate 3 exact rfl)) | (apply r_neS; (iterate 4 exact rfl)) | (apply r_allocZ; (iterate 3 exact rfl); intro _) | (apply r_storeN; exact rfl; (first | exact trivial | exact ⟨rfl, rfl⟩); exact rfl; exact rfl; (first | exact at0 | exact at3); (iterate 3 exact rfl)) | refine JC.skip ?_ | refine JC.condT rfl ?_ | refine JC.block ?_))
          rename_i b13
          by_cases hz2 : n.at k j = 0
          · rw [show decide (magU (n.e.getD (k * n.c + j) 0).natAbs ≠ []) = false from decide_eq_false (fun h => h (magU_nil.2 (by have : n.e.getD (k * n.c + j) 0 = 0 := hz2; omega)))]
            (repeat' (first | refine JC.ops ?_ | refine JO.nil ?_ | refine JX.thenN ?_ | (apply r_move; (iterate 3 exact rfl)) | (apply r_assign; (iterate 3 exact rfl)) | (apply r_add1; (iterate 4 exact rfl); omega) | refine JC.skip ?_ | refine JC.condF rfl ?_ | refine JX.blockN ?_))
            rw [muS_skip (by rw [hz2, Int.mul_zero])] at hO
            exact JX.roundH (j + 1, N) ⟨by dsimp only; omega, fun h => absurd h hz, hO⟩ (by dsimp only; omega) (by repeat first | exact trivial | refine ⟨rfl, ?_⟩) (HSub.skip (HSub.refl _))
          · rw [show decide (magU (n.e.getD (k * n.c + j) 0).natAbs ≠ []) = true from decide_eq_true (fun h => hz2 (by have := magU_nil.1 h; show n.e.getD (k * n.c + j) 0 = 0; omega))]
            (repeat' (first | refine JC.seq ?_ | refine JC.ops ?_ | refine JC.opsD ?_ | refine JO.nil ?_ | refine JX.thenN ?_ | (apply r_move; (iterate 3 exact rfl)) | (apply r_fieldAddr; (iterate 3 exact rfl)) | (apply r_assign; (iterate 3 exact rfl)) | (apply r_load; (iterate 4 exact rfl); (first | exact at0 | exact at1 | exact at2 | exact at4); exact rfl) | (apply r_loadN; (iterate 4 exact rfl); (first | exact at0 | exact at1 | exact at2 | exact at4); exact rfl) | (apply r_idxZ; (iterate 4 exact rfl); (first | assumption | exact WZ.rd (by assumption) rfl [] | exact OwnZ.rd (by assumption)); (first | assumption | omega)) | (apply r_ldZ; (iterate 4 exact rfl); (first | assumption | exact WZ.rd (by assumption) rfl [] | exact OwnZ.rd (by assumption)); (repeat' first | exact HSub.nil _ | exact HSub.hd | exact HSub.in0 | exact HSub.refl _ | refine HSub.skip ?_ | refine HSub.skipN ?_); (first | assumption | omega)) | (apply r_addN; (iterate 4 exact rfl); omega) | (apply r_mulN; (iterate 4 exact rfl); (first | assumption | omega)) | refine JC.condT rfl ?_))
            refine r_call0 (by first | trivial | exact ⟨rfl, rfl⟩) rfl rfl rfl (fun w _ _ => c_MulR w _ _ (m.at i k) (n.at k j) (K + L) (IsZ.can (bd_up (hx.at i k) (by omega))) (IsZ.can (bd_up (hy.at k j) (by omega))) (by omega)) fun w v w' _ _ _ hR => ?_
            subst hR
            skip
            have es : (muS m n (List.range i) i (List.range k) k j).getD (i * n.c + j) 0 = muF m n (List.range i) i (List.range k) k j i j := enz_tbz hii hjj
            refine r_call0 (by first | trivial | exact ⟨rfl, rfl⟩) rfl rfl rfl (fun w _ _ => c_AddR w _ _ ((muS m n (List.range i) i (List.range k) k j).getD (i * n.c + j) 0) (m.at i k * n.at k j) (K + L + 2) (IsZ.can (by rw [es]; exact muF_bd hbc hx hy (by simp; omega) (by simp; omega))) (IsZ.can (bd_up (mul_bd (hx.at i k) (hy.at k j)) (by omega))) (by omega)) fun w v w' _ _ _ hR => ?_
            subst hR
            (repeat' (first | (apply r_idxZ; (iterate 4 exact rfl); (first | assumption | exact WZ.rd (by assumption) rfl [] | exact OwnZ.rd (by assumption)); (first | assumption | omega))))
            refine r_stZ (A := [_, _, _, _, _, _]) hO rfl rfl (by first | trivial | exact ⟨rfl, rfl⟩) rfl rfl hij (fun N' hO' => ?_)
            rw [show (muS m n (List.range i) i (List.range k) k j).getD (i * n.c + j) 0 = enz n.c (muS m n (List.range i) i (List.range k) k j) i j from rfl, muS_set hii hjj] at hO'
            (repeat' (first | refine JC.ops ?_ | refine JO.nil ?_ | refine JX.thenN ?_ | (apply r_move; (iterate 3 exact rfl)) | (apply r_assign; (iterate 3 exact rfl)) | (apply r_add1; (iterate 4 exact rfl); omega) | refine JX.blockN ?_))
            exact JX.roundH (j + 1, N') ⟨by dsimp only; omega, fun h => absurd h hz, hO'⟩ (by dsimp only; omega) (by repeat first | exact trivial | refine ⟨rfl, ?_⟩) (HSub.skip (HSub.refl _))
      · (repeat' (first | refine JC.seq ?_ | refine JC.ops ?_ | refine JO.nil ?_ | refine JX.thenN ?_ | (apply r_move; (iterate 3 exact rfl)) | (apply r_fieldAddr; (iterate 3 exact rfl)) | (apply r_assign; (iterate 3 exact rfl)) | (apply r_load; (iterate 4 exact rfl); exact at3; exact rfl) | (apply r_add1; (iterate 4 exact rfl); omega) | (apply r_pickF; (iterate 4 exact rfl)) | (apply r_lss; (iterate 4 exact rfl); all_goals intro hc; all_goals try (exfalso; omega)) | refine JX.thenE ?_ | refine JC.exit ?_ | refine JC.condF rfl ?_ | refine JX.blockN ?_ | refine JX.blockE ?_ | (apply r_skip; exact rfl; exact rfl; (first | (intro h; cases h; done) | (intro _; rfl)))))
        obtain rfl : j = n.c := by omega
        rw [muS_next, ← List.range_succ] at hO
        exact JX.roundH (k + 1, N) ⟨by dsimp only; omega, hO⟩ (by dsimp only; omega) (by repeat first | exact trivial | refine ⟨rfl, ?_⟩) (HSub.skip (HSub.refl _))
    · (repeat' (first | refine JC.seq ?_ | refine JC.ops ?_ | refine JO.nil ?_ | refine JX.thenN ?_ | (apply r_move; (iterate 3 exact rfl)) | (apply r_fieldAddr; (iterate 3 exact rfl)) | (apply r_assign; (iterate 3 exact rfl)) | (apply r_load; (iterate 4 exact rfl); exact at3; exact rfl) | (apply r_add1; (iterate 4 exact rfl); omega) | (apply r_lss; (iterate 4 exact rfl); all_goals intro hc; all_goals try (exfalso; omega)) | refine JX.thenE ?_ | refine JC.exit ?_ | refine JC.condF rfl ?_ | refine JX.blockN ?_ | refine JX.blockE ?_))
      obtain rfl : k = m.c := by omega
      rw [muS_row, ← List.range_succ] at hO
      exact JX.roundH (i + 1, N) ⟨by dsimp only; omega, hO⟩ (by dsimp only; omega) (by repeat first | exact trivial | refine ⟨rfl, ?_⟩) (HSub.refl _)
  · (repeat' (first | refine JC.seq ?_ | refine JC.ops ?_ | refine JO.nil ?_ | refine JX.thenN ?_ | (apply r_move; (iterate 3 exact rfl)) | (apply r_fieldAddr; (iterate 3 exact rfl)) | (apply r_assign; (iterate 3 exact rfl)) | (apply r_load; (iterate 4 exact rfl); (first | exact at0 | exact at1 | exact at3); exact rfl) | (apply r_loadN; (iterate 4 exact rfl); (first | exact at0 | exact at1 | exact at3); exact rfl) | (apply r_storeN; exact rfl; (first | exact trivial | exact ⟨rfl, rfl⟩); exact rfl; exact rfl; (first | exact at0 | exact at1 | exact at3); (iterate 3 exact rfl)) | (apply r_lss; (iterate 4 exact rfl); all_goals intro hc; all_goals try (exfalso; omega)) | (apply r_storeN; exact rfl; (first | exact trivial | exact ⟨rfl, rfl⟩); exact rfl; exact rfl; (first | exact at0 | exact at1 | exact at3); (iterate 3 exact rfl)) | refine JX.thenE ?_ | refine JC.exit ?_ | refine JC.ret ?_ | refine JC.condF rfl ?_ | refine JX.blockE ?_))
    obtain rfl : i = m.r := by omega
    rw [muE_end] at hO
    exact JX.retCT 1 rfl rfl rfl rfl (fun a w' st => ⟨st.kp, N, _, rfl, st.newOf rfl (by (repeat' first | exact HSub.nil _ | exact HSub.hd | exact HSub.in0 | exact HSub.refl _ | refine HSub.skip ?_ | refine HSub.skipN ?_)), OwnM.mk' hO⟩)

set_option maxHeartbeats 1000000 in
theorem c_refMulF (w : World) (v u : Value) (a b : XM) (h : ¬ (RX a ∧ RX b ∧ a.C = b.R)) (ha : IsX w v a) (hb : IsX w u b) (hl : a.E.length < 1000000000) (hl' : b.E.length < 1000000000) :
    Calls Tryd.prog 49 #[v, u] w (Ret fun v w' => Kp [] w w' ∧ v = .tuple #[zeroM, .bool false]) := by
  have ha0 := ha
  have hb0 := hb
  obtain ⟨E, rfl, hE⟩ := ha
  obtain ⟨E', rfl, hE'⟩ := hb
  refine calls_of_S [⟨19, 2, [], []⟩] [] (by simp) [] Tryd.func49 rfl mixed (by kernel_rfl) Tryd.ntmps49 Tryd.results49 rfl ⟨by simp, by simp⟩ (by simp) ?_
  simp only [toS, textOps, toSOp, kindAt, kindOf, odAt, sopsAt, ordOf, zipF]
  (repeat' (first | refine JC.seq ?_ | refine JC.ops ?_ | refine JO.nil ?_ | refine JX.thenN ?_ | (apply r_assign; (iterate 3 exact rfl)) | (apply r_loadN; (iterate 4 exact rfl); exact at2; exact rfl) | (apply r_allocZ; (iterate 3 exact rfl); intro _) | (apply r_boxA; (iterate 4 exact rfl); intro _)))
  refine r_call0 trivial rfl rfl rfl (fun w hk _ => c_refRight w _ a (ha0.mono hk) hl) fun w v w' _ _ _ hc0 => ?_
  obtain ⟨b1, rfl, hb1⟩ := hc0
  (repeat' (first | refine JC.seq ?_ | refine JC.ops ?_ | refine JO.nil ?_ | refine JX.thenN ?_ | (apply r_assign; (iterate 3 exact rfl)) | (apply r_loadN; (iterate 4 exact rfl); exact at1; exact rfl)))
  refine r_call0 trivial rfl rfl rfl (fun w hk _ => c_refRight w _ b (hb0.mono hk) hl') fun w v w' _ _ _ hc0 => ?_
  obtain ⟨b2, rfl, hb2⟩ := hc0
  cases b1 with
  | false =>
    (repeat' (first | refine JC.seq ?_ | refine JC.ops ?_ | refine JO.nil ?_ | refine JX.thenN ?_ | (apply r_move; (iterate 3 exact rfl)) | (apply r_assign; (iterate 3 exact rfl)) | (apply r_pickT; (iterate 4 exact rfl)) | (apply r_not; (iterate 3 exact rfl)) | (apply r_storeN; exact rfl; (first | exact trivial | exact ⟨rfl, rfl⟩); exact rfl; exact rfl; exact at0; (iterate 3 exact rfl)) | (apply r_buildL; (iterate 5 exact rfl)) | (apply r_storeN; exact rfl; (first | exact trivial | exact ⟨rfl, rfl⟩); exact rfl; exact rfl; exact at0; (iterate 3 exact rfl)) | refine JX.thenR ?_ | refine JC.ret ?_ | refine JC.condT rfl ?_ | (apply r_skip; exact rfl; exact rfl; (first | (intro h; cases h; done) | (intro _; rfl)))))
    exact JX.retCT 0 rfl rfl rfl rfl (fun a w' st => ⟨st.kp, rfl⟩)
  | true =>
    cases b2 with
    | false =>
      (repeat' (first | refine JC.seq ?_ | refine JC.ops ?_ | refine JO.nil ?_ | refine JX.thenN ?_ | (apply r_move; (iterate 3 exact rfl)) | (apply r_assign; (iterate 3 exact rfl)) | (apply r_pickT; (iterate 4 exact rfl)) | (apply r_pickF; (iterate 4 exact rfl)) | (apply r_not; (iterate 3 exact rfl)) | (apply r_storeN; exact rfl; (first | exact trivial | exact ⟨rfl, rfl⟩); exact rfl; exact rfl; exact at0; (iterate 3 exact rfl)) | (apply r_buildL; (iterate 5 exact rfl)) | (apply r_storeN; exact rfl; (first | exact trivial | exact ⟨rfl, rfl⟩); exact rfl; exact rfl; exact at0; (iterate 3 exact rfl)) | refine JX.thenR ?_ | refine JC.ret ?_ | refine JC.condT rfl ?_ | (apply r_skip; exact rfl; exact rfl; (first | (intro h; cases h; done) | (intro _; rfl)))))
      exact JX.retCT 0 rfl rfl rfl rfl (fun a w' st => ⟨st.kp, rfl⟩)
    | true =>
      have g1 := (hb1.1 rfl).fits
      have g2 := (hb2.1 rfl).fits
      (repeat' (first | refine JC.seq ?_ | refine JC.ops ?_ | refine JO.nil ?_ | refine JX.thenN ?_ | (apply r_move; (iterate 3 exact rfl)) | (apply r_fieldAddr; (iterate 3 exact rfl)) | (apply r_assign; (iterate 3 exact rfl)) | (apply r_load; (iterate 4 exact rfl); (first | exact at0 | exact at1 | exact at2); exact rfl) | (apply r_pickF; (iterate 4 exact rfl)) | (apply r_not; (iterate 3 exact rfl)) | (apply r_storeN; exact rfl; (first | exact trivial | exact ⟨rfl, rfl⟩); exact rfl; exact rfl; (first | exact at0 | exact at1 | exact at2); (iterate 3 exact rfl)) | (apply r_neq; (iterate 4 exact rfl); all_goals intro hc; all_goals try (exfalso; omega)) | (apply r_buildL; (iterate 5 exact rfl)) | (apply r_storeN; exact rfl; (first | exact trivial | exact ⟨rfl, rfl⟩); exact rfl; exact rfl; (first | exact at0 | exact at1 | exact at2); (iterate 3 exact rfl)) | refine JX.thenR ?_ | refine JC.skip ?_ | refine JC.ret ?_ | refine JC.condT rfl ?_ | refine JC.condF rfl ?_))
      all_goals first
        | exact JX.retCT 0 rfl rfl rfl rfl (fun a w' st => ⟨st.kp, rfl⟩)
        | (exfalso; exact h ⟨hb1.1 rfl, hb2.1 rfl, by omega⟩)

open Classical in
noncomputable def eachA (f : ZM → ZM → ZM) (m n : ZM) : ZM × Bool := if m.r = n.r ∧ m.c = n.c then (f m n, true) else (zM, false)
open Classical in
noncomputable def mulA (m n : ZM) : ZM × Bool := if m.c = n.r then (mulZ m n, true) else (zM, false)
theorem RtZ.zM : RtZ zM := ⟨by decide, by decide, rfl⟩
theorem eachA_rt {f : ZM → ZM → ZM} {m n : ZM} (h : RtZ (f m n)) : RtZ (eachA f m n).1 := by
  unfold eachA
  split
  · exact h
  · exact RtZ.zM
theorem mulA_rt {m n : ZM} (hm : RtZ m) (hn : RtZ n) : RtZ (mulA m n).1 := by
  unfold mulA
  split
  · exact zof_rt hm.r hn.c
  · exact RtZ.zM
theorem alike_xm {m n : ZM} (h : ¬ (m.r = n.r ∧ m.c = n.c)) : ¬ Alike m.xm n.xm := fun ⟨_, _, h1, h2⟩ => h ⟨by simp only [ZM.xm] at h1; omega, by simp only [ZM.xm] at h2; omega⟩
theorem mul_xm {m n : ZM} (h : ¬ m.c = n.r) : ¬ (RX m.xm ∧ RX n.xm ∧ m.xm.C = n.xm.R) := fun ⟨_, _, h1⟩ => h (by simp only [ZM.xm] at h1; omega)
theorem c_AddA (K : Nat) (w : World) (v u : Value) (m n : ZM) (hm : RtZ m) (hn : RtZ n) (hK : K ≤ 90000000) (hx : BdZ K m) (hy : BdZ K n) (hv : IsM w v m) (hu : IsM w u n) :
    Calls Tryd.prog 45 #[v, u] w (Ret fun v w' => Kp [] w w' ∧ GivesMB (eachA addZ m n).1 (eachA addZ m n).2 w v w') := by
  by_cases h : m.r = n.r ∧ m.c = n.c
  · rw [show eachA addZ m n = (addZ m n, true) from if_pos h]
    exact c_MAdd K w v u m n hm hn h.1 h.2 hK hx hy hv hu
  · rw [show eachA addZ m n = (zM, false) from if_neg h]
    exact calls_mono (c_MAddF w v u m.xm n.xm (alike_xm h) hv.x hu.x (xm_len hm) (xm_len hn)) fun v w' h => ⟨h.1, gives_z h.2⟩
theorem c_refAddA (K : Nat) (w : World) (v u : Value) (m n : ZM) (hm : RtZ m) (hn : RtZ n) (hK : K ≤ 90000000) (hx : BdZ K m) (hy : BdZ K n) (hv : IsM w v m) (hu : IsM w u n) :
    Calls Tryd.prog 46 #[v, u] w (Ret fun v w' => Kp [] w w' ∧ GivesMB (eachA addZ m n).1 (eachA addZ m n).2 w v w') := by
  by_cases h : m.r = n.r ∧ m.c = n.c
  · rw [show eachA addZ m n = (addZ m n, true) from if_pos h]
    exact c_refAdd K w v u m n hm hn h.1 h.2 hK hx hy hv hu
  · rw [show eachA addZ m n = (zM, false) from if_neg h]
    exact calls_mono (c_refAddF w v u m.xm n.xm (alike_xm h) hv.x hu.x (xm_len hm) (xm_len hn)) fun v w' h => ⟨h.1, gives_z h.2⟩
theorem c_SubA (K : Nat) (w : World) (v u : Value) (m n : ZM) (hm : RtZ m) (hn : RtZ n) (hK : K ≤ 90000000) (hx : BdZ K m) (hy : BdZ K n) (hv : IsM w v m) (hu : IsM w u n) :
    Calls Tryd.prog 47 #[v, u] w (Ret fun v w' => Kp [] w w' ∧ GivesMB (eachA subZ m n).1 (eachA subZ m n).2 w v w') := by
  by_cases h : m.r = n.r ∧ m.c = n.c
  · rw [show eachA subZ m n = (subZ m n, true) from if_pos h]
    exact c_MSub K w v u m n hm hn h.1 h.2 hK hx hy hv hu
  · rw [show eachA subZ m n = (zM, false) from if_neg h]
    exact calls_mono (c_MSubF w v u m.xm n.xm (alike_xm h) hv.x hu.x (xm_len hm) (xm_len hn)) fun v w' h => ⟨h.1, gives_z h.2⟩
theorem c_refSubA (K : Nat) (w : World) (v u : Value) (m n : ZM) (hm : RtZ m) (hn : RtZ n) (hK : K ≤ 90000000) (hx : BdZ K m) (hy : BdZ K n) (hv : IsM w v m) (hu : IsM w u n) :
    Calls Tryd.prog 48 #[v, u] w (Ret fun v w' => Kp [] w w' ∧ GivesMB (eachA subZ m n).1 (eachA subZ m n).2 w v w') := by
  by_cases h : m.r = n.r ∧ m.c = n.c
  · rw [show eachA subZ m n = (subZ m n, true) from if_pos h]
    exact c_refSub K w v u m n hm hn h.1 h.2 hK hx hy hv hu
  · rw [show eachA subZ m n = (zM, false) from if_neg h]
    exact calls_mono (c_refSubF w v u m.xm n.xm (alike_xm h) hv.x hu.x (xm_len hm) (xm_len hn)) fun v w' h => ⟨h.1, gives_z h.2⟩
theorem c_MulA (K L : Nat) (w : World) (v u : Value) (m n : ZM) (hm : RtZ m) (hn : RtZ n) (hK : K + L ≤ 90000000) (hx : BdZ K m) (hy : BdZ L n) (hv : IsM w v m) (hu : IsM w u n) :
    Calls Tryd.prog 25 #[v, u] w (Ret fun v w' => Kp [] w w' ∧ GivesMB (mulA m n).1 (mulA m n).2 w v w') := by
  by_cases h : m.c = n.r
  · rw [show mulA m n = (mulZ m n, true) from if_pos h]
    exact c_MMul K L w v u m n hm hn h hK hx hy hv hu
  · rw [show mulA m n = (zM, false) from if_neg h]
    exact calls_mono (c_MMulF w v u m.xm n.xm (mul_xm h) hv.x hu.x (xm_len hm) (xm_len hn)) fun v w' h => ⟨h.1, gives_z h.2⟩
theorem c_refMulA (K L : Nat) (w : World) (v u : Value) (m n : ZM) (hm : RtZ m) (hn : RtZ n) (hK : K + L ≤ 90000000) (hx : BdZ K m) (hy : BdZ L n) (hv : IsM w v m) (hu : IsM w u n) :
    Calls Tryd.prog 49 #[v, u] w (Ret fun v w' => Kp [] w w' ∧ GivesMB (mulA m n).1 (mulA m n).2 w v w') := by
  by_cases h : m.c = n.r
  · rw [show mulA m n = (mulZ m n, true) from if_pos h]
    exact c_refMul K L w v u m n hm hn h hK hx hy hv hu
  · rw [show mulA m n = (zM, false) from if_neg h]
    exact calls_mono (c_refMulF w v u m.xm n.xm (mul_xm h) hv.x hu.x (xm_len hm) (xm_len hn)) fun v w' h => ⟨h.1, gives_z h.2⟩

end Go.Proofs.YtdlmnloikakjpaaDoor

