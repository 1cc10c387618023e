import Derived.Test.YtdlmnloikakjpaaDoorMg
import Derived.Test.YtdlmnloikakjpaaDoorMe
import Derived.Test.YtdlmnloikakjpaaDoorMh
import Derived.Test.YtdlmnloikakjpaaDoorMi
namespace Go.Proofs.YtdlmnloikakjpaaDoor
open Go Go.RowKit
set_option linter.unusedSimpArgs false
set_option linter.unusedVariables false
set_option linter.unusedSectionVars false

set_option maxHeartbeats 2000000 in
theorem c_Lists (w : World) (v u : Value) (n k : Nat) (xs ys : List WR) (hv : WX w v n xs) (hu : WX w u k ys) (hn : n < 1000000000) (hk : k < 1000000000) : Calls Tryd.prog 33 #[v, u] w (Ret fun v w' => Kp [] w w' ∧ IsB (xs = ys) v) := by
  have hl := hv.len
  have hl' := hu.len
  refine calls_of_S [⟨6, 1, [], []⟩] [] (by simp) [] Tryd.func33 rfl mixed (by kernel_rfl) Tryd.ntmps33 Tryd.results33 rfl ⟨by simp, by simp⟩ (by simp) ?_
  simp only [toS, textOps, toSOp, kindAt, kindOf, odAt, sopsAt, ordOf, zipF]
  have hR := WX.rd (c := ⟨Tryd.prog, 26, w, [], by simp⟩) hv rfl []
  have hR' := WX.rd (c := ⟨Tryd.prog, 26, w, [], by simp⟩) hu rfl []
  (repeat' (first | refine JC.seq ?_ | refine JC.ops ?_ | refine JO.nil ?_ | refine JX.thenN ?_ | (apply r_move; (iterate 3 exact rfl)) | (apply r_assign; (iterate 3 exact rfl)) | (apply r_lenX; (iterate 3 exact rfl); (first | assumption | exact WX.rd (by assumption) rfl [] | exact OwnX.rd (by assumption))) | (apply r_neq; (iterate 4 exact rfl); all_goals intro hc; all_goals try (exfalso; omega)) | refine JX.thenR ?_ | refine JC.skip ?_ | refine JC.ret ?_ | refine JC.condT rfl ?_ | refine JC.condF rfl ?_ | refine JC.block ?_))
  · exact JX.ret1 rfl (fun a w' st => ⟨st.kp, IsB.f (fun h => hc (by rw [← hl, ← hl', h]))⟩)
  · have hnk : n = k := by omega
    subst hnk
    refine JC.loopH (ι := Nat) ⟨fun i => [(5, nv i), (0, v), (1, u)], fun _ => [], fun i => i ≤ n ∧ ∀ j, j < i → xs.getD j w0x = ys.getD j w0x, fun i => n - i⟩ 0 ⟨by omega, fun j h => by omega⟩ (by repeat first | exact trivial | refine ⟨rfl, ?_⟩) (HSub.nil _) (fun i hi => ?_)
    obtain ⟨hin, hpr⟩ := hi
    dsimp only
    by_cases hlt : i < n
    · (repeat' (first | refine JC.seq ?_ | refine JC.ops ?_ | refine JC.opsD ?_ | refine JO.nil ?_ | refine JX.thenN ?_ | (apply r_move; (iterate 3 exact rfl)) | (apply r_idxX; (iterate 4 exact rfl); (first | assumption | exact WX.rd (by assumption) rfl [] | exact OwnX.rd (by assumption)); (first | assumption | omega)) | (apply r_ldX; (iterate 4 exact rfl); (first | assumption | exact WX.rd (by assumption) rfl [] | exact OwnX.rd (by assumption)); (repeat' first | exact HSub.nil _ | exact HSub.hd | exact HSub.in0 | exact HSub.refl _ | refine HSub.skip ?_ | refine HSub.skipN ?_); (first | assumption | omega)) | (apply r_lenX; (iterate 3 exact rfl); (first | assumption | exact WX.rd (by assumption) rfl [] | exact OwnX.rd (by assumption))) | (apply r_lss; (iterate 4 exact rfl); all_goals intro hc; all_goals try (exfalso; omega)) | refine JC.skip ?_ | refine JC.condT rfl ?_ | refine JC.block ?_))
      refine r_neW rfl rfl rfl rfl ?_
      by_cases he : xs.getD i w0x = ys.getD i w0x
      · rw [he]
        simp only [BEq.rfl, decide_true, Bool.and_self, Bool.not_true]
        (repeat' (first | refine JC.ops ?_ | refine JO.nil ?_ | refine JX.thenN ?_ | (apply r_move; (iterate 3 exact rfl)) | (apply r_assign; (iterate 3 exact rfl)) | (apply r_add1; (iterate 4 exact rfl); omega) | refine JC.skip ?_ | refine JC.condF rfl ?_ | refine JX.blockN ?_))
        refine JX.roundH (i + 1) ⟨by omega, fun j h => ?_⟩ (by dsimp only; omega) (by repeat first | exact trivial | refine ⟨rfl, ?_⟩) (HSub.nil _)
        rcases Nat.lt_or_ge j i with h' | h'
        · exact hpr j h'
        · have : j = i := by omega
          subst this; exact he
      · have hb : (!((xs.getD i w0x).1 == (ys.getD i w0x).1 && decide ((xs.getD i w0x).2 = (ys.getD i w0x).2))) = true := by
          simp only [Bool.not_eq_true', Bool.and_eq_false_iff]
          by_cases h1 : (xs.getD i w0x).1 = (ys.getD i w0x).1
          · refine .inr ?_
            simp only [decide_eq_false_iff_not]
            exact fun h2 => he (Prod.ext h1 h2)
          · exact .inl (by simpa using h1)
        rw [hb]
        (repeat' (first | refine JC.seq ?_ | refine JC.ops ?_ | refine JO.nil ?_ | refine JX.thenN ?_ | (apply r_assign; (iterate 3 exact rfl)) | refine JX.thenR ?_ | refine JC.ret ?_ | refine JC.condT rfl ?_ | refine JX.blockR ?_))
        exact JX.ret1 rfl (fun a w' st => ⟨st.kp, IsB.f (fun h => he (by rw [h]))⟩)
    · (repeat' (first | refine JC.seq ?_ | refine JC.ops ?_ | refine JO.nil ?_ | refine JX.thenN ?_ | (apply r_move; (iterate 3 exact rfl)) | (apply r_assign; (iterate 3 exact rfl)) | (apply r_lenX; (iterate 3 exact rfl); (first | assumption | exact WX.rd (by assumption) rfl [] | exact OwnX.rd (by assumption))) | (apply r_lss; (iterate 4 exact rfl); all_goals intro hc; all_goals try (exfalso; omega)) | refine JX.thenE ?_ | refine JC.exit ?_ | refine JC.ret ?_ | refine JC.condF rfl ?_ | refine JX.blockE ?_))
      refine JX.ret1 rfl (fun a w' st => ⟨st.kp, IsB.t (ext_getD (d := w0x) (by omega) (fun j hj => hpr j (by omega)))⟩)

set_option maxHeartbeats 2000000 in
theorem c_same (w : World) (v u : Value) (a b : XM) (ha : IsX w v a) (hb : IsX w u b) (hl : a.E.length < 1000000000) (hl' : b.E.length < 1000000000) : Calls Tryd.prog 22 #[v, u] w (Ret fun v w' => Kp [] w w' ∧ IsB (a = b) v) := by
  obtain ⟨E, rfl, hE⟩ := ha
  obtain ⟨E', rfl, hE'⟩ := hb
  refine calls_of_S [] [] (by simp) [] Tryd.func22 rfl mixed (by kernel_rfl) Tryd.ntmps22 Tryd.results22 rfl ⟨by simp, by simp⟩ (by simp) ?_
  simp only [toS, textOps, toSOp, kindAt, kindOf, odAt, sopsAt, ordOf, zipF]
  (repeat' (first | refine JC.seq ?_ | refine JC.ops ?_ | refine JO.nil ?_ | refine JX.thenN ?_ | (apply r_move; (iterate 3 exact rfl)) | (apply r_fieldAddr; (iterate 3 exact rfl)) | (apply r_assign; (iterate 3 exact rfl)) | (apply r_load; (iterate 4 exact rfl); (first | exact at0 | exact at1); exact rfl) | (apply r_pickT; (iterate 4 exact rfl)) | (apply r_pickF; (iterate 4 exact rfl)) | (apply r_eql; (iterate 4 exact rfl); all_goals intro hc; all_goals try (exfalso; omega)) | (apply r_boxA; (iterate 4 exact rfl); intro _) | refine JC.ret ?_ | (apply r_skip; exact rfl; exact rfl; (first | (intro h; cases h; done) | (intro _; rfl)))))
  all_goals first
    | exact JX.ret1 rfl (fun a w' st => ⟨st.kp, IsB.f (fun h => by subst h; first | exact hc rfl | (rename_i hd; exact hd rfl) | omega)⟩)
    | skip
  refine r_call0 trivial rfl rfl rfl (fun w hk _ => c_Lists w _ _ _ _ _ _ (hE.mono hk) (hE'.mono hk) hl hl') fun w v w' _ _ _ hR => ?_
  obtain ⟨b', rfl, hb'⟩ := hR
  (repeat' (first | refine JO.nil ?_ | refine JX.thenN ?_ | (apply r_assign; (iterate 3 exact rfl)) | (apply r_pickT; (iterate 4 exact rfl)) | refine JC.ret ?_))
  refine JX.ret1 rfl (fun a w' st => ⟨st.kp, b', rfl, hb'.trans ⟨fun h => XM.ext' (by omega) (by omega) h, fun h => by rw [h]⟩⟩)

theorem canon_bad {xs : List WR} {k : Nat} (hk : k < xs.length) (h : badW (xs.getD k w0x) = true) : ¬ Canon xs := fun hc => canon_iff.1 hc ⟨_, mem_getD hk, h⟩

set_option maxHeartbeats 2000000 in
theorem c_refCanonical (w : World) (E : Value) (n : Nat) (xs : List WR) (hE : WX w E n xs) (hn : n < 1000000000) :
    Calls Tryd.prog 72 #[E] w (Ret fun v w' => Kp [] w w' ∧ IsB (Canon xs) v) := by
  have hl := hE.len
  refine calls_of_S [] [] (by simp) [] Tryd.func72 rfl mixed (by kernel_rfl) Tryd.ntmps72 Tryd.results72 rfl ⟨by simp, by simp⟩ (by simp) ?_
  simp only [toS, textOps, toSOp, kindAt, kindOf, odAt, sopsAt, ordOf, zipF]
  have hR := WX.rd (c := ⟨Tryd.prog, 40, w, [], by simp⟩) hE rfl []
  (repeat' (first | refine JC.seq ?_ | refine JC.ops ?_ | refine JO.nil ?_ | refine JX.thenN ?_ | (apply r_assign; (iterate 3 exact rfl)) | refine JC.block ?_))
  refine JC.loopH (ι := Nat) ⟨fun k => [(3, nv k), (0, E)], fun _ => [], fun k => k ≤ n ∧ ∀ j, j < k → badW (xs.getD j w0x) = false, fun k => n - k⟩ 0 ⟨by omega, fun j h => by omega⟩ (by repeat first | exact trivial | refine ⟨rfl, ?_⟩) (HSub.nil _) (fun k hk => ?_)
  obtain ⟨hkn, hpr⟩ := hk
  dsimp only
  by_cases hlt : k < n
  · (repeat' (first | refine JC.seq ?_ | refine JC.ops ?_ | refine JO.nil ?_ | refine JX.thenN ?_ | (apply r_move; (iterate 3 exact rfl)) | (apply r_idxX; (iterate 4 exact rfl); (first | assumption | exact WX.rd (by assumption) rfl [] | exact OwnX.rd (by assumption)); (first | assumption | omega)) | (apply r_ldXm; (iterate 4 exact rfl); (first | assumption | exact WX.rd (by assumption) rfl [] | exact OwnX.rd (by assumption)); (repeat' first | exact HSub.nil _ | exact HSub.hd | exact HSub.in0 | exact HSub.refl _ | refine HSub.skip ?_ | refine HSub.skipN ?_); (first | assumption | omega)) | (apply r_fieldX; (iterate 3 exact rfl); (first | assumption | exact WX.rd (by assumption) rfl [] | exact OwnX.rd (by assumption)); omega) | (apply r_lenX; (iterate 3 exact rfl); (first | assumption | exact WX.rd (by assumption) rfl [] | exact OwnX.rd (by assumption))) | (apply r_eqS; (iterate 4 exact rfl)) | (apply r_lss; (iterate 4 exact rfl); all_goals intro hc; all_goals try (exfalso; omega)) | refine JC.skip ?_ | refine JC.condT rfl ?_ | refine JC.block ?_))
    have hxk : ∀ x, xs.getD k w0x = x → badW x = true → ¬ Canon xs := fun x hx hb => canon_bad (k := k) (by omega) (by rw [hx]; exact hb)
    have hnx : ∀ x, xs.getD k w0x = x → badW x = false → ∀ j, j < k + 1 → badW (xs.getD j w0x) = false := fun x hx hb j hj => by
      rcases Nat.lt_or_ge j k with h | h
      · exact hpr j h
      · obtain rfl : j = k := by omega
        rw [hx]; exact hb
    rcases hx : xs.getD k w0x with ⟨p, l⟩
    cases l with
    | nil =>
      simp only [decide_true]
      (repeat' (first | (apply r_move; (iterate 3 exact rfl)) | (apply r_idxX; (iterate 4 exact rfl); (first | assumption | exact WX.rd (by assumption) rfl [] | exact OwnX.rd (by assumption)); (first | assumption | omega)) | (apply r_ldXs; (iterate 4 exact rfl); (first | assumption | exact WX.rd (by assumption) rfl [] | exact OwnX.rd (by assumption)); (repeat' first | exact HSub.nil _ | exact HSub.hd | exact HSub.in0 | exact HSub.refl _ | refine HSub.skip ?_ | refine HSub.skipN ?_); (first | assumption | omega)) | (apply r_fieldX; (iterate 3 exact rfl); (first | assumption | exact WX.rd (by assumption) rfl [] | exact OwnX.rd (by assumption)); omega) | (apply r_pickT; (iterate 4 exact rfl))))
      rw [hx]
      cases p
      · (repeat' (first | (apply r_move; (iterate 3 exact rfl)) | (apply r_idxX; (iterate 4 exact rfl); (first | assumption | exact WX.rd (by assumption) rfl [] | exact OwnX.rd (by assumption)); (first | assumption | omega)) | (apply r_ldXm; (iterate 4 exact rfl); (first | assumption | exact WX.rd (by assumption) rfl [] | exact OwnX.rd (by assumption)); (repeat' first | exact HSub.nil _ | exact HSub.hd | exact HSub.in0 | exact HSub.refl _ | refine HSub.skip ?_ | refine HSub.skipN ?_); (first | assumption | omega)) | (apply r_fieldX; (iterate 3 exact rfl); (first | assumption | exact WX.rd (by assumption) rfl [] | exact OwnX.rd (by assumption)); omega) | (apply r_neS; (iterate 4 exact rfl))))
        rw [hx, show decide ((false, ([] : List UInt8)).snd ≠ []) = false from rfl]
        (repeat' (first | refine JC.ops ?_ | refine JO.nil ?_ | refine JX.thenN ?_ | (apply r_move; (iterate 3 exact rfl)) | (apply r_assign; (iterate 3 exact rfl)) | (apply r_add1; (iterate 4 exact rfl); omega) | (apply r_pickF; (iterate 4 exact rfl)) | refine JC.skip ?_ | refine JC.condF rfl ?_ | refine JX.blockN ?_ | (apply r_skip; exact rfl; exact rfl; (first | (intro h; cases h; done) | (intro _; rfl)))))
        exact JX.roundH (k + 1) ⟨by omega, hnx _ hx rfl⟩ (by dsimp only; omega) (by repeat first | exact trivial | refine ⟨rfl, ?_⟩) (HSub.nil _)
      · (repeat' (first | refine JC.seq ?_ | refine JC.ops ?_ | refine JO.nil ?_ | refine JX.thenN ?_ | (apply r_assign; (iterate 3 exact rfl)) | (apply r_pickT; (iterate 4 exact rfl)) | refine JX.thenR ?_ | refine JC.ret ?_ | refine JC.condT rfl ?_ | refine JX.blockR ?_ | (apply r_skip; exact rfl; exact rfl; (first | (intro h; cases h; done) | (intro _; rfl)))))
        exact JX.ret1 rfl (fun a w' st => ⟨st.kp, IsB.f (hxk _ hx rfl)⟩)
    | cons x r =>
      rw [show decide ((p, x :: r).snd = ([] : List UInt8)) = false from rfl]
      (repeat' (first | (apply r_move; (iterate 3 exact rfl)) | (apply r_idxX; (iterate 4 exact rfl); (first | assumption | exact WX.rd (by assumption) rfl [] | exact OwnX.rd (by assumption)); (first | assumption | omega)) | (apply r_ldXm; (iterate 4 exact rfl); (first | assumption | exact WX.rd (by assumption) rfl [] | exact OwnX.rd (by assumption)); (repeat' first | exact HSub.nil _ | exact HSub.hd | exact HSub.in0 | exact HSub.refl _ | refine HSub.skip ?_ | refine HSub.skipN ?_); (first | assumption | omega)) | (apply r_fieldX; (iterate 3 exact rfl); (first | assumption | exact WX.rd (by assumption) rfl [] | exact OwnX.rd (by assumption)); omega) | (apply r_pickF; (iterate 4 exact rfl)) | (apply r_neS; (iterate 4 exact rfl)) | (apply r_skip; exact rfl; exact rfl; (first | (intro h; cases h; done) | (intro _; rfl)))))
      rw [hx, show decide ((p, x :: r).snd ≠ ([] : List UInt8)) = true from rfl]
      (repeat' (first | (apply r_move; (iterate 3 exact rfl)) | (apply r_idxX; (iterate 4 exact rfl); (first | assumption | exact WX.rd (by assumption) rfl [] | exact OwnX.rd (by assumption)); (first | assumption | omega)) | (apply r_ldXm; (iterate 4 exact rfl); (first | assumption | exact WX.rd (by assumption) rfl [] | exact OwnX.rd (by assumption)); (repeat' first | exact HSub.nil _ | exact HSub.hd | exact HSub.in0 | exact HSub.refl _ | refine HSub.skip ?_ | refine HSub.skipN ?_); (first | assumption | omega)) | (apply r_fieldX; (iterate 3 exact rfl); (first | assumption | exact WX.rd (by assumption) rfl [] | exact OwnX.rd (by assumption)); omega)))
      rw [hx]
      (repeat' (first | refine JC.seq ?_ | refine JC.ops ?_ | refine JO.nil ?_ | refine JX.thenN ?_ | (apply r_move; (iterate 3 exact rfl)) | (apply r_assign; (iterate 3 exact rfl)) | (apply r_add1; (iterate 4 exact rfl); omega) | (apply r_pickT; (iterate 4 exact rfl)) | (apply r_pickF; (iterate 4 exact rfl)) | (apply r_idxS0; (iterate 4 exact rfl)) | (apply r_eql; (iterate 4 exact rfl); all_goals intro hc; all_goals try (exfalso; omega)) | refine JX.thenR ?_ | refine JC.skip ?_ | refine JC.ret ?_ | refine JC.condT rfl ?_ | refine JC.condF rfl ?_ | refine JX.blockN ?_ | refine JX.blockR ?_))
      · exact JX.ret1 rfl (fun _ w' st => ⟨st.kp, IsB.f (hxk _ hx (by have : x = 0 := UInt8.toNat.inj (by simpa using hc); subst this; rfl))⟩)
      · exact JX.roundH (k + 1) ⟨by omega, hnx _ hx (by have : x ≠ 0 := fun e => hc (by subst e; rfl); simp [badW, this])⟩ (by dsimp only; omega) (by repeat first | exact trivial | refine ⟨rfl, ?_⟩) (HSub.nil _)
  · (repeat' (first | refine JC.seq ?_ | refine JC.ops ?_ | refine JO.nil ?_ | refine JX.thenN ?_ | (apply r_move; (iterate 3 exact rfl)) | (apply r_assign; (iterate 3 exact rfl)) | (apply r_lenX; (iterate 3 exact rfl); (first | assumption | exact WX.rd (by assumption) rfl [] | exact OwnX.rd (by assumption))) | (apply r_lss; (iterate 4 exact rfl); all_goals intro hc; all_goals try (exfalso; omega)) | refine JX.thenE ?_ | refine JC.exit ?_ | refine JC.ret ?_ | refine JC.condF rfl ?_ | refine JX.blockE ?_))
    refine JX.ret1 rfl (fun a w' st => ⟨st.kp, IsB.t (canon_iff.2 ?_)⟩)
    rintro ⟨x, hx, hb⟩
    obtain ⟨j, hj, rfl⟩ := List.mem_iff_getElem.1 hx
    have := hpr j (by omega)
    rw [List.getD, List.getElem?_eq_getElem hj, Option.getD_some, hb] at this
    cases this

set_option maxHeartbeats 1000000 in
theorem c_refRight (w : World) (v : Value) (a : XM) (ha : IsX w v a) (hl : a.E.length < 1000000000) : Calls Tryd.prog 55 #[v] w (Ret fun v w' => Kp [] w w' ∧ IsB (RX a) v) := by
  obtain ⟨E, rfl, hE⟩ := ha
  by_cases hf : 0 ≤ a.R ∧ a.R ≤ 200 ∧ 0 ≤ a.C ∧ a.C ≤ 200
  · obtain ⟨R, C, xs⟩ := a
    obtain ⟨h1, h2, h3, h4⟩ := hf
    dsimp only at *
    obtain ⟨r, rfl⟩ := Int.eq_ofNat_of_zero_le h1
    obtain ⟨c, rfl⟩ := Int.eq_ofNat_of_zero_le h3
    have hr : r ≤ 200 := by omega
    have hc : c ≤ 200 := by omega
    have hrc := rcZ hr hc
    have hiff := RX.iff (E := xs) hr hc
    refine calls_of_S [] [] (by simp) [] Tryd.func55 rfl mixed (by kernel_rfl) Tryd.ntmps55 Tryd.results55 rfl ⟨by simp, by simp⟩ (by simp) ?_
    simp only [toS, textOps, toSOp, kindAt, kindOf, odAt, sopsAt, ordOf, zipF]
    have hR := WX.rd (c := ⟨Tryd.prog, 25, w, [], by simp⟩) hE rfl []
    (repeat' (first | refine JC.seq ?_ | refine JC.ops ?_ | refine JO.nil ?_ | refine JX.thenN ?_ | (apply r_fieldAddr; (iterate 3 exact rfl)) | (apply r_assign; (iterate 3 exact rfl)) | (apply r_load; (iterate 4 exact rfl); exact at0; exact rfl) | (apply r_boxA; (iterate 4 exact rfl); intro _)))
    refine r_call0 trivial rfl rfl rfl (fun w _ _ => c_refFits r c w) fun w v w' _ _ _ hv => ?_
    obtain ⟨b', rfl, hb⟩ := hv
    obtain rfl := hb.2 ⟨h1, h2, h3, h4⟩
    (repeat' (first | refine JC.seq ?_ | refine JC.ops ?_ | refine JO.nil ?_ | refine JX.thenN ?_ | (apply r_move; (iterate 3 exact rfl)) | (apply r_fieldAddr; (iterate 3 exact rfl)) | (apply r_assign; (iterate 3 exact rfl)) | (apply r_load; (iterate 4 exact rfl); exact at0; exact rfl) | (apply r_lenX; (iterate 3 exact rfl); (first | assumption | exact WX.rd (by assumption) rfl [] | exact OwnX.rd (by assumption))) | (apply r_mulN; (iterate 4 exact rfl); (first | assumption | omega)) | (apply r_pickF; (iterate 4 exact rfl)) | (apply r_not; (iterate 3 exact rfl)) | (apply r_neq; (iterate 4 exact rfl); all_goals intro hc; all_goals try (exfalso; omega)) | refine JX.thenR ?_ | refine JC.skip ?_ | refine JC.ret ?_ | refine JC.condT rfl ?_ | refine JC.condF rfl ?_))
    · exact JX.ret1 rfl (fun a w' st => ⟨st.kp, IsB.f (fun h => by have := (hiff.1 h).1; omega)⟩)
    · refine r_call0 trivial rfl rfl rfl (fun w' hk hs => c_refCanonical w' E _ _ (hE.mono hk) hl) fun w v w' _ _ _ hv => ?_
      obtain ⟨b', rfl, hb⟩ := hv
      (repeat' (first | refine JO.nil ?_ | refine JX.thenN ?_ | (apply r_assign; (iterate 3 exact rfl)) | refine JC.ret ?_))
      exact JX.ret1 rfl (fun a w' st => ⟨st.kp, b', rfl, hb.trans ⟨fun h => hiff.2 ⟨by omega, h⟩, fun h => (hiff.1 h).2⟩⟩)
  · refine calls_of_S [] [] (by simp) [] Tryd.func55 rfl mixed (by kernel_rfl) Tryd.ntmps55 Tryd.results55 rfl ⟨by simp, by simp⟩ (by simp) ?_
    simp only [toS, textOps, toSOp, kindAt, kindOf, odAt, sopsAt, ordOf, zipF]
    (repeat' (first | refine JC.seq ?_ | refine JC.ops ?_ | refine JO.nil ?_ | refine JX.thenN ?_ | (apply r_fieldAddr; (iterate 3 exact rfl)) | (apply r_assign; (iterate 3 exact rfl)) | (apply r_load; (iterate 4 exact rfl); exact at0; exact rfl) | (apply r_boxA; (iterate 4 exact rfl); intro _)))
    refine r_call0 trivial rfl rfl rfl (fun w _ _ => c_refFits a.R a.C w) fun w v w' _ _ _ hv => ?_
    obtain ⟨b', rfl, hb⟩ := hv
    cases b' with
    | true => exact absurd (hb.1 rfl) hf
    | false =>
      (repeat' (first | refine JC.seq ?_ | refine JC.ops ?_ | refine JO.nil ?_ | refine JX.thenN ?_ | (apply r_move; (iterate 3 exact rfl)) | (apply r_assign; (iterate 3 exact rfl)) | (apply r_pickT; (iterate 4 exact rfl)) | (apply r_not; (iterate 3 exact rfl)) | refine JX.thenR ?_ | refine JC.ret ?_ | refine JC.condT rfl ?_ | (apply r_skip; exact rfl; exact rfl; (first | (intro h; cases h; done) | (intro _; rfl)))))
      exact JX.ret1 rfl (fun a w' st => ⟨st.kp, IsB.f (fun h => hf h.fits)⟩)


theorem gives_z {w w' : World} {v : Value} (h : v = .tuple #[zeroM, .bool false]) : GivesMB zM false w v w' := ⟨[], zeroM, h, New.nil _ _, OwnM.zero⟩
theorem xm_len {m : ZM} (h : RtZ m) : m.xm.E.length < 1000000000 := by have := h.le; simp [ZM.xm]; omega

open Classical in
open Classical in
theorem RtZ.zM : RtZ zM := ⟨by decide, by decide, rfl⟩

theorem enz_set {n a b i j : Nat} {x : Int} {es : List Int} (hl : es.length = n * n) (ha : a < n) (hb : b < n) (hj : j < n) : enz n (es.set (a * n + b) x) i j = if i = a ∧ j = b then x else enz n es i j := by
  unfold enz
  rw [List.getD, List.getD, List.getElem?_set]
  by_cases h : i = a ∧ j = b
  · obtain ⟨rfl, rfl⟩ := h
    rw [if_pos (show i * n + j = i * n + j from rfl), if_pos (show i * n + j < es.length by rw [hl]; exact zx_lt ha hb)]
    simp
  · rw [if_neg h, if_neg (fun e => h ?_)]
    obtain ⟨h1, h2⟩ := zx_inj hb hj e
    exact ⟨h1.symm, h2.symm⟩

def swR (M : Mi) (k p j : Nat) : Mi := fun a b => if p ≠ k ∧ b < j then (if a = p then M k b else if a = k then M p b else M a b) else M a b
theorem swR_zero (M : Mi) (k p : Nat) (a b : Nat) : swR M k p 0 a b = M a b := by unfold swR; rw [if_neg (by omega)]
theorem swR_same (M : Mi) (k j : Nat) (a b : Nat) : swR M k k j a b = M a b := by unfold swR; rw [if_neg (by omega)]
theorem swR_step {M : Mi} {k p j : Nat} (h : p ≠ k) (a b : Nat) : (if a = k ∧ b = j then M p j else if a = p ∧ b = j then M k j else swR M k p j a b) = swR M k p (j + 1) a b := by
  unfold swR
  by_cases h1 : a = k ∧ b = j
  · obtain ⟨rfl, rfl⟩ := h1
    rw [if_pos ⟨rfl, rfl⟩, if_pos ⟨h, by omega⟩, if_neg (fun e => h e.symm), if_pos rfl]
  · rw [if_neg h1]
    by_cases h2 : a = p ∧ b = j
    · obtain ⟨rfl, rfl⟩ := h2
      rw [if_pos ⟨rfl, rfl⟩, if_pos ⟨h, by omega⟩, if_pos rfl]
    · rw [if_neg h2]
      by_cases h3 : b = j
      · subst h3
        rw [if_neg (by omega), if_pos ⟨h, by omega⟩, if_neg (fun e => h2 ⟨e, rfl⟩), if_neg (fun e => h1 ⟨e, rfl⟩)]
      · have : (b < j + 1) ↔ b < j := by omega
        simp only [this]

structure DetR (n K : Nat) (A0 : Mi) (k : Nat) (last : Int) (tn : Bool) (es : List Int) : Prop where
  ex : ∃ A, Bar n A k (enz n es) last ∧ det n A = (if tn then -1 else 1) * det n A0 ∧ ∀ i j, (A i j).natAbs < 256 ^ K
  bd : ∀ i j, i < n → j < n → (enz n es i j).natAbs < 256 ^ (n * (K + 1) + 1)
theorem DetR.swap {n K k p : Nat} {A0 : Mi} {last : Int} {tn : Bool} {es es2 : List Int} (h : DetR n K A0 k last tn es) (hk : k ≤ p) (hp : p < n) (h2 : ∀ i j, i < n → j < n → enz n es2 i j = swR (enz n es) k p n i j) : DetR n K A0 k last (tn != !decide (p = k)) es2 := by
  have hb : ∀ i j, i < n → j < n → (enz n es2 i j).natAbs < 256 ^ (n * (K + 1) + 1) := fun i j hi hj => by
    rw [h2 i j hi hj]
    unfold swR
    split
    · split
      · exact h.bd _ _ (by omega) hj
      · split
        · exact h.bd _ _ hp hj
        · exact h.bd _ _ hi hj
    · exact h.bd _ _ hi hj
  refine ⟨?_, hb⟩
  obtain ⟨A, hbar, hdet, hA⟩ := h.ex
  by_cases hpk : p = k
  · subst hpk
    have e : (tn != !decide (p = p)) = tn := by simp
    rw [e]
    exact ⟨A, ⟨hbar.eqd, hbar.ne, fun i j hi hin hj hjn => by rw [h2 i j hin hjn, swR_same]; exact hbar.eq i j hi hin hj hjn⟩, hdet, hA⟩
  · have hsw := hbar.swap (M' := enz n es2) 1 (q := p) (by omega) hp (fun j hj => by rw [h2 _ _ (by omega) hj, Int.one_mul]; unfold swR; rw [if_pos ⟨hpk, hj⟩, if_neg (fun e => hpk e.symm), if_pos rfl])
      (fun j hj => by rw [h2 _ _ hp hj]; unfold swR; rw [if_pos ⟨hpk, hj⟩, if_pos rfl]) (fun i j hi hj h3 h4 => by rw [h2 _ _ hi hj]; unfold swR; rw [if_pos ⟨hpk, hj⟩, if_neg h4, if_neg h3])
    refine ⟨_, hsw.1, ?_, fun i j => ?_⟩
    · rw [hsw.2, hdet]
      simp only [hpk, decide_false, Bool.not_false]
      cases tn <;> simp
    · by_cases hi : i = k
      · subst hi
        rw [setRow_self, Int.one_mul]
        exact hA _ _
      · rw [setRow_ne hi]
        unfold swp
        rw [if_neg hi]
        split <;> exact hA _ _
theorem DetR.none {n K k : Nat} {A0 : Mi} {last : Int} {tn : Bool} {es : List Int} (h : DetR n K A0 k last tn es) (hk : k < n) (hz : ∀ i, k ≤ i → i < n → enz n es i k = 0) : det n A0 = 0 := by
  obtain ⟨A, hbar, hdet, _⟩ := h.ex
  have h0 := hbar.none hk hz
  rw [h0] at hdet
  cases tn <;> simp at hdet <;> omega

section
variable {c : Cx} {Q : Exit → Act → World → Prop} {F : SFrame} {H : SHeap}
theorem r_neqD {i j : Int} {k : IntKind} {m : Mode} {r : List SOp} {g : Option (Option Tmp × Bool)} {ns : Bool} {d : Tmp} {ty t t' : TypeId} {x y : Operand} (hd : dstOk c.n (some d) = true) (hg : guardF F g = some true) (hx : ev F x = some (.int k i)) (hy : ev F y = some (.int k j))
    (h : JO c Q m r ((d, .bool (decide (i ≠ j))) :: F) H) : JO c Q m (⟨some d, .binOp .neq t x y t', ty, g, .mov, ns⟩ :: r) F H := by
  refine r_neq hd hg hx hy (fun hc => ?_) (fun hc => ?_)
  · rw [decide_eq_true hc] at h; exact h
  · rw [decide_eq_false (fun h => h hc)] at h; exact h
theorem JC.later {s : SCode} {ι : Type} (F0 : ι → SFrame) (H0 : ι → SHeap) (p : ι → Prop) (rest : ∀ z, p z → JX c Q .normal (F0 z) (H0 z)) (h : (∀ z, p z → JX c Q .normal (F0 z) (H0 z)) → JC c Q s F H) : JC c Q s F H := h rest
end

set_option maxHeartbeats 16000000 in
theorem c_refDet (K : Nat) (w : World) (v : Value) (m : ZM) (hm : RtZ m) (hsq : m.r = m.c) (hK : (m.r + 1) * (K + 1) ≤ 40000000) (hx : BdZ K m) (hv : IsM w v m) :
    Calls Tryd.prog 44 #[v] w (Ret fun v w' => Kp [] w w' ∧ v = .tuple #[Wv (det m.r m.at), .bool true]) := by
  have hv0 := hv
  have hvX := hv.x
  obtain ⟨E, rfl, hE⟩ := hv
  obtain ⟨n, c, e⟩ := m
  obtain rfl : n = c := hsq
  have hlen : e.length = n * n := hm.len
  have hle := rcZ hm.r hm.c
  have hbr : n ≤ 200 := hm.r
  have hB : n * (K + 1) + 1 ≤ 40000000 := by
    have e1 : (n + 1) * (K + 1) = n * (K + 1) + (K + 1) := by rw [Nat.add_mul, Nat.one_mul]
    simp only at hK; omega
  dsimp only at hE hK hle ⊢
  rw [hlen] at hE
  refine calls_of_S [⟨29, 1, [], []⟩, ⟨30, 1, [], []⟩, ⟨31, 3, [0, 1, 3, 2, 4, 5, 6, 7, 8, 9, 10, 11, 12, 13], []⟩] [] (by simp) [] Tryd.func44 rfl mixed (by kernel_rfl) Tryd.ntmps44 Tryd.results44 rfl ⟨by simp, by simp⟩ (by simp) ?_
  simp only [toS, textOps, toSOp, kindAt, kindOf, odAt, sopsAt, ordOf, zipF]
  have hRE := WZ.rd (c := ⟨Tryd.prog, 189, w, [], by simp⟩) hE rfl []
  (repeat' (first | refine JC.seq ?_ | refine JC.ops ?_ | refine JO.nil ?_ | refine JX.thenN ?_ | (apply r_assign; (iterate 3 exact rfl)) | (apply r_loadN; (iterate 4 exact rfl); exact at1; exact rfl) | (apply r_allocZ; (iterate 3 exact rfl); intro _) | (apply r_boxA; (iterate 4 exact rfl); intro _)))
  rename_i b1 b2
  refine r_call0 trivial rfl rfl rfl (fun w hk _ => c_refRight w _ _ (hvX.mono hk) (xm_len hm)) fun w v w' _ _ _ hR => ?_
  obtain ⟨b', rfl, hb⟩ := hR
  obtain rfl := hb.2 hm.rx
  (repeat' (first | refine JC.seq ?_ | refine JC.ops ?_ | refine JO.nil ?_ | refine JX.thenN ?_ | (apply r_move; (iterate 3 exact rfl)) | (apply r_fieldAddr; (iterate 3 exact rfl)) | (apply r_assign; (iterate 3 exact rfl)) | (apply r_load; (iterate 4 exact rfl); exact at1; exact rfl) | (apply r_pickF; (iterate 4 exact rfl)) | (apply r_not; (iterate 3 exact rfl)) | (apply r_neq; (iterate 4 exact rfl); all_goals intro hc; all_goals try (exfalso; omega)) | refine JC.skip ?_ | refine JC.condF rfl ?_))
  refine r_buildSlice0 rfl rfl rfl (fun b => ?_)
  (repeat' (first | (apply r_fieldAddr; (iterate 3 exact rfl)) | (apply r_load; (iterate 4 exact rfl); exact at2; exact rfl)))
  have hO : OwnZ [(b, .cells #[] 41)] (.slice (some ⟨b, 0, none⟩) 0 0) 0 [] := by
    have := OwnRow.mk' (e := 41) (sz := 2) (n := 0) (b := b) (cs := #[]) rfl (by simp only [maxLen]; omega)
    exact this
  refine r_appendZ (A := []) hO hRE (by (repeat' first | exact HSub.nil _ | exact HSub.hd | exact HSub.in0 | exact HSub.refl _ | refine HSub.skip ?_ | refine HSub.skipN ?_)) rfl (by first | trivial | exact ⟨rfl, rfl⟩) rfl rfl rfl rfl (by omega) (fun v6 N hO' => ?_)
  rw [Nat.zero_add, List.nil_append] at hO'
  obtain ⟨A6, c6, rfl⟩ := hO'.form
  (repeat' (first | refine JC.seq ?_ | refine JC.ops ?_ | refine JO.nil ?_ | refine JX.thenN ?_ | (apply r_assign; (iterate 3 exact rfl))))
  refine r_call0 (by first | trivial | exact ⟨rfl, rfl⟩) rfl rfl rfl (fun w _ _ => c_FromR w 1 (by omega) (by omega)) fun w v w' _ _ _ hR => ?_
  subst hR
  (repeat' (first | refine JC.seq ?_ | refine JC.ops ?_ | refine JO.nil ?_ | refine JX.thenN ?_ | (apply r_assign; (iterate 3 exact rfl)) | (apply r_storeN; exact rfl; (first | exact trivial | exact ⟨rfl, rfl⟩); exact rfl; exact rfl; exact at0; (iterate 3 exact rfl)) | (apply r_allocZ; (iterate 3 exact rfl); intro _) | (apply r_storeN; exact rfl; (first | exact trivial | exact ⟨rfl, rfl⟩); exact rfl; exact rfl; exact at0; (iterate 3 exact rfl)) | refine JC.block ?_))
  rename_i b7
  have hD0 : DetR n K (ZM.mk n n e).at 0 1 false e := ⟨⟨_, Bar.start n (ZM.mk n n e).at, by simp, fun i j => hx.at i j⟩, fun i j hi hj => bd_up (hx.at i j) (by have : K + 1 ≤ n * (K + 1) := Nat.le_mul_of_pos_left _ (by omega); omega)⟩
  generalize (ZM.mk n n e).at = A0 at hD0 ⊢
  refine JC.loopH (ι := Nat × Int × Bool × SHeap × List Int) ⟨fun z => [(9, nv z.1), (8, .bool z.2.2.1), (7, .pointer (some ⟨b7, 0, none⟩)), (6, .slice A6 (n * n) c6), (5, nv n), (2, .pointer (some ⟨b2, 0, none⟩))],
    fun z => [(b7, .cells (wc z.2.1) 41), (b2, .cells #[.bool false, .string ⟨#[]⟩] 41)] ++ (z.2.2.2.1 ++ []),
    fun z => z.1 ≤ n ∧ OwnZ z.2.2.2.1 (.slice A6 (n * n) c6) (n * n) z.2.2.2.2 ∧ DetR n K A0 z.1 z.2.1 z.2.2.1 z.2.2.2.2, fun z => n - z.1⟩ (0, 1, false, N, e) ⟨by omega, hO', hD0⟩ (by repeat first | exact trivial | refine ⟨rfl, ?_⟩) ⟨[(b1, .cells #[nv n, nv n, E] 29)], by
      dsimp only
      simp only [List.cons_append, List.nil_append, List.append_nil]
      exact List.Perm.cons _ List.perm_middle⟩ (fun z hz => ?_)
  clear hO hO' hD0
  obtain ⟨k, last, tn, N, es⟩ := z
  obtain ⟨hkn, hO, hD⟩ := hz
  dsimp only at hkn hO hD ⊢
  have hel := hO.len
  by_cases hlt : k < n
  · have q0 : k * n ≤ 40000 := Nat.le_trans (Nat.mul_le_mul_right n hkn) hle
    (repeat' (first | refine JC.seq ?_ | refine JC.ops ?_ | refine JO.nil ?_ | refine JX.thenN ?_ | (apply r_move; (iterate 3 exact rfl)) | (apply r_lss; (iterate 4 exact rfl); all_goals intro hc; all_goals try (exfalso; omega)) | refine JC.skip ?_ | refine JC.condT rfl ?_))
    refine JC.block ?_
    (repeat' (first | refine JC.seq ?_ | refine JC.ops ?_ | refine JO.nil ?_ | refine JX.thenN ?_ | (apply r_move; (iterate 3 exact rfl)) | (apply r_assign; (iterate 3 exact rfl))))
    refine JC.later (ι := { p : Nat // k ≤ p ∧ p < n ∧ enz n es p k ≠ 0 }) (fun p => [(10, nv p.1), (9, nv k), (8, .bool tn), (7, .pointer (some ⟨b7, 0, none⟩)), (6, .slice A6 (n * n) c6), (5, nv n), (2, .pointer (some ⟨b2, 0, none⟩))]) (fun _ => [(b7, .cells (wc last) 41), (b2, .cells #[.bool false, .string ⟨#[]⟩] 41)] ++ (N ++ [])) (fun _ => True) (fun p _ => ?_) (fun rest => ?_)
    · obtain ⟨p, hkp, hpn, hpz⟩ := p
      dsimp only
      have q1 : p * n ≤ 40000 := Nat.le_trans (Nat.mul_le_mul_right n (by omega)) hle
      refine JX.thenN ?_
      (repeat' (first | refine JC.seq ?_ | refine JC.ops ?_ | refine JO.nil ?_ | refine JX.thenN ?_ | (apply r_move; (iterate 3 exact rfl)) | (apply r_assign; (iterate 3 exact rfl)) | (apply r_eql; (iterate 4 exact rfl); all_goals intro hc; all_goals try (exfalso; omega)) | refine JC.skip ?_ | refine JC.condF rfl ?_))
      all_goals first
        | (exfalso; omega)
        | skip
      refine JC.later (ι := { z : SHeap × List Int // OwnZ z.1 (.slice A6 (n * n) c6) (n * n) z.2 ∧ ∀ i j, i < n → j < n → enz n z.2 i j = swR (enz n es) k p n i j }) (fun _ => [(10, nv p), (9, nv k), (8, .bool tn), (7, .pointer (some ⟨b7, 0, none⟩)), (6, .slice A6 (n * n) c6), (5, nv n), (2, .pointer (some ⟨b2, 0, none⟩))]) (fun z => [(b7, .cells (wc last) 41), (b2, .cells #[.bool false, .string ⟨#[]⟩] 41)] ++ (z.1.1 ++ [])) (fun _ => True) (fun z _ => ?_) (fun rest2 => ?_)
      · obtain ⟨⟨N2, es2⟩, hO2, hM2⟩ := z
        dsimp only at hO2 hM2 ⊢
        clear hO
        have hD2 := hD.swap hkp hpn hM2
        have hpz2 : enz n es2 k k ≠ 0 := by
          rw [hM2 k k hlt hlt]
          unfold swR
          by_cases h : p = k
          · subst h; rw [if_neg (by omega)]; exact hpz
          · rw [if_pos ⟨h, hlt⟩, if_neg (fun e => h e.symm), if_pos rfl]; exact hpz
        clear hM2 hpz hD
        have hel2 := hO2.len
        obtain ⟨A, hbar, hdet, hA⟩ := hD2.ex
        refine JX.thenN ?_
        (repeat' (first | refine JC.seq ?_ | refine JC.ops ?_ | (apply r_move; (iterate 3 exact rfl))))
        refine r_neqD rfl rfl rfl rfl ?_
        (repeat' (first | refine JC.seq ?_ | refine JC.ops ?_ | refine JO.nil ?_ | refine JX.thenN ?_ | (apply r_move; (iterate 3 exact rfl)) | (apply r_assign; (iterate 3 exact rfl)) | (apply r_add1; (iterate 4 exact rfl); omega) | (apply r_neB; (iterate 4 exact rfl)) | refine JC.block ?_))
        have htn : (tn != decide ((p : Int) ≠ (k : Int))) = (tn != !decide (p = k)) := by
          congr 1
          rw [← decide_not, decide_eq_decide]
          omega
        rw [htn]
        generalize (tn != !decide (p = k)) = tn2 at hdet hD2 ⊢
        refine JC.loopH (ι := Nat × SHeap × List Int) ⟨fun z => [(13, nv z.1), (9, nv k), (8, .bool tn2), (7, .pointer (some ⟨b7, 0, none⟩)), (6, .slice A6 (n * n) c6), (5, nv n), (2, .pointer (some ⟨b2, 0, none⟩))], fun z => [(b7, .cells (wc last) 41), (b2, .cells #[.bool false, .string ⟨#[]⟩] 41)] ++ (z.2.1 ++ []),
          fun z => k + 1 ≤ z.1 ∧ z.1 ≤ n ∧ OwnZ z.2.1 (.slice A6 (n * n) c6) (n * n) z.2.2 ∧ ∀ i j, i < n → j < n → enz n z.2.2 i j = elS (enz n es2) k last z.1 0 i j, fun z => n - z.1⟩ (k + 1, N2, es2) ⟨by dsimp only; omega, by dsimp only; omega, hO2, fun i j _ _ => (elS_start _ _ _ _ (by omega) _ _).symm⟩ (by repeat first | exact trivial | refine ⟨rfl, ?_⟩) (HSub.refl _) (fun z hz => ?_)
        clear hO2
        obtain ⟨i, N3, es3⟩ := z
        obtain ⟨hki, hin, hO3, hM3⟩ := hz
        dsimp only at hki hin hO3 hM3 ⊢
        by_cases hi : i < n
        · have q2 : i * n ≤ 40000 := Nat.le_trans (Nat.mul_le_mul_right n (by omega)) hle
          (repeat' (first | refine JC.seq ?_ | refine JC.ops ?_ | refine JO.nil ?_ | refine JX.thenN ?_ | (apply r_move; (iterate 3 exact rfl)) | (apply r_assign; (iterate 3 exact rfl)) | (apply r_add1; (iterate 4 exact rfl); omega) | (apply r_lss; (iterate 4 exact rfl); all_goals intro hc; all_goals try (exfalso; omega)) | refine JC.skip ?_ | refine JC.condT rfl ?_ | refine JC.block ?_))
          refine JC.loopH (ι := Nat × SHeap × List Int) ⟨fun z => [(14, nv z.1), (13, nv i), (9, nv k), (8, .bool tn2), (7, .pointer (some ⟨b7, 0, none⟩)), (6, .slice A6 (n * n) c6), (5, nv n), (2, .pointer (some ⟨b2, 0, none⟩))], fun z => [(b7, .cells (wc last) 41), (b2, .cells #[.bool false, .string ⟨#[]⟩] 41)] ++ (z.2.1 ++ []),
            fun z => k + 1 ≤ z.1 ∧ z.1 ≤ n ∧ OwnZ z.2.1 (.slice A6 (n * n) c6) (n * n) z.2.2 ∧ ∀ a b, a < n → b < n → enz n z.2.2 a b = elS (enz n es2) k last i z.1 a b, fun z => n - z.1⟩ (k + 1, N3, es3) ⟨by dsimp only; omega, by dsimp only; omega, hO3, fun a b ha hb => by rw [hM3 a b ha hb, elS_zero]⟩ (by repeat first | exact trivial | refine ⟨rfl, ?_⟩) (HSub.refl _) (fun z hz => ?_)
          clear hO3
          obtain ⟨j, N4, es4⟩ := z
          obtain ⟨hkj, hjn, hO4, hM4⟩ := hz
          dsimp only at hkj hjn hO4 hM4 ⊢
          have hel4 := hO4.len
          by_cases hj : j < n
          · have x1 := zx_lt hlt hlt
            have x2 := zx_lt hi hj
            have x3 := zx_lt hi hlt
            have x4 := zx_lt hlt hj
            have e0 : es4.getD (k * n + k) 0 = enz n es2 k k := (hM4 k k hlt hlt).trans (by unfold elS; rw [if_neg (by omega)])
            have e1 : es4.getD (i * n + j) 0 = enz n es2 i j := (hM4 i j hi hj).trans (by unfold elS; rw [if_neg (by omega)])
            have e2 : es4.getD (i * n + k) 0 = enz n es2 i k := (hM4 i k hi hlt).trans (by unfold elS; rw [if_neg (by omega)])
            have e3 : es4.getD (k * n + j) 0 = enz n es2 k j := (hM4 k j hlt hj).trans (by unfold elS; rw [if_neg (by omega)])
            have d0 := hD2.bd k k hlt hlt
            have d1 := hD2.bd i j hi hj
            have d2 := hD2.bd i k hi hlt
            have d3 := hD2.bd k j hlt hj
            rw [← e0] at d0
            rw [← e1] at d1
            rw [← e2] at d2
            rw [← e3] at d3
            (repeat' (first | refine JC.seq ?_ | refine JC.ops ?_ | refine JC.opsD ?_ | refine JO.nil ?_ | refine JX.thenN ?_ | (apply r_move; (iterate 3 exact rfl)) | (apply r_idxZ; (iterate 4 exact rfl); (first | assumption | exact WZ.rd (by assumption) rfl [] | exact OwnZ.rd (by assumption)); (first | assumption | omega)) | (apply r_ldZ; (iterate 4 exact rfl); (first | assumption | exact WZ.rd (by assumption) rfl [] | exact OwnZ.rd (by assumption)); (repeat' first | exact HSub.nil _ | exact HSub.hd | exact HSub.in0 | exact HSub.refl _ | refine HSub.skip ?_ | refine HSub.skipN ?_); (first | assumption | omega)) | (apply r_addN; (iterate 4 exact rfl); omega) | (apply r_mulN; (iterate 4 exact rfl); (first | assumption | omega)) | (apply r_lss; (iterate 4 exact rfl); all_goals intro hc; all_goals try (exfalso; omega)) | refine JC.skip ?_ | refine JC.condT rfl ?_ | refine JC.block ?_))
            refine r_call0 (by first | trivial | exact ⟨rfl, rfl⟩) rfl rfl rfl (fun w _ _ => c_MulR w _ _ (es4.getD (k * n + k) 0) (es4.getD (i * n + j) 0) (n * (K + 1) + 1) (IsZ.can d0) (IsZ.can d1) (by omega)) fun w v w' _ _ _ hR => ?_
            subst hR
            (repeat' (first | refine JC.seq ?_ | refine JC.opsD ?_ | refine JO.nil ?_ | refine JX.thenN ?_ | (apply r_move; (iterate 3 exact rfl)) | (apply r_idxZ; (iterate 4 exact rfl); (first | assumption | exact WZ.rd (by assumption) rfl [] | exact OwnZ.rd (by assumption)); (first | assumption | omega)) | (apply r_ldZ; (iterate 4 exact rfl); (first | assumption | exact WZ.rd (by assumption) rfl [] | exact OwnZ.rd (by assumption)); (repeat' first | exact HSub.nil _ | exact HSub.hd | exact HSub.in0 | exact HSub.refl _ | refine HSub.skip ?_ | refine HSub.skipN ?_); (first | assumption | omega)) | (apply r_addN; (iterate 4 exact rfl); omega) | (apply r_mulN; (iterate 4 exact rfl); (first | assumption | omega)) | (apply r_storeN; exact rfl; (first | exact trivial | exact ⟨rfl, rfl⟩); exact rfl; exact rfl; exact at0; (iterate 3 exact rfl)) | (apply r_allocZ; (iterate 3 exact rfl); intro _) | (apply r_storeN; exact rfl; (first | exact trivial | exact ⟨rfl, rfl⟩); exact rfl; exact rfl; exact at0; (iterate 3 exact rfl))))
            refine r_call0 (by first | trivial | exact ⟨rfl, rfl⟩) rfl rfl rfl (fun w _ _ => c_MulR w _ _ (es4.getD (i * n + k) 0) (es4.getD (k * n + j) 0) (n * (K + 1) + 1) (IsZ.can d2) (IsZ.can d3) (by omega)) fun w v w' _ _ _ hR => ?_
            subst hR
            (repeat' (first | refine JC.seq ?_ | refine JC.opsD ?_ | refine JO.nil ?_ | refine JX.thenN ?_ | (apply r_loadN; (iterate 4 exact rfl); (first | exact at0 | exact at1 | exact at2); exact rfl) | (apply r_storeN; exact rfl; (first | exact trivial | exact ⟨rfl, rfl⟩); exact rfl; exact rfl; (first | exact at0 | exact at1 | exact at2); (iterate 3 exact rfl)) | (apply r_allocZ; (iterate 3 exact rfl); intro _) | (apply r_storeN; exact rfl; (first | exact trivial | exact ⟨rfl, rfl⟩); exact rfl; exact rfl; (first | exact at0 | exact at1 | exact at2); (iterate 3 exact rfl))))
            refine r_call0 (by first | trivial | exact ⟨rfl, rfl⟩) rfl rfl rfl (fun w _ _ => c_SubR w _ _ (es4.getD (k * n + k) 0 * es4.getD (i * n + j) 0) (es4.getD (i * n + k) 0 * es4.getD (k * n + j) 0) _ (IsZ.can (mul_bd d0 d1)) (IsZ.can (mul_bd d2 d3)) (by omega)) fun w v w' _ _ _ hR => ?_
            subst hR
            skip
            refine r_call0 (by first | trivial | exact ⟨rfl, rfl⟩) rfl rfl rfl (fun w _ _ => c_QuoR w _ _ (es4.getD (k * n + k) 0 * es4.getD (i * n + j) 0 - es4.getD (i * n + k) 0 * es4.getD (k * n + j) 0) last (n * (K + 1) + 1 + (n * (K + 1) + 1) + 1) (IsZ.can (sub_bd (mul_bd d0 d1) (mul_bd d2 d3))) (IsZ.can (bd_up (hbar.lastLt (by omega) hbr hA) (by omega))) (by omega)) fun w v w' _ _ _ hR => ?_
            rw [if_neg hbar.ne] at hR
            subst hR
            (repeat' (first | refine JC.ops ?_ | refine JO.nil ?_ | refine JX.thenN ?_ | (apply r_move; (iterate 3 exact rfl)) | (apply r_assign; (iterate 3 exact rfl)) | (apply r_loadN; (iterate 4 exact rfl); (first | exact at0 | exact at1); exact rfl) | (apply r_idxZ; (iterate 4 exact rfl); (first | assumption | exact WZ.rd (by assumption) rfl [] | exact OwnZ.rd (by assumption)); (first | assumption | omega)) | (apply r_addN; (iterate 4 exact rfl); omega) | (apply r_mulN; (iterate 4 exact rfl); (first | assumption | omega)) | (apply r_extract; (iterate 4 exact rfl)) | (apply r_storeN; exact rfl; (first | exact trivial | exact ⟨rfl, rfl⟩); exact rfl; exact rfl; (first | exact at0 | exact at1); (iterate 3 exact rfl)) | (apply r_allocZ; (iterate 3 exact rfl); intro _) | (apply r_storeN; exact rfl; (first | exact trivial | exact ⟨rfl, rfl⟩); exact rfl; exact rfl; (first | exact at0 | exact at1); (iterate 3 exact rfl))))
            refine r_stZ (A := [_, _, _, _, _, _]) (u := (es4.getD (k * n + k) 0 * es4.getD (i * n + j) 0 - es4.getD (i * n + k) 0 * es4.getD (k * n + j) 0) / last) hO4 rfl rfl (by first | trivial | exact ⟨rfl, rfl⟩) rfl rfl x2 (fun N5 hO5 => ?_)
            (repeat' (first | refine JC.ops ?_ | refine JO.nil ?_ | refine JX.thenN ?_ | (apply r_move; (iterate 3 exact rfl)) | (apply r_assign; (iterate 3 exact rfl)) | (apply r_add1; (iterate 4 exact rfl); omega) | refine JX.blockN ?_))
            refine JX.roundH (j + 1, N5, _) ⟨by dsimp only; omega, by dsimp only; omega, hO5, fun a b ha hb => ?_⟩ (by dsimp only; omega) (by repeat first | exact trivial | refine ⟨rfl, ?_⟩) (HSub.skip (HSub.skip (HSub.skip (HSub.skip (HSub.refl _)))))
            dsimp only
            rw [enz_set hel4 hi hj hb, e0, e1, e2, e3, hM4 a b ha hb]
            exact elS_step _ _ _ _ _ (by omega) (by omega) _ _
          · (repeat' (first | refine JC.seq ?_ | refine JC.ops ?_ | refine JO.nil ?_ | refine JX.thenN ?_ | (apply r_move; (iterate 3 exact rfl)) | (apply r_assign; (iterate 3 exact rfl)) | (apply r_add1; (iterate 4 exact rfl); omega) | (apply r_lss; (iterate 4 exact rfl); all_goals intro hc; all_goals try (exfalso; omega)) | refine JX.thenE ?_ | refine JC.exit ?_ | refine JC.condF rfl ?_ | refine JX.blockN ?_ | refine JX.blockE ?_))
            obtain rfl : j = n := by omega
            refine JX.roundH (i + 1, N4, es4) ⟨by dsimp only; omega, by dsimp only; omega, hO4, fun a b ha hb => ?_⟩ (by dsimp only; omega) (by repeat first | exact trivial | refine ⟨rfl, ?_⟩) (HSub.refl _)
            dsimp only
            rw [hM4 a b ha hb, elS_row _ _ _ _ _ _ _ hb]
        · obtain rfl : i = n := by omega
          have x1 := zx_lt hlt hlt
          have e0 : es3.getD (k * i + k) 0 = enz i es2 k k := (hM3 k k hlt hlt).trans (by unfold elS; rw [if_neg (by omega)])
          have hst := hbar.step (M' := enz i es3) hlt hpz2 (fun a b ha hin hb hjn => by
            rw [hM3 a b hin hjn]
            unfold elS
            rw [if_pos ⟨hb, ha, .inl (by omega)⟩])
          rw [← e0] at hst
          (repeat' (first | refine JC.seq ?_ | refine JC.ops ?_ | refine JO.nil ?_ | refine JX.thenN ?_ | (apply r_move; (iterate 3 exact rfl)) | (apply r_assign; (iterate 3 exact rfl)) | (apply r_idxZ; (iterate 4 exact rfl); (first | assumption | exact WZ.rd (by assumption) rfl [] | exact OwnZ.rd (by assumption)); (first | assumption | omega)) | (apply r_ldZ; (iterate 4 exact rfl); (first | assumption | exact WZ.rd (by assumption) rfl [] | exact OwnZ.rd (by assumption)); (repeat' first | exact HSub.nil _ | exact HSub.hd | exact HSub.in0 | exact HSub.refl _ | refine HSub.skip ?_ | refine HSub.skipN ?_); (first | assumption | omega)) | (apply r_add1; (iterate 4 exact rfl); omega) | (apply r_addN; (iterate 4 exact rfl); omega) | (apply r_mulN; (iterate 4 exact rfl); (first | assumption | omega)) | (apply r_storeN; exact rfl; (first | exact trivial | exact ⟨rfl, rfl⟩); exact rfl; exact rfl; exact at0; (iterate 3 exact rfl)) | (apply r_lss; (iterate 4 exact rfl); all_goals intro hc; all_goals try (exfalso; omega)) | (apply r_storeN; exact rfl; (first | exact trivial | exact ⟨rfl, rfl⟩); exact rfl; exact rfl; exact at0; (iterate 3 exact rfl)) | refine JX.thenE ?_ | refine JC.exit ?_ | refine JC.condF rfl ?_ | refine JX.blockN ?_ | refine JX.blockE ?_))
          refine JX.roundH (k + 1, es3.getD (k * i + k) 0, tn2, N3, es3) ⟨by dsimp only; omega, hO3, ⟨A, hst, hdet, hA⟩, fun a b ha hb => ?_⟩ (by dsimp only; omega) (by repeat first | exact trivial | refine ⟨rfl, ?_⟩) (HSub.refl _)
          dsimp only
          by_cases hc : k < b ∧ k < a
          · exact hst.lt hbr hA (by omega) ha (by omega) hb
          · rw [hM3 a b ha hb]
            unfold elS
            rw [if_neg (by omega)]
            exact hD2.bd a b ha hb
      · refine JC.block ?_
        refine JC.loopH (ι := Nat × SHeap × List Int) ⟨fun z => [(11, nv z.1), (10, nv p), (9, nv k), (8, .bool tn), (7, .pointer (some ⟨b7, 0, none⟩)), (6, .slice A6 (n * n) c6), (5, nv n), (2, .pointer (some ⟨b2, 0, none⟩))], fun z => [(b7, .cells (wc last) 41), (b2, .cells #[.bool false, .string ⟨#[]⟩] 41)] ++ (z.2.1 ++ []),
          fun z => z.1 ≤ n ∧ OwnZ z.2.1 (.slice A6 (n * n) c6) (n * n) z.2.2 ∧ ∀ i j, i < n → j < n → enz n z.2.2 i j = swR (enz n es) k p z.1 i j, fun z => n - z.1⟩ (0, N, es) ⟨by dsimp only; omega, hO, fun i j _ _ => (swR_zero _ _ _ _ _).symm⟩ (by repeat first | exact trivial | refine ⟨rfl, ?_⟩) (HSub.refl _) (fun z hz => ?_)
        clear hO
        obtain ⟨j, N, es2⟩ := z
        obtain ⟨hj, hO, hM⟩ := hz
        dsimp only at hj hO hM ⊢
        have hel2 := hO.len
        by_cases hjp : j < n ∧ p ≠ k
        · obtain ⟨hjn, hpk⟩ := hjp
          have x1 := zx_lt hpn hjn
          have x2 := zx_lt hlt hjn
          (repeat' (first | refine JC.seq ?_ | refine JC.ops ?_ | refine JO.nil ?_ | refine JX.thenN ?_ | (apply r_move; (iterate 3 exact rfl)) | (apply r_idxZ; (iterate 4 exact rfl); (first | assumption | exact WZ.rd (by assumption) rfl [] | exact OwnZ.rd (by assumption)); (first | assumption | omega)) | (apply r_ldZ; (iterate 4 exact rfl); (first | assumption | exact WZ.rd (by assumption) rfl [] | exact OwnZ.rd (by assumption)); (repeat' first | exact HSub.nil _ | exact HSub.hd | exact HSub.in0 | exact HSub.refl _ | refine HSub.skip ?_ | refine HSub.skipN ?_); (first | assumption | omega)) | (apply r_addN; (iterate 4 exact rfl); omega) | (apply r_mulN; (iterate 4 exact rfl); (first | assumption | omega)) | (apply r_pickT; (iterate 4 exact rfl)) | (apply r_storeN; exact rfl; (first | exact trivial | exact ⟨rfl, rfl⟩); exact rfl; exact rfl; exact at0; (iterate 3 exact rfl)) | (apply r_lss; (iterate 4 exact rfl); all_goals intro hc; all_goals try (exfalso; omega)) | (apply r_neq; (iterate 4 exact rfl); all_goals intro hc; all_goals try (exfalso; omega)) | (apply r_allocZ; (iterate 3 exact rfl); intro _) | (apply r_storeN; exact rfl; (first | exact trivial | exact ⟨rfl, rfl⟩); exact rfl; exact rfl; exact at0; (iterate 3 exact rfl)) | refine JC.skip ?_ | refine JC.condT rfl ?_ | refine JC.block ?_))
          rename_i b12
          have g1 : es2.getD (k * n + j) 0 = enz n es k j := (hM k j hlt hjn).trans (by unfold swR; rw [if_neg (by omega)])
          have g2 : es2.getD (p * n + j) 0 = enz n es p j := (hM p j hpn hjn).trans (by unfold swR; rw [if_neg (by omega)])
          refine r_stZ (A := [_, _, _]) (u := es2.getD (k * n + j) 0) hO rfl rfl (by first | trivial | exact ⟨rfl, rfl⟩) rfl rfl x1 (fun N1 hO1 => ?_)
          (repeat' (first | refine JC.ops ?_ | refine JO.nil ?_ | refine JX.thenN ?_ | (apply r_move; (iterate 3 exact rfl)) | (apply r_loadN; (iterate 4 exact rfl); exact at0; exact rfl) | (apply r_idxZ; (iterate 4 exact rfl); (first | assumption | exact WZ.rd (by assumption) rfl [] | exact OwnZ.rd (by assumption)); (first | assumption | omega)) | (apply r_addN; (iterate 4 exact rfl); omega) | (apply r_mulN; (iterate 4 exact rfl); (first | assumption | omega))))
          refine r_stZ (A := [_, _, _]) (u := es2.getD (p * n + j) 0) hO1 rfl rfl (by first | trivial | exact ⟨rfl, rfl⟩) rfl rfl x2 (fun N2 hO2 => ?_)
          (repeat' (first | refine JC.ops ?_ | refine JO.nil ?_ | refine JX.thenN ?_ | (apply r_move; (iterate 3 exact rfl)) | (apply r_assign; (iterate 3 exact rfl)) | (apply r_add1; (iterate 4 exact rfl); omega) | refine JX.blockN ?_))
          refine JX.roundH (j + 1, N2, _) ⟨by dsimp only; omega, hO2, fun a b ha hb => ?_⟩ (by dsimp only; omega) (by repeat first | exact trivial | refine ⟨rfl, ?_⟩) (HSub.skip (HSub.refl _))
          dsimp only
          rw [enz_set (by rw [List.length_set]; exact hel2) hlt hjn hb, enz_set hel2 hpn hjn hb, g1, g2, hM a b ha hb]
          exact swR_step hpk a b
        · have hexit : ∀ i' j', i' < n → j' < n → enz n es2 i' j' = swR (enz n es) k p n i' j' := fun i' j' h1 h2 => by
            rw [hM i' j' h1 h2]
            by_cases h : p = k
            · subst h; rw [swR_same, swR_same]
            · obtain rfl : j = n := by omega
              rfl
          (repeat' (first | refine JC.seq ?_ | refine JC.ops ?_ | refine JO.nil ?_ | (apply r_move; (iterate 3 exact rfl)) | (apply r_pickT; (iterate 4 exact rfl)) | (apply r_pickF; (iterate 4 exact rfl)) | (apply r_lss; (iterate 4 exact rfl); all_goals intro hc; all_goals try (exfalso; omega)) | (apply r_neq; (iterate 4 exact rfl); all_goals intro hc; all_goals try (exfalso; omega)) | (apply r_skip; exact rfl; exact rfl; (first | (intro h; cases h; done) | (intro _; rfl)))))
          all_goals refine JX.thenN ?_
          all_goals (repeat' (first | refine JX.thenE ?_ | refine JC.exit ?_ | refine JC.condF rfl ?_ | refine JX.blockE ?_))
          all_goals exact JX.part (by repeat first | exact trivial | refine ⟨rfl, ?_⟩) (HSub.refl _) (rest2 ⟨(N, es2), hO, hexit⟩ trivial)
    · refine JC.block ?_
      refine JC.loopH (ι := Nat) ⟨fun p => [(10, nv p), (9, nv k), (8, .bool tn), (7, .pointer (some ⟨b7, 0, none⟩)), (6, .slice A6 (n * n) c6), (5, nv n), (2, .pointer (some ⟨b2, 0, none⟩))], fun _ => [(b7, .cells (wc last) 41), (b2, .cells #[.bool false, .string ⟨#[]⟩] 41)] ++ (N ++ []), fun p => k ≤ p ∧ p ≤ n ∧ ∀ i, k ≤ i → i < p → enz n es i k = 0, fun p => n - p⟩ k ⟨by omega, by omega, fun i h1 h2 => by omega⟩ (by repeat first | exact trivial | refine ⟨rfl, ?_⟩) (HSub.refl _) (fun p hp => ?_)
      obtain ⟨hkp, hpn, hpz⟩ := hp
      dsimp only
      by_cases hpl : p < n
      · have hpk := zx_lt hpl hlt
        have q1 : p * n ≤ 40000 := Nat.le_trans (Nat.mul_le_mul_right n (by omega)) hle
        (repeat' (first | refine JC.seq ?_ | refine JC.ops ?_ | refine JO.nil ?_ | refine JX.thenN ?_ | (apply r_move; (iterate 3 exact rfl)) | (apply r_idxZ; (iterate 4 exact rfl); (first | assumption | exact WZ.rd (by assumption) rfl [] | exact OwnZ.rd (by assumption)); (first | assumption | omega)) | (apply r_ldXm; (iterate 4 exact rfl); (first | assumption | exact WX.rd (by assumption) rfl [] | exact OwnX.rd (by assumption)); (repeat' first | exact HSub.nil _ | exact HSub.hd | exact HSub.in0 | exact HSub.refl _ | refine HSub.skip ?_ | refine HSub.skipN ?_); (first | assumption | omega)) | (apply r_fieldX; (iterate 3 exact rfl); (first | assumption | exact WX.rd (by assumption) rfl [] | exact OwnX.rd (by assumption)); omega) | (apply r_addN; (iterate 4 exact rfl); omega) | (apply r_mulN; (iterate 4 exact rfl); (first | assumption | omega)) | (apply r_pickT; (iterate 4 exact rfl)) | (apply r_eqS; (iterate 4 exact rfl)) | (apply r_lss; (iterate 4 exact rfl); all_goals intro hc; all_goals try (exfalso; omega))))
        have hz59 : decide (((List.map wz es).getD (p * n + k) w0x).snd = []) = decide (enz n es p k = 0) := by rw [map_wz_getD]; exact decide_eq_decide.2 magU_zero
        by_cases hz : enz n es p k = 0
        · rw [hz59, decide_eq_true hz]
          (repeat' (first | refine JC.ops ?_ | refine JO.nil ?_ | refine JX.thenN ?_ | (apply r_move; (iterate 3 exact rfl)) | (apply r_assign; (iterate 3 exact rfl)) | (apply r_add1; (iterate 4 exact rfl); omega) | refine JC.skip ?_ | refine JC.condT rfl ?_ | refine JC.block ?_ | refine JX.blockN ?_))
          refine JX.roundH (p + 1) ⟨by omega, by omega, fun i h1 h2 => ?_⟩ (by dsimp only; omega) (by repeat first | exact trivial | refine ⟨rfl, ?_⟩) (HSub.refl _)
          rcases Nat.lt_or_ge i p with h | h
          · exact hpz i h1 h
          · obtain rfl : i = p := by omega
            exact hz
        · rw [hz59, decide_eq_false hz]
          (repeat' (first | refine JX.thenE ?_ | refine JC.exit ?_ | refine JC.condF rfl ?_ | refine JX.blockE ?_))
          exact JX.part (by repeat first | exact trivial | refine ⟨rfl, ?_⟩) (HSub.refl _) (rest ⟨p, hkp, hpl, hz⟩ trivial)
      · obtain rfl : p = n := by omega
        have h0 := hD.none hlt hpz
        (repeat' (first | refine JC.seq ?_ | refine JC.ops ?_ | refine JO.nil ?_ | refine JX.thenN ?_ | (apply r_move; (iterate 3 exact rfl)) | (apply r_assign; (iterate 3 exact rfl)) | (apply r_pickF; (iterate 4 exact rfl)) | (apply r_storeN; exact rfl; (first | exact trivial | exact ⟨rfl, rfl⟩); exact rfl; exact rfl; exact at1; (iterate 3 exact rfl)) | (apply r_lss; (iterate 4 exact rfl); all_goals intro hc; all_goals try (exfalso; omega)) | (apply r_eql; (iterate 4 exact rfl); all_goals intro hc; all_goals try (exfalso; omega)) | (apply r_buildL; (iterate 5 exact rfl)) | (apply r_storeN; exact rfl; (first | exact trivial | exact ⟨rfl, rfl⟩); exact rfl; exact rfl; exact at1; (iterate 3 exact rfl)) | refine JX.thenE ?_ | refine JX.thenR ?_ | refine JC.exit ?_ | refine JC.ret ?_ | refine JC.condT rfl ?_ | refine JC.condF rfl ?_ | refine JX.blockR ?_ | refine JX.blockE ?_ | (apply r_skip; exact rfl; exact rfl; (first | (intro h; cases h; done) | (intro _; rfl)))))
        refine JX.retCT 1 rfl rfl rfl rfl (fun a w' st => ⟨st.kp, ?_⟩)
        rw [h0, Wz0]
        rfl
  · obtain rfl : k = n := by omega
    obtain ⟨A, hbar, hdet, hA⟩ := hD.ex
    have hdone := hbar.done
    have hlast := hbar.lastLt (Nat.le_refl _) hbr hA
    (repeat' (first | refine JC.seq ?_ | refine JC.ops ?_ | refine JO.nil ?_ | refine JX.thenN ?_ | (apply r_move; (iterate 3 exact rfl)) | (apply r_lss; (iterate 4 exact rfl); all_goals intro hc; all_goals try (exfalso; omega)) | refine JX.thenE ?_ | refine JC.exit ?_ | refine JC.condF rfl ?_ | refine JX.blockE ?_))
    cases tn with
    | false =>
      (repeat' (first | refine JC.seq ?_ | refine JC.ops ?_ | refine JO.nil ?_ | refine JX.thenN ?_ | (apply r_assign; (iterate 3 exact rfl)) | (apply r_loadN; (iterate 4 exact rfl); (first | exact at0 | exact at1); exact rfl) | (apply r_storeN; exact rfl; (first | exact trivial | exact ⟨rfl, rfl⟩); exact rfl; exact rfl; (first | exact at0 | exact at1); (iterate 3 exact rfl)) | (apply r_storeN; exact rfl; (first | exact trivial | exact ⟨rfl, rfl⟩); exact rfl; exact rfl; (first | exact at0 | exact at1); (iterate 3 exact rfl)) | refine JC.skip ?_ | refine JC.ret ?_ | refine JC.condF rfl ?_))
      refine JX.retCT 1 rfl rfl rfl rfl (fun a w' st => ⟨st.kp, ?_⟩)
      have : det k A0 = last := by rw [hdone, hdet]; simp
      rw [this]
      rfl
    | true =>
      (repeat' (first | refine JC.ops ?_ | (apply r_loadN; (iterate 4 exact rfl); exact at0; exact rfl) | refine JC.condT rfl ?_))
      refine r_call0 (by first | trivial | exact ⟨rfl, rfl⟩) rfl rfl rfl (fun w _ _ => c_NegR w _ last _ (IsZ.can hlast) (by omega)) fun w v w' _ _ _ hR => ?_
      subst hR
      (repeat' (first | refine JC.seq ?_ | refine JC.ops ?_ | refine JO.nil ?_ | refine JX.thenN ?_ | (apply r_assign; (iterate 3 exact rfl)) | (apply r_loadN; (iterate 4 exact rfl); (first | exact at0 | exact at1); exact rfl) | (apply r_storeN; exact rfl; (first | exact trivial | exact ⟨rfl, rfl⟩); exact rfl; exact rfl; (first | exact at0 | exact at1); (iterate 3 exact rfl)) | (apply r_storeN; exact rfl; (first | exact trivial | exact ⟨rfl, rfl⟩); exact rfl; exact rfl; (first | exact at0 | exact at1); (iterate 3 exact rfl)) | refine JC.ret ?_))
      refine JX.retCT 1 rfl rfl rfl rfl (fun a w' st => ⟨st.kp, ?_⟩)
      have : det k A0 = -last := by rw [hdone, hdet]; simp
      rw [this]
      rfl


set_option maxHeartbeats 2000000 in
theorem c_refOne (n : Nat) (hn : n ≤ 200) (w : World) : Calls Tryd.prog 39 #[nv n] w (Ret fun v w' => Kp [] w w' ∧ GivesM (oneZ n) w v w') := by
  have hnn := rcZ hn hn
  refine calls_of_S [⟨5, 2, [], []⟩] [] (by simp) [] Tryd.func39 rfl mixed (by kernel_rfl) Tryd.ntmps39 Tryd.results39 rfl ⟨by simp, by simp⟩ (by simp) ?_
  simp only [toS, textOps, toSOp, kindAt, kindOf, odAt, sopsAt, ordOf, zipF]
  (repeat' (first | refine JC.seq ?_ | refine JC.ops ?_ | refine JO.nil ?_ | refine JX.thenN ?_ | (apply r_move; (iterate 3 exact rfl)) | (apply r_allocZ; (iterate 3 exact rfl); intro _)))
  rename_i b2
  refine r_callA (A := [_]) (B := []) rfl trivial rfl rfl rfl (fun w _ _ => c_refZero n n hn hn w) fun w v w' _ _ _ hR => ?_
  obtain ⟨N, Eo, hN, rfl, hO⟩ := hR
  obtain ⟨Ao, co, rfl⟩ := hO.form
  refine ⟨N, hN, ?_⟩
  (repeat' (first | refine JC.seq ?_ | refine JC.ops ?_ | refine JO.nil ?_ | refine JX.thenN ?_ | (apply r_assign; (iterate 3 exact rfl)) | (apply r_storeN; exact rfl; (first | exact trivial | exact ⟨rfl, rfl⟩); exact rfl; exact rfl; exact at0; (iterate 3 exact rfl)) | (apply r_allocZ; (iterate 3 exact rfl); intro _) | (apply r_storeN; exact rfl; (first | exact trivial | exact ⟨rfl, rfl⟩); exact rfl; exact rfl; exact at0; (iterate 3 exact rfl)) | refine JC.block ?_))
  rename_i b3
  refine JC.loopH (ι := Nat × SHeap) ⟨fun z => [(4, nv z.1), (0, nv n), (3, .pointer (some ⟨b3, 0, none⟩)), (2, .pointer (some ⟨b2, 0, none⟩))],
    fun z => [(b3, .cells #[nv n, nv n, .slice Ao (n * n) co] 29), (b2, .cells #[iv 0, iv 0, .slice none 0 0] 29)] ++ (z.2 ++ []),
    fun z => z.1 ≤ n ∧ OwnZ z.2 (.slice Ao (n * n) co) (n * n) (oneS n z.1), fun z => n - z.1⟩ (0, N) ⟨by omega, by rw [oneS_zero]; exact hO⟩ (by repeat first | exact trivial | refine ⟨rfl, ?_⟩) (by (first | exact HSub.refl _ | (repeat' first | exact HSub.nil _ | exact HSub.refl _ | refine HSub.at 0 rfl ?_ | refine HSub.at 1 rfl ?_ | refine HSub.at 2 rfl ?_ | refine HSub.at 3 rfl ?_ | refine HSub.at 4 rfl ?_ | refine HSub.at 5 rfl ?_ | refine HSub.at 6 rfl ?_ | refine HSub.at 7 rfl ?_))) (fun k hk => ?_)
  obtain ⟨k, N⟩ := k
  obtain ⟨hkn, hO⟩ := hk
  dsimp only at hkn hO ⊢
  have hkk : k * n ≤ 40000 := Nat.mul_le_mul (show k ≤ 200 by omega) hn
  by_cases hlt : k < n
  · have hi := zx_lt hlt hlt
    (repeat' (first | refine JC.seq ?_ | refine JC.ops ?_ | refine JC.opsD ?_ | refine JO.nil ?_ | refine JX.thenN ?_ | (apply r_move; (iterate 3 exact rfl)) | (apply r_fieldAddr; (iterate 3 exact rfl)) | (apply r_load; (iterate 4 exact rfl); exact at0; exact rfl) | (apply r_addN; (iterate 4 exact rfl); omega) | (apply r_mulN; (iterate 4 exact rfl); (first | assumption | omega)) | (apply r_lss; (iterate 4 exact rfl); all_goals intro hc; all_goals try (exfalso; omega)) | refine JC.skip ?_ | refine JC.condT rfl ?_ | refine JC.block ?_))
    refine r_call0 (by first | trivial | exact ⟨rfl, rfl⟩) rfl rfl rfl (fun w _ _ => c_FromR w 1 (by omega) (by omega)) fun w v w' _ _ _ hR => ?_
    subst hR
    (repeat' (first | (apply r_idxZ; (iterate 4 exact rfl); (first | assumption | exact WZ.rd (by assumption) rfl [] | exact OwnZ.rd (by assumption)); (first | assumption | omega))))
    refine r_stZ (A := [_, _]) hO rfl rfl ⟨rfl, rfl⟩ rfl rfl hi (fun N' hO' => ?_)
    rw [oneS_set hlt] at hO'
    (repeat' (first | refine JC.ops ?_ | refine JO.nil ?_ | refine JX.thenN ?_ | (apply r_move; (iterate 3 exact rfl)) | (apply r_assign; (iterate 3 exact rfl)) | (apply r_add1; (iterate 4 exact rfl); omega) | refine JX.blockN ?_))
    exact JX.roundH (k + 1, N') ⟨by dsimp only; omega, hO'⟩ (by dsimp only; omega) (by repeat first | exact trivial | refine ⟨rfl, ?_⟩) (by (first | exact HSub.refl _ | (repeat' first | exact HSub.nil _ | exact HSub.refl _ | refine HSub.at 0 rfl ?_ | refine HSub.at 1 rfl ?_ | refine HSub.at 2 rfl ?_ | refine HSub.at 3 rfl ?_ | refine HSub.at 4 rfl ?_ | refine HSub.at 5 rfl ?_ | refine HSub.at 6 rfl ?_ | refine HSub.at 7 rfl ?_)))
  · (repeat' (first | refine JC.seq ?_ | refine JC.ops ?_ | refine JO.nil ?_ | refine JX.thenN ?_ | (apply r_move; (iterate 3 exact rfl)) | (apply r_fieldAddr; (iterate 3 exact rfl)) | (apply r_load; (iterate 4 exact rfl); (first | exact at0 | exact at1); exact rfl) | (apply r_loadN; (iterate 4 exact rfl); (first | exact at0 | exact at1); exact rfl) | (apply r_storeN; exact rfl; (first | exact trivial | exact ⟨rfl, rfl⟩); exact rfl; exact rfl; (first | exact at0 | exact at1); (iterate 3 exact rfl)) | (apply r_lss; (iterate 4 exact rfl); all_goals intro hc; all_goals try (exfalso; omega)) | (apply r_storeN; exact rfl; (first | exact trivial | exact ⟨rfl, rfl⟩); exact rfl; exact rfl; (first | exact at0 | exact at1); (iterate 3 exact rfl)) | refine JX.thenE ?_ | refine JC.exit ?_ | refine JC.ret ?_ | refine JC.condF rfl ?_ | refine JX.blockE ?_))
    obtain rfl : k = n := by omega
    rw [oneS_end] at hO
    exact JX.retC 1 rfl rfl rfl (fun a w' st => ⟨st.kp, N, st.newOf rfl (by (repeat' first | exact HSub.nil _ | exact HSub.hd | exact HSub.in0 | exact HSub.refl _ | refine HSub.skip ?_ | refine HSub.skipN ?_)), OwnM.mk' hO⟩)


theorem own_oneZ (b : Nat) (z : Int) : OwnZ [(b, .cells ⟨[.bool (wz z).1, sv (wz z).2]⟩ 41)] (.slice (some ⟨b, 0, none⟩) 1 1) 1 [z] := by
  have h := OwnRow.mk' (e := 41) (sz := 2) (n := 1) (b := b) (cs := ⟨[.bool (wz z).1, sv (wz z).2]⟩) (by simp) (by simp only [maxLen]; omega)
  exact h

open Classical in
def GivesLB (zs : List Int) (b : Bool) (w : World) (v : Value) (w' : World) : Prop := ∃ N E, New N w w' ∧ v = .tuple #[E, .bool b] ∧ OwnZ N E zs.length zs
theorem GivesLB.nil {w w' : World} {v : Value} (h : v = .tuple #[.slice none 0 0, .bool false]) : GivesLB [] false w v w' := ⟨[], _, New.nil _ _, h, OwnZ.nil⟩
theorem BdL.of {L : Nat} {zs : List Int} (h : ∀ i, (zs.getD i 0).natAbs < 256 ^ L) : BdL L zs := h

section
variable {c : Cx} {Q : Exit → Act → World → Prop} {m : Mode} {F : SFrame} {H : SHeap} {r : List SOp} {g : Option (Option Tmp × Bool)} {ns : Bool} {d : Tmp} {ty t t' : TypeId} {x y : Operand} {N : SHeap} {n : Nat} {v : Value}
end

end Go.Proofs.YtdlmnloikakjpaaDoor

namespace Go.Proofs.YtdlmnloikakjpaaDoor
open Go
set_option linter.unusedSimpArgs false
set_option linter.unusedVariables false
set_option linter.unusedSectionVars false

theorem smI_skip : ∀ {n r : Nat} {f : Nat → Int}, r ≤ n → smI (n + 1) f = smI n (fun a => f (sk r a)) + f r
  | 0, r, f, h => by
    obtain rfl : r = 0 := by omega
    rfl
  | n + 1, r, f, h => by
    by_cases hr : r = n + 1
    · subst hr
      show smI (n + 1) f + f (n + 1) = _
      congr 1
      refine smI_congr fun i hi => ?_
      unfold sk
      rw [if_pos hi]
    · show smI (n + 1) f + f (n + 1) = smI n (fun a => f (sk r a)) + f (sk r n) + f r
      rw [smI_skip (n := n) (r := r) (by omega)]
      have : sk r n = n + 1 := by unfold sk; rw [if_neg (by omega)]
      rw [this]
      omega
theorem sg_par {a b : Nat} (h : a % 2 = b % 2) : sg a = sg b := by unfold sg; rw [h]
theorem sk_zero (b : Nat) : sk 0 b = b + 1 := by unfold sk; rw [if_neg (Nat.not_lt_zero b)]
theorem sk_succ (t y : Nat) : sk (t + 1) (y + 1) = sk t y + 1 := by
  unfold sk
  by_cases h : y < t
  · rw [if_pos h, if_pos (by omega)]
  · rw [if_neg h, if_neg (by omega)]
theorem sk_sk {r a x : Nat} : sk (sk r a) (sk (unsk (sk r a) r) x) = sk r (sk a x) := by
  by_cases h1 : a < r
  · have e1 : sk r a = a := by unfold sk; rw [if_pos h1]
    have e2 : unsk a r = r - 1 := by unfold unsk; rw [if_neg (by omega)]
    rw [e1, e2]
    unfold sk
    repeat' split
    all_goals omega
  · have e1 : sk r a = a + 1 := by unfold sk; rw [if_neg h1]
    have e2 : unsk (a + 1) r = r := by unfold unsk; rw [if_pos (by omega)]
    rw [e1, e2]
    unfold sk
    repeat' split
    all_goals omega
theorem sk_sg (r a t : Nat) : sg (sk r a) * sg (unsk (sk r a) r + t) = sg (r + (t + 1)) * sg a := by
  by_cases h1 : a < r
  · have e1 : sk r a = a := by unfold sk; rw [if_pos h1]
    have e2 : unsk a r = r - 1 := by unfold unsk; rw [if_neg (by omega)]
    rw [e1, e2, sg_par (a := r - 1 + t) (b := r + (t + 1)) (by omega)]
    exact Int.mul_comm _ _
  · have e1 : sk r a = a + 1 := by unfold sk; rw [if_neg h1]
    have e2 : unsk (a + 1) r = r := by unfold unsk; rw [if_pos (by omega)]
    rw [e1, e2, show r + (t + 1) = r + t + 1 by omega, sg_succ, sg_succ, Int.neg_mul, Int.neg_mul, Int.mul_comm]

theorem det_cof : ∀ {n : Nat} {A : Mi} {r t : Nat}, r ≤ n → t ≤ n → det (n + 1) (setRow A r (unit t)) = sg (r + t) * det n (fun a b => A (sk r a) (sk t b))
  | n, A, r, 0, hr, _ => by
    rw [det, smI_skip hr, smI_zero, setRow_self, minor_set_self]
    · have e : (fun a b => A (sk r a) (sk 0 b)) = fun a b => A (sk r a) (b + 1) := by funext a b; rw [sk_zero]
      rw [e]
      show 0 + sg r * 1 * _ = _
      rw [Nat.add_zero, Int.mul_one, Int.zero_add]
    · intro a ha
      have hne : r ≠ sk r a := by unfold sk; split <;> omega
      rw [minor_set hne]
      have hz : det n (setRow (fun x b => A (sk (sk r a) x) (b + 1)) (unsk (sk r a) r) fun b => unit 0 (b + 1)) = 0 :=
        det_zrow (unsk_lt (by unfold sk; split <;> omega) (by omega) hne) (fun j _ => by unfold unit; rw [if_neg (by omega)])
      rw [hz, Int.mul_zero]
  | 0, A, r, t + 1, _, ht => absurd ht (by omega)
  | n + 1, A, r, t + 1, hr, ht => by
    rw [det, smI_skip hr, setRow_self]
    have h0 : unit (t + 1) 0 = 0 := by unfold unit; rw [if_neg (by omega)]
    rw [h0, Int.mul_zero, Int.zero_mul, Int.add_zero]
    show _ = sg (r + (t + 1)) * det (n + 1) _
    rw [det, ← smI_mull]
    refine smI_congr fun a ha => ?_
    have hne : r ≠ sk r a := by unfold sk; split <;> omega
    have hne2 : sk r a ≠ r := fun e => hne e.symm
    rw [minor_set hne, setRow_ne hne2]
    have e1 : (fun b => unit (t + 1) (b + 1)) = unit t := by
      funext b
      unfold unit
      by_cases h : t = b
      · rw [if_pos h, if_pos (by omega)]
      · rw [if_neg h, if_neg (by omega)]
    rw [e1, det_cof (n := n) (by have := unsk_lt (n := n + 1) (i := sk r a) (r := r) (by unfold sk; split <;> omega) (by omega) hne; omega) (by omega)]
    have e2 : (fun x b => A (sk (sk r a) (sk (unsk (sk r a) r) x)) (sk t b + 1)) = fun x b => A (sk r (sk a x)) (sk (t + 1) (b + 1)) := by
      funext x b
      rw [sk_sk, sk_succ]
    have e3 : sk (t + 1) 0 = 0 := by unfold sk; rw [if_pos (by omega)]
    show sg (sk r a) * A (sk r a) 0 * (sg (unsk (sk r a) r + t) * det n fun x b => A (sk (sk r a) (sk (unsk (sk r a) r) x)) (sk t b + 1)) = sg (r + (t + 1)) * (sg a * A (sk r a) (sk (t + 1) 0) * det n fun x b => A (sk r (sk a x)) (sk (t + 1) (b + 1)))
    rw [e2, e3]
    have := sk_sg r a t
    generalize det n (fun x b => A (sk r (sk a x)) (sk (t + 1) (b + 1))) = D
    rw [show sg (sk r a) * A (sk r a) 0 * (sg (unsk (sk r a) r + t) * D) = sg (sk r a) * sg (unsk (sk r a) r + t) * (A (sk r a) 0 * D) by grind, this]
    grind

def adj (n : Nat) (A : Mi) (d : Int) : Mi := fun i j => sg (i + j) * det n (fun a b => A (sk j a) (sk i b)) * d
theorem adj_left {n : Nat} {A : Mi} {d : Int} {i k : Nat} (hi : i ≤ n) (hk : k ≤ n) : mmI (n + 1) (adj n A d) A i k = if i = k then d * det (n + 1) A else 0 := by
  have h1 : mmI (n + 1) (adj n A d) A i k = d * smI (n + 1) fun j => A j k * det (n + 1) (setRow (tr A) i (unit j)) := by
    unfold mmI
    rw [← smI_mull]
    refine smI_congr fun j hj => ?_
    rw [det_cof hi (by omega)]
    have : det n (fun a b => A (sk j a) (sk i b)) = det n (fun a b => tr A (sk i a) (sk j b)) := by
      rw [← det_tr]
      rfl
    unfold adj
    rw [this]
    grind
  rw [h1, ← det_units (A := tr A) (f := fun j => A j k) (by omega)]
  by_cases h : i = k
  · subst h
    rw [if_pos rfl]
    have : (fun j => A j i) = tr A i := rfl
    rw [this, setRow_id, det_tr]
  · rw [if_neg h, det_same (r := i) (s := k) (by omega) (by omega) h (fun j => by rw [setRow_self, setRow_ne (fun e => h e.symm)]; rfl), Int.mul_zero]
theorem adj_right {n : Nat} {A : Mi} {d : Int} {i k : Nat} (hi : i ≤ n) (hk : k ≤ n) : mmI (n + 1) A (adj n A d) i k = if i = k then d * det (n + 1) A else 0 := by
  have h1 : mmI (n + 1) A (adj n A d) i k = d * smI (n + 1) fun j => A i j * det (n + 1) (setRow A k (unit j)) := by
    unfold mmI
    rw [← smI_mull]
    refine smI_congr fun j hj => ?_
    rw [det_cof hk (by omega), sg_par (a := k + j) (b := j + k) (by omega)]
    unfold adj
    grind
  rw [h1, ← det_units (A := A) (f := fun j => A i j) (by omega)]
  by_cases h : i = k
  · subst h
    rw [if_pos rfl]
    have : (fun j => A i j) = A i := rfl
    rw [this, setRow_id]
  · rw [if_neg h, det_same (r := k) (s := i) (by omega) (by omega) (fun e => h e.symm) (fun j => by rw [setRow_self, setRow_ne h]), Int.mul_zero]

end Go.Proofs.YtdlmnloikakjpaaDoor

