import Derived.Test.YtdlmnloikakjpaaDoorMg
import Derived.Test.YtdlmnloikakjpaaDoorMe
import Derived.Test.YtdlmnloikakjpaaDoorMh
import Derived.Test.YtdlmnloikakjpaaDoorMi
import Derived.Test.YtdlmnloikakjpaaDoorMd
import Derived.Test.YtdlmnloikakjpaaDoorMf
namespace Go.Proofs.YtdlmnloikakjpaaDoor
open Go Go.RowKit
set_option linter.unusedSimpArgs false
set_option linter.unusedVariables false
set_option linter.unusedSectionVars false

set_option maxHeartbeats 2000000 in
theorem c_Lists (w : World) (v u : Value) (n k : Nat) (xs ys : List WR) (hv : WX w v n xs) (hu : WX w u k ys) (hn : n < 1000000000) (hk : k < 1000000000) : Calls Tryd.prog 33 #[v, u] w (Ret fun v w' => Kp [] w w' ∧ IsB (xs = ys) v) := by
  have hl := hv.len
  have hl' := hu.len
  refine calls_of_S [⟨6, 1, [], []⟩] [] (by simp) [] Tryd.func33 rfl mixed (by kernel_rfl) Tryd.ntmps33 Tryd.results33 rfl ⟨by simp, by simp⟩ (by simp) ?_
  simp only [toS, textOps, toSOp, kindAt, kindOf, odAt, sopsAt, ordOf, zipF]
  have hR := WX.rd (c := ⟨Tryd.prog, 26, w, [], by simp⟩) hv rfl []
  have hR' := WX.rd (c := ⟨Tryd.prog, 26, w, [], by simp⟩) hu rfl []
  (repeat' (first | refine JC.seq ?_ | refine JC.ops ?_ | refine JO.nil ?_ | refine JX.thenN ?_ | (apply r_move; (iterate 3 exact rfl)) | (apply r_assign; (iterate 3 exact rfl)) | (apply r_lenX; (iterate 3 exact rfl); (first | assumption | exact WX.rd (by assumption) rfl [] | exact OwnX.rd (by assumption))) | (apply r_neq; (iterate 4 exact rfl); all_goals intro hc; all_goals try (exfalso; omega)) | refine JX.thenR ?_ | refine JC.skip ?_ | refine JC.ret ?_ | refine JC.condT rfl ?_ | refine JC.condF rfl ?_ | refine JC.block ?_))
  · exact JX.ret1 rfl (fun a w' st => ⟨st.kp, IsB.f (fun h => hc (by rw [← hl, ← hl', h]))⟩)
  · have hnk : n = k := by omega
    subst hnk
    refine JC.loopH (ι := Nat) ⟨fun i => [(5, nv i), (0, v), (1, u)], fun _ => [], fun i => i ≤ n ∧ ∀ j, j < i → xs.getD j w0x = ys.getD j w0x, fun i => n - i⟩ 0 ⟨by omega, fun j h => by omega⟩ (by repeat first | exact trivial | refine ⟨rfl, ?_⟩) (HSub.nil _) (fun i hi => ?_)
    obtain ⟨hin, hpr⟩ := hi
    dsimp only
    by_cases hlt : i < n
    · (repeat' (first | refine JC.seq ?_ | refine JC.ops ?_ | refine JC.opsD ?_ | refine JO.nil ?_ | refine JX.thenN ?_ | (apply r_move; (iterate 3 exact rfl)) | (apply r_idxX; (iterate 4 exact rfl); (first | assumption | exact WX.rd (by assumption) rfl [] | exact OwnX.rd (by assumption)); (first | assumption | omega)) | (apply r_ldX; (iterate 4 exact rfl); (first | assumption | exact WX.rd (by assumption) rfl [] | exact OwnX.rd (by assumption)); (repeat' first | exact HSub.nil _ | exact HSub.hd | exact HSub.in0 | exact HSub.refl _ | refine HSub.skip ?_ | refine HSub.skipN ?_); (first | assumption | omega)) | (apply r_lenX; (iterate 3 exact rfl); (first | assumption | exact WX.rd (by assumption) rfl [] | exact OwnX.rd (by assumption))) | (apply r_lss; (iterate 4 exact rfl); all_goals intro hc; all_goals try (exfalso; omega)) | refine JC.skip ?_ | refine JC.condT rfl ?_ | refine JC.block ?_))
      refine r_neW rfl rfl rfl rfl ?_
      by_cases he : xs.getD i w0x = ys.getD i w0x
      · rw [he]
        simp only [BEq.rfl, decide_true, Bool.and_self, Bool.not_true]
        (repeat' (first | refine JC.ops ?_ | refine JO.nil ?_ | refine JX.thenN ?_ | (apply r_move; (iterate 3 exact rfl)) | (apply r_assign; (iterate 3 exact rfl)) | (apply r_add1; (iterate 4 exact rfl); omega) | refine JC.skip ?_ | refine JC.condF rfl ?_ | refine JX.blockN ?_))
        refine JX.roundH (i + 1) ⟨by omega, fun j h => ?_⟩ (by dsimp only; omega) (by repeat first | exact trivial | refine ⟨rfl, ?_⟩) (HSub.nil _)
        rcases Nat.lt_or_ge j i with h' | h'
        · exact hpr j h'
        · have : j = i := by omega
          subst this; exact he
      · have hb : (!((xs.getD i w0x).1 == (ys.getD i w0x).1 && decide ((xs.getD i w0x).2 = (ys.getD i w0x).2))) = true := by
          simp only [Bool.not_eq_true', Bool.and_eq_false_iff]
          by_cases h1 : (xs.getD i w0x).1 = (ys.getD i w0x).1
          · refine .inr ?_
            simp only [decide_eq_false_iff_not]
            exact fun h2 => he (Prod.ext h1 h2)
          · exact .inl (by simpa using h1)
        rw [hb]
        (repeat' (first | refine JC.seq ?_ | refine JC.ops ?_ | refine JO.nil ?_ | refine JX.thenN ?_ | (apply r_assign; (iterate 3 exact rfl)) | refine JX.thenR ?_ | refine JC.ret ?_ | refine JC.condT rfl ?_ | refine JX.blockR ?_))
        exact JX.ret1 rfl (fun a w' st => ⟨st.kp, IsB.f (fun h => he (by rw [h]))⟩)
    · (repeat' (first | refine JC.seq ?_ | refine JC.ops ?_ | refine JO.nil ?_ | refine JX.thenN ?_ | (apply r_move; (iterate 3 exact rfl)) | (apply r_assign; (iterate 3 exact rfl)) | (apply r_lenX; (iterate 3 exact rfl); (first | assumption | exact WX.rd (by assumption) rfl [] | exact OwnX.rd (by assumption))) | (apply r_lss; (iterate 4 exact rfl); all_goals intro hc; all_goals try (exfalso; omega)) | refine JX.thenE ?_ | refine JC.exit ?_ | refine JC.ret ?_ | refine JC.condF rfl ?_ | refine JX.blockE ?_))
      refine JX.ret1 rfl (fun a w' st => ⟨st.kp, IsB.t (ext_getD (d := w0x) (by omega) (fun j hj => hpr j (by omega)))⟩)

set_option maxHeartbeats 2000000 in
theorem c_same (w : World) (v u : Value) (a b : XM) (ha : IsX w v a) (hb : IsX w u b) (hl : a.E.length < 1000000000) (hl' : b.E.length < 1000000000) : Calls Tryd.prog 22 #[v, u] w (Ret fun v w' => Kp [] w w' ∧ IsB (a = b) v) := by
  obtain ⟨E, rfl, hE⟩ := ha
  obtain ⟨E', rfl, hE'⟩ := hb
  refine calls_of_S [] [] (by simp) [] Tryd.func22 rfl mixed (by kernel_rfl) Tryd.ntmps22 Tryd.results22 rfl ⟨by simp, by simp⟩ (by simp) ?_
  simp only [toS, textOps, toSOp, kindAt, kindOf, odAt, sopsAt, ordOf, zipF]
  (repeat' (first | refine JC.seq ?_ | refine JC.ops ?_ | refine JO.nil ?_ | refine JX.thenN ?_ | (apply r_move; (iterate 3 exact rfl)) | (apply r_fieldAddr; (iterate 3 exact rfl)) | (apply r_assign; (iterate 3 exact rfl)) | (apply r_load; (iterate 4 exact rfl); (first | exact at0 | exact at1); exact rfl) | (apply r_pickT; (iterate 4 exact rfl)) | (apply r_pickF; (iterate 4 exact rfl)) | (apply r_eql; (iterate 4 exact rfl); all_goals intro hc; all_goals try (exfalso; omega)) | (apply r_boxA; (iterate 4 exact rfl); intro _) | refine JC.ret ?_ | (apply r_skip; exact rfl; exact rfl; (first | (intro h; cases h; done) | (intro _; rfl)))))
  all_goals first
    | exact JX.ret1 rfl (fun a w' st => ⟨st.kp, IsB.f (fun h => by subst h; first | exact hc rfl | (rename_i hd; exact hd rfl) | omega)⟩)
    | skip
  refine r_call0 trivial rfl rfl rfl (fun w hk _ => c_Lists w _ _ _ _ _ _ (hE.mono hk) (hE'.mono hk) hl hl') fun w v w' _ _ _ hR => ?_
  obtain ⟨b', rfl, hb'⟩ := hR
  (repeat' (first | refine JO.nil ?_ | refine JX.thenN ?_ | (apply r_assign; (iterate 3 exact rfl)) | (apply r_pickT; (iterate 4 exact rfl)) | refine JC.ret ?_))
  refine JX.ret1 rfl (fun a w' st => ⟨st.kp, b', rfl, hb'.trans ⟨fun h => XM.ext' (by omega) (by omega) h, fun h => by rw [h]⟩⟩)

theorem canon_bad {xs : List WR} {k : Nat} (hk : k < xs.length) (h : badW (xs.getD k w0x) = true) : ¬ Canon xs := fun hc => canon_iff.1 hc ⟨_, mem_getD hk, h⟩

set_option maxHeartbeats 2000000 in
theorem c_refCanonical (w : World) (E : Value) (n : Nat) (xs : List WR) (hE : WX w E n xs) (hn : n < 1000000000) :
    Calls Tryd.prog 72 #[E] w (Ret fun v w' => Kp [] w w' ∧ IsB (Canon xs) v) := by
  have hl := hE.len
  refine calls_of_S [] [] (by simp) [] Tryd.func72 rfl mixed (by kernel_rfl) Tryd.ntmps72 Tryd.results72 rfl ⟨by simp, by simp⟩ (by simp) ?_
  simp only [toS, textOps, toSOp, kindAt, kindOf, odAt, sopsAt, ordOf, zipF]
  have hR := WX.rd (c := ⟨Tryd.prog, 40, w, [], by simp⟩) hE rfl []
  (repeat' (first | refine JC.seq ?_ | refine JC.ops ?_ | refine JO.nil ?_ | refine JX.thenN ?_ | (apply r_assign; (iterate 3 exact rfl)) | refine JC.block ?_))
  refine JC.loopH (ι := Nat) ⟨fun k => [(3, nv k), (0, E)], fun _ => [], fun k => k ≤ n ∧ ∀ j, j < k → badW (xs.getD j w0x) = false, fun k => n - k⟩ 0 ⟨by omega, fun j h => by omega⟩ (by repeat first | exact trivial | refine ⟨rfl, ?_⟩) (HSub.nil _) (fun k hk => ?_)
  obtain ⟨hkn, hpr⟩ := hk
  dsimp only
  by_cases hlt : k < n
  · (repeat' (first | refine JC.seq ?_ | refine JC.ops ?_ | refine JO.nil ?_ | refine JX.thenN ?_ | (apply r_move; (iterate 3 exact rfl)) | (apply r_idxX; (iterate 4 exact rfl); (first | assumption | exact WX.rd (by assumption) rfl [] | exact OwnX.rd (by assumption)); (first | assumption | omega)) | (apply r_ldXm; (iterate 4 exact rfl); (first | assumption | exact WX.rd (by assumption) rfl [] | exact OwnX.rd (by assumption)); (repeat' first | exact HSub.nil _ | exact HSub.hd | exact HSub.in0 | exact HSub.refl _ | refine HSub.skip ?_ | refine HSub.skipN ?_); (first | assumption | omega)) | (apply r_fieldX; (iterate 3 exact rfl); (first | assumption | exact WX.rd (by assumption) rfl [] | exact OwnX.rd (by assumption)); omega) | (apply r_lenX; (iterate 3 exact rfl); (first | assumption | exact WX.rd (by assumption) rfl [] | exact OwnX.rd (by assumption))) | (apply r_eqS; (iterate 4 exact rfl)) | (apply r_lss; (iterate 4 exact rfl); all_goals intro hc; all_goals try (exfalso; omega)) | refine JC.skip ?_ | refine JC.condT rfl ?_ | refine JC.block ?_))
    have hxk : ∀ x, xs.getD k w0x = x → badW x = true → ¬ Canon xs := fun x hx hb => canon_bad (k := k) (by omega) (by rw [hx]; exact hb)
    have hnx : ∀ x, xs.getD k w0x = x → badW x = false → ∀ j, j < k + 1 → badW (xs.getD j w0x) = false := fun x hx hb j hj => by
      rcases Nat.lt_or_ge j k with h | h
      · exact hpr j h
      · obtain rfl : j = k := by omega
        rw [hx]; exact hb
    rcases hx : xs.getD k w0x with ⟨p, l⟩
    cases l with
    | nil =>
      simp only [decide_true]
      (repeat' (first | (apply r_move; (iterate 3 exact rfl)) | (apply r_idxX; (iterate 4 exact rfl); (first | assumption | exact WX.rd (by assumption) rfl [] | exact OwnX.rd (by assumption)); (first | assumption | omega)) | (apply r_ldXs; (iterate 4 exact rfl); (first | assumption | exact WX.rd (by assumption) rfl [] | exact OwnX.rd (by assumption)); (repeat' first | exact HSub.nil _ | exact HSub.hd | exact HSub.in0 | exact HSub.refl _ | refine HSub.skip ?_ | refine HSub.skipN ?_); (first | assumption | omega)) | (apply r_fieldX; (iterate 3 exact rfl); (first | assumption | exact WX.rd (by assumption) rfl [] | exact OwnX.rd (by assumption)); omega) | (apply r_pickT; (iterate 4 exact rfl))))
      rw [hx]
      cases p
      · (repeat' (first | (apply r_move; (iterate 3 exact rfl)) | (apply r_idxX; (iterate 4 exact rfl); (first | assumption | exact WX.rd (by assumption) rfl [] | exact OwnX.rd (by assumption)); (first | assumption | omega)) | (apply r_ldXm; (iterate 4 exact rfl); (first | assumption | exact WX.rd (by assumption) rfl [] | exact OwnX.rd (by assumption)); (repeat' first | exact HSub.nil _ | exact HSub.hd | exact HSub.in0 | exact HSub.refl _ | refine HSub.skip ?_ | refine HSub.skipN ?_); (first | assumption | omega)) | (apply r_fieldX; (iterate 3 exact rfl); (first | assumption | exact WX.rd (by assumption) rfl [] | exact OwnX.rd (by assumption)); omega) | (apply r_neS; (iterate 4 exact rfl))))
        rw [hx, show decide ((false, ([] : List UInt8)).snd ≠ []) = false from rfl]
        (repeat' (first | refine JC.ops ?_ | refine JO.nil ?_ | refine JX.thenN ?_ | (apply r_move; (iterate 3 exact rfl)) | (apply r_assign; (iterate 3 exact rfl)) | (apply r_add1; (iterate 4 exact rfl); omega) | (apply r_pickF; (iterate 4 exact rfl)) | refine JC.skip ?_ | refine JC.condF rfl ?_ | refine JX.blockN ?_ | (apply r_skip; exact rfl; exact rfl; (first | (intro h; cases h; done) | (intro _; rfl)))))
        exact JX.roundH (k + 1) ⟨by omega, hnx _ hx rfl⟩ (by dsimp only; omega) (by repeat first | exact trivial | refine ⟨rfl, ?_⟩) (HSub.nil _)
      · (repeat' (first | refine JC.seq ?_ | refine JC.ops ?_ | refine JO.nil ?_ | refine JX.thenN ?_ | (apply r_assign; (iterate 3 exact rfl)) | (apply r_pickT; (iterate 4 exact rfl)) | refine JX.thenR ?_ | refine JC.ret ?_ | refine JC.condT rfl ?_ | refine JX.blockR ?_ | (apply r_skip; exact rfl; exact rfl; (first | (intro h; cases h; done) | (intro _; rfl)))))
        exact JX.ret1 rfl (fun a w' st => ⟨st.kp, IsB.f (hxk _ hx rfl)⟩)
    | cons x r =>
      rw [show decide ((p, x :: r).snd = ([] : List UInt8)) = false from rfl]
      (repeat' (first | (apply r_move; (iterate 3 exact rfl)) | (apply r_idxX; (iterate 4 exact rfl); (first | assumption | exact WX.rd (by assumption) rfl [] | exact OwnX.rd (by assumption)); (first | assumption | omega)) | (apply r_ldXm; (iterate 4 exact rfl); (first | assumption | exact WX.rd (by assumption) rfl [] | exact OwnX.rd (by assumption)); (repeat' first | exact HSub.nil _ | exact HSub.hd | exact HSub.in0 | exact HSub.refl _ | refine HSub.skip ?_ | refine HSub.skipN ?_); (first | assumption | omega)) | (apply r_fieldX; (iterate 3 exact rfl); (first | assumption | exact WX.rd (by assumption) rfl [] | exact OwnX.rd (by assumption)); omega) | (apply r_pickF; (iterate 4 exact rfl)) | (apply r_neS; (iterate 4 exact rfl)) | (apply r_skip; exact rfl; exact rfl; (first | (intro h; cases h; done) | (intro _; rfl)))))
      rw [hx, show decide ((p, x :: r).snd ≠ ([] : List UInt8)) = true from rfl]
      (repeat' (first | (apply r_move; (iterate 3 exact rfl)) | (apply r_idxX; (iterate 4 exact rfl); (first | assumption | exact WX.rd (by assumption) rfl [] | exact OwnX.rd (by assumption)); (first | assumption | omega)) | (apply r_ldXm; (iterate 4 exact rfl); (first | assumption | exact WX.rd (by assumption) rfl [] | exact OwnX.rd (by assumption)); (repeat' first | exact HSub.nil _ | exact HSub.hd | exact HSub.in0 | exact HSub.refl _ | refine HSub.skip ?_ | refine HSub.skipN ?_); (first | assumption | omega)) | (apply r_fieldX; (iterate 3 exact rfl); (first | assumption | exact WX.rd (by assumption) rfl [] | exact OwnX.rd (by assumption)); omega)))
      rw [hx]
      (repeat' (first | refine JC.seq ?_ | refine JC.ops ?_ | refine JO.nil ?_ | refine JX.thenN ?_ | (apply r_move; (iterate 3 exact rfl)) | (apply r_assign; (iterate 3 exact rfl)) | (apply r_add1; (iterate 4 exact rfl); omega) | (apply r_pickT; (iterate 4 exact rfl)) | (apply r_pickF; (iterate 4 exact rfl)) | (apply r_idxS0; (iterate 4 exact rfl)) | (apply r_eql; (iterate 4 exact rfl); all_goals intro hc; all_goals try (exfalso; omega)) | refine JX.thenR ?_ | refine JC.skip ?_ | refine JC.ret ?_ | refine JC.condT rfl ?_ | refine JC.condF rfl ?_ | refine JX.blockN ?_ | refine JX.blockR ?_))
      · exact JX.ret1 rfl (fun _ w' st => ⟨st.kp, IsB.f (hxk _ hx (by have : x = 0 := UInt8.toNat.inj (by simpa using hc); subst this; rfl))⟩)
      · exact JX.roundH (k + 1) ⟨by omega, hnx _ hx (by have : x ≠ 0 := fun e => hc (by subst e; rfl); simp [badW, this])⟩ (by dsimp only; omega) (by repeat first | exact trivial | refine ⟨rfl, ?_⟩) (HSub.nil _)
  · (repeat' (first | refine JC.seq ?_ | refine JC.ops ?_ | refine JO.nil ?_ | refine JX.thenN ?_ | (apply r_move; (iterate 3 exact rfl)) | (apply r_assign; (iterate 3 exact rfl)) | (apply r_lenX; (iterate 3 exact rfl); (first | assumption | exact WX.rd (by assumption) rfl [] | exact OwnX.rd (by assumption))) | (apply r_lss; (iterate 4 exact rfl); all_goals intro hc; all_goals try (exfalso; omega)) | refine JX.thenE ?_ | refine JC.exit ?_ | refine JC.ret ?_ | refine JC.condF rfl ?_ | refine JX.blockE ?_))
    refine JX.ret1 rfl (fun a w' st => ⟨st.kp, IsB.t (canon_iff.2 ?_)⟩)
    rintro ⟨x, hx, hb⟩
    obtain ⟨j, hj, rfl⟩ := List.mem_iff_getElem.1 hx
    have := hpr j (by omega)
    rw [List.getD, List.getElem?_eq_getElem hj, Option.getD_some, hb] at this
    cases this

set_option maxHeartbeats 1000000 in
theorem c_refRight (w : World) (v : Value) (a : XM) (ha : IsX w v a) (hl : a.E.length < 1000000000) : Calls Tryd.prog 55 #[v] w (Ret fun v w' => Kp [] w w' ∧ IsB (RX a) v) := by
  obtain ⟨E, rfl, hE⟩ := ha
  by_cases hf : 0 ≤ a.R ∧ a.R ≤ 200 ∧ 0 ≤ a.C ∧ a.C ≤ 200
  · obtain ⟨R, C, xs⟩ := a
    obtain ⟨h1, h2, h3, h4⟩ := hf
    dsimp only at *
    obtain ⟨r, rfl⟩ := Int.eq_ofNat_of_zero_le h1
    obtain ⟨c, rfl⟩ := Int.eq_ofNat_of_zero_le h3
    have hr : r ≤ 200 := by omega
    have hc : c ≤ 200 := by omega
    have hrc := rcZ hr hc
    have hiff := RX.iff (E := xs) hr hc
    refine calls_of_S [] [] (by simp) [] Tryd.func55 rfl mixed (by kernel_rfl) Tryd.ntmps55 Tryd.results55 rfl ⟨by simp, by simp⟩ (by simp) ?_
    simp only [toS, textOps, toSOp, kindAt, kindOf, odAt, sopsAt, ordOf, zipF]
    have hR := WX.rd (c := ⟨Tryd.prog, 25, w, [], by simp⟩) hE rfl []
    (repeat' (first | refine JC.seq ?_ | refine JC.ops ?_ | refine JO.nil ?_ | refine JX.thenN ?_ | (apply r_fieldAddr; (iterate 3 exact rfl)) | (apply r_assign; (iterate 3 exact rfl)) | (apply r_load; (iterate 4 exact rfl); exact at0; exact rfl) | (apply r_boxA; (iterate 4 exact rfl); intro _)))
    refine r_call0 trivial rfl rfl rfl (fun w _ _ => c_refFits r c w) fun w v w' _ _ _ hv => ?_
    obtain ⟨b', rfl, hb⟩ := hv
    obtain rfl := hb.2 ⟨h1, h2, h3, h4⟩
    (repeat' (first | refine JC.seq ?_ | refine JC.ops ?_ | refine JO.nil ?_ | refine JX.thenN ?_ | (apply r_move; (iterate 3 exact rfl)) | (apply r_fieldAddr; (iterate 3 exact rfl)) | (apply r_assign; (iterate 3 exact rfl)) | (apply r_load; (iterate 4 exact rfl); exact at0; exact rfl) | (apply r_lenX; (iterate 3 exact rfl); (first | assumption | exact WX.rd (by assumption) rfl [] | exact OwnX.rd (by assumption))) | (apply r_mulN; (iterate 4 exact rfl); (first | assumption | omega)) | (apply r_pickF; (iterate 4 exact rfl)) | (apply r_not; (iterate 3 exact rfl)) | (apply r_neq; (iterate 4 exact rfl); all_goals intro hc; all_goals try (exfalso; omega)) | refine JX.thenR ?_ | refine JC.skip ?_ | refine JC.ret ?_ | refine JC.condT rfl ?_ | refine JC.condF rfl ?_))
    · exact JX.ret1 rfl (fun a w' st => ⟨st.kp, IsB.f (fun h => by have := (hiff.1 h).1; omega)⟩)
    · refine r_call0 trivial rfl rfl rfl (fun w' hk hs => c_refCanonical w' E _ _ (hE.mono hk) hl) fun w v w' _ _ _ hv => ?_
      obtain ⟨b', rfl, hb⟩ := hv
      (repeat' (first | refine JO.nil ?_ | refine JX.thenN ?_ | (apply r_assign; (iterate 3 exact rfl)) | refine JC.ret ?_))
      exact JX.ret1 rfl (fun a w' st => ⟨st.kp, b', rfl, hb.trans ⟨fun h => hiff.2 ⟨by omega, h⟩, fun h => (hiff.1 h).2⟩⟩)
  · refine calls_of_S [] [] (by simp) [] Tryd.func55 rfl mixed (by kernel_rfl) Tryd.ntmps55 Tryd.results55 rfl ⟨by simp, by simp⟩ (by simp) ?_
    simp only [toS, textOps, toSOp, kindAt, kindOf, odAt, sopsAt, ordOf, zipF]
    (repeat' (first | refine JC.seq ?_ | refine JC.ops ?_ | refine JO.nil ?_ | refine JX.thenN ?_ | (apply r_fieldAddr; (iterate 3 exact rfl)) | (apply r_assign; (iterate 3 exact rfl)) | (apply r_load; (iterate 4 exact rfl); exact at0; exact rfl) | (apply r_boxA; (iterate 4 exact rfl); intro _)))
    refine r_call0 trivial rfl rfl rfl (fun w _ _ => c_refFits a.R a.C w) fun w v w' _ _ _ hv => ?_
    obtain ⟨b', rfl, hb⟩ := hv
    cases b' with
    | true => exact absurd (hb.1 rfl) hf
    | false =>
      (repeat' (first | refine JC.seq ?_ | refine JC.ops ?_ | refine JO.nil ?_ | refine JX.thenN ?_ | (apply r_move; (iterate 3 exact rfl)) | (apply r_assign; (iterate 3 exact rfl)) | (apply r_pickT; (iterate 4 exact rfl)) | (apply r_not; (iterate 3 exact rfl)) | refine JX.thenR ?_ | refine JC.ret ?_ | refine JC.condT rfl ?_ | (apply r_skip; exact rfl; exact rfl; (first | (intro h; cases h; done) | (intro _; rfl)))))
      exact JX.ret1 rfl (fun a w' st => ⟨st.kp, IsB.f (fun h => hf h.fits)⟩)


theorem xm_len {m : ZM} (h : RtZ m) : m.xm.E.length < 1000000000 := by have := h.le; simp [ZM.xm]; omega

open Classical in
open Classical in
theorem RtZ.zM : RtZ zM := ⟨by decide, by decide, rfl⟩

set_option maxHeartbeats 2000000 in
theorem c_refOne (n : Nat) (hn : n ≤ 200) (w : World) : Calls Tryd.prog 39 #[nv n] w (Ret fun v w' => Kp [] w w' ∧ GivesM (oneZ n) w v w') := by
  have hnn := rcZ hn hn
  refine calls_of_S [⟨5, 2, [], []⟩] [] (by simp) [] Tryd.func39 rfl mixed (by kernel_rfl) Tryd.ntmps39 Tryd.results39 rfl ⟨by simp, by simp⟩ (by simp) ?_
  simp only [toS, textOps, toSOp, kindAt, kindOf, odAt, sopsAt, ordOf, zipF]
  (repeat' (first | refine JC.seq ?_ | refine JC.ops ?_ | refine JO.nil ?_ | refine JX.thenN ?_ | (apply r_move; (iterate 3 exact rfl)) | (apply r_allocZ; (iterate 3 exact rfl); intro _)))
  rename_i b2
  refine r_callA (A := [_]) (B := []) rfl trivial rfl rfl rfl (fun w _ _ => c_refZero n n hn hn w) fun w v w' _ _ _ hR => ?_
  obtain ⟨N, Eo, hN, rfl, hO⟩ := hR
  obtain ⟨Ao, co, rfl⟩ := hO.form
  refine ⟨N, hN, ?_⟩
  (repeat' (first | refine JC.seq ?_ | refine JC.ops ?_ | refine JO.nil ?_ | refine JX.thenN ?_ | (apply r_assign; (iterate 3 exact rfl)) | (apply r_storeN; exact rfl; (first | exact trivial | exact ⟨rfl, rfl⟩); exact rfl; exact rfl; exact at0; (iterate 3 exact rfl)) | (apply r_allocZ; (iterate 3 exact rfl); intro _) | (apply r_storeN; exact rfl; (first | exact trivial | exact ⟨rfl, rfl⟩); exact rfl; exact rfl; exact at0; (iterate 3 exact rfl)) | refine JC.block ?_))
  rename_i b3
  refine JC.loopH (ι := Nat × SHeap) ⟨fun z => [(4, nv z.1), (0, nv n), (3, .pointer (some ⟨b3, 0, none⟩)), (2, .pointer (some ⟨b2, 0, none⟩))],
    fun z => [(b3, .cells #[nv n, nv n, .slice Ao (n * n) co] 29), (b2, .cells #[iv 0, iv 0, .slice none 0 0] 29)] ++ (z.2 ++ []),
    fun z => z.1 ≤ n ∧ OwnZ z.2 (.slice Ao (n * n) co) (n * n) (oneS n z.1), fun z => n - z.1⟩ (0, N) ⟨by omega, by rw [oneS_zero]; exact hO⟩ (by repeat first | exact trivial | refine ⟨rfl, ?_⟩) (by (first | exact HSub.refl _ | (repeat' first | exact HSub.nil _ | exact HSub.refl _ | refine HSub.at 0 rfl ?_ | refine HSub.at 1 rfl ?_ | refine HSub.at 2 rfl ?_ | refine HSub.at 3 rfl ?_ | refine HSub.at 4 rfl ?_ | refine HSub.at 5 rfl ?_ | refine HSub.at 6 rfl ?_ | refine HSub.at 7 rfl ?_))) (fun k hk => ?_)
  obtain ⟨k, N⟩ := k
  obtain ⟨hkn, hO⟩ := hk
  dsimp only at hkn hO ⊢
  have hkk : k * n ≤ 40000 := Nat.mul_le_mul (show k ≤ 200 by omega) hn
  by_cases hlt : k < n
  · have hi := zx_lt hlt hlt
    (repeat' (first | refine JC.seq ?_ | refine JC.ops ?_ | refine JC.opsD ?_ | refine JO.nil ?_ | refine JX.thenN ?_ | (apply r_move; (iterate 3 exact rfl)) | (apply r_fieldAddr; (iterate 3 exact rfl)) | (apply r_load; (iterate 4 exact rfl); exact at0; exact rfl) | (apply r_addN; (iterate 4 exact rfl); omega) | (apply r_mulN; (iterate 4 exact rfl); (first | assumption | omega)) | (apply r_lss; (iterate 4 exact rfl); all_goals intro hc; all_goals try (exfalso; omega)) | refine JC.skip ?_ | refine JC.condT rfl ?_ | refine JC.block ?_))
    refine r_call0 (by first | trivial | exact ⟨rfl, rfl⟩) rfl rfl rfl (fun w _ _ => c_FromR w 1 (by omega) (by omega)) fun w v w' _ _ _ hR => ?_
    subst hR
    (repeat' (first | (apply r_idxZ; (iterate 4 exact rfl); (first | assumption | exact WZ.rd (by assumption) rfl [] | exact OwnZ.rd (by assumption)); (first | assumption | omega))))
    refine r_stZ (A := [_, _]) hO rfl rfl ⟨rfl, rfl⟩ rfl rfl hi (fun N' hO' => ?_)
    rw [oneS_set hlt] at hO'
    (repeat' (first | refine JC.ops ?_ | refine JO.nil ?_ | refine JX.thenN ?_ | (apply r_move; (iterate 3 exact rfl)) | (apply r_assign; (iterate 3 exact rfl)) | (apply r_add1; (iterate 4 exact rfl); omega) | refine JX.blockN ?_))
    exact JX.roundH (k + 1, N') ⟨by dsimp only; omega, hO'⟩ (by dsimp only; omega) (by repeat first | exact trivial | refine ⟨rfl, ?_⟩) (by (first | exact HSub.refl _ | (repeat' first | exact HSub.nil _ | exact HSub.refl _ | refine HSub.at 0 rfl ?_ | refine HSub.at 1 rfl ?_ | refine HSub.at 2 rfl ?_ | refine HSub.at 3 rfl ?_ | refine HSub.at 4 rfl ?_ | refine HSub.at 5 rfl ?_ | refine HSub.at 6 rfl ?_ | refine HSub.at 7 rfl ?_)))
  · (repeat' (first | refine JC.seq ?_ | refine JC.ops ?_ | refine JO.nil ?_ | refine JX.thenN ?_ | (apply r_move; (iterate 3 exact rfl)) | (apply r_fieldAddr; (iterate 3 exact rfl)) | (apply r_load; (iterate 4 exact rfl); (first | exact at0 | exact at1); exact rfl) | (apply r_loadN; (iterate 4 exact rfl); (first | exact at0 | exact at1); exact rfl) | (apply r_storeN; exact rfl; (first | exact trivial | exact ⟨rfl, rfl⟩); exact rfl; exact rfl; (first | exact at0 | exact at1); (iterate 3 exact rfl)) | (apply r_lss; (iterate 4 exact rfl); all_goals intro hc; all_goals try (exfalso; omega)) | (apply r_storeN; exact rfl; (first | exact trivial | exact ⟨rfl, rfl⟩); exact rfl; exact rfl; (first | exact at0 | exact at1); (iterate 3 exact rfl)) | refine JX.thenE ?_ | refine JC.exit ?_ | refine JC.ret ?_ | refine JC.condF rfl ?_ | refine JX.blockE ?_))
    obtain rfl : k = n := by omega
    rw [oneS_end] at hO
    exact JX.retC 1 rfl rfl rfl (fun a w' st => ⟨st.kp, N, st.newOf rfl (by (repeat' first | exact HSub.nil _ | exact HSub.hd | exact HSub.in0 | exact HSub.refl _ | refine HSub.skip ?_ | refine HSub.skipN ?_)), OwnM.mk' hO⟩)

set_option maxHeartbeats 1000000 in
theorem c_refOneF (n : Int) (hn : ¬ (0 ≤ n ∧ n ≤ 200)) (w : World) : Calls Tryd.prog 39 #[iv n] w (Ret fun v w' => Kp [] w w' ∧ v = zeroM) := by
  refine calls_of_S [⟨5, 2, [], []⟩] [] (by simp) [] Tryd.func39 rfl mixed (by kernel_rfl) Tryd.ntmps39 Tryd.results39 rfl ⟨by simp, by simp⟩ (by simp) ?_
  simp only [toS, textOps, toSOp, kindAt, kindOf, odAt, sopsAt, ordOf, zipF]
  (repeat' (first | refine JC.seq ?_ | refine JC.ops ?_ | refine JO.nil ?_ | refine JX.thenN ?_ | (apply r_move; (iterate 3 exact rfl)) | (apply r_allocZ; (iterate 3 exact rfl); intro _)))
  rename_i b2
  refine r_call0 trivial rfl rfl rfl (fun w _ _ => c_refZeroF n n (by omega) w) fun w v w' _ _ _ hR => ?_
  rw [show zeroM = .agg #[iv 0, iv 0, .slice none 0 0] from rfl] at hR
  subst hR
  (repeat' (first | refine JC.seq ?_ | refine JC.ops ?_ | refine JO.nil ?_ | refine JX.thenN ?_ | (apply r_assign; (iterate 3 exact rfl)) | (apply r_storeN; exact rfl; (first | exact trivial | exact ⟨rfl, rfl⟩); exact rfl; exact rfl; exact at0; (iterate 3 exact rfl)) | (apply r_allocZ; (iterate 3 exact rfl); intro _) | (apply r_storeN; exact rfl; (first | exact trivial | exact ⟨rfl, rfl⟩); exact rfl; exact rfl; exact at0; (iterate 3 exact rfl)) | refine JC.block ?_))
  rename_i b3
  refine JC.loopH (ι := Unit) ⟨fun z => [(4, nv 0), (0, iv n), (3, .pointer (some ⟨b3, 0, none⟩)), (2, .pointer (some ⟨b2, 0, none⟩))],
    fun z => [(b3, .cells #[iv 0, iv 0, .slice none 0 0] 29), (b2, .cells #[iv 0, iv 0, .slice none 0 0] 29)], fun _ => True, fun _ => 0⟩ () trivial (by repeat first | exact trivial | refine ⟨rfl, ?_⟩) (by (first | exact HSub.refl _ | (repeat' first | exact HSub.nil _ | exact HSub.refl _ | refine HSub.at 0 rfl ?_ | refine HSub.at 1 rfl ?_ | refine HSub.at 2 rfl ?_ | refine HSub.at 3 rfl ?_ | refine HSub.at 4 rfl ?_ | refine HSub.at 5 rfl ?_ | refine HSub.at 6 rfl ?_ | refine HSub.at 7 rfl ?_))) (fun _ _ => ?_)
  dsimp only
  (repeat' (first | refine JC.seq ?_ | refine JC.ops ?_ | refine JO.nil ?_ | refine JX.thenN ?_ | (apply r_move; (iterate 3 exact rfl)) | (apply r_fieldAddr; (iterate 3 exact rfl)) | (apply r_load; (iterate 4 exact rfl); (first | exact at0 | exact at1); exact rfl) | (apply r_loadN; (iterate 4 exact rfl); (first | exact at0 | exact at1); exact rfl) | (apply r_storeN; exact rfl; (first | exact trivial | exact ⟨rfl, rfl⟩); exact rfl; exact rfl; (first | exact at0 | exact at1); (iterate 3 exact rfl)) | (apply r_lss; (iterate 4 exact rfl); all_goals intro hc; all_goals try (exfalso; omega)) | (apply r_storeN; exact rfl; (first | exact trivial | exact ⟨rfl, rfl⟩); exact rfl; exact rfl; (first | exact at0 | exact at1); (iterate 3 exact rfl)) | refine JX.thenE ?_ | refine JC.exit ?_ | refine JC.ret ?_ | refine JC.condF rfl ?_ | refine JX.blockE ?_))
  exact JX.retC 1 rfl rfl rfl (fun a w' st => ⟨st.kp, rfl⟩)

set_option maxHeartbeats 2000000 in
theorem c_refAt (w : World) (v : Value) (m : ZM) (i j : Int) (hm : RtZ m) (hv : IsM w v m) : Calls Tryd.prog 37 #[v, iv i, iv j] w (Ret fun v w' => Kp [] w w' ∧ v = Wv (atZ m i j)) := by
  have hvX := hv.x
  obtain ⟨E, rfl, hE⟩ := hv
  have hl := hm.len
  have hle := hm.le
  by_cases h : 0 ≤ i ∧ i < m.r ∧ 0 ≤ j ∧ j < m.c
  · obtain ⟨i, rfl⟩ := Int.eq_ofNat_of_zero_le h.1
    obtain ⟨j, rfl⟩ := Int.eq_ofNat_of_zero_le h.2.2.1
    have hi : i < m.r := by omega
    have hj : j < m.c := by omega
    have hlt := zx_lt hi hj
    have e : atZ m i j = m.e.getD (i * m.c + j) 0 := if_pos h
    rw [e]
    refine calls_of_S [] [] (by simp) [] Tryd.func37 rfl mixed (by kernel_rfl) Tryd.ntmps37 Tryd.results37 rfl ⟨by simp, by simp⟩ (by simp) ?_
    simp only [toS, textOps, toSOp, kindAt, kindOf, odAt, sopsAt, ordOf, zipF]
    (repeat' (first | refine JC.seq ?_ | refine JC.ops ?_ | refine JO.nil ?_ | refine JX.thenN ?_ | (apply r_loadN; (iterate 4 exact rfl); exact at1; exact rfl) | (apply r_allocZ; (iterate 3 exact rfl); intro _) | (apply r_boxA; (iterate 4 exact rfl); intro _)))
    refine r_call0 trivial rfl rfl rfl (fun w hk _ => c_refRight w _ m.xm (hvX.mono hk) (xm_len hm)) fun w v w' _ _ _ hR => ?_
    obtain ⟨b, rfl, hb⟩ := hR
    obtain rfl := hb.2 hm.rx
    have hic : i * m.c ≤ 40000 := by omega
    (repeat' (first | refine JC.seq ?_ | refine JC.ops ?_ | refine JO.nil ?_ | refine JX.thenN ?_ | (apply r_move; (iterate 3 exact rfl)) | (apply r_fieldAddr; (iterate 3 exact rfl)) | (apply r_assign; (iterate 3 exact rfl)) | (apply r_load; (iterate 4 exact rfl); (first | exact at0 | exact at1); exact rfl) | (apply r_idxZ; (iterate 4 exact rfl); (first | assumption | exact WZ.rd (by assumption) rfl [] | exact OwnZ.rd (by assumption)); (first | assumption | omega)) | (apply r_ldZ; (iterate 4 exact rfl); (first | assumption | exact WZ.rd (by assumption) rfl [] | exact OwnZ.rd (by assumption)); (repeat' first | exact HSub.nil _ | exact HSub.hd | exact HSub.in0 | exact HSub.refl _ | refine HSub.skip ?_ | refine HSub.skipN ?_); (first | assumption | omega)) | (apply r_addN; (iterate 4 exact rfl); omega) | (apply r_mulN; (iterate 4 exact rfl); (first | assumption | omega)) | (apply r_pickF; (iterate 4 exact rfl)) | (apply r_not; (iterate 3 exact rfl)) | (apply r_storeN; exact rfl; (first | exact trivial | exact ⟨rfl, rfl⟩); exact rfl; exact rfl; (first | exact at0 | exact at1); (iterate 3 exact rfl)) | (apply r_lss; (iterate 4 exact rfl); all_goals intro hc; all_goals try (exfalso; omega)) | (apply r_geq; (iterate 4 exact rfl); all_goals intro hc; all_goals try (exfalso; omega)) | (apply r_storeN; exact rfl; (first | exact trivial | exact ⟨rfl, rfl⟩); exact rfl; exact rfl; (first | exact at0 | exact at1); (iterate 3 exact rfl)) | refine JC.skip ?_ | refine JC.ret ?_ | refine JC.condF rfl ?_))
    exact JX.retC 0 rfl rfl rfl (fun a w st => ⟨st.kp, rfl⟩)
  · have e : atZ m i j = 0 := if_neg h
    rw [e]
    refine calls_of_S [] [] (by simp) [] Tryd.func37 rfl mixed (by kernel_rfl) Tryd.ntmps37 Tryd.results37 rfl ⟨by simp, by simp⟩ (by simp) ?_
    simp only [toS, textOps, toSOp, kindAt, kindOf, odAt, sopsAt, ordOf, zipF]
    (repeat' (first | refine JC.seq ?_ | refine JC.ops ?_ | refine JO.nil ?_ | refine JX.thenN ?_ | (apply r_loadN; (iterate 4 exact rfl); exact at1; exact rfl) | (apply r_allocZ; (iterate 3 exact rfl); intro _) | (apply r_boxA; (iterate 4 exact rfl); intro _)))
    refine r_call0 trivial rfl rfl rfl (fun w hk _ => c_refRight w _ m.xm (hvX.mono hk) (xm_len hm)) fun w v w' _ _ _ hR => ?_
    obtain ⟨b, rfl, hb⟩ := hR
    obtain rfl := hb.2 hm.rx
    (repeat' (first | refine JC.seq ?_ | refine JC.ops ?_ | refine JO.nil ?_ | refine JX.thenN ?_ | (apply r_move; (iterate 3 exact rfl)) | (apply r_fieldAddr; (iterate 3 exact rfl)) | (apply r_assign; (iterate 3 exact rfl)) | (apply r_load; (iterate 4 exact rfl); (first | exact at0 | exact at1); exact rfl) | (apply r_pickT; (iterate 4 exact rfl)) | (apply r_pickF; (iterate 4 exact rfl)) | (apply r_not; (iterate 3 exact rfl)) | (apply r_storeN; exact rfl; (first | exact trivial | exact ⟨rfl, rfl⟩); exact rfl; exact rfl; (first | exact at0 | exact at1); (iterate 3 exact rfl)) | (apply r_lss; (iterate 4 exact rfl); all_goals intro hc; all_goals try (exfalso; omega)) | (apply r_geq; (iterate 4 exact rfl); all_goals intro hc; all_goals try (exfalso; omega)) | (apply r_buildL; (iterate 5 exact rfl)) | (apply r_storeN; exact rfl; (first | exact trivial | exact ⟨rfl, rfl⟩); exact rfl; exact rfl; (first | exact at0 | exact at1); (iterate 3 exact rfl)) | refine JX.thenR ?_ | refine JC.ret ?_ | refine JC.condT rfl ?_ | (apply r_skip; exact rfl; exact rfl; (first | (intro h; cases h; done) | (intro _; rfl)))))
    all_goals first
      | (exfalso; omega)
      | exact JX.retC 0 rfl rfl rfl (fun a w st => ⟨st.kp, by rw [Wz0]; rfl⟩)

set_option maxHeartbeats 4000000 in
theorem c_refOf (w : World) (v : Value) (xss : List (List Int)) (hv : IsRows w v xss) (hr : xss.length ≤ 200) (hcc : ofC xss xss.length ≤ 200) (hI : ∀ i j, I64 ((xss.getD i []).getD j 0)) :
    Calls Tryd.prog 35 #[v] w (Ret fun v w' => Kp [] w w' ∧ GivesM (ofZ xss) w v w') := by
  obtain ⟨ss, hss, hrow⟩ := hv
  have hrc := rcZ hr hcc
  have hlen : ∀ i, i < xss.length → (xss.getD i []).length ≤ 200 := fun i hi => Nat.le_trans (ofC_le xss hi) hcc
  have hsl : ss.length = xss.length := by have := hss.1; omega
  refine calls_of_S [⟨13, 2, [], []⟩] [] (by simp) [] Tryd.func35 rfl mixed (by kernel_rfl) Tryd.ntmps35 Tryd.results35 rfl ⟨by simp, by simp⟩ (by simp) ?_
  simp only [toS, textOps, toSOp, kindAt, kindOf, odAt, sopsAt, ordOf, zipF]
  have hR : Rd ⟨Tryd.prog, 57, w, [], by simp⟩ [] 1 v xss.length ss := hss.rd rfl []
  (repeat' (first | refine JC.seq ?_ | refine JC.ops ?_ | refine JO.nil ?_ | refine JX.thenN ?_ | (apply r_assign; (iterate 3 exact rfl)) | (apply r_allocZ; (iterate 3 exact rfl); intro _) | refine JC.block ?_))
  rename_i b2
  refine JC.loopH (ι := Nat) ⟨fun k => [(4, nv k), (3, nv (ofC xss k)), (0, v), (2, .pointer (some ⟨b2, 0, none⟩))], fun _ => [(b2, .cells #[iv 0, iv 0, .slice none 0 0] 29)],
    fun k => k ≤ xss.length, fun k => xss.length - k⟩ 0 (by dsimp only; omega) (by repeat first | exact trivial | refine ⟨rfl, ?_⟩) (by (first | exact HSub.refl _ | (repeat' first | exact HSub.nil _ | exact HSub.refl _ | refine HSub.at 0 rfl ?_ | refine HSub.at 1 rfl ?_ | refine HSub.at 2 rfl ?_ | refine HSub.at 3 rfl ?_ | refine HSub.at 4 rfl ?_ | refine HSub.at 5 rfl ?_ | refine HSub.at 6 rfl ?_ | refine HSub.at 7 rfl ?_))) (fun k hk => ?_)
  dsimp only at hk ⊢
  (repeat' (first | refine JC.seq ?_ | refine JC.ops ?_ | (apply r_move; (iterate 3 exact rfl))))
  refine r_lenR rfl rfl rfl hR ?_
  by_cases hkk : k < xss.length
  · have hwi := hrow k hkk
    have hl4 := hlen k hkk
    (repeat' (first | refine JC.seq ?_ | refine JC.ops ?_ | refine JO.nil ?_ | refine JX.thenN ?_ | (apply r_move; (iterate 3 exact rfl)) | (apply r_lss; (iterate 4 exact rfl); all_goals intro hc; all_goals try (exfalso; omega)) | refine JC.skip ?_ | refine JC.condT rfl ?_ | refine JC.block ?_))
    refine r_idxR1 rfl rfl rfl rfl hR hkk ?_
    skip
    refine r_ldR rfl rfl rfl rfl hR (HSub.nil _) (gD_lt (d := iv 0) (by omega)) ?_
    (repeat' (first | refine JC.ops ?_ | refine JO.nil ?_ | refine JX.thenN ?_ | (apply r_move; (iterate 3 exact rfl)) | (apply r_assign; (iterate 3 exact rfl)) | (apply r_lenI; (iterate 3 exact rfl); (first | assumption | exact WI.rd (by assumption) rfl [] | exact OwnI.rd (by assumption))) | (apply r_add1; (iterate 4 exact rfl); omega) | (apply r_max; (iterate 4 exact rfl)) | refine JX.blockN ?_))
    refine JX.roundH (k + 1) (by dsimp only; omega) (by dsimp only; omega) (by dsimp only [ofC]; unfold nv; rw [← max_nv]; exact (by repeat first | exact trivial | refine ⟨rfl, ?_⟩)) (by (first | exact HSub.refl _ | (repeat' first | exact HSub.nil _ | exact HSub.refl _ | refine HSub.at 0 rfl ?_ | refine HSub.at 1 rfl ?_ | refine HSub.at 2 rfl ?_ | refine HSub.at 3 rfl ?_ | refine HSub.at 4 rfl ?_ | refine HSub.at 5 rfl ?_ | refine HSub.at 6 rfl ?_ | refine HSub.at 7 rfl ?_)))
  · have : k = xss.length := by omega
    subst this
    (repeat' (first | refine JC.seq ?_ | refine JC.ops ?_ | refine JO.nil ?_ | refine JX.thenN ?_ | (apply r_move; (iterate 3 exact rfl)) | (apply r_lss; (iterate 4 exact rfl); all_goals intro hc; all_goals try (exfalso; omega)) | refine JX.thenE ?_ | refine JC.exit ?_ | refine JC.condF rfl ?_ | refine JX.blockE ?_))
    refine r_lenR rfl rfl rfl hR ?_
    (repeat' (first | (apply r_move; (iterate 3 exact rfl))))
    refine r_callA (A := [_]) (B := []) rfl trivial rfl rfl rfl (fun w hk _ => c_refZero xss.length _ hr hcc w) fun w v' w' _ _ _ hR' => ?_
    obtain ⟨N, Eo, hN, rfl, hO⟩ := hR'
    obtain ⟨Ao, co, rfl⟩ := hO.form
    refine ⟨N, hN, ?_⟩
    (repeat' (first | refine JC.seq ?_ | refine JC.ops ?_ | refine JO.nil ?_ | refine JX.thenN ?_ | (apply r_assign; (iterate 3 exact rfl)) | (apply r_storeN; exact rfl; (first | exact trivial | exact ⟨rfl, rfl⟩); exact rfl; exact rfl; exact at0; (iterate 3 exact rfl)) | (apply r_allocZ; (iterate 3 exact rfl); intro _) | (apply r_storeN; exact rfl; (first | exact trivial | exact ⟨rfl, rfl⟩); exact rfl; exact rfl; exact at0; (iterate 3 exact rfl)) | refine JC.block ?_))
    rename_i b5
    refine JC.loopH (ι := Nat × SHeap) ⟨fun z => [(6, nv z.1), (5, .pointer (some ⟨b5, 0, none⟩)), (3, nv (ofC xss xss.length)), (0, v), (2, .pointer (some ⟨b2, 0, none⟩))],
      fun z => [(b5, .cells #[nv xss.length, nv (ofC xss xss.length), .slice Ao (xss.length * ofC xss xss.length) co] 29), (b2, .cells #[iv 0, iv 0, .slice none 0 0] 29)] ++ (z.2 ++ []),
      fun z => z.1 ≤ xss.length ∧ OwnZ z.2 (.slice Ao (xss.length * ofC xss xss.length) co) (xss.length * ofC xss xss.length) (tbz xss.length (ofC xss xss.length) (ofS xss z.1 0)), fun z => xss.length - z.1⟩ (0, N) ⟨by dsimp only; omega, by rw [ofS_zero]; exact hO⟩ (by repeat first | exact trivial | refine ⟨rfl, ?_⟩) (by (first | exact HSub.refl _ | (repeat' first | exact HSub.nil _ | exact HSub.refl _ | refine HSub.at 0 rfl ?_ | refine HSub.at 1 rfl ?_ | refine HSub.at 2 rfl ?_ | refine HSub.at 3 rfl ?_ | refine HSub.at 4 rfl ?_ | refine HSub.at 5 rfl ?_ | refine HSub.at 6 rfl ?_ | refine HSub.at 7 rfl ?_))) (fun z hz => ?_)
    clear hO
    obtain ⟨i, N⟩ := z
    obtain ⟨hi, hO⟩ := hz
    dsimp only at hi hO ⊢
    by_cases hii : i < xss.length
    · have hwi := hrow i hii
      have hl4 := hlen i hii
      have hlc := ofC_le xss hii
      (repeat' (first | refine JC.seq ?_ | refine JC.ops ?_ | refine JO.nil ?_ | refine JX.thenN ?_ | (apply r_move; (iterate 3 exact rfl)) | (apply r_fieldAddr; (iterate 3 exact rfl)) | (apply r_assign; (iterate 3 exact rfl)) | (apply r_load; (iterate 4 exact rfl); exact at0; exact rfl) | (apply r_lss; (iterate 4 exact rfl); all_goals intro hc; all_goals try (exfalso; omega)) | refine JC.skip ?_ | refine JC.condT rfl ?_ | refine JC.block ?_))
      refine JC.loopH (ι := Nat × SHeap) ⟨fun z => [(7, nv z.1), (6, nv i), (5, .pointer (some ⟨b5, 0, none⟩)), (3, nv (ofC xss xss.length)), (0, v), (2, .pointer (some ⟨b2, 0, none⟩))],
        fun z => [(b5, .cells #[nv xss.length, nv (ofC xss xss.length), .slice Ao (xss.length * ofC xss xss.length) co] 29), (b2, .cells #[iv 0, iv 0, .slice none 0 0] 29)] ++ (z.2 ++ []),
        fun z => z.1 ≤ (xss.getD i []).length ∧ OwnZ z.2 (.slice Ao (xss.length * ofC xss xss.length) co) (xss.length * ofC xss xss.length) (tbz xss.length (ofC xss xss.length) (ofS xss i z.1)), fun z => (xss.getD i []).length - z.1⟩ (0, N) ⟨by dsimp only; omega, hO⟩ (by repeat first | exact trivial | refine ⟨rfl, ?_⟩) (by (first | exact HSub.refl _ | (repeat' first | exact HSub.nil _ | exact HSub.refl _ | refine HSub.at 0 rfl ?_ | refine HSub.at 1 rfl ?_ | refine HSub.at 2 rfl ?_ | refine HSub.at 3 rfl ?_ | refine HSub.at 4 rfl ?_ | refine HSub.at 5 rfl ?_ | refine HSub.at 6 rfl ?_ | refine HSub.at 7 rfl ?_))) (fun z hz => ?_)
      clear hO
      obtain ⟨j, N⟩ := z
      obtain ⟨hj, hO⟩ := hz
      dsimp only at hj hO ⊢
      (repeat' (first | refine JC.seq ?_ | refine JC.ops ?_ | (apply r_move; (iterate 3 exact rfl))))
      refine r_idxR1 rfl rfl rfl rfl hR hii ?_
      skip
      refine r_ldR rfl rfl rfl rfl hR (HSub.nil _) (gD_lt (d := iv 0) (by omega)) ?_
      by_cases hjj : j < (xss.getD i []).length
      · have hjc : j < ofC xss xss.length := by omega
        have hidx := idx_lt hii hjc
        have hb1 : i * ofC xss xss.length ≤ 40000 := Nat.mul_le_mul (show i ≤ 200 by omega) hcc
        have hI2 := hI i j
        (repeat' (first | refine JC.seq ?_ | refine JC.opsD ?_ | refine JO.nil ?_ | refine JX.thenN ?_ | (apply r_move; (iterate 3 exact rfl)) | (apply r_fieldAddr; (iterate 3 exact rfl)) | (apply r_load; (iterate 4 exact rfl); exact at0; exact rfl) | (apply r_lenI; (iterate 3 exact rfl); (first | assumption | exact WI.rd (by assumption) rfl [] | exact OwnI.rd (by assumption))) | (apply r_addN; (iterate 4 exact rfl); omega) | (apply r_mulN; (iterate 4 exact rfl); (first | assumption | omega)) | (apply r_lss; (iterate 4 exact rfl); all_goals intro hc; all_goals try (exfalso; omega)) | refine JC.skip ?_ | refine JC.condT rfl ?_ | refine JC.block ?_))
        refine r_idxR1 rfl rfl rfl rfl hR hii ?_
        skip
        refine r_ldR rfl rfl rfl rfl hR (HSub.nil _) (gD_lt (d := iv 0) (by omega)) ?_
        (repeat' (first | (apply r_move; (iterate 3 exact rfl)) | (apply r_idxI; (iterate 4 exact rfl); (first | assumption | exact WI.rd (by assumption) rfl [] | exact OwnI.rd (by assumption)); (first | assumption | omega)) | (apply r_ldI; (iterate 4 exact rfl); (first | assumption | exact WI.rd (by assumption) rfl [] | exact OwnI.rd (by assumption)); (repeat' first | exact HSub.nil _ | exact HSub.hd | exact HSub.in0 | exact HSub.refl _ | refine HSub.skip ?_ | refine HSub.skipN ?_); (first | assumption | omega))))
        refine r_call0 (by first | trivial | exact ⟨rfl, rfl⟩) rfl rfl rfl (fun w _ _ => c_FromR w ((xss.getD i []).getD j 0) hI2.1 hI2.2) fun w v w' _ _ _ hR => ?_
        subst hR
        (repeat' (first | (apply r_idxZ; (iterate 4 exact rfl); (first | assumption | exact WZ.rd (by assumption) rfl [] | exact OwnZ.rd (by assumption)); (first | assumption | omega))))
        refine r_stZ (A := [_, _]) (u := ofE xss i j) hO rfl rfl (by first | trivial | exact ⟨rfl, rfl⟩) rfl rfl hidx (fun N' hO' => ?_)
        rw [ofS_set hjc] at hO'
        (repeat' (first | refine JC.ops ?_ | refine JO.nil ?_ | refine JX.thenN ?_ | (apply r_move; (iterate 3 exact rfl)) | (apply r_assign; (iterate 3 exact rfl)) | (apply r_add1; (iterate 4 exact rfl); omega) | refine JX.blockN ?_))
        exact JX.roundH (j + 1, N') ⟨by dsimp only; omega, hO'⟩ (by dsimp only; omega) (by repeat first | exact trivial | refine ⟨rfl, ?_⟩) (by (first | exact HSub.refl _ | (repeat' first | exact HSub.nil _ | exact HSub.refl _ | refine HSub.at 0 rfl ?_ | refine HSub.at 1 rfl ?_ | refine HSub.at 2 rfl ?_ | refine HSub.at 3 rfl ?_ | refine HSub.at 4 rfl ?_ | refine HSub.at 5 rfl ?_ | refine HSub.at 6 rfl ?_ | refine HSub.at 7 rfl ?_)))
      · rw [ofS_row (show (xss.getD i []).length ≤ j by omega)] at hO
        (repeat' (first | refine JC.ops ?_ | refine JO.nil ?_ | refine JX.thenN ?_ | (apply r_move; (iterate 3 exact rfl)) | (apply r_assign; (iterate 3 exact rfl)) | (apply r_lenI; (iterate 3 exact rfl); (first | assumption | exact WI.rd (by assumption) rfl [] | exact OwnI.rd (by assumption))) | (apply r_add1; (iterate 4 exact rfl); omega) | (apply r_lss; (iterate 4 exact rfl); all_goals intro hc; all_goals try (exfalso; omega)) | refine JX.thenE ?_ | refine JC.exit ?_ | refine JC.condF rfl ?_ | refine JX.blockN ?_ | refine JX.blockE ?_))
        exact JX.roundH (i + 1, N) ⟨by dsimp only; omega, hO⟩ (by dsimp only; omega) (by repeat first | exact trivial | refine ⟨rfl, ?_⟩) (by (first | exact HSub.refl _ | (repeat' first | exact HSub.nil _ | exact HSub.refl _ | refine HSub.at 0 rfl ?_ | refine HSub.at 1 rfl ?_ | refine HSub.at 2 rfl ?_ | refine HSub.at 3 rfl ?_ | refine HSub.at 4 rfl ?_ | refine HSub.at 5 rfl ?_ | refine HSub.at 6 rfl ?_ | refine HSub.at 7 rfl ?_)))
    · rw [ofS_end (show xss.length ≤ i by omega)] at hO
      (repeat' (first | refine JC.seq ?_ | refine JC.ops ?_ | refine JO.nil ?_ | refine JX.thenN ?_ | (apply r_move; (iterate 3 exact rfl)) | (apply r_fieldAddr; (iterate 3 exact rfl)) | (apply r_load; (iterate 4 exact rfl); (first | exact at0 | exact at1); exact rfl) | (apply r_loadN; (iterate 4 exact rfl); (first | exact at0 | exact at1); exact rfl) | (apply r_storeN; exact rfl; (first | exact trivial | exact ⟨rfl, rfl⟩); exact rfl; exact rfl; (first | exact at0 | exact at1); (iterate 3 exact rfl)) | (apply r_lss; (iterate 4 exact rfl); all_goals intro hc; all_goals try (exfalso; omega)) | (apply r_storeN; exact rfl; (first | exact trivial | exact ⟨rfl, rfl⟩); exact rfl; exact rfl; (first | exact at0 | exact at1); (iterate 3 exact rfl)) | refine JX.thenE ?_ | refine JC.exit ?_ | refine JC.ret ?_ | refine JC.condF rfl ?_ | refine JX.blockE ?_))
      exact JX.retC 1 rfl rfl rfl (fun a w' st => ⟨st.kp, N, st.newOf rfl (by (repeat' first | exact HSub.nil _ | exact HSub.hd | exact HSub.in0 | exact HSub.refl _ | refine HSub.skip ?_ | refine HSub.skipN ?_)), OwnM.mk' hO⟩)

end Go.Proofs.YtdlmnloikakjpaaDoor

namespace Go.Proofs.YtdlmnloikakjpaaDoor
open Go Go.RowKit Go.ChangeShapes Go.WideShapes Go.ChangeAt
set_option linter.unusedSimpArgs false
set_option linter.unusedVariables false
set_option linter.unusedSectionVars false

def IsL (w : World) (v : Value) (L : List Int) : Prop := (∀ i, I64 (L.getD i 0)) ∧ WI w v L.length L ∧ L.length < 9223372036854775808
theorem IsL.mono {w w' : World} {v : Value} {L : List Int} (h : IsL w v L) (hk : Kp [] w w') : IsL w' v L := ⟨h.1, h.2.1.mono hk, h.2.2⟩

theorem IsL.of_trod {H : Type} {enc : TypeId × Value → H} {w : World} {held : Bool} {v : Value} {n base : Nat} {sp : Nat → Bool} {y : DataW H × List MemPlace}
    (hf : DataW.trod enc Tryd.prog w base sp held n 22 [v] = some y) : ∃ L, IsL w v L := by
  rcases open_ints Tryd.underlying22 Tryd.underlying3 (by kernel_rfl) hf with ⟨hcs, _⟩ | ⟨x, l, c, zs, hcs, _, hl, hm, hz, _, hcell, hwz⟩
  · simp only [List.cons.injEq, and_true] at hcs
    subst hcs
    exact ⟨[], fun i => ⟨by simp, by simp⟩, ⟨rfl, none, 0, rfl, Nat.le_refl _, fun h => absurd h (Nat.lt_irrefl _)⟩, by simp⟩
  · simp only [List.cons.injEq, and_true] at hcs
    subst hcs
    unfold maxLen at hm
    have hlz : l ≤ zs.length := by rw [hz]; split <;> omega
    have hz2 : zs.length ≤ c := by rw [hz]; split <;> omega
    have hlen : (zs.take l).length = l := by simp; omega
    refine ⟨zs.take l, i64_getD fun n hn => i64_wf (hwz n (List.mem_of_mem_take hn)), ?_, by omega⟩
    rw [hlen]
    refine ⟨by simp; omega, some x, c, rfl, hl, fun h0 => ?_⟩
    obtain ⟨b, o, sp⟩ := x
    have hsp : sp = none := by
      have := hcell 0 (by omega)
      cases sp with
      | none => rfl
      | some s =>
        simp only [Addr.add, if_true, World.cell?] at this
        split at this <;> simp at this
    subst hsp
    refine ⟨⟨b, o, rfl⟩, fun j u hu => ?_⟩
    simp only [vAt]
    rw [List.getElem?_map, List.getElem?_take] at hu
    split at hu
    · rename_i hj
      have hjz : j < zs.length := by omega
      rw [gD_lt (d := 0) hjz] at hu
      cases hu
      rw [← add_none]
      exact hcell j hjz
    · cases hu

theorem slice_cells {H : Type} {enc : TypeId × Value → H} {P : Program} {w : World} {base : Nat} {sp : Nat → Bool} {held : Bool} {fuel sz : Nat} {t e : TypeId} {cs : List Value} {y : DataW H × List MemPlace} (ht : P.underlying t = some (.slice e)) (hc : P.cellsOf e = sz) (h0 : 0 < sz)
    (h : DataW.trod enc P w base sp held fuel t cs = some y) : cs = [.slice none 0 0] ∨ ∃ (A : Option Addr) (len cap : Nat) (f : Nat → List Value), cs = [.slice A len cap] ∧ len < 9223372036854775808 ∧ (∀ i, i < len → (f i).length = sz ∧ ∃ n z, DataW.trod enc P w base sp held n e (f i) = some z) ∧
      RdW w sz (.slice A len cap) len ((List.range len).flatMap f) := by
  rcases DataW.trod_slice ht h with ⟨h1, _⟩ | ⟨a, len, cap, elems, rest, n, _, rfl, _, hb, hl, hm, hlen, hel, _, _⟩
  · exact .inl h1
  right
  have hs0 : 0 < len → a.spot = none := fun hp => by
    have h1 := hel 0 hp
    rw [List.getElem?_eq_getElem (by omega), Option.bind_eq_some_iff, hc] at h1
    obtain ⟨l, hl1, hl2⟩ := h1
    obtain ⟨_, h3, h4⟩ := World.cells?_some hl1
    have h5 := h4 0 (by omega)
    rw [List.getElem?_eq_getElem (by omega)] at h5
    obtain ⟨b, o, s⟩ := a
    cases s with
    | none => rfl
    | some s =>
      simp only [Addr.add, World.cell?, Nat.zero_mul, if_true] at h5
      split at h5 <;> simp at h5
  have each : ∀ i, i < len → ∃ l : List Value, l.length = sz ∧ (∃ z, DataW.trod enc P w base sp held n e l = some z) ∧ ∀ j, j < sz → w.cell? (a.add (i * sz + j)) = l[j]? := fun i hi => by
    have h1 := hel i hi
    rw [List.getElem?_eq_getElem (by omega), Option.bind_eq_some_iff, hc] at h1
    obtain ⟨l, hl1, hl2⟩ := h1
    obtain ⟨_, h3, h4⟩ := World.cells?_some hl1
    refine ⟨l, h3, ⟨_, hl2⟩, fun j hj => ?_⟩
    rw [← h4 j hj]
    congr 1
    obtain ⟨b, o, s⟩ := a
    obtain rfl : s = none := hs0 (by omega)
    rw [add_none, add_none, add_none, Nat.add_assoc]
  have : ∃ f : Nat → List Value, ∀ i, i < len → (f i).length = sz ∧ (∃ z, DataW.trod enc P w base sp held n e (f i) = some z) ∧ ∀ j, j < sz → w.cell? (a.add (i * sz + j)) = (f i)[j]? := by
    refine ⟨fun i => if hi : i < len then (each i hi).choose else [], fun i hi => ?_⟩
    simp only [dif_pos hi]
    exact (each i hi).choose_spec
  obtain ⟨f, hf⟩ := this
  unfold maxLen at hm
  have hfl : ∀ k, k ≤ len → ((List.range k).flatMap f).length = k * sz ∧ ∀ i, i < k → ∀ j, j < sz → ((List.range k).flatMap f)[i * sz + j]? = (f i)[j]? := fun k => by
    induction k with
    | zero => intro _; exact ⟨by simp, fun i hi => absurd hi (Nat.not_lt_zero _)⟩
    | succ k ih =>
      intro hk
      obtain ⟨h1, h2⟩ := ih (by omega)
      have h3 := (hf k (by omega)).1
      rw [List.range_succ, List.flatMap_append]
      refine ⟨by simp [h1, h3, Nat.add_mul], fun i hi j hj => ?_⟩
      by_cases hik : i < k
      · have : i * sz + j < k * sz := by
          have := Nat.mul_le_mul_right sz (show i + 1 ≤ k by omega)
          rw [Nat.add_mul, Nat.one_mul] at this
          omega
        rw [List.getElem?_append_left (by omega)]
        exact h2 i hik j hj
      · obtain rfl : i = k := by omega
        rw [List.getElem?_append_right (by omega), h1, Nat.add_sub_cancel_left]
        simp
  refine ⟨some a, len, cap, f, rfl, by omega, fun i hi => ⟨(hf i hi).1, _, (hf i hi).2.1⟩, (hfl len (Nat.le_refl _)).1, some a, cap, rfl, hl, fun hp => ?_⟩
  obtain ⟨b, o, s⟩ := a
  have hs : s = none := hs0 hp
  subst hs
  refine ⟨⟨b, o, rfl⟩, fun j u hu => ?_⟩
  have hj : j < len * sz := by
    have := (List.getElem?_eq_some_iff.1 hu).1
    rw [(hfl len (Nat.le_refl _)).1] at this
    exact this
  have hi2 : j / sz < len := (Nat.div_lt_iff_lt_mul h0).2 hj
  have hm2 := Nat.mod_lt j h0
  have hdm : j / sz * sz + j % sz = j := by rw [Nat.mul_comm]; exact Nat.div_add_mod j sz
  have h3 := (hf _ hi2).2.2 _ hm2
  rw [← (hfl len (Nat.le_refl _)).2 _ hi2 _ hm2, hdm, add_none] at h3
  simp only [vAt]
  rw [h3, hu]

def IsLL (w : World) (v : Value) (X : List (List Int)) : Prop := X.length < 9223372036854775808 ∧ ∃ ss : List Value, RdW w 1 v X.length ss ∧ ∀ i, i < X.length → IsL w (ss.getD i (iv 0)) (X.getD i [])
theorem IsLL.mono {w w' : World} {v : Value} {X : List (List Int)} (h : IsLL w v X) (hk : Kp [] w w') : IsLL w' v X := by
  obtain ⟨h0, ss, h1, h2⟩ := h
  exact ⟨h0, ss, h1.mono hk, fun i hi => (h2 i hi).mono hk⟩
theorem one_cells {f : Nat → List Value} : ∀ {n : Nat}, (∀ i, i < n → (f i).length = 1) → (List.range n).flatMap f = (List.range n).map fun i => (f i).getD 0 (iv 0)
  | 0, _ => rfl
  | n + 1, h => by
    rw [List.range_succ, List.flatMap_append, List.map_append, one_cells fun i hi => h i (by omega)]
    have := h n (by omega)
    congr 1
    simp only [List.flatMap_singleton, List.map_singleton]
    match hf : f n, this with
    | [a], _ => rfl

set_option maxRecDepth 100000 in
theorem open_lists {H : Type} {enc : TypeId × Value → H} {w : World} {r : Reach} {b0 : Nat} {held : Bool} {v : Value} {d : DataW H} {ps : List MemPlace} (hv : Value.okWide Tryd.prog w r b0 51 v)
    (h : DataW.Trod enc Tryd.prog w 0 (fun _ => true) held 51 v d ps) : ∃ X, IsLL w v X := by
  obtain ⟨a1, len, cap, rfl⟩ := okWide_slice Tryd.underlying51 hv
  obtain ⟨fuel, hf⟩ := h
  have hc : Tryd.prog.cellsOf 22 = 1 := by kernel_rfl
  rcases slice_cells (cs := [.slice a1 len cap]) Tryd.underlying51 hc (by omega) (show DataW.trod enc Tryd.prog w 0 (fun _ => true) held fuel 51 [.slice a1 len cap] = some _ from hf) with hcs | ⟨A, l, c, f, hcs, hl, hall, hR⟩
  · simp only [List.cons.injEq, and_true, Value.slice.injEq] at hcs
    obtain ⟨rfl, rfl, rfl⟩ := hcs
    exact ⟨[], by simp, [], ⟨rfl, none, 0, rfl, Nat.le_refl _, fun h => absurd h (Nat.lt_irrefl _)⟩, fun i hi => absurd hi (Nat.not_lt_zero _)⟩
  · simp only [List.cons.injEq, and_true, Value.slice.injEq] at hcs
    obtain ⟨rfl, rfl, rfl⟩ := hcs
    rw [one_cells fun i hi => (hall i hi).1] at hR
    have each : ∀ i, i < len → ∃ L, IsL w ((f i).getD 0 (iv 0)) L := fun i hi => by
      obtain ⟨h1, n, z, h2⟩ := hall i hi
      match hfi : f i, h1 with
      | [a], _ =>
        rw [hfi] at h2
        exact IsL.of_trod h2
    have : ∃ g : Nat → List Int, ∀ i, i < len → IsL w ((f i).getD 0 (iv 0)) (g i) := ⟨fun i => if hi : i < len then (each i hi).choose else [], fun i hi => by simp only [dif_pos hi]; exact (each i hi).choose_spec⟩
    obtain ⟨g, hg⟩ := this
    refine ⟨(List.range len).map g, by simpa using hl, _, by simpa using hR, fun i hi => ?_⟩
    have hi : i < len := by simpa using hi
    have := hg i hi
    simpa [List.getD, List.getElem?_map, List.getElem?_range hi] using this

theorem cells2i : Tryd.prog.cellsOf 52 = 2 := by kernel_rfl
theorem cells1i : Tryd.prog.cellsOf 3 = 1 := by kernel_rfl
theorem okWide_array2 {P : Program} {w : World} {r : Reach} {base : Nat} {t : TypeId} {v : Value} {n : Nat} {e : TypeId} (ht : P.underlying t = some (.array n e)) (h : Value.okWide P w r base t v) : ∃ cs, v = .agg cs ∧ cs.size = P.cellsOf t := by
  unfold Value.okWide at h
  rw [ht] at h
  cases v <;> simp at h
  exact ⟨_, rfl, h.1⟩
set_option maxRecDepth 100000 in
theorem open_pair {H : Type} {enc : TypeId × Value → H} {w : World} {r : Reach} {b0 : Nat} {held : Bool} {v : Value} {d : DataW H} {ps : List MemPlace} (hv : Value.okWide Tryd.prog w r b0 52 v)
    (h : DataW.Trod enc Tryd.prog w 0 (fun _ => true) held 52 v d ps) : ∃ q0 q1 : Int, v = .agg #[iv q0, iv q1] ∧ I64 q0 ∧ I64 q1 := by
  obtain ⟨cs, rfl, hsz⟩ := okWide_array2 Tryd.underlying52 hv
  rw [cells2i] at hsz
  obtain ⟨l⟩ := cs
  obtain ⟨c0, c1, rfl⟩ : ∃ c0 c1, l = [c0, c1] := by
    match l, hsz with
    | [a, b], _ => exact ⟨a, b, rfl⟩
  obtain ⟨fuel, hf⟩ := h
  obtain ⟨xs, m, _, _, _, hx, hall⟩ := DataW.trod_array Tryd.underlying52 hf
  have a0 := hall 0 (by omega)
  have a1 := hall 1 (by omega)
  rw [cells1i] at a0 a1
  rw [List.getElem?_eq_getElem (by omega)] at a0 a1
  obtain ⟨n0, e0, _, w0⟩ := DataW.trod_int Tryd.underlying3 (show DataW.trod enc Tryd.prog w 0 (fun _ => true) held m 3 [c0] = some _ from a0)
  obtain ⟨n1, e1, _, w1⟩ := DataW.trod_int Tryd.underlying3 (show DataW.trod enc Tryd.prog w 0 (fun _ => true) held m 3 [c1] = some _ from a1)
  simp only [List.cons.injEq, and_true] at e0 e1
  subst e0 e1
  exact ⟨n0, n1, rfl, i64_wf w0, i64_wf w1⟩

end Go.Proofs.YtdlmnloikakjpaaDoor

namespace Go.Proofs.YtdlmnloikakjpaaDoor
open Go Go.RowKit
set_option linter.unusedSimpArgs false
set_option linter.unusedVariables false
set_option linter.unusedSectionVars false

theorem bits_and7 (n : Int) : bits .and .i64 n 7 = n % 8 := by
  have h1 : (BitVec.ofInt 64 7).toNat = 2 ^ 3 - 1 := by decide
  have key : (BitVec.ofInt 64 n &&& BitVec.ofInt 64 7).toNat = (n % ((2 ^ 64 : Nat) : Int)).toNat % 2 ^ 3 := by
    rw [BitVec.toNat_and, BitVec.toNat_ofInt, h1, Nat.and_two_pow_sub_one_eq_mod]
  show IntKind.i64.wrap ((BitVec.ofInt 64 n &&& BitVec.ofInt 64 7).toNat : Nat) = n % 8
  rw [key, IntKind.wrap_i64]
  omega

section
variable {c : Cx} {Q : Exit → Act → World → Prop} {m : Mode} {F : SFrame} {H : SHeap} {r : List SOp} {g : Option (Option Tmp × Bool)} {ns : Bool} {d : Tmp} {ty t t' : TypeId} {x y : Operand}
theorem r_and7 {i : Int} (hd : dstOk c.n (some d) = true) (hg : guardF F g = some true) (hx : ev F x = some (.int .i64 i)) (hy : ev F y = some (.int .i64 7))
    (h : JO c Q m r ((d, .int .i64 (i % 8)) :: F) H) : JO c Q m (⟨some d, .binOp .and t x y t', ty, g, .mov, ns⟩ :: r) F H :=
  r_arith hd hg hx hy (fun w => by rw [binOp_and, intBits_and, bits_and7]; rfl) h
end

def zeroA (r c : Int) : ZM := if 0 ≤ r ∧ r ≤ 200 ∧ 0 ≤ c ∧ c ≤ 200 then ⟨r.toNat, c.toNat, tab (r.toNat * c.toNat) fun _ => 0⟩ else zM
def oneA (n : Int) : ZM := if 0 ≤ n ∧ n ≤ 200 then oneZ n.toNat else zM
theorem zeroA_rt (r c : Int) : RtZ (zeroA r c) := by
  unfold zeroA
  split
  · exact ⟨by show r.toNat ≤ 200; omega, by show c.toNat ≤ 200; omega, by simp [tab]⟩
  · exact RtZ.zM
theorem oneA_rt (n : Int) : RtZ (oneA n) := by
  unfold oneA
  split
  · exact zof_rt (by omega) (by omega)
  · exact RtZ.zM
theorem gives_zm {w w' : World} {v : Value} (h : v = zeroM) : GivesM zM w v w' := ⟨[], New.nil _ _, by rw [h]; exact OwnM.zero⟩
theorem zeros_m {r c : Nat} {w w' : World} {v : Value} (h : Zeros r c w v w') : GivesM ⟨r, c, tab (r * c) fun _ => 0⟩ w v w' := by
  obtain ⟨N, E, hN, rfl, hO⟩ := h
  exact ⟨N, hN, OwnM.mk' hO⟩
theorem zeroA_t {r c : Nat} (hr : r ≤ 200) (hc : c ≤ 200) : zeroA r c = ⟨r, c, tab (r * c) fun _ => 0⟩ := by
  unfold zeroA
  rw [if_pos (by omega)]
  simp only [Int.toNat_natCast]
theorem c_ZeroA (r c : Int) (w : World) : Calls Tryd.prog 21 #[iv r, iv c] w (Ret fun v w' => Kp [] w w' ∧ GivesM (zeroA r c) w v w') := by
  by_cases h : 0 ≤ r ∧ r ≤ 200 ∧ 0 ≤ c ∧ c ≤ 200
  · obtain ⟨r, rfl⟩ := Int.eq_ofNat_of_zero_le h.1
    obtain ⟨c, rfl⟩ := Int.eq_ofNat_of_zero_le h.2.2.1
    rw [zeroA_t (by omega) (by omega)]
    exact calls_mono (c_Zero r c (by omega) (by omega) w) fun v w' h => ⟨h.1, zeros_m h.2⟩
  · rw [show zeroA r c = zM from if_neg h]
    exact calls_mono (c_ZeroF r c h w) fun v w' h => ⟨h.1, gives_zm h.2⟩
theorem c_OneA (n : Int) (w : World) : Calls Tryd.prog 26 #[iv n] w (Ret fun v w' => Kp [] w w' ∧ GivesM (oneA n) w v w') := by
  by_cases h : 0 ≤ n ∧ n ≤ 200
  · obtain ⟨n, rfl⟩ := Int.eq_ofNat_of_zero_le h.1
    rw [show oneA n = oneZ n from (if_pos h).trans (by rw [Int.toNat_natCast])]
    exact c_One n (by omega) w
  · rw [show oneA n = zM from if_neg h]
    exact calls_mono (c_OneF n h w) fun v w' h => ⟨h.1, gives_zm h.2⟩
theorem c_refZeroA (r c : Int) (w : World) : Calls Tryd.prog 38 #[iv r, iv c] w (Ret fun v w' => Kp [] w w' ∧ GivesM (zeroA r c) w v w') := by
  by_cases h : 0 ≤ r ∧ r ≤ 200 ∧ 0 ≤ c ∧ c ≤ 200
  · obtain ⟨r, rfl⟩ := Int.eq_ofNat_of_zero_le h.1
    obtain ⟨c, rfl⟩ := Int.eq_ofNat_of_zero_le h.2.2.1
    rw [zeroA_t (by omega) (by omega)]
    exact calls_mono (c_refZero r c (by omega) (by omega) w) fun v w' h => ⟨h.1, zeros_m h.2⟩
  · rw [show zeroA r c = zM from if_neg h]
    exact calls_mono (c_refZeroF r c h w) fun v w' h => ⟨h.1, gives_zm h.2⟩
theorem c_refOneA (n : Int) (w : World) : Calls Tryd.prog 39 #[iv n] w (Ret fun v w' => Kp [] w w' ∧ GivesM (oneA n) w v w') := by
  by_cases h : 0 ≤ n ∧ n ≤ 200
  · obtain ⟨n, rfl⟩ := Int.eq_ofNat_of_zero_le h.1
    rw [show oneA n = oneZ n from (if_pos h).trans (by rw [Int.toNat_natCast])]
    exact c_refOne n (by omega) w
  · rw [show oneA n = zM from if_neg h]
    exact calls_mono (c_refOneF n h w) fun v w' h => ⟨h.1, gives_zm h.2⟩

section
variable {c : Cx} {Q : Exit → Act → World → Prop} {m : Mode} {F : SFrame} {H : SHeap} {r : List SOp} {g : Option (Option Tmp × Bool)} {ns : Bool} {d : Tmp} {ty t t' : TypeId} {x y : Operand} {N : SHeap} {n : Nat} {v : Value}
theorem r_appendTL {A B N2 Hs : SHeap} {v2 u : Value} {ss : List Value} [TSl c.P t 22] [TE c.P 22 1 24 #[.slice none 0 0]] (hO : OwnRow 22 1 N v n ss) (h2 : Rd c N2 1 v2 1 [u]) (hu : u.oneCell' = true) (hN2 : HSub N2 H) (hH : H = A ++ (N ++ B)) (hm : HSub Hs (A ++ B)) (hd : dstOk c.n (some d) = true) (hg : guardF F g = some true) (hx : ev F x = some v) (hy : ev F y = some v2)
    (hb : n + 1 ≤ 1000000000) (h : ∀ v' N', OwnRow 22 1 N' v' (n + 1) (ss ++ [u]) → JO c Q (.draw Hs true) r ((d, v') :: F) (A ++ (N' ++ B))) :
    JO c Q (.draw Hs true) (⟨some d, .call ⟨.builtin .append, #[x, y], #[t, t]⟩, ty, g, .seq, ns⟩ :: r) F H :=
  r_appendL (e := 22) (sz := 1) (bytes := 24) (zc := #[.slice none 0 0]) (n := n) (mm := 1) rfl hO h2 hN2 hH hm hd hg hx hy (fun w hw => by cases List.mem_singleton.1 hw; exact hu) (by simp only [maxLen]; omega) (by omega) h
end
theorem own_oneT (b : Nat) (u : Value) : OwnRow 22 1 [(b, .cells ⟨[u]⟩ 22)] (.slice (some ⟨b, 0, none⟩) 1 1) 1 [u] :=
  OwnRow.mk' (e := 22) (sz := 1) (n := 1) (b := b) (cs := ⟨[u]⟩) (by simp) (by simp only [maxLen]; omega)
theorem OwnRow.form' {e : TypeId} {sz n : Nat} {N : SHeap} {v : Value} {cs : List Value} (h : OwnRow e sz N v n cs) : ∃ A cap, v = .slice A n cap := by
  obtain ⟨_, ⟨rfl, rfl, rfl⟩ | ⟨b, cap, cur, rfl, _⟩⟩ := h
  · exact ⟨_, _, rfl⟩
  · exact ⟨_, _, rfl⟩

def rows8 (X : List (List Int)) (k : Nat) : List (List Int) := (List.range k).map fun i => (X.getD i []).take (min (X.getD i []).length 8)
theorem rows8_get {X : List (List Int)} {k i : Nat} (hi : i < k) : (rows8 X k).getD i [] = (X.getD i []).take (min (X.getD i []).length 8) := by
  unfold rows8
  rw [List.getD, List.getElem?_map, List.getElem?_range hi]
  rfl
theorem rows8_len (X : List (List Int)) (k : Nat) : (rows8 X k).length = k := by simp [rows8]
theorem rows8_le (X : List (List Int)) (k i : Nat) : ((rows8 X k).getD i []).length ≤ 8 := by
  by_cases hi : i < k
  · rw [rows8_get hi, List.length_take]; omega
  · rw [List.getD, List.getElem?_eq_none (by rw [rows8_len]; omega)]; exact Nat.zero_le _
theorem rows8_i64 {X : List (List Int)} {k : Nat} (h : ∀ i, i < k → ∀ j, I64 ((X.getD i []).getD j 0)) (i j : Nat) : I64 (((rows8 X k).getD i []).getD j 0) := by
  by_cases hi : i < k
  · rw [rows8_get hi, List.getD, List.getElem?_take]
    split
    · exact h i hi j
    · exact ⟨by decide, by decide⟩
  · have : (rows8 X k).getD i [] = [] := by rw [List.getD, List.getElem?_eq_none (by rw [rows8_len]; omega)]; rfl
    rw [this]
    exact ⟨by simp, by simp⟩
theorem rows8_is {w : World} {v : Value} {X : List (List Int)} {k : Nat} {ss : List Value} (h : RdW w 1 v k ss) (hr : ∀ i, i < k → WI w (ss.getD i (iv 0)) (min (X.getD i []).length 8) ((X.getD i []).take (min (X.getD i []).length 8))) : IsRows w v (rows8 X k) :=
  ⟨ss, by rw [rows8_len]; exact h, fun i hi => by
    rw [rows8_len] at hi
    rw [rows8_get hi, List.length_take, Nat.min_eq_left (Nat.min_le_left _ _)]
    exact hr i hi⟩


open Classical in
def GivesLB (zs : List Int) (b : Bool) (w : World) (v : Value) (w' : World) : Prop := ∃ N E, New N w w' ∧ v = .tuple #[E, .bool b] ∧ OwnZ N E zs.length zs
theorem GivesLB.nil {w w' : World} {v : Value} (h : v = .tuple #[.slice none 0 0, .bool false]) : GivesLB [] false w v w' := ⟨[], _, New.nil _ _, h, OwnZ.nil⟩
theorem BdL.of {L : Nat} {zs : List Int} (h : ∀ i, (zs.getD i 0).natAbs < 256 ^ L) : BdL L zs := h

section
variable {c : Cx} {Q : Exit → Act → World → Prop} {m : Mode} {F : SFrame} {H : SHeap} {r : List SOp} {g : Option (Option Tmp × Bool)} {ns : Bool} {d : Tmp} {ty t t' : TypeId} {x y : Operand} {N : SHeap} {n : Nat} {v : Value}
end


theorem det_1 (A : Mi) : det 1 A = A 0 0 := by
  rw [det, smI, smI]
  show 0 + 1 * A 0 0 * 1 = A 0 0
  omega
theorem det_2 (A : Mi) : det 2 A = A 0 0 * A 1 1 - A 0 1 * A 1 0 := by
  rw [det, smI, smI, smI, det_1, det_1]
  show 0 + 1 * A 0 0 * A 1 1 + -1 * A 1 0 * A 0 1 = _
  grind
theorem det_3 (A : Mi) : det 3 A = ((((((0 + A 0 0 * A 1 1 * A 2 2 * 1) + A 0 1 * A 1 2 * A 2 0 * 1) + A 0 2 * A 1 0 * A 2 1 * 1) + A 0 0 * A 1 2 * A 2 1 * -1) + A 0 2 * A 1 1 * A 2 0 * -1) + A 0 1 * A 1 0 * A 2 2 * -1) := by
  rw [det, smI, smI, smI, smI, det_2, det_2, det_2]
  show 0 + 1 * A 0 0 * (A 1 1 * A 2 2 - A 1 2 * A 2 1) + -1 * A 1 0 * (A 0 1 * A 2 2 - A 0 2 * A 2 1) + 1 * A 2 0 * (A 0 1 * A 1 2 - A 0 2 * A 1 1) = _
  grind
theorem wc0 : wc 0 = #[.bool false, .string ⟨#[]⟩] := by
  have : magU (0 : Int).natAbs = [] := magU_nil.2 rfl
  unfold wc
  rw [this]
  rfl
def sumT (A : Mi) : Nat → Int
  | 0 => 0
  | 1 => 0 + A 0 0 * A 1 1 * A 2 2 * 1
  | 2 => 0 + A 0 0 * A 1 1 * A 2 2 * 1 + A 0 1 * A 1 2 * A 2 0 * 1
  | 3 => 0 + A 0 0 * A 1 1 * A 2 2 * 1 + A 0 1 * A 1 2 * A 2 0 * 1 + A 0 2 * A 1 0 * A 2 1 * 1
  | 4 => 0 + A 0 0 * A 1 1 * A 2 2 * 1 + A 0 1 * A 1 2 * A 2 0 * 1 + A 0 2 * A 1 0 * A 2 1 * 1 + A 0 0 * A 1 2 * A 2 1 * -1
  | 5 => 0 + A 0 0 * A 1 1 * A 2 2 * 1 + A 0 1 * A 1 2 * A 2 0 * 1 + A 0 2 * A 1 0 * A 2 1 * 1 + A 0 0 * A 1 2 * A 2 1 * -1 + A 0 2 * A 1 1 * A 2 0 * -1
  | _ => 0 + A 0 0 * A 1 1 * A 2 2 * 1 + A 0 1 * A 1 2 * A 2 0 * 1 + A 0 2 * A 1 0 * A 2 1 * 1 + A 0 0 * A 1 2 * A 2 1 * -1 + A 0 2 * A 1 1 * A 2 0 * -1 + A 0 1 * A 1 0 * A 2 2 * -1
theorem sumT_six (A : Mi) : sumT A 6 = det 3 A := (det_3 A).symm
theorem bd3 {x y z t : Int} (hx : x.natAbs < 256 ^ 8) (hy : y.natAbs < 256 ^ 8) (hz : z.natAbs < 256 ^ 8) (ht : t.natAbs ≤ 1) : (x * y * z * t).natAbs < 256 ^ 24 := by
  have h := mul_bd (mul_bd hx hy) hz
  rw [Int.natAbs_mul]
  have := Nat.mul_le_mul_left (x * y * z).natAbs ht
  rw [Nat.mul_one] at this
  exact Nat.lt_of_le_of_lt this h
theorem sumT_bd {A : Mi} (h : ∀ i j, (A i j).natAbs < 256 ^ 8) (k : Nat) (hk : k ≤ 6) : (sumT A k).natAbs < 256 ^ 26 := by
  have b1 := bd3 (t := 1) (h 0 0) (h 1 1) (h 2 2) (by decide)
  have b2 := bd3 (t := 1) (h 0 1) (h 1 2) (h 2 0) (by decide)
  have b3 := bd3 (t := 1) (h 0 2) (h 1 0) (h 2 1) (by decide)
  have b4 := bd3 (t := -1) (h 0 0) (h 1 2) (h 2 1) (by decide)
  have b5 := bd3 (t := -1) (h 0 2) (h 1 1) (h 2 0) (by decide)
  have b6 := bd3 (t := -1) (h 0 1) (h 1 0) (h 2 2) (by decide)
  have e : (256 : Nat) ^ 26 = 65536 * 256 ^ 24 := by decide
  rw [e]
  have hp : 0 < (256 : Nat) ^ 24 := Nat.pow_pos (by decide)
  generalize (256 : Nat) ^ 24 = P at *
  rcases (show k = 0 ∨ k = 1 ∨ k = 2 ∨ k = 3 ∨ k = 4 ∨ k = 5 ∨ k = 6 by omega) with rfl | rfl | rfl | rfl | rfl | rfl | rfl <;> simp only [sumT] <;> omega
theorem at_at {m : ZM} {i j : Nat} (hi : i < m.r) (hj : j < m.c) : atZ m i j = m.at i j := by
  unfold atZ
  rw [if_pos (by omega)]
  simp only [Int.toNat_natCast]

theorem run_buildA {P : Program} {t e : TypeId} {n s : Nat} {zc cs : Array Value} {parts : Array (Nat × Value)} [hA : TAr P t n e] [hS : TSz P e s] [hZ : TZ0 P t zc] (hc : Instr.fill (fun i => some (i * s, s)) zc parts.toList = some cs) (w : World) :
    (Instr.build t parts).run P w = .ok (.agg cs) w := by
  obtain ⟨z, hz, rfl⟩ := hZ
  have h2 : (zeroValue t).run P w = .ok z w := by
    unfold zeroValue typeInfo
    cases hi : P.info? t with
    | none => rw [hi] at hz; cases hz
    | some i => rw [hi] at hz; simp only [Option.bind_some] at hz; simp [hi, hz]
  simp only [Instr.build, Sem.run_bind, h2, Result.andThen_ok, run_underlying hA.und, hS.size, hc, Sem.run_pure]

theorem r_buildA {c : Cx} {Q : Exit → Act → World → Prop} {m : Mode} {F : SFrame} {H : SHeap} {r : List SOp} {g : Option (Option Tmp × Bool)} {ns : Bool} {d : Tmp} {ty t e : TypeId} {n s : Nat} {zc cs : Array Value} {parts : Array (Nat × Operand)} {l : List (Nat × Value)} [TAr c.P t n e] [TSz c.P e s] [TZ0 c.P t zc] (hd : dstOk c.n (some d) = true) (hg : guardF F g = some true)
    (hp : evParts F parts.toList = some l) (hc : Instr.fill (fun i => some (i * s, s)) zc l = some cs) (h : JO c Q m r ((d, (.agg cs)) :: F) H) : JO c Q m (⟨some d, .build t parts, ty, g, .mov, ns⟩ :: r) F H :=
  r_mov hd hg (fun a w fr => by
    have h1 : (parts.map fun (i, x) => (i, a.eval x)).toList = l := by rw [Array.toList_map]; exact evParts_map fr hp
    simp only [execOp, Sem.run_bind, run_buildA (P := c.P) (t := t) (cs := cs) (parts := parts.map fun (i, x) => (i, a.eval x)) (by rw [h1]; exact hc), Result.andThen_ok, Sem.run_pure]) h

end Go.Proofs.YtdlmnloikakjpaaDoor

