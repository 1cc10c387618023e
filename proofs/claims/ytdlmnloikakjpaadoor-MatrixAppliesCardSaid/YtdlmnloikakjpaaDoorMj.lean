import Derived.Test.YtdlmnloikakjpaaDoorMg
import Derived.Test.YtdlmnloikakjpaaDoorMe
import Derived.Test.YtdlmnloikakjpaaDoorMh
namespace Go.Proofs.YtdlmnloikakjpaaDoor
open Go Go.RowKit
set_option linter.unusedSimpArgs false
set_option linter.unusedVariables false
set_option linter.unusedSectionVars false

set_option maxHeartbeats 2000000 in
theorem c_Lists (w : World) (v u : Value) (n k : Nat) (xs ys : List WR) (hv : WX w v n xs) (hu : WX w u k ys) (hn : n < 1000000000) (hk : k < 1000000000) : Calls Tryd.prog 33 #[v, u] w (Ret fun v w' => Kp [] w w' ∧ IsB (xs = ys) v) := by
  have hl := hv.len
  have hl' := hu.len
  refine calls_of_S [⟨6, 1, [], []⟩] [] (by simp) [] Tryd.func33 rfl mixed (by kernel_rfl) Tryd.ntmps33 Tryd.results33 rfl ⟨by simp, by simp⟩ (by simp) ?_
  simp only [toS, textOps, toSOp, kindAt, kindOf, odAt, sopsAt, ordOf, zipF]
  have hR := WX.rd (c := ⟨Tryd.prog, 26, w, [], by simp⟩) hv rfl []
  have hR' := WX.rd (c := ⟨Tryd.prog, 26, w, [], by simp⟩) hu rfl []
  (repeat' (first | refine JC.seq ?_ | refine JC.ops ?_ | refine JO.nil ?_ | refine JX.thenN ?_ | (apply r_move; (iterate 3 exact rfl)) | (apply r_assign; (iterate 3 exact rfl)) | (apply r_lenX; (iterate 3 exact rfl); (first | assumption | exact WX.rd (by assumption) rfl [] | exact OwnX.rd (by assumption))) | (apply r_neq; (iterate 4 exact rfl); all_goals intro hc; all_goals try (exfalso; omega)) | refine JX.thenR ?_ | refine JC.skip ?_ | refine JC.ret ?_ | refine JC.condT rfl ?_ | refine JC.condF rfl ?_ | refine JC.block ?_))
  · exact JX.ret1 rfl (fun a w' st => ⟨st.kp, IsB.f (fun h => hc (by rw [← hl, ← hl', h]))⟩)
  · have hnk : n = k := by omega
    subst hnk
    refine JC.loopH (ι := Nat) ⟨fun i => [(5, nv i), (0, v), (1, u)], fun _ => [], fun i => i ≤ n ∧ ∀ j, j < i → xs.getD j w0x = ys.getD j w0x, fun i => n - i⟩ 0 ⟨by omega, fun j h => by omega⟩ (by repeat first | exact trivial | refine ⟨rfl, ?_⟩) (HSub.nil _) (fun i hi => ?_)
    obtain ⟨hin, hpr⟩ := hi
    dsimp only
    by_cases hlt : i < n
    · (repeat' (first | refine JC.seq ?_ | refine JC.ops ?_ | refine JC.opsD ?_ | refine JO.nil ?_ | refine JX.thenN ?_ | (apply r_move; (iterate 3 exact rfl)) | (apply r_idxX; (iterate 4 exact rfl); (first | assumption | exact WX.rd (by assumption) rfl [] | exact OwnX.rd (by assumption)); (first | assumption | omega)) | (apply r_ldX; (iterate 4 exact rfl); (first | assumption | exact WX.rd (by assumption) rfl [] | exact OwnX.rd (by assumption)); (repeat' first | exact HSub.nil _ | exact HSub.hd | exact HSub.in0 | exact HSub.refl _ | refine HSub.skip ?_ | refine HSub.skipN ?_); (first | assumption | omega)) | (apply r_lenX; (iterate 3 exact rfl); (first | assumption | exact WX.rd (by assumption) rfl [] | exact OwnX.rd (by assumption))) | (apply r_lss; (iterate 4 exact rfl); all_goals intro hc; all_goals try (exfalso; omega)) | refine JC.skip ?_ | refine JC.condT rfl ?_ | refine JC.block ?_))
      refine r_neW rfl rfl rfl rfl ?_
      by_cases he : xs.getD i w0x = ys.getD i w0x
      · rw [he]
        simp only [BEq.rfl, decide_true, Bool.and_self, Bool.not_true]
        (repeat' (first | refine JC.ops ?_ | refine JO.nil ?_ | refine JX.thenN ?_ | (apply r_move; (iterate 3 exact rfl)) | (apply r_assign; (iterate 3 exact rfl)) | (apply r_add1; (iterate 4 exact rfl); omega) | refine JC.skip ?_ | refine JC.condF rfl ?_ | refine JX.blockN ?_))
        refine JX.roundH (i + 1) ⟨by omega, fun j h => ?_⟩ (by dsimp only; omega) (by repeat first | exact trivial | refine ⟨rfl, ?_⟩) (HSub.nil _)
        rcases Nat.lt_or_ge j i with h' | h'
        · exact hpr j h'
        · have : j = i := by omega
          subst this; exact he
      · have hb : (!((xs.getD i w0x).1 == (ys.getD i w0x).1 && decide ((xs.getD i w0x).2 = (ys.getD i w0x).2))) = true := by
          simp only [Bool.not_eq_true', Bool.and_eq_false_iff]
          by_cases h1 : (xs.getD i w0x).1 = (ys.getD i w0x).1
          · refine .inr ?_
            simp only [decide_eq_false_iff_not]
            exact fun h2 => he (Prod.ext h1 h2)
          · exact .inl (by simpa using h1)
        rw [hb]
        (repeat' (first | refine JC.seq ?_ | refine JC.ops ?_ | refine JO.nil ?_ | refine JX.thenN ?_ | (apply r_assign; (iterate 3 exact rfl)) | refine JX.thenR ?_ | refine JC.ret ?_ | refine JC.condT rfl ?_ | refine JX.blockR ?_))
        exact JX.ret1 rfl (fun a w' st => ⟨st.kp, IsB.f (fun h => he (by rw [h]))⟩)
    · (repeat' (first | refine JC.seq ?_ | refine JC.ops ?_ | refine JO.nil ?_ | refine JX.thenN ?_ | (apply r_move; (iterate 3 exact rfl)) | (apply r_assign; (iterate 3 exact rfl)) | (apply r_lenX; (iterate 3 exact rfl); (first | assumption | exact WX.rd (by assumption) rfl [] | exact OwnX.rd (by assumption))) | (apply r_lss; (iterate 4 exact rfl); all_goals intro hc; all_goals try (exfalso; omega)) | refine JX.thenE ?_ | refine JC.exit ?_ | refine JC.ret ?_ | refine JC.condF rfl ?_ | refine JX.blockE ?_))
      refine JX.ret1 rfl (fun a w' st => ⟨st.kp, IsB.t (ext_getD (d := w0x) (by omega) (fun j hj => hpr j (by omega)))⟩)

theorem canon_bad {xs : List WR} {k : Nat} (hk : k < xs.length) (h : badW (xs.getD k w0x) = true) : ¬ Canon xs := fun hc => canon_iff.1 hc ⟨_, mem_getD hk, h⟩

set_option maxHeartbeats 2000000 in
theorem c_refCanonical (w : World) (E : Value) (n : Nat) (xs : List WR) (hE : WX w E n xs) (hn : n < 1000000000) :
    Calls Tryd.prog 72 #[E] w (Ret fun v w' => Kp [] w w' ∧ IsB (Canon xs) v) := by
  have hl := hE.len
  refine calls_of_S [] [] (by simp) [] Tryd.func72 rfl mixed (by kernel_rfl) Tryd.ntmps72 Tryd.results72 rfl ⟨by simp, by simp⟩ (by simp) ?_
  simp only [toS, textOps, toSOp, kindAt, kindOf, odAt, sopsAt, ordOf, zipF]
  have hR := WX.rd (c := ⟨Tryd.prog, 40, w, [], by simp⟩) hE rfl []
  (repeat' (first | refine JC.seq ?_ | refine JC.ops ?_ | refine JO.nil ?_ | refine JX.thenN ?_ | (apply r_assign; (iterate 3 exact rfl)) | refine JC.block ?_))
  refine JC.loopH (ι := Nat) ⟨fun k => [(3, nv k), (0, E)], fun _ => [], fun k => k ≤ n ∧ ∀ j, j < k → badW (xs.getD j w0x) = false, fun k => n - k⟩ 0 ⟨by omega, fun j h => by omega⟩ (by repeat first | exact trivial | refine ⟨rfl, ?_⟩) (HSub.nil _) (fun k hk => ?_)
  obtain ⟨hkn, hpr⟩ := hk
  dsimp only
  by_cases hlt : k < n
  · (repeat' (first | refine JC.seq ?_ | refine JC.ops ?_ | refine JO.nil ?_ | refine JX.thenN ?_ | (apply r_move; (iterate 3 exact rfl)) | (apply r_idxX; (iterate 4 exact rfl); (first | assumption | exact WX.rd (by assumption) rfl [] | exact OwnX.rd (by assumption)); (first | assumption | omega)) | (apply r_ldXm; (iterate 4 exact rfl); (first | assumption | exact WX.rd (by assumption) rfl [] | exact OwnX.rd (by assumption)); (repeat' first | exact HSub.nil _ | exact HSub.hd | exact HSub.in0 | exact HSub.refl _ | refine HSub.skip ?_ | refine HSub.skipN ?_); (first | assumption | omega)) | (apply r_fieldX; (iterate 3 exact rfl); (first | assumption | exact WX.rd (by assumption) rfl [] | exact OwnX.rd (by assumption)); omega) | (apply r_lenX; (iterate 3 exact rfl); (first | assumption | exact WX.rd (by assumption) rfl [] | exact OwnX.rd (by assumption))) | (apply r_eqS; (iterate 4 exact rfl)) | (apply r_lss; (iterate 4 exact rfl); all_goals intro hc; all_goals try (exfalso; omega)) | refine JC.skip ?_ | refine JC.condT rfl ?_ | refine JC.block ?_))
    have hxk : ∀ x, xs.getD k w0x = x → badW x = true → ¬ Canon xs := fun x hx hb => canon_bad (k := k) (by omega) (by rw [hx]; exact hb)
    have hnx : ∀ x, xs.getD k w0x = x → badW x = false → ∀ j, j < k + 1 → badW (xs.getD j w0x) = false := fun x hx hb j hj => by
      rcases Nat.lt_or_ge j k with h | h
      · exact hpr j h
      · obtain rfl : j = k := by omega
        rw [hx]; exact hb
    rcases hx : xs.getD k w0x with ⟨p, l⟩
    cases l with
    | nil =>
      simp only [decide_true]
      (repeat' (first | (apply r_move; (iterate 3 exact rfl)) | (apply r_idxX; (iterate 4 exact rfl); (first | assumption | exact WX.rd (by assumption) rfl [] | exact OwnX.rd (by assumption)); (first | assumption | omega)) | (apply r_ldXs; (iterate 4 exact rfl); (first | assumption | exact WX.rd (by assumption) rfl [] | exact OwnX.rd (by assumption)); (repeat' first | exact HSub.nil _ | exact HSub.hd | exact HSub.in0 | exact HSub.refl _ | refine HSub.skip ?_ | refine HSub.skipN ?_); (first | assumption | omega)) | (apply r_fieldX; (iterate 3 exact rfl); (first | assumption | exact WX.rd (by assumption) rfl [] | exact OwnX.rd (by assumption)); omega) | (apply r_pickT; (iterate 4 exact rfl))))
      rw [hx]
      cases p
      · (repeat' (first | (apply r_move; (iterate 3 exact rfl)) | (apply r_idxX; (iterate 4 exact rfl); (first | assumption | exact WX.rd (by assumption) rfl [] | exact OwnX.rd (by assumption)); (first | assumption | omega)) | (apply r_ldXm; (iterate 4 exact rfl); (first | assumption | exact WX.rd (by assumption) rfl [] | exact OwnX.rd (by assumption)); (repeat' first | exact HSub.nil _ | exact HSub.hd | exact HSub.in0 | exact HSub.refl _ | refine HSub.skip ?_ | refine HSub.skipN ?_); (first | assumption | omega)) | (apply r_fieldX; (iterate 3 exact rfl); (first | assumption | exact WX.rd (by assumption) rfl [] | exact OwnX.rd (by assumption)); omega) | (apply r_neS; (iterate 4 exact rfl))))
        rw [hx, show decide ((false, ([] : List UInt8)).snd ≠ []) = false from rfl]
        (repeat' (first | refine JC.ops ?_ | refine JO.nil ?_ | refine JX.thenN ?_ | (apply r_move; (iterate 3 exact rfl)) | (apply r_assign; (iterate 3 exact rfl)) | (apply r_add1; (iterate 4 exact rfl); omega) | (apply r_pickF; (iterate 4 exact rfl)) | refine JC.skip ?_ | refine JC.condF rfl ?_ | refine JX.blockN ?_ | (apply r_skip; exact rfl; exact rfl; (first | (intro h; cases h; done) | (intro _; rfl)))))
        exact JX.roundH (k + 1) ⟨by omega, hnx _ hx rfl⟩ (by dsimp only; omega) (by repeat first | exact trivial | refine ⟨rfl, ?_⟩) (HSub.nil _)
      · (repeat' (first | refine JC.seq ?_ | refine JC.ops ?_ | refine JO.nil ?_ | refine JX.thenN ?_ | (apply r_assign; (iterate 3 exact rfl)) | (apply r_pickT; (iterate 4 exact rfl)) | refine JX.thenR ?_ | refine JC.ret ?_ | refine JC.condT rfl ?_ | refine JX.blockR ?_ | (apply r_skip; exact rfl; exact rfl; (first | (intro h; cases h; done) | (intro _; rfl)))))
        exact JX.ret1 rfl (fun a w' st => ⟨st.kp, IsB.f (hxk _ hx rfl)⟩)
    | cons x r =>
      rw [show decide ((p, x :: r).snd = ([] : List UInt8)) = false from rfl]
      (repeat' (first | (apply r_move; (iterate 3 exact rfl)) | (apply r_idxX; (iterate 4 exact rfl); (first | assumption | exact WX.rd (by assumption) rfl [] | exact OwnX.rd (by assumption)); (first | assumption | omega)) | (apply r_ldXm; (iterate 4 exact rfl); (first | assumption | exact WX.rd (by assumption) rfl [] | exact OwnX.rd (by assumption)); (repeat' first | exact HSub.nil _ | exact HSub.hd | exact HSub.in0 | exact HSub.refl _ | refine HSub.skip ?_ | refine HSub.skipN ?_); (first | assumption | omega)) | (apply r_fieldX; (iterate 3 exact rfl); (first | assumption | exact WX.rd (by assumption) rfl [] | exact OwnX.rd (by assumption)); omega) | (apply r_pickF; (iterate 4 exact rfl)) | (apply r_neS; (iterate 4 exact rfl)) | (apply r_skip; exact rfl; exact rfl; (first | (intro h; cases h; done) | (intro _; rfl)))))
      rw [hx, show decide ((p, x :: r).snd ≠ ([] : List UInt8)) = true from rfl]
      (repeat' (first | (apply r_move; (iterate 3 exact rfl)) | (apply r_idxX; (iterate 4 exact rfl); (first | assumption | exact WX.rd (by assumption) rfl [] | exact OwnX.rd (by assumption)); (first | assumption | omega)) | (apply r_ldXm; (iterate 4 exact rfl); (first | assumption | exact WX.rd (by assumption) rfl [] | exact OwnX.rd (by assumption)); (repeat' first | exact HSub.nil _ | exact HSub.hd | exact HSub.in0 | exact HSub.refl _ | refine HSub.skip ?_ | refine HSub.skipN ?_); (first | assumption | omega)) | (apply r_fieldX; (iterate 3 exact rfl); (first | assumption | exact WX.rd (by assumption) rfl [] | exact OwnX.rd (by assumption)); omega)))
      rw [hx]
      (repeat' (first | refine JC.seq ?_ | refine JC.ops ?_ | refine JO.nil ?_ | refine JX.thenN ?_ | (apply r_move; (iterate 3 exact rfl)) | (apply r_assign; (iterate 3 exact rfl)) | (apply r_add1; (iterate 4 exact rfl); omega) | (apply r_pickT; (iterate 4 exact rfl)) | (apply r_pickF; (iterate 4 exact rfl)) | (apply r_idxS0; (iterate 4 exact rfl)) | (apply r_eql; (iterate 4 exact rfl); all_goals intro hc; all_goals try (exfalso; omega)) | refine JX.thenR ?_ | refine JC.skip ?_ | refine JC.ret ?_ | refine JC.condT rfl ?_ | refine JC.condF rfl ?_ | refine JX.blockN ?_ | refine JX.blockR ?_))
      · exact JX.ret1 rfl (fun _ w' st => ⟨st.kp, IsB.f (hxk _ hx (by have : x = 0 := UInt8.toNat.inj (by simpa using hc); subst this; rfl))⟩)
      · exact JX.roundH (k + 1) ⟨by omega, hnx _ hx (by have : x ≠ 0 := fun e => hc (by subst e; rfl); simp [badW, this])⟩ (by dsimp only; omega) (by repeat first | exact trivial | refine ⟨rfl, ?_⟩) (HSub.nil _)
  · (repeat' (first | refine JC.seq ?_ | refine JC.ops ?_ | refine JO.nil ?_ | refine JX.thenN ?_ | (apply r_move; (iterate 3 exact rfl)) | (apply r_assign; (iterate 3 exact rfl)) | (apply r_lenX; (iterate 3 exact rfl); (first | assumption | exact WX.rd (by assumption) rfl [] | exact OwnX.rd (by assumption))) | (apply r_lss; (iterate 4 exact rfl); all_goals intro hc; all_goals try (exfalso; omega)) | refine JX.thenE ?_ | refine JC.exit ?_ | refine JC.ret ?_ | refine JC.condF rfl ?_ | refine JX.blockE ?_))
    refine JX.ret1 rfl (fun a w' st => ⟨st.kp, IsB.t (canon_iff.2 ?_)⟩)
    rintro ⟨x, hx, hb⟩
    obtain ⟨j, hj, rfl⟩ := List.mem_iff_getElem.1 hx
    have := hpr j (by omega)
    rw [List.getD, List.getElem?_eq_getElem hj, Option.getD_some, hb] at this
    cases this

set_option maxHeartbeats 1000000 in
theorem c_refRight (w : World) (v : Value) (a : XM) (ha : IsX w v a) (hl : a.E.length < 1000000000) : Calls Tryd.prog 55 #[v] w (Ret fun v w' => Kp [] w w' ∧ IsB (RX a) v) := by
  obtain ⟨E, rfl, hE⟩ := ha
  by_cases hf : 0 ≤ a.R ∧ a.R ≤ 200 ∧ 0 ≤ a.C ∧ a.C ≤ 200
  · obtain ⟨R, C, xs⟩ := a
    obtain ⟨h1, h2, h3, h4⟩ := hf
    dsimp only at *
    obtain ⟨r, rfl⟩ := Int.eq_ofNat_of_zero_le h1
    obtain ⟨c, rfl⟩ := Int.eq_ofNat_of_zero_le h3
    have hr : r ≤ 200 := by omega
    have hc : c ≤ 200 := by omega
    have hrc := rcZ hr hc
    have hiff := RX.iff (E := xs) hr hc
    refine calls_of_S [] [] (by simp) [] Tryd.func55 rfl mixed (by kernel_rfl) Tryd.ntmps55 Tryd.results55 rfl ⟨by simp, by simp⟩ (by simp) ?_
    simp only [toS, textOps, toSOp, kindAt, kindOf, odAt, sopsAt, ordOf, zipF]
    have hR := WX.rd (c := ⟨Tryd.prog, 25, w, [], by simp⟩) hE rfl []
    (repeat' (first | refine JC.seq ?_ | refine JC.ops ?_ | refine JO.nil ?_ | refine JX.thenN ?_ | (apply r_fieldAddr; (iterate 3 exact rfl)) | (apply r_assign; (iterate 3 exact rfl)) | (apply r_load; (iterate 4 exact rfl); exact at0; exact rfl) | (apply r_boxA; (iterate 4 exact rfl); intro _)))
    refine r_call0 trivial rfl rfl rfl (fun w _ _ => c_refFits r c w) fun w v w' _ _ _ hv => ?_
    obtain ⟨b', rfl, hb⟩ := hv
    obtain rfl := hb.2 ⟨h1, h2, h3, h4⟩
    (repeat' (first | refine JC.seq ?_ | refine JC.ops ?_ | refine JO.nil ?_ | refine JX.thenN ?_ | (apply r_move; (iterate 3 exact rfl)) | (apply r_fieldAddr; (iterate 3 exact rfl)) | (apply r_assign; (iterate 3 exact rfl)) | (apply r_load; (iterate 4 exact rfl); exact at0; exact rfl) | (apply r_lenX; (iterate 3 exact rfl); (first | assumption | exact WX.rd (by assumption) rfl [] | exact OwnX.rd (by assumption))) | (apply r_mulN; (iterate 4 exact rfl); (first | assumption | omega)) | (apply r_pickF; (iterate 4 exact rfl)) | (apply r_not; (iterate 3 exact rfl)) | (apply r_neq; (iterate 4 exact rfl); all_goals intro hc; all_goals try (exfalso; omega)) | refine JX.thenR ?_ | refine JC.skip ?_ | refine JC.ret ?_ | refine JC.condT rfl ?_ | refine JC.condF rfl ?_))
    · exact JX.ret1 rfl (fun a w' st => ⟨st.kp, IsB.f (fun h => by have := (hiff.1 h).1; omega)⟩)
    · refine r_call0 trivial rfl rfl rfl (fun w' hk hs => c_refCanonical w' E _ _ (hE.mono hk) hl) fun w v w' _ _ _ hv => ?_
      obtain ⟨b', rfl, hb⟩ := hv
      (repeat' (first | refine JO.nil ?_ | refine JX.thenN ?_ | (apply r_assign; (iterate 3 exact rfl)) | refine JC.ret ?_))
      exact JX.ret1 rfl (fun a w' st => ⟨st.kp, b', rfl, hb.trans ⟨fun h => hiff.2 ⟨by omega, h⟩, fun h => (hiff.1 h).2⟩⟩)
  · refine calls_of_S [] [] (by simp) [] Tryd.func55 rfl mixed (by kernel_rfl) Tryd.ntmps55 Tryd.results55 rfl ⟨by simp, by simp⟩ (by simp) ?_
    simp only [toS, textOps, toSOp, kindAt, kindOf, odAt, sopsAt, ordOf, zipF]
    (repeat' (first | refine JC.seq ?_ | refine JC.ops ?_ | refine JO.nil ?_ | refine JX.thenN ?_ | (apply r_fieldAddr; (iterate 3 exact rfl)) | (apply r_assign; (iterate 3 exact rfl)) | (apply r_load; (iterate 4 exact rfl); exact at0; exact rfl) | (apply r_boxA; (iterate 4 exact rfl); intro _)))
    refine r_call0 trivial rfl rfl rfl (fun w _ _ => c_refFits a.R a.C w) fun w v w' _ _ _ hv => ?_
    obtain ⟨b', rfl, hb⟩ := hv
    cases b' with
    | true => exact absurd (hb.1 rfl) hf
    | false =>
      (repeat' (first | refine JC.seq ?_ | refine JC.ops ?_ | refine JO.nil ?_ | refine JX.thenN ?_ | (apply r_move; (iterate 3 exact rfl)) | (apply r_assign; (iterate 3 exact rfl)) | (apply r_pickT; (iterate 4 exact rfl)) | (apply r_not; (iterate 3 exact rfl)) | refine JX.thenR ?_ | refine JC.ret ?_ | refine JC.condT rfl ?_ | (apply r_skip; exact rfl; exact rfl; (first | (intro h; cases h; done) | (intro _; rfl)))))
      exact JX.ret1 rfl (fun a w' st => ⟨st.kp, IsB.f (fun h => hf h.fits)⟩)


theorem gives_z {w w' : World} {v : Value} (h : v = .tuple #[zeroM, .bool false]) : GivesMB zM false w v w' := ⟨[], zeroM, h, New.nil _ _, OwnM.zero⟩
theorem xm_len {m : ZM} (h : RtZ m) : m.xm.E.length < 1000000000 := by have := h.le; simp [ZM.xm]; omega

set_option maxHeartbeats 8000000 in
theorem c_refMul (K L : Nat) (w : World) (v u : Value) (m n : ZM) (hm : RtZ m) (hn : RtZ n) (hr : m.c = n.r) (hK : K + L ≤ 90000000) (hx : BdZ K m) (hy : BdZ L n) (hv : IsM w v m) (hu : IsM w u n) :
    Calls Tryd.prog 49 #[v, u] w (Ret fun v w' => Kp [] w w' ∧ GivesMB (mulZ m n) true w v w') := by
  have hvX := hv.x
  have huX := hu.x
  obtain ⟨E, rfl, hE⟩ := hv
  obtain ⟨E', rfl, hE'⟩ := hu
  have hle := hm.le
  have hle' := hn.le
  have hbr := hm.r
  have hbc := hm.c
  have hbc' := hn.c
  have hrc := rcZ hbr hbc'
  rw [hm.len] at hE
  rw [hn.len] at hE'
  refine calls_of_S [⟨19, 2, [], []⟩] [] (by simp) [] Tryd.func49 rfl mixed (by kernel_rfl) Tryd.ntmps49 Tryd.results49 rfl ⟨by simp, by simp⟩ (by simp) ?_
  simp only [toS, textOps, toSOp, kindAt, kindOf, odAt, sopsAt, ordOf, zipF]
  have hR := WZ.rd (c := ⟨Tryd.prog, 104, w, [], by simp⟩) hE rfl []
  have hR' := WZ.rd (c := ⟨Tryd.prog, 104, w, [], by simp⟩) hE' rfl []
  (repeat' (first | refine JC.seq ?_ | refine JC.ops ?_ | refine JO.nil ?_ | refine JX.thenN ?_ | (apply r_assign; (iterate 3 exact rfl)) | (apply r_loadN; (iterate 4 exact rfl); exact at2; exact rfl) | (apply r_allocZ; (iterate 3 exact rfl); intro _) | (apply r_boxA; (iterate 4 exact rfl); intro _)))
  rename_i b2 b3 b4
  refine r_call0 trivial rfl rfl rfl (fun w hk _ => c_refRight w _ m.xm (hvX.mono hk) (xm_len hm)) fun w v w' _ _ _ hc0 => ?_
  obtain ⟨b', rfl, hb⟩ := hc0
  obtain rfl := hb.2 hm.rx
  (repeat' (first | refine JC.seq ?_ | refine JC.ops ?_ | refine JO.nil ?_ | refine JX.thenN ?_ | (apply r_assign; (iterate 3 exact rfl)) | (apply r_loadN; (iterate 4 exact rfl); exact at1; exact rfl)))
  refine r_call0 trivial rfl rfl rfl (fun w hk _ => c_refRight w _ n.xm (huX.mono hk) (xm_len hn)) fun w v w' _ _ _ hc0 => ?_
  obtain ⟨b', rfl, hb'⟩ := hc0
  obtain rfl := hb'.2 hn.rx
  (repeat' (first | refine JC.seq ?_ | refine JC.ops ?_ | refine JO.nil ?_ | refine JX.thenN ?_ | (apply r_move; (iterate 3 exact rfl)) | (apply r_fieldAddr; (iterate 3 exact rfl)) | (apply r_assign; (iterate 3 exact rfl)) | (apply r_load; (iterate 4 exact rfl); (first | exact at1 | exact at2); exact rfl) | (apply r_pickF; (iterate 4 exact rfl)) | (apply r_not; (iterate 3 exact rfl)) | (apply r_neq; (iterate 4 exact rfl); all_goals intro hc; all_goals try (exfalso; omega)) | refine JC.skip ?_ | refine JC.condF rfl ?_))
  all_goals first
    | (exfalso; omega)
    | skip
  refine r_callA (A := [_, _, _]) (B := []) rfl (by first | trivial | exact ⟨rfl, rfl⟩) rfl rfl rfl (fun w _ _ => c_refZero m.r n.c hbr hbc' w) fun w v w' _ _ _ hR => ?_
  obtain ⟨N, Eo, hN, rfl, hO⟩ := hR
  obtain ⟨Ao, co, rfl⟩ := hO.form
  refine ⟨N, hN, ?_⟩
  (repeat' (first | refine JC.seq ?_ | refine JC.ops ?_ | refine JO.nil ?_ | refine JX.thenN ?_ | (apply r_assign; (iterate 3 exact rfl)) | (apply r_storeN; exact rfl; (first | exact trivial | exact ⟨rfl, rfl⟩); exact rfl; exact rfl; exact at0; (iterate 3 exact rfl)) | (apply r_allocZ; (iterate 3 exact rfl); intro _) | (apply r_storeN; exact rfl; (first | exact trivial | exact ⟨rfl, rfl⟩); exact rfl; exact rfl; exact at0; (iterate 3 exact rfl)) | refine JC.block ?_))
  rename_i b8
  refine JC.loopH (ι := Nat × SHeap) ⟨fun z => [(9, nv z.1), (2, .pointer (some ⟨b2, 0, none⟩)), (3, .pointer (some ⟨b3, 0, none⟩)), (4, .pointer (some ⟨b4, 0, none⟩)), (8, .pointer (some ⟨b8, 0, none⟩))],
    fun z => [(b8, .cells #[nv m.r, nv n.c, .slice Ao (m.r * n.c) co] 29), (b4, .cells #[iv 0, iv 0, .slice none 0 0] 29), (b3, .cells #[nv n.r, nv n.c, E'] 29), (b2, .cells #[nv m.r, nv m.c, E] 29)] ++ (z.2 ++ []),
    fun z => z.1 ≤ m.r ∧ OwnZ z.2 (.slice Ao (m.r * n.c) co) (m.r * n.c) (muE m n (List.range z.1)), fun z => m.r - z.1⟩ (0, N) ⟨by omega, by rw [show List.range 0 = [] from rfl, muE_zero]; exact hO⟩ (by repeat first | exact trivial | refine ⟨rfl, ?_⟩) (by (first | exact HSub.refl _ | (repeat' first | exact HSub.nil _ | exact HSub.refl _ | refine HSub.at 0 rfl ?_ | refine HSub.at 1 rfl ?_ | refine HSub.at 2 rfl ?_ | refine HSub.at 3 rfl ?_ | refine HSub.at 4 rfl ?_ | refine HSub.at 5 rfl ?_ | refine HSub.at 6 rfl ?_ | refine HSub.at 7 rfl ?_))) (fun z hz => ?_)
  clear hO
  obtain ⟨i, N⟩ := z
  obtain ⟨hi, hO⟩ := hz
  dsimp only at hi hO ⊢
  by_cases hii : i < m.r
  · have q1 : i * m.c ≤ 40000 := Nat.mul_le_mul (show i ≤ 200 by omega) hbc
    have q2 : i * n.c ≤ 40000 := Nat.mul_le_mul (show i ≤ 200 by omega) hbc'
    (repeat' (first | refine JC.seq ?_ | refine JC.ops ?_ | refine JO.nil ?_ | refine JX.thenN ?_ | (apply r_move; (iterate 3 exact rfl)) | (apply r_fieldAddr; (iterate 3 exact rfl)) | (apply r_assign; (iterate 3 exact rfl)) | (apply r_load; (iterate 4 exact rfl); exact at3; exact rfl) | (apply r_lss; (iterate 4 exact rfl); all_goals intro hc; all_goals try (exfalso; omega)) | refine JC.skip ?_ | refine JC.condT rfl ?_ | refine JC.block ?_))
    refine JC.loopH (ι := Nat × SHeap) ⟨fun z => [(10, nv z.1), (9, nv i), (2, .pointer (some ⟨b2, 0, none⟩)), (3, .pointer (some ⟨b3, 0, none⟩)), (4, .pointer (some ⟨b4, 0, none⟩)), (8, .pointer (some ⟨b8, 0, none⟩))],
      fun z => [(b8, .cells #[nv m.r, nv n.c, .slice Ao (m.r * n.c) co] 29), (b4, .cells #[iv 0, iv 0, .slice none 0 0] 29), (b3, .cells #[nv n.r, nv n.c, E'] 29), (b2, .cells #[nv m.r, nv m.c, E] 29)] ++ (z.2 ++ []),
      fun z => z.1 ≤ m.c ∧ OwnZ z.2 (.slice Ao (m.r * n.c) co) (m.r * n.c) (muS m n (List.range i) i (List.range z.1) 0 0), fun z => m.c - z.1⟩ (0, N) ⟨by omega, by rw [show List.range 0 = [] from rfl, muS_start]; exact hO⟩ (by repeat first | exact trivial | refine ⟨rfl, ?_⟩) (HSub.refl _) (fun z hz => ?_)
    clear hO
    obtain ⟨k, N⟩ := z
    obtain ⟨hk, hO⟩ := hz
    dsimp only at hk hO ⊢
    by_cases hkk : k < m.c
    · have hik := zx_lt hii hkk
      have q3 : k * n.c ≤ 40000 := Nat.mul_le_mul (show k ≤ 200 by omega) hbc'
      (repeat' (first | refine JC.seq ?_ | refine JC.ops ?_ | refine JO.nil ?_ | refine JX.thenN ?_ | (apply r_move; (iterate 3 exact rfl)) | (apply r_fieldAddr; (iterate 3 exact rfl)) | (apply r_assign; (iterate 3 exact rfl)) | (apply r_load; (iterate 4 exact rfl); (first | exact at0 | exact at3); exact rfl) | (apply r_idxZ; (iterate 4 exact rfl); (first | assumption | exact WZ.rd (by assumption) rfl [] | exact OwnZ.rd (by assumption)); (first | assumption | omega)) | (apply r_ldZ; (iterate 4 exact rfl); (first | assumption | exact WZ.rd (by assumption) rfl [] | exact OwnZ.rd (by assumption)); (repeat' first | exact HSub.nil _ | exact HSub.hd | exact HSub.in0 | exact HSub.refl _ | refine HSub.skip ?_ | refine HSub.skipN ?_); (first | assumption | omega)) | (apply r_addN; (iterate 4 exact rfl); omega) | (apply r_mulN; (iterate 4 exact rfl); (first | assumption | omega)) | (apply r_storeN; exact rfl; (first | exact trivial | exact ⟨rfl, rfl⟩); exact rfl; exact rfl; (first | exact at0 | exact at3); (iterate 3 exact rfl)) | (apply r_lss; (iterate 4 exact rfl); all_goals intro hc; all_goals try (exfalso; omega)) | (apply r_allocZ; (iterate 3 exact rfl); intro _) | (apply r_storeN; exact rfl; (first | exact trivial | exact ⟨rfl, rfl⟩); exact rfl; exact rfl; (first | exact at0 | exact at3); (iterate 3 exact rfl)) | refine JC.skip ?_ | refine JC.condT rfl ?_ | refine JC.block ?_))
      rename_i b11
      refine JC.loopH (ι := Nat × SHeap) ⟨fun z => [(12, nv z.1), (11, .pointer (some ⟨b11, 0, none⟩)), (10, nv k), (9, nv i), (2, .pointer (some ⟨b2, 0, none⟩)), (3, .pointer (some ⟨b3, 0, none⟩)), (4, .pointer (some ⟨b4, 0, none⟩)), (8, .pointer (some ⟨b8, 0, none⟩))],
        fun z => [(b11, .cells (wc (m.at i k)) 41), (b8, .cells #[nv m.r, nv n.c, .slice Ao (m.r * n.c) co] 29), (b4, .cells #[iv 0, iv 0, .slice none 0 0] 29), (b3, .cells #[nv n.r, nv n.c, E'] 29), (b2, .cells #[nv m.r, nv m.c, E] 29)] ++ (z.2 ++ []),
        fun z => z.1 ≤ n.c ∧ (m.at i k = 0 → z.1 = 0) ∧ OwnZ z.2 (.slice Ao (m.r * n.c) co) (m.r * n.c) (muS m n (List.range i) i (List.range k) k z.1), fun z => n.c - z.1⟩ (0, N) ⟨by omega, fun _ => rfl, by rw [muS_k m n (List.range i) i (List.range k) k 0]; exact hO⟩ (by repeat first | exact trivial | refine ⟨rfl, ?_⟩) (HSub.refl _) (fun z hz => ?_)
      clear hO
      obtain ⟨j, N⟩ := z
      obtain ⟨hj, hjz, hO⟩ := hz
      dsimp only at hj hjz hO ⊢
      by_cases hjj : j < n.c
      · have hkj := zx_lt (show k < n.r by omega) hjj
        have hij := zx_lt hii hjj
        (repeat' (first | refine JC.seq ?_ | refine JC.ops ?_ | refine JO.nil ?_ | refine JX.thenN ?_ | (apply r_move; (iterate 3 exact rfl)) | (apply r_fieldAddr; (iterate 3 exact rfl)) | (apply r_load; (iterate 4 exact rfl); (first | exact at0 | exact at3); exact rfl) | (apply r_pickT; (iterate 4 exact rfl)) | (apply r_neS; (iterate 4 exact rfl)) | (apply r_lss; (iterate 4 exact rfl); all_goals intro hc; all_goals try (exfalso; omega))))
        by_cases hz : m.at i k = 0
        · rw [show decide (magU (m.at i k).natAbs ≠ []) = false from decide_eq_false (fun h => h (magU_nil.2 (by omega)))]
          (repeat' (first | refine JC.ops ?_ | refine JO.nil ?_ | refine JX.thenN ?_ | (apply r_move; (iterate 3 exact rfl)) | (apply r_assign; (iterate 3 exact rfl)) | (apply r_add1; (iterate 4 exact rfl); omega) | refine JX.thenE ?_ | refine JC.exit ?_ | refine JC.condF rfl ?_ | refine JX.blockN ?_ | refine JX.blockE ?_))
          have hj0 : j = 0 := hjz hz
          subst hj0
          rw [muS_k m n (List.range i) i (List.range k) k 0, muS_jump hz, ← List.range_succ] at hO
          exact JX.roundH (k + 1, N) ⟨by dsimp only; omega, hO⟩ (by dsimp only; omega) (by repeat first | exact trivial | refine ⟨rfl, ?_⟩) (HSub.skip (HSub.refl _))
        · rw [show decide (magU (m.at i k).natAbs ≠ []) = true from decide_eq_true (fun h => hz (by have := magU_nil.1 h; omega))]
          (repeat' (first | refine JC.seq ?_ | refine JC.ops ?_ | refine JO.nil ?_ | refine JX.thenN ?_ | (apply r_move; (iterate 3 exact rfl)) | (apply r_fieldAddr; (iterate 3 exact rfl)) | (apply r_load; (iterate 4 exact rfl); (first | exact at0 | exact at3); exact rfl) | (apply r_idxZ; (iterate 4 exact rfl); (first | assumption | exact WZ.rd (by assumption) rfl [] | exact OwnZ.rd (by assumption)); (first | assumption | omega)) | (apply r_ldZ; (iterate 4 exact rfl); (first | assumption | exact WZ.rd (by assumption) rfl [] | exact OwnZ.rd (by assumption)); (repeat' first | exact HSub.nil _ | exact HSub.hd | exact HSub.in0 | exact HSub.refl _ | refine HSub.skip ?_ | refine HSub.skipN ?_); (first | assumption | omega)) | (apply r_addN; (iterate 4 exact rfl); omega) | (apply r_mulN; (iterate 4 exact rfl); (first | assumption | omega)) | (apply r_storeN; exact rfl; (first | exact trivial | exact ⟨rfl, rfl⟩); exact rfl; exact rfl; (first | exact at0 | exact at3); (iterate 3 exact rfl)) | (apply r_neS; (iterate 4 exact rfl)) | (apply r_allocZ; (iterate 3 exact rfl); intro _) | (apply r_storeN; exact rfl; (first | exact trivial | exact ⟨rfl, rfl⟩); exact rfl; exact rfl; (first | exact at0 | exact at3); (iterate 3 exact rfl)) | refine JC.skip ?_ | refine JC.condT rfl ?_ | refine JC.block ?_))
          rename_i b13
          by_cases hz2 : n.at k j = 0
          · rw [show decide (magU (n.e.getD (k * n.c + j) 0).natAbs ≠ []) = false from decide_eq_false (fun h => h (magU_nil.2 (by have : n.e.getD (k * n.c + j) 0 = 0 := hz2; omega)))]
            (repeat' (first | refine JC.ops ?_ | refine JO.nil ?_ | refine JX.thenN ?_ | (apply r_move; (iterate 3 exact rfl)) | (apply r_assign; (iterate 3 exact rfl)) | (apply r_add1; (iterate 4 exact rfl); omega) | refine JC.skip ?_ | refine JC.condF rfl ?_ | refine JX.blockN ?_))
            rw [muS_skip (by rw [hz2, Int.mul_zero])] at hO
            exact JX.roundH (j + 1, N) ⟨by dsimp only; omega, fun h => absurd h hz, hO⟩ (by dsimp only; omega) (by repeat first | exact trivial | refine ⟨rfl, ?_⟩) (HSub.skip (HSub.refl _))
          · rw [show decide (magU (n.e.getD (k * n.c + j) 0).natAbs ≠ []) = true from decide_eq_true (fun h => hz2 (by have := magU_nil.1 h; show n.e.getD (k * n.c + j) 0 = 0; omega))]
            (repeat' (first | refine JC.seq ?_ | refine JC.ops ?_ | refine JC.opsD ?_ | refine JO.nil ?_ | refine JX.thenN ?_ | (apply r_move; (iterate 3 exact rfl)) | (apply r_fieldAddr; (iterate 3 exact rfl)) | (apply r_assign; (iterate 3 exact rfl)) | (apply r_load; (iterate 4 exact rfl); (first | exact at0 | exact at1 | exact at2 | exact at4); exact rfl) | (apply r_loadN; (iterate 4 exact rfl); (first | exact at0 | exact at1 | exact at2 | exact at4); exact rfl) | (apply r_idxZ; (iterate 4 exact rfl); (first | assumption | exact WZ.rd (by assumption) rfl [] | exact OwnZ.rd (by assumption)); (first | assumption | omega)) | (apply r_ldZ; (iterate 4 exact rfl); (first | assumption | exact WZ.rd (by assumption) rfl [] | exact OwnZ.rd (by assumption)); (repeat' first | exact HSub.nil _ | exact HSub.hd | exact HSub.in0 | exact HSub.refl _ | refine HSub.skip ?_ | refine HSub.skipN ?_); (first | assumption | omega)) | (apply r_addN; (iterate 4 exact rfl); omega) | (apply r_mulN; (iterate 4 exact rfl); (first | assumption | omega)) | refine JC.condT rfl ?_))
            refine r_call0 (by first | trivial | exact ⟨rfl, rfl⟩) rfl rfl rfl (fun w _ _ => c_MulR w _ _ (m.at i k) (n.at k j) (K + L) (IsZ.can (bd_up (hx.at i k) (by omega))) (IsZ.can (bd_up (hy.at k j) (by omega))) (by omega)) fun w v w' _ _ _ hR => ?_
            subst hR
            skip
            have es : (muS m n (List.range i) i (List.range k) k j).getD (i * n.c + j) 0 = muF m n (List.range i) i (List.range k) k j i j := enz_tbz hii hjj
            refine r_call0 (by first | trivial | exact ⟨rfl, rfl⟩) rfl rfl rfl (fun w _ _ => c_AddR w _ _ ((muS m n (List.range i) i (List.range k) k j).getD (i * n.c + j) 0) (m.at i k * n.at k j) (K + L + 2) (IsZ.can (by rw [es]; exact muF_bd hbc hx hy (by simp; omega) (by simp; omega))) (IsZ.can (bd_up (mul_bd (hx.at i k) (hy.at k j)) (by omega))) (by omega)) fun w v w' _ _ _ hR => ?_
            subst hR
            (repeat' (first | (apply r_idxZ; (iterate 4 exact rfl); (first | assumption | exact WZ.rd (by assumption) rfl [] | exact OwnZ.rd (by assumption)); (first | assumption | omega))))
            refine r_stZ (A := [_, _, _, _, _, _]) hO rfl rfl (by first | trivial | exact ⟨rfl, rfl⟩) rfl rfl hij (fun N' hO' => ?_)
            rw [show (muS m n (List.range i) i (List.range k) k j).getD (i * n.c + j) 0 = enz n.c (muS m n (List.range i) i (List.range k) k j) i j from rfl, muS_set hii hjj] at hO'
            (repeat' (first | refine JC.ops ?_ | refine JO.nil ?_ | refine JX.thenN ?_ | (apply r_move; (iterate 3 exact rfl)) | (apply r_assign; (iterate 3 exact rfl)) | (apply r_add1; (iterate 4 exact rfl); omega) | refine JX.blockN ?_))
            exact JX.roundH (j + 1, N') ⟨by dsimp only; omega, fun h => absurd h hz, hO'⟩ (by dsimp only; omega) (by repeat first | exact trivial | refine ⟨rfl, ?_⟩) (HSub.skip (HSub.refl _))
      · (repeat' (first | refine JC.seq ?_ | refine JC.ops ?_ | refine JO.nil ?_ | refine JX.thenN ?_ | (apply r_move; (iterate 3 exact rfl)) | (apply r_fieldAddr; (iterate 3 exact rfl)) | (apply r_assign; (iterate 3 exact rfl)) | (apply r_load; (iterate 4 exact rfl); exact at3; exact rfl) | (apply r_add1; (iterate 4 exact rfl); omega) | (apply r_pickF; (iterate 4 exact rfl)) | (apply r_lss; (iterate 4 exact rfl); all_goals intro hc; all_goals try (exfalso; omega)) | refine JX.thenE ?_ | refine JC.exit ?_ | refine JC.condF rfl ?_ | refine JX.blockN ?_ | refine JX.blockE ?_ | (apply r_skip; exact rfl; exact rfl; (first | (intro h; cases h; done) | (intro _; rfl)))))
        obtain rfl : j = n.c := by omega
        rw [muS_next, ← List.range_succ] at hO
        exact JX.roundH (k + 1, N) ⟨by dsimp only; omega, hO⟩ (by dsimp only; omega) (by repeat first | exact trivial | refine ⟨rfl, ?_⟩) (HSub.skip (HSub.refl _))
    · (repeat' (first | refine JC.seq ?_ | refine JC.ops ?_ | refine JO.nil ?_ | refine JX.thenN ?_ | (apply r_move; (iterate 3 exact rfl)) | (apply r_fieldAddr; (iterate 3 exact rfl)) | (apply r_assign; (iterate 3 exact rfl)) | (apply r_load; (iterate 4 exact rfl); exact at3; exact rfl) | (apply r_add1; (iterate 4 exact rfl); omega) | (apply r_lss; (iterate 4 exact rfl); all_goals intro hc; all_goals try (exfalso; omega)) | refine JX.thenE ?_ | refine JC.exit ?_ | refine JC.condF rfl ?_ | refine JX.blockN ?_ | refine JX.blockE ?_))
      obtain rfl : k = m.c := by omega
      rw [muS_row, ← List.range_succ] at hO
      exact JX.roundH (i + 1, N) ⟨by dsimp only; omega, hO⟩ (by dsimp only; omega) (by repeat first | exact trivial | refine ⟨rfl, ?_⟩) (HSub.refl _)
  · (repeat' (first | refine JC.seq ?_ | refine JC.ops ?_ | refine JO.nil ?_ | refine JX.thenN ?_ | (apply r_move; (iterate 3 exact rfl)) | (apply r_fieldAddr; (iterate 3 exact rfl)) | (apply r_assign; (iterate 3 exact rfl)) | (apply r_load; (iterate 4 exact rfl); (first | exact at0 | exact at1 | exact at3); exact rfl) | (apply r_loadN; (iterate 4 exact rfl); (first | exact at0 | exact at1 | exact at3); exact rfl) | (apply r_storeN; exact rfl; (first | exact trivial | exact ⟨rfl, rfl⟩); exact rfl; exact rfl; (first | exact at0 | exact at1 | exact at3); (iterate 3 exact rfl)) | (apply r_lss; (iterate 4 exact rfl); all_goals intro hc; all_goals try (exfalso; omega)) | (apply r_storeN; exact rfl; (first | exact trivial | exact ⟨rfl, rfl⟩); exact rfl; exact rfl; (first | exact at0 | exact at1 | exact at3); (iterate 3 exact rfl)) | refine JX.thenE ?_ | refine JC.exit ?_ | refine JC.ret ?_ | refine JC.condF rfl ?_ | refine JX.blockE ?_))
    obtain rfl : i = m.r := by omega
    rw [muE_end] at hO
    exact JX.retCT 1 rfl rfl rfl rfl (fun a w' st => ⟨st.kp, N, _, rfl, st.newOf rfl (by (repeat' first | exact HSub.nil _ | exact HSub.hd | exact HSub.in0 | exact HSub.refl _ | refine HSub.skip ?_ | refine HSub.skipN ?_)), OwnM.mk' hO⟩)

set_option maxHeartbeats 1000000 in
theorem c_refMulF (w : World) (v u : Value) (a b : XM) (h : ¬ (RX a ∧ RX b ∧ a.C = b.R)) (ha : IsX w v a) (hb : IsX w u b) (hl : a.E.length < 1000000000) (hl' : b.E.length < 1000000000) :
    Calls Tryd.prog 49 #[v, u] w (Ret fun v w' => Kp [] w w' ∧ v = .tuple #[zeroM, .bool false]) := by
  have ha0 := ha
  have hb0 := hb
  obtain ⟨E, rfl, hE⟩ := ha
  obtain ⟨E', rfl, hE'⟩ := hb
  refine calls_of_S [⟨19, 2, [], []⟩] [] (by simp) [] Tryd.func49 rfl mixed (by kernel_rfl) Tryd.ntmps49 Tryd.results49 rfl ⟨by simp, by simp⟩ (by simp) ?_
  simp only [toS, textOps, toSOp, kindAt, kindOf, odAt, sopsAt, ordOf, zipF]
  (repeat' (first | refine JC.seq ?_ | refine JC.ops ?_ | refine JO.nil ?_ | refine JX.thenN ?_ | (apply r_assign; (iterate 3 exact rfl)) | (apply r_loadN; (iterate 4 exact rfl); exact at2; exact rfl) | (apply r_allocZ; (iterate 3 exact rfl); intro _) | (apply r_boxA; (iterate 4 exact rfl); intro _)))
  refine r_call0 trivial rfl rfl rfl (fun w hk _ => c_refRight w _ a (ha0.mono hk) hl) fun w v w' _ _ _ hc0 => ?_
  obtain ⟨b1, rfl, hb1⟩ := hc0
  (repeat' (first | refine JC.seq ?_ | refine JC.ops ?_ | refine JO.nil ?_ | refine JX.thenN ?_ | (apply r_assign; (iterate 3 exact rfl)) | (apply r_loadN; (iterate 4 exact rfl); exact at1; exact rfl)))
  refine r_call0 trivial rfl rfl rfl (fun w hk _ => c_refRight w _ b (hb0.mono hk) hl') fun w v w' _ _ _ hc0 => ?_
  obtain ⟨b2, rfl, hb2⟩ := hc0
  cases b1 with
  | false =>
    (repeat' (first | refine JC.seq ?_ | refine JC.ops ?_ | refine JO.nil ?_ | refine JX.thenN ?_ | (apply r_move; (iterate 3 exact rfl)) | (apply r_assign; (iterate 3 exact rfl)) | (apply r_pickT; (iterate 4 exact rfl)) | (apply r_not; (iterate 3 exact rfl)) | (apply r_storeN; exact rfl; (first | exact trivial | exact ⟨rfl, rfl⟩); exact rfl; exact rfl; exact at0; (iterate 3 exact rfl)) | (apply r_buildL; (iterate 5 exact rfl)) | (apply r_storeN; exact rfl; (first | exact trivial | exact ⟨rfl, rfl⟩); exact rfl; exact rfl; exact at0; (iterate 3 exact rfl)) | refine JX.thenR ?_ | refine JC.ret ?_ | refine JC.condT rfl ?_ | (apply r_skip; exact rfl; exact rfl; (first | (intro h; cases h; done) | (intro _; rfl)))))
    exact JX.retCT 0 rfl rfl rfl rfl (fun a w' st => ⟨st.kp, rfl⟩)
  | true =>
    cases b2 with
    | false =>
      (repeat' (first | refine JC.seq ?_ | refine JC.ops ?_ | refine JO.nil ?_ | refine JX.thenN ?_ | (apply r_move; (iterate 3 exact rfl)) | (apply r_assign; (iterate 3 exact rfl)) | (apply r_pickT; (iterate 4 exact rfl)) | (apply r_pickF; (iterate 4 exact rfl)) | (apply r_not; (iterate 3 exact rfl)) | (apply r_storeN; exact rfl; (first | exact trivial | exact ⟨rfl, rfl⟩); exact rfl; exact rfl; exact at0; (iterate 3 exact rfl)) | (apply r_buildL; (iterate 5 exact rfl)) | (apply r_storeN; exact rfl; (first | exact trivial | exact ⟨rfl, rfl⟩); exact rfl; exact rfl; exact at0; (iterate 3 exact rfl)) | refine JX.thenR ?_ | refine JC.ret ?_ | refine JC.condT rfl ?_ | (apply r_skip; exact rfl; exact rfl; (first | (intro h; cases h; done) | (intro _; rfl)))))
      exact JX.retCT 0 rfl rfl rfl rfl (fun a w' st => ⟨st.kp, rfl⟩)
    | true =>
      have g1 := (hb1.1 rfl).fits
      have g2 := (hb2.1 rfl).fits
      (repeat' (first | refine JC.seq ?_ | refine JC.ops ?_ | refine JO.nil ?_ | refine JX.thenN ?_ | (apply r_move; (iterate 3 exact rfl)) | (apply r_fieldAddr; (iterate 3 exact rfl)) | (apply r_assign; (iterate 3 exact rfl)) | (apply r_load; (iterate 4 exact rfl); (first | exact at0 | exact at1 | exact at2); exact rfl) | (apply r_pickF; (iterate 4 exact rfl)) | (apply r_not; (iterate 3 exact rfl)) | (apply r_storeN; exact rfl; (first | exact trivial | exact ⟨rfl, rfl⟩); exact rfl; exact rfl; (first | exact at0 | exact at1 | exact at2); (iterate 3 exact rfl)) | (apply r_neq; (iterate 4 exact rfl); all_goals intro hc; all_goals try (exfalso; omega)) | (apply r_buildL; (iterate 5 exact rfl)) | (apply r_storeN; exact rfl; (first | exact trivial | exact ⟨rfl, rfl⟩); exact rfl; exact rfl; (first | exact at0 | exact at1 | exact at2); (iterate 3 exact rfl)) | refine JX.thenR ?_ | refine JC.skip ?_ | refine JC.ret ?_ | refine JC.condT rfl ?_ | refine JC.condF rfl ?_))
      all_goals first
        | exact JX.retCT 0 rfl rfl rfl rfl (fun a w' st => ⟨st.kp, rfl⟩)
        | (exfalso; exact h ⟨hb1.1 rfl, hb2.1 rfl, by omega⟩)

open Classical in
open Classical in
noncomputable def mulA (m n : ZM) : ZM × Bool := if m.c = n.r then (mulZ m n, true) else (zM, false)
theorem RtZ.zM : RtZ zM := ⟨by decide, by decide, rfl⟩
theorem mul_xm {m n : ZM} (h : ¬ m.c = n.r) : ¬ (RX m.xm ∧ RX n.xm ∧ m.xm.C = n.xm.R) := fun ⟨_, _, h1⟩ => h (by simp only [ZM.xm] at h1; omega)
theorem c_MulA (K L : Nat) (w : World) (v u : Value) (m n : ZM) (hm : RtZ m) (hn : RtZ n) (hK : K + L ≤ 90000000) (hx : BdZ K m) (hy : BdZ L n) (hv : IsM w v m) (hu : IsM w u n) :
    Calls Tryd.prog 25 #[v, u] w (Ret fun v w' => Kp [] w w' ∧ GivesMB (mulA m n).1 (mulA m n).2 w v w') := by
  by_cases h : m.c = n.r
  · rw [show mulA m n = (mulZ m n, true) from if_pos h]
    exact c_MMul K L w v u m n hm hn h hK hx hy hv hu
  · rw [show mulA m n = (zM, false) from if_neg h]
    exact calls_mono (c_MMulF w v u m.xm n.xm (mul_xm h) hv.x hu.x (xm_len hm) (xm_len hn)) fun v w' h => ⟨h.1, gives_z h.2⟩


theorem own_oneZ (b : Nat) (z : Int) : OwnZ [(b, .cells ⟨[.bool (wz z).1, sv (wz z).2]⟩ 41)] (.slice (some ⟨b, 0, none⟩) 1 1) 1 [z] := by
  have h := OwnRow.mk' (e := 41) (sz := 2) (n := 1) (b := b) (cs := ⟨[.bool (wz z).1, sv (wz z).2]⟩) (by simp) (by simp only [maxLen]; omega)
  exact h

set_option maxHeartbeats 2000000 in
theorem c_Numbers (w : World) (v : Value) (n : Nat) (L : List Int) (hv : WI w v n L) (hn : n ≤ 1000) (hI : ∀ i, I64 (L.getD i 0)) :
    Calls Tryd.prog 30 #[v] w (Ret fun v w' => Kp [] w w' ∧ ∃ N, New N w w' ∧ OwnZ N v n L) := by
  have hlen : L.length = n := by simpa using hv.1
  refine calls_of_S [] [] (by simp) [] Tryd.func30 rfl mixed (by kernel_rfl) Tryd.ntmps30 Tryd.results30 rfl ⟨by simp, by simp⟩ (by simp) ?_
  simp only [toS, textOps, toSOp, kindAt, kindOf, odAt, sopsAt, ordOf, zipF]
  have hR : RdI ⟨Tryd.prog, 20, w, [], by simp⟩ [] v n L := hv.rd rfl []
  (repeat' (first | refine JC.seq ?_ | refine JC.ops ?_ | refine JO.nil ?_ | refine JX.thenN ?_ | (apply r_assign; (iterate 3 exact rfl)) | refine JC.block ?_))
  refine JC.loopH (ι := Nat × SHeap × Value) ⟨fun z => [(4, nv z.1), (3, z.2.2), (0, v)], fun z => z.2.1 ++ [],
    fun z => z.1 ≤ n ∧ OwnZ z.2.1 z.2.2 z.1 (L.take z.1), fun z => n - z.1⟩ (0, [], .slice none 0 0) ⟨by omega, by simpa using OwnZ.nil⟩ (by repeat first | exact trivial | refine ⟨rfl, ?_⟩) (HSub.nil _) (fun z hz => ?_)
  obtain ⟨k, N, vo⟩ := z
  obtain ⟨hk, hO⟩ := hz
  dsimp only at hk hO ⊢
  obtain ⟨Ao, co, rfl⟩ := hO.form
  by_cases hkk : k < n
  · have hIk := hI k
    (repeat' (first | refine JC.seq ?_ | refine JC.ops ?_ | refine JO.nil ?_ | refine JX.thenN ?_ | (apply r_move; (iterate 3 exact rfl)) | (apply r_idxI; (iterate 4 exact rfl); (first | assumption | exact WI.rd (by assumption) rfl [] | exact OwnI.rd (by assumption)); (first | assumption | omega)) | (apply r_ldI; (iterate 4 exact rfl); (first | assumption | exact WI.rd (by assumption) rfl [] | exact OwnI.rd (by assumption)); (repeat' first | exact HSub.nil _ | exact HSub.hd | exact HSub.in0 | exact HSub.refl _ | refine HSub.skip ?_ | refine HSub.skipN ?_); (first | assumption | omega)) | (apply r_lenI; (iterate 3 exact rfl); (first | assumption | exact WI.rd (by assumption) rfl [] | exact OwnI.rd (by assumption))) | (apply r_lss; (iterate 4 exact rfl); all_goals intro hc; all_goals try (exfalso; omega)) | refine JC.skip ?_ | refine JC.condT rfl ?_ | refine JC.block ?_))
    refine r_call0 (by first | trivial | exact ⟨rfl, rfl⟩) rfl rfl rfl (fun w _ _ => c_FromR w (L.getD k 0) hIk.1 hIk.2) fun w v w' _ _ _ hR => ?_
    subst hR
    skip
    refine r_buildG (sz := 2) (vs := [Wv (L.getD k 0)]) (cl := [.bool (wz (L.getD k 0)).1, sv (wz (L.getD k 0)).2]) rfl rfl (by first | rfl | trivial | exact ⟨rfl, rfl⟩) rfl rfl (fun v hv => by
      cases List.mem_singleton.1 hv; rfl) rfl (by decide) (by decide) (fun b => ?_)
    have h1 := own_oneZ b (L.getD k 0)
    skip
    refine r_appendZ (A := [_]) (B := []) hO h1.rd (by (repeat' first | exact HSub.nil _ | exact HSub.hd | exact HSub.in0 | exact HSub.refl _ | refine HSub.skip ?_ | refine HSub.skipN ?_)) rfl (by first | trivial | exact ⟨rfl, rfl⟩) rfl rfl rfl rfl (by omega) (fun v' N' hO' => ?_)
    rw [show L.take k ++ [L.getD k 0] = L.take (k + 1) by
      rw [List.take_add_one, gD_lt (d := 0) (by omega)]; rfl] at hO'
    (repeat' (first | refine JC.ops ?_ | refine JO.nil ?_ | refine JX.thenN ?_ | (apply r_move; (iterate 3 exact rfl)) | (apply r_assign; (iterate 3 exact rfl)) | (apply r_add1; (iterate 4 exact rfl); omega) | refine JX.blockN ?_))
    exact JX.roundH (k + 1, N', v') ⟨by dsimp only; omega, hO'⟩ (by dsimp only; omega) (by repeat first | exact trivial | refine ⟨rfl, ?_⟩) (by exact HSub.skip (HSub.refl _))
  · (repeat' (first | refine JC.seq ?_ | refine JC.ops ?_ | refine JO.nil ?_ | refine JX.thenN ?_ | (apply r_move; (iterate 3 exact rfl)) | (apply r_assign; (iterate 3 exact rfl)) | (apply r_lenI; (iterate 3 exact rfl); (first | assumption | exact WI.rd (by assumption) rfl [] | exact OwnI.rd (by assumption))) | (apply r_lss; (iterate 4 exact rfl); all_goals intro hc; all_goals try (exfalso; omega)) | refine JX.thenE ?_ | refine JC.exit ?_ | refine JC.ret ?_ | refine JC.condF rfl ?_ | refine JX.blockE ?_))
    obtain rfl : k = n := by omega
    rw [← hlen, List.take_length, hlen] at hO
    exact JX.ret1 rfl (fun a w' st => ⟨st.kp, N, st.newOf rfl (by (repeat' first | exact HSub.nil _ | exact HSub.hd | exact HSub.in0 | exact HSub.refl _ | refine HSub.skip ?_ | refine HSub.skipN ?_)), hO⟩)

open Classical in
noncomputable def applyA (m : ZM) (xs : List WR) : List Int × Bool := if h : Canon xs ∧ m.c = xs.length then ((mulZ m (colZ h.1.choose)).e, true) else ([], false)
def GivesLB (zs : List Int) (b : Bool) (w : World) (v : Value) (w' : World) : Prop := ∃ N E, New N w w' ∧ v = .tuple #[E, .bool b] ∧ OwnZ N E zs.length zs
theorem GivesLB.nil {w w' : World} {v : Value} (h : v = .tuple #[.slice none 0 0, .bool false]) : GivesLB [] false w v w' := ⟨[], _, New.nil _ _, h, OwnZ.nil⟩
theorem applyA_f {m : ZM} {xs : List WR} (h : ¬ (Canon xs ∧ m.c = xs.length)) : applyA m xs = ([], false) := dif_neg h
theorem applyA_t {m : ZM} {zs : List Int} (h : m.c = zs.length) : applyA m (zs.map wz) = ((mulZ m (colZ zs)).e, true) := by
  have h2 : Canon (zs.map wz) ∧ m.c = (zs.map wz).length := ⟨⟨zs, rfl⟩, by simpa using h⟩
  unfold applyA
  rw [dif_pos h2]
  have h3 := map_wz_inj h2.1.choose_spec
  rw [← h3]
theorem BdL.of {L : Nat} {zs : List Int} (h : ∀ i, (zs.getD i 0).natAbs < 256 ^ L) : BdL L zs := h

theorem c_ApplyA (K L : Nat) (w : World) (v u : Value) (m : ZM) (xs : List WR) (hm : RtZ m) (hn : xs.length ≤ 1000) (hK : K + L ≤ 90000000) (hx : BdZ K m) (hy : ∀ zs, xs = zs.map wz → BdL L zs) (hv : IsM w v m) (hu : WX w u xs.length xs) :
    Calls Tryd.prog 31 #[v, u] w (Ret fun v w' => Kp [] w w' ∧ GivesLB (applyA m xs).1 (applyA m xs).2 w v w') := by
  by_cases h : Canon xs ∧ m.c = xs.length
  · obtain ⟨⟨zs, rfl⟩, h2⟩ := h
    have h3 : m.c = zs.length := by simpa using h2
    rw [applyA_t h3]
    have hu' : WZ w u zs.length zs := by rw [List.length_map] at hu; exact hu
    exact calls_mono (c_Apply K L w v u m zs hm h3 hK hx (hy zs rfl) hv hu') fun v w' h => ⟨h.1, h.2⟩
  · rw [applyA_f h]
    exact calls_mono (c_ApplyF w v u m xs.length xs hm h hn hv hu) fun v w' h => ⟨h.1, GivesLB.nil h.2⟩

set_option maxHeartbeats 2000000 in
theorem c_refApply (K L : Nat) (w : World) (v u : Value) (m : ZM) (zs : List Int) (hm : RtZ m) (hl : zs.length ≤ 200) (hr : m.c = zs.length) (hK : K + L ≤ 90000000) (hx : BdZ K m) (hy : BdL L zs) (hv : IsM w v m) (hu : WZ w u zs.length zs) :
    Calls Tryd.prog 32 #[v, u] w (Ret fun v w' => Kp [] w w' ∧ GivesLB (mulZ m (colZ zs)).e true w v w') := by
  have hv0 := hv
  obtain ⟨E, rfl, hE⟩ := hv
  refine calls_of_S [] [] (by simp) [] Tryd.func32 rfl mixed (by kernel_rfl) Tryd.ntmps32 Tryd.results32 rfl ⟨by simp, by simp⟩ (by simp) ?_
  simp only [toS, textOps, toSOp, kindAt, kindOf, odAt, sopsAt, ordOf, zipF]
  have hR := WZ.rd (c := ⟨Tryd.prog, 30, w, [], by simp⟩) hu rfl []
  obtain ⟨A, cap, rfl⟩ := hu.form
  (repeat' (first | refine JC.seq ?_ | refine JC.ops ?_ | refine JO.nil ?_ | refine JX.thenN ?_ | (apply r_move; (iterate 3 exact rfl)) | (apply r_assign; (iterate 3 exact rfl)) | (apply r_boxA; (iterate 4 exact rfl); intro _)))
  rename_i b2
  refine r_call0 trivial rfl rfl rfl (fun w hk _ => c_refCanonical w _ zs.length (zs.map wz) (hu.mono hk) (by omega)) fun w v w' _ _ _ hc0 => ?_
  obtain ⟨b', rfl, hb⟩ := hc0
  obtain rfl := hb.2 ⟨zs, rfl⟩
  (repeat' (first | refine JC.seq ?_ | refine JC.ops ?_ | refine JO.nil ?_ | refine JX.thenN ?_ | (apply r_move; (iterate 3 exact rfl)) | (apply r_assign; (iterate 3 exact rfl)) | (apply r_loadN; (iterate 4 exact rfl); exact at0; exact rfl) | (apply r_lenZ; (iterate 3 exact rfl); (first | assumption | exact WZ.rd (by assumption) rfl [] | exact OwnZ.rd (by assumption))) | (apply r_pickF; (iterate 4 exact rfl)) | (apply r_not; (iterate 3 exact rfl)) | (apply r_gtr; (iterate 4 exact rfl); all_goals intro hc; all_goals try (exfalso; omega)) | (apply r_buildL; (iterate 5 exact rfl)) | refine JC.skip ?_ | refine JC.condF rfl ?_))
  all_goals first
    | (exfalso; omega)
    | skip
  refine r_callA (A := [_]) (B := []) rfl (by first | trivial | exact ⟨rfl, rfl⟩) rfl rfl rfl (fun w hk _ => c_refMul K L w _ _ m (colZ zs) hm (colZ_rt (by omega)) hr hK hx hy (hv0.mono hk) ⟨_, rfl, hu.mono hk⟩) fun w v w' _ _ _ hR => ?_
  obtain ⟨N, u, rfl, hN, hO⟩ := hR
  obtain ⟨Eo, rfl, hO⟩ := hO
  obtain ⟨A2, c2, rfl⟩ := hO.form
  refine ⟨N, hN, ?_⟩
  (repeat' (first | refine JC.seq ?_ | refine JC.ops ?_ | refine JO.nil ?_ | refine JX.thenN ?_ | (apply r_move; (iterate 3 exact rfl)) | (apply r_fieldAddr; (iterate 3 exact rfl)) | (apply r_assign; (iterate 3 exact rfl)) | (apply r_load; (iterate 4 exact rfl); exact at0; exact rfl) | (apply r_extract; (iterate 4 exact rfl)) | (apply r_storeN; exact rfl; (first | exact trivial | exact ⟨rfl, rfl⟩); exact rfl; exact rfl; exact at0; (iterate 3 exact rfl)) | (apply r_allocZ; (iterate 3 exact rfl); intro _) | (apply r_storeN; exact rfl; (first | exact trivial | exact ⟨rfl, rfl⟩); exact rfl; exact rfl; exact at0; (iterate 3 exact rfl)) | refine JC.ret ?_))
  exact JX.ret2 rfl rfl (fun a w' st => ⟨st.kp, N, _, st.newOf rfl (by simp only [List.append_nil]; exact HSub.skip (HSub.skip (HSub.refl _))), rfl, hO⟩)

set_option maxHeartbeats 2000000 in
theorem c_refApplyF (w : World) (v u : Value) (m : ZM) (n : Nat) (xs : List WR) (hm : RtZ m) (h : ¬ (Canon xs ∧ m.c = n)) (hn : n ≤ 1000) (hv : IsM w v m) (hu : WX w u n xs) :
    Calls Tryd.prog 32 #[v, u] w (Ret fun v w' => Kp [] w w' ∧ v = .tuple #[.slice none 0 0, .bool false]) := by
  have hvX := hv.x
  obtain ⟨E, rfl, hE⟩ := hv
  have hle := hm.le
  have hl := hu.len
  have hbc := hm.c
  refine calls_of_S [] [] (by simp) [] Tryd.func32 rfl mixed (by kernel_rfl) Tryd.ntmps32 Tryd.results32 rfl ⟨by simp, by simp⟩ (by simp) ?_
  simp only [toS, textOps, toSOp, kindAt, kindOf, odAt, sopsAt, ordOf, zipF]
  have hR := WX.rd (c := ⟨Tryd.prog, 30, w, [], by simp⟩) hu rfl []
  obtain ⟨A, cap, rfl⟩ := hu.form
  (repeat' (first | refine JC.seq ?_ | refine JC.ops ?_ | refine JO.nil ?_ | refine JX.thenN ?_ | (apply r_move; (iterate 3 exact rfl)) | (apply r_assign; (iterate 3 exact rfl)) | (apply r_boxA; (iterate 4 exact rfl); intro _)))
  rename_i b2
  refine r_call0 trivial rfl rfl rfl (fun w hk _ => c_refCanonical w _ n xs (hu.mono hk) (by omega)) fun w v w' _ _ _ hc0 => ?_
  obtain ⟨b', rfl, hb⟩ := hc0
  cases b' with
  | false =>
    (repeat' (first | refine JC.seq ?_ | refine JC.ops ?_ | refine JO.nil ?_ | refine JX.thenN ?_ | (apply r_move; (iterate 3 exact rfl)) | (apply r_assign; (iterate 3 exact rfl)) | (apply r_pickT; (iterate 4 exact rfl)) | (apply r_not; (iterate 3 exact rfl)) | refine JX.thenR ?_ | refine JC.ret ?_ | refine JC.condT rfl ?_ | (apply r_skip; exact rfl; exact rfl; (first | (intro h; cases h; done) | (intro _; rfl)))))
    exact JX.ret2 rfl rfl (fun a w' st => ⟨st.kp, rfl⟩)
  | true =>
    (repeat' (first | refine JC.seq ?_ | refine JC.ops ?_ | refine JO.nil ?_ | refine JX.thenN ?_ | (apply r_move; (iterate 3 exact rfl)) | (apply r_assign; (iterate 3 exact rfl)) | (apply r_loadN; (iterate 4 exact rfl); exact at0; exact rfl) | (apply r_lenX; (iterate 3 exact rfl); (first | assumption | exact WX.rd (by assumption) rfl [] | exact OwnX.rd (by assumption))) | (apply r_pickF; (iterate 4 exact rfl)) | (apply r_not; (iterate 3 exact rfl)) | (apply r_gtr; (iterate 4 exact rfl); all_goals intro hc; all_goals try (exfalso; omega)) | (apply r_buildL; (iterate 5 exact rfl)) | refine JX.thenR ?_ | refine JC.skip ?_ | refine JC.ret ?_ | refine JC.condT rfl ?_ | refine JC.condF rfl ?_))
    · exact JX.ret2 rfl rfl (fun a w' st => ⟨st.kp, rfl⟩)
    · refine r_call0 (by first | trivial | exact ⟨rfl, rfl⟩) rfl rfl rfl (fun w hk _ => c_refMulF w _ _ m.xm ⟨n, 1, xs⟩ (fun hh => ?_) (hvX.mono hk) ⟨_, rfl, by show WX w _ xs.length xs; rw [hl]; exact hu.mono hk⟩ (xm_len hm) (by show xs.length < _; omega)) fun w v w' _ _ _ hR => ?_
      · obtain ⟨h1, ⟨q, hq, he⟩, h3⟩ := hh
        simp only [ZM.xm, XM.mk.injEq] at he h3
        exact h ⟨⟨_, he.2.2⟩, by omega⟩
      · rw [show zeroM = .agg #[iv 0, iv 0, .slice none 0 0] from rfl] at hR
        subst hR
        (repeat' (first | refine JC.seq ?_ | refine JC.ops ?_ | refine JO.nil ?_ | refine JX.thenN ?_ | (apply r_move; (iterate 3 exact rfl)) | (apply r_fieldAddr; (iterate 3 exact rfl)) | (apply r_assign; (iterate 3 exact rfl)) | (apply r_load; (iterate 4 exact rfl); exact at0; exact rfl) | (apply r_extract; (iterate 4 exact rfl)) | (apply r_storeN; exact rfl; (first | exact trivial | exact ⟨rfl, rfl⟩); exact rfl; exact rfl; exact at0; (iterate 3 exact rfl)) | (apply r_allocZ; (iterate 3 exact rfl); intro _) | (apply r_storeN; exact rfl; (first | exact trivial | exact ⟨rfl, rfl⟩); exact rfl; exact rfl; exact at0; (iterate 3 exact rfl)) | refine JC.ret ?_))
        exact JX.ret2 rfl rfl (fun a w' st => ⟨st.kp, rfl⟩)

theorem c_refApplyA (K L : Nat) (w : World) (v u : Value) (m : ZM) (xs : List WR) (hm : RtZ m) (hn : xs.length ≤ 200) (hK : K + L ≤ 90000000) (hx : BdZ K m) (hy : ∀ zs, xs = zs.map wz → BdL L zs) (hv : IsM w v m) (hu : WX w u xs.length xs) :
    Calls Tryd.prog 32 #[v, u] w (Ret fun v w' => Kp [] w w' ∧ GivesLB (applyA m xs).1 (applyA m xs).2 w v w') := by
  by_cases h : Canon xs ∧ m.c = xs.length
  · obtain ⟨⟨zs, rfl⟩, h2⟩ := h
    have h3 : m.c = zs.length := by simpa using h2
    rw [applyA_t h3]
    rw [List.length_map] at hu hn
    exact c_refApply K L w v u m zs hm hn h3 hK hx (hy zs rfl) hv hu
  · rw [applyA_f h]
    exact calls_mono (c_refApplyF w v u m xs.length xs hm h (by omega) hv hu) fun v w' h => ⟨h.1, GivesLB.nil h.2⟩

section
variable {c : Cx} {Q : Exit → Act → World → Prop} {m : Mode} {F : SFrame} {H : SHeap} {r : List SOp} {g : Option (Option Tmp × Bool)} {ns : Bool} {d : Tmp} {ty t t' : TypeId} {x y : Operand} {N : SHeap} {n : Nat} {v : Value}
theorem r_stXm {A B : SHeap} {i : Nat} {l : List UInt8} {xs : List WR} [T1 c.P t] (hO : OwnX N v n xs) (hH : H = A ++ (N ++ B)) (hg : guardF F g = some true) (hm : m.mayStore ns r) (hx : ev F x = some (.pointer (some (vAt v (i * 2 + 1))))) (hy : ev F y = some (sv l))
    (hi : i < n) (h : ∀ N', OwnX N' v n (xs.set i ((xs.getD i w0x).1, l)) → JO c Q m.spent r F (A ++ (N' ++ B))) : JO c Q m (⟨none, .store t x y, ty, g, .seq, ns⟩ :: r) F H :=
  r_stO (sz := 2) hO hH hg hm hx hy rfl rfl (by omega) (fun N' h' => h N' (by
    unfold OwnX
    have hl := hO.len
    rw [← xcs_set (by omega)]
    have hg2 := (xcs_get (xs := xs) (i := i) (by omega)).1
    rw [show (xcs xs).set (i * 2) (.bool (xs.getD i w0x).1) = xcs xs from by
      refine List.ext_getElem? fun j => ?_
      rw [List.getElem?_set]
      split
      · rename_i e
        subst e
        split
        · exact hg2.symm
        · rename_i e2
          rw [List.getElem?_eq_none (by omega)]
      · rfl]
    exact h'))
end

end Go.Proofs.YtdlmnloikakjpaaDoor

namespace Go.Proofs.YtdlmnloikakjpaaDoor
open Go Go.RowKit Go.ChangeShapes Go.WideShapes Go.ChangeAt
set_option linter.unusedSimpArgs false
set_option linter.unusedVariables false
set_option linter.unusedSectionVars false

def IsL (w : World) (v : Value) (L : List Int) : Prop := (∀ i, I64 (L.getD i 0)) ∧ WI w v L.length L ∧ L.length < 9223372036854775808
theorem IsL.mono {w w' : World} {v : Value} {L : List Int} (h : IsL w v L) (hk : Kp [] w w') : IsL w' v L := ⟨h.1, h.2.1.mono hk, h.2.2⟩

theorem IsL.of_trod {H : Type} {enc : TypeId × Value → H} {w : World} {held : Bool} {v : Value} {n base : Nat} {sp : Nat → Bool} {y : DataW H × List MemPlace}
    (hf : DataW.trod enc Tryd.prog w base sp held n 22 [v] = some y) : ∃ L, IsL w v L := by
  rcases open_ints Tryd.underlying22 Tryd.underlying3 (by kernel_rfl) hf with ⟨hcs, _⟩ | ⟨x, l, c, zs, hcs, _, hl, hm, hz, _, hcell, hwz⟩
  · simp only [List.cons.injEq, and_true] at hcs
    subst hcs
    exact ⟨[], fun i => ⟨by simp, by simp⟩, ⟨rfl, none, 0, rfl, Nat.le_refl _, fun h => absurd h (Nat.lt_irrefl _)⟩, by simp⟩
  · simp only [List.cons.injEq, and_true] at hcs
    subst hcs
    unfold maxLen at hm
    have hlz : l ≤ zs.length := by rw [hz]; split <;> omega
    have hz2 : zs.length ≤ c := by rw [hz]; split <;> omega
    have hlen : (zs.take l).length = l := by simp; omega
    refine ⟨zs.take l, i64_getD fun n hn => i64_wf (hwz n (List.mem_of_mem_take hn)), ?_, by omega⟩
    rw [hlen]
    refine ⟨by simp; omega, some x, c, rfl, hl, fun h0 => ?_⟩
    obtain ⟨b, o, sp⟩ := x
    have hsp : sp = none := by
      have := hcell 0 (by omega)
      cases sp with
      | none => rfl
      | some s =>
        simp only [Addr.add, if_true, World.cell?] at this
        split at this <;> simp at this
    subst hsp
    refine ⟨⟨b, o, rfl⟩, fun j u hu => ?_⟩
    simp only [vAt]
    rw [List.getElem?_map, List.getElem?_take] at hu
    split at hu
    · rename_i hj
      have hjz : j < zs.length := by omega
      rw [gD_lt (d := 0) hjz] at hu
      cases hu
      rw [← add_none]
      exact hcell j hjz
    · cases hu

set_option maxRecDepth 100000 in
theorem open_list {H : Type} {enc : TypeId × Value → H} {w : World} {r : Reach} {b0 : Nat} {held : Bool} {v : Value} {d : DataW H} {ps : List MemPlace} (hv : Value.okWide Tryd.prog w r b0 22 v)
    (h : DataW.Trod enc Tryd.prog w 0 (fun _ => true) held 22 v d ps) : ∃ L, IsL w v L := by
  obtain ⟨a1, len, cap, rfl⟩ := okWide_slice Tryd.underlying22 hv
  obtain ⟨fuel, hf⟩ := h
  exact IsL.of_trod (show DataW.trod enc Tryd.prog w 0 (fun _ => true) held fuel 22 [.slice a1 len cap] = some _ from hf)

def IsLL (w : World) (v : Value) (X : List (List Int)) : Prop := X.length < 9223372036854775808 ∧ ∃ ss : List Value, RdW w 1 v X.length ss ∧ ∀ i, i < X.length → IsL w (ss.getD i (iv 0)) (X.getD i [])
theorem IsLL.mono {w w' : World} {v : Value} {X : List (List Int)} (h : IsLL w v X) (hk : Kp [] w w') : IsLL w' v X := by
  obtain ⟨h0, ss, h1, h2⟩ := h
  exact ⟨h0, ss, h1.mono hk, fun i hi => (h2 i hi).mono hk⟩
end Go.Proofs.YtdlmnloikakjpaaDoor

