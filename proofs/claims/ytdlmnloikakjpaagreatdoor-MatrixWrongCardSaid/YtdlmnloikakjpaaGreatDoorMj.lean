import Derived.Test.YtdlmnloikakjpaaGreatDoorMg
import Derived.Test.YtdlmnloikakjpaaGreatDoorMe
import Derived.Test.YtdlmnloikakjpaaGreatDoorMh
import Derived.Test.YtdlmnloikakjpaaGreatDoorMi
namespace Go.Proofs.YtdlmnloikakjpaaGreatDoor
open Go Go.RowKit
set_option linter.unusedSimpArgs false
set_option linter.unusedVariables false
set_option linter.unusedSectionVars false

set_option maxHeartbeats 2000000 in
theorem Qm8 (w : World) (v u : Value) (n k : Nat) (xs ys : List WR) (hv : WX w v n xs) (hu : WX w u k ys) (hn : n < 1000000000) (hk : k < 1000000000) : Calls Tryz.prog 54 #[v, u] w (Ret fun v w' => Kp [] w w' ∧ IsB (xs = ys) v) := by
 have hl := hv.len
 have hl' := hu.len
 refine Q0a [⟨6, 1, [], []⟩] [] (by simp) [] Tryz.func54 rfl mixed (by kernel_rfl) Tryz.ntmps54 Tryz.results54 rfl ⟨by simp, by simp⟩ (by simp) ?_
 simp only [toS, textOps, toSOp, kindAt, kindOf, odAt, sopsAt, ordOf, zipF]
 have hR := WX.rd (c := ⟨Tryz.prog, 26, w, [], by simp⟩) hv rfl []
 have hR' := WX.rd (c := ⟨Tryz.prog, 26, w, [], by simp⟩) hu rfl []
 (repeat' (first | refine JC.seq ?_ | refine JC.ops ?_ | refine JO.nil ?_ | refine Q00 ?_ | (apply Q04; (iterate 3 exact rfl)) | (apply Q02; (iterate 3 exact rfl)) | (apply Q3r; (iterate 3 exact rfl); (first | assumption | exact WX.rd (by assumption) rfl [] | exact OwnX.rd (by assumption))) | (apply Q3h; (iterate 4 exact rfl); all_goals intro hc; all_goals try (exfalso; omega)) | refine Q0o ?_ | refine JC.skip ?_ | refine JC.ret ?_ | refine Q08 rfl ?_ | refine Q07 rfl ?_ | refine JC.block ?_))
 ·exact Q0j rfl (fun a w' st => ⟨st.kp, Q2s (fun h => hc (by rw [← hl, ← hl', h]))⟩)
 ·have hnk : n = k := by omega
  subst hnk
  refine Q0k (ι := Nat) ⟨fun i => [(5, nv i), (0, v), (1, u)], fun _ => [], fun i => i ≤ n ∧ ∀ j, j < i → xs.getD j w0x = ys.getD j w0x, fun i => n - i⟩ 0 ⟨by omega, fun j h => by omega⟩ (by repeat first | exact trivial | refine ⟨rfl, ?_⟩) (HSub.nil _) (fun i hi => ?_)
  obtain ⟨hin, hpr⟩ := hi
  dsimp only
  by_cases hlt : i < n
  ·(repeat' (first | refine JC.seq ?_ | refine JC.ops ?_ | refine JC.opsD ?_ | refine JO.nil ?_ | refine Q00 ?_ | (apply Q04; (iterate 3 exact rfl)) | (apply Q4u; (iterate 4 exact rfl); (first | assumption | exact WX.rd (by assumption) rfl [] | exact OwnX.rd (by assumption)); (first | assumption | omega)) | (apply Qg1; (iterate 4 exact rfl); (first | assumption | exact WX.rd (by assumption) rfl [] | exact OwnX.rd (by assumption)); (repeat' first | exact HSub.nil _ | exact HSub.hd | exact Q03 | exact HSub.refl _ | refine HSub.skip ?_ | refine Q01 ?_); (first | assumption | omega)) | (apply Q3r; (iterate 3 exact rfl); (first | assumption | exact WX.rd (by assumption) rfl [] | exact OwnX.rd (by assumption))) | (apply Q0m; (iterate 4 exact rfl); all_goals intro hc; all_goals try (exfalso; omega)) | refine JC.skip ?_ | refine Q08 rfl ?_ | refine JC.block ?_))
   refine Qfz rfl rfl rfl rfl ?_
   by_cases he : xs.getD i w0x = ys.getD i w0x
   ·rw [he]
    simp only [BEq.rfl, decide_true, Bool.and_self, Bool.not_true]
    (repeat' (first | refine JC.ops ?_ | refine JO.nil ?_ | refine Q00 ?_ | (apply Q04; (iterate 3 exact rfl)) | (apply Q02; (iterate 3 exact rfl)) | (apply Q0r; (iterate 4 exact rfl); omega) | refine JC.skip ?_ | refine Q07 rfl ?_ | refine Q0b ?_))
    refine Q0c (i + 1) ⟨by omega, fun j h => ?_⟩ (by dsimp only; omega) (by repeat first | exact trivial | refine ⟨rfl, ?_⟩) (HSub.nil _)
    rcases Nat.lt_or_ge j i with h' | h'
    ·exact hpr j h'
    ·have : j = i := by omega
     subst this; exact he
   ·have hb : (!((xs.getD i w0x).1 == (ys.getD i w0x).1 && decide ((xs.getD i w0x).2 = (ys.getD i w0x).2))) = true := by
     simp only [Bool.not_eq_true', Bool.and_eq_false_iff]
     by_cases h1 : (xs.getD i w0x).1 = (ys.getD i w0x).1
     ·refine .inr ?_
      simp only [decide_eq_false_iff_not]
      exact fun h2 => he (Prod.ext h1 h2)
     ·exact .inl (by simpa using h1)
    rw [hb]
    (repeat' (first | refine JC.seq ?_ | refine JC.ops ?_ | refine JO.nil ?_ | refine Q00 ?_ | (apply Q02; (iterate 3 exact rfl)) | refine Q0o ?_ | refine JC.ret ?_ | refine Q08 rfl ?_ | refine Q1b ?_))
    exact Q0j rfl (fun a w' st => ⟨st.kp, Q2s (fun h => he (by rw [h]))⟩)
  ·(repeat' (first | refine JC.seq ?_ | refine JC.ops ?_ | refine JO.nil ?_ | refine Q00 ?_ | (apply Q04; (iterate 3 exact rfl)) | (apply Q02; (iterate 3 exact rfl)) | (apply Q3r; (iterate 3 exact rfl); (first | assumption | exact WX.rd (by assumption) rfl [] | exact OwnX.rd (by assumption))) | (apply Q0m; (iterate 4 exact rfl); all_goals intro hc; all_goals try (exfalso; omega)) | refine Q0i ?_ | refine JC.exit ?_ | refine JC.ret ?_ | refine Q07 rfl ?_ | refine Q0f ?_))
   refine Q0j rfl (fun a w' st => ⟨st.kp, Qb6 (Qar (d := w0x) (by omega) (fun j hj => hpr j (by omega)))⟩)

set_option maxHeartbeats 2000000 in
theorem Qnv (w : World) (v u : Value) (a b : XM) (ha : IsX w v a) (hb : IsX w u b) (hl : a.E.length < 1000000000) (hl' : b.E.length < 1000000000) : Calls Tryz.prog 15 #[v, u] w (Ret fun v w' => Kp [] w w' ∧ IsB (a = b) v) := by
 obtain ⟨E, rfl, hE⟩ := ha
 obtain ⟨E', rfl, hE'⟩ := hb
 refine Q0a [] [] (by simp) [] Tryz.func15 rfl mixed (by kernel_rfl) Tryz.ntmps15 Tryz.results15 rfl ⟨by simp, by simp⟩ (by simp) ?_
 simp only [toS, textOps, toSOp, kindAt, kindOf, odAt, sopsAt, ordOf, zipF]
 (repeat' (first | refine JC.seq ?_ | refine JC.ops ?_ | refine JO.nil ?_ | refine Q00 ?_ | (apply Q04; (iterate 3 exact rfl)) | (apply Q06; (iterate 3 exact rfl)) | (apply Q02; (iterate 3 exact rfl)) | (apply Q0g; (iterate 4 exact rfl); (first | exact at0 | exact at1); exact rfl) | (apply Q0n; (iterate 4 exact rfl)) | (apply Q0q; (iterate 4 exact rfl)) | (apply Q2f; (iterate 4 exact rfl); all_goals intro hc; all_goals try (exfalso; omega)) | (apply Q0x; (iterate 4 exact rfl); intro _) | refine JC.ret ?_ | (apply Q10; exact rfl; exact rfl; (first | (intro h; cases h; done) | (intro _; rfl)))))
 all_goals first
  | exact Q0j rfl (fun a w' st => ⟨st.kp, Q2s (fun h => by subst h; first | exact hc rfl | (rename_i hd; exact hd rfl) | omega)⟩)
  | skip
 refine Q09 trivial rfl rfl rfl (fun w hk _ => Qm8 w _ _ _ _ _ _ (hE.mono hk) (hE'.mono hk) hl hl') fun w v w' _ _ _ hR => ?_
 obtain ⟨b', rfl, hb'⟩ := hR
 (repeat' (first | refine JO.nil ?_ | refine Q00 ?_ | (apply Q02; (iterate 3 exact rfl)) | (apply Q0n; (iterate 4 exact rfl)) | refine JC.ret ?_))
 refine Q0j rfl (fun a w' st => ⟨st.kp, b', rfl, hb'.trans ⟨fun h => XM.ext' (by omega) (by omega) h, fun h => by rw [h]⟩⟩)

theorem Qgy {xs : List WR} {k : Nat} (hk : k < xs.length) (h : badW (xs.getD k w0x) = true) : ¬ Canon xs := fun hc => Q8h.1 hc ⟨_, Q5c hk, h⟩

set_option maxHeartbeats 2000000 in
theorem Q8z (w : World) (E : Value) (n : Nat) (xs : List WR) (hE : WX w E n xs) (hn : n < 1000000000) :
  Calls Tryz.prog 53 #[E] w (Ret fun v w' => Kp [] w w' ∧ IsB (Canon xs) v) := by
 have hl := hE.len
 refine Q0a [] [] (by simp) [] Tryz.func53 rfl mixed (by kernel_rfl) Tryz.ntmps53 Tryz.results53 rfl ⟨by simp, by simp⟩ (by simp) ?_
 simp only [toS, textOps, toSOp, kindAt, kindOf, odAt, sopsAt, ordOf, zipF]
 have hR := WX.rd (c := ⟨Tryz.prog, 40, w, [], by simp⟩) hE rfl []
 (repeat' (first | refine JC.seq ?_ | refine JC.ops ?_ | refine JO.nil ?_ | refine Q00 ?_ | (apply Q02; (iterate 3 exact rfl)) | refine JC.block ?_))
 refine Q0k (ι := Nat) ⟨fun k => [(3, nv k), (0, E)], fun _ => [], fun k => k ≤ n ∧ ∀ j, j < k → badW (xs.getD j w0x) = false, fun k => n - k⟩ 0 ⟨by omega, fun j h => by omega⟩ (by repeat first | exact trivial | refine ⟨rfl, ?_⟩) (HSub.nil _) (fun k hk => ?_)
 obtain ⟨hkn, hpr⟩ := hk
 dsimp only
 by_cases hlt : k < n
 ·(repeat' (first | refine JC.seq ?_ | refine JC.ops ?_ | refine JO.nil ?_ | refine Q00 ?_ | (apply Q04; (iterate 3 exact rfl)) | (apply Q4u; (iterate 4 exact rfl); (first | assumption | exact WX.rd (by assumption) rfl [] | exact OwnX.rd (by assumption)); (first | assumption | omega)) | (apply Q9e; (iterate 4 exact rfl); (first | assumption | exact WX.rd (by assumption) rfl [] | exact OwnX.rd (by assumption)); (repeat' first | exact HSub.nil _ | exact HSub.hd | exact Q03 | exact HSub.refl _ | refine HSub.skip ?_ | refine Q01 ?_); (first | assumption | omega)) | (apply Q4j; (iterate 3 exact rfl); (first | assumption | exact WX.rd (by assumption) rfl [] | exact OwnX.rd (by assumption)); omega) | (apply Q3r; (iterate 3 exact rfl); (first | assumption | exact WX.rd (by assumption) rfl [] | exact OwnX.rd (by assumption))) | (apply Qg4; (iterate 4 exact rfl)) | (apply Q0m; (iterate 4 exact rfl); all_goals intro hc; all_goals try (exfalso; omega)) | refine JC.skip ?_ | refine Q08 rfl ?_ | refine JC.block ?_))
  have hxk : ∀ x, xs.getD k w0x = x → badW x = true → ¬ Canon xs := fun x hx hb => Qgy (k := k) (by omega) (by rw [hx]; exact hb)
  have hnx : ∀ x, xs.getD k w0x = x → badW x = false → ∀ j, j < k + 1 → badW (xs.getD j w0x) = false := fun x hx hb j hj => by
   rcases Nat.lt_or_ge j k with h | h
   ·exact hpr j h
   ·obtain rfl : j = k := by omega
    rw [hx]; exact hb
  rcases hx : xs.getD k w0x with ⟨p, l⟩
  cases l with
  | nil =>
   simp only [decide_true]
   (repeat' (first | (apply Q04; (iterate 3 exact rfl)) | (apply Q4u; (iterate 4 exact rfl); (first | assumption | exact WX.rd (by assumption) rfl [] | exact OwnX.rd (by assumption)); (first | assumption | omega)) | (apply Qjv; (iterate 4 exact rfl); (first | assumption | exact WX.rd (by assumption) rfl [] | exact OwnX.rd (by assumption)); (repeat' first | exact HSub.nil _ | exact HSub.hd | exact Q03 | exact HSub.refl _ | refine HSub.skip ?_ | refine Q01 ?_); (first | assumption | omega)) | (apply Q4j; (iterate 3 exact rfl); (first | assumption | exact WX.rd (by assumption) rfl [] | exact OwnX.rd (by assumption)); omega) | (apply Q0n; (iterate 4 exact rfl))))
   rw [hx]
   cases p
   ·(repeat' (first | (apply Q04; (iterate 3 exact rfl)) | (apply Q4u; (iterate 4 exact rfl); (first | assumption | exact WX.rd (by assumption) rfl [] | exact OwnX.rd (by assumption)); (first | assumption | omega)) | (apply Q9e; (iterate 4 exact rfl); (first | assumption | exact WX.rd (by assumption) rfl [] | exact OwnX.rd (by assumption)); (repeat' first | exact HSub.nil _ | exact HSub.hd | exact Q03 | exact HSub.refl _ | refine HSub.skip ?_ | refine Q01 ?_); (first | assumption | omega)) | (apply Q4j; (iterate 3 exact rfl); (first | assumption | exact WX.rd (by assumption) rfl [] | exact OwnX.rd (by assumption)); omega) | (apply Qch; (iterate 4 exact rfl))))
    rw [hx, show decide ((false, ([] : List UInt8)).snd ≠ []) = false from rfl]
    (repeat' (first | refine JC.ops ?_ | refine JO.nil ?_ | refine Q00 ?_ | (apply Q04; (iterate 3 exact rfl)) | (apply Q02; (iterate 3 exact rfl)) | (apply Q0r; (iterate 4 exact rfl); omega) | (apply Q0q; (iterate 4 exact rfl)) | refine JC.skip ?_ | refine Q07 rfl ?_ | refine Q0b ?_ | (apply Q10; exact rfl; exact rfl; (first | (intro h; cases h; done) | (intro _; rfl)))))
    exact Q0c (k + 1) ⟨by omega, hnx _ hx rfl⟩ (by dsimp only; omega) (by repeat first | exact trivial | refine ⟨rfl, ?_⟩) (HSub.nil _)
   ·(repeat' (first | refine JC.seq ?_ | refine JC.ops ?_ | refine JO.nil ?_ | refine Q00 ?_ | (apply Q02; (iterate 3 exact rfl)) | (apply Q0n; (iterate 4 exact rfl)) | refine Q0o ?_ | refine JC.ret ?_ | refine Q08 rfl ?_ | refine Q1b ?_ | (apply Q10; exact rfl; exact rfl; (first | (intro h; cases h; done) | (intro _; rfl)))))
    exact Q0j rfl (fun a w' st => ⟨st.kp, Q2s (hxk _ hx rfl)⟩)
  | cons x r =>
   rw [show decide ((p, x :: r).snd = ([] : List UInt8)) = false from rfl]
   (repeat' (first | (apply Q04; (iterate 3 exact rfl)) | (apply Q4u; (iterate 4 exact rfl); (first | assumption | exact WX.rd (by assumption) rfl [] | exact OwnX.rd (by assumption)); (first | assumption | omega)) | (apply Q9e; (iterate 4 exact rfl); (first | assumption | exact WX.rd (by assumption) rfl [] | exact OwnX.rd (by assumption)); (repeat' first | exact HSub.nil _ | exact HSub.hd | exact Q03 | exact HSub.refl _ | refine HSub.skip ?_ | refine Q01 ?_); (first | assumption | omega)) | (apply Q4j; (iterate 3 exact rfl); (first | assumption | exact WX.rd (by assumption) rfl [] | exact OwnX.rd (by assumption)); omega) | (apply Q0q; (iterate 4 exact rfl)) | (apply Qch; (iterate 4 exact rfl)) | (apply Q10; exact rfl; exact rfl; (first | (intro h; cases h; done) | (intro _; rfl)))))
   rw [hx, show decide ((p, x :: r).snd ≠ ([] : List UInt8)) = true from rfl]
   (repeat' (first | (apply Q04; (iterate 3 exact rfl)) | (apply Q4u; (iterate 4 exact rfl); (first | assumption | exact WX.rd (by assumption) rfl [] | exact OwnX.rd (by assumption)); (first | assumption | omega)) | (apply Q9e; (iterate 4 exact rfl); (first | assumption | exact WX.rd (by assumption) rfl [] | exact OwnX.rd (by assumption)); (repeat' first | exact HSub.nil _ | exact HSub.hd | exact Q03 | exact HSub.refl _ | refine HSub.skip ?_ | refine Q01 ?_); (first | assumption | omega)) | (apply Q4j; (iterate 3 exact rfl); (first | assumption | exact WX.rd (by assumption) rfl [] | exact OwnX.rd (by assumption)); omega)))
   rw [hx]
   (repeat' (first | refine JC.seq ?_ | refine JC.ops ?_ | refine JO.nil ?_ | refine Q00 ?_ | (apply Q04; (iterate 3 exact rfl)) | (apply Q02; (iterate 3 exact rfl)) | (apply Q0r; (iterate 4 exact rfl); omega) | (apply Q0n; (iterate 4 exact rfl)) | (apply Q0q; (iterate 4 exact rfl)) | (apply Q86; (iterate 4 exact rfl)) | (apply Q2f; (iterate 4 exact rfl); all_goals intro hc; all_goals try (exfalso; omega)) | refine Q0o ?_ | refine JC.skip ?_ | refine JC.ret ?_ | refine Q08 rfl ?_ | refine Q07 rfl ?_ | refine Q0b ?_ | refine Q1b ?_))
   ·exact Q0j rfl (fun _ w' st => ⟨st.kp, Q2s (hxk _ hx (by have : x = 0 := UInt8.toNat.inj (by simpa using hc); subst this; rfl))⟩)
   ·exact Q0c (k + 1) ⟨by omega, hnx _ hx (by have : x ≠ 0 := fun e => hc (by subst e; rfl); simp [badW, this])⟩ (by dsimp only; omega) (by repeat first | exact trivial | refine ⟨rfl, ?_⟩) (HSub.nil _)
 ·(repeat' (first | refine JC.seq ?_ | refine JC.ops ?_ | refine JO.nil ?_ | refine Q00 ?_ | (apply Q04; (iterate 3 exact rfl)) | (apply Q02; (iterate 3 exact rfl)) | (apply Q3r; (iterate 3 exact rfl); (first | assumption | exact WX.rd (by assumption) rfl [] | exact OwnX.rd (by assumption))) | (apply Q0m; (iterate 4 exact rfl); all_goals intro hc; all_goals try (exfalso; omega)) | refine Q0i ?_ | refine JC.exit ?_ | refine JC.ret ?_ | refine Q07 rfl ?_ | refine Q0f ?_))
  refine Q0j rfl (fun a w' st => ⟨st.kp, Qb6 (Q8h.2 ?_)⟩)
  rintro ⟨x, hx, hb⟩
  obtain ⟨j, hj, rfl⟩ := List.mem_iff_getElem.1 hx
  have := hpr j (by omega)
  rw [List.getD, List.getElem?_eq_getElem hj, Option.getD_some, hb] at this
  cases this

set_option maxHeartbeats 1000000 in
theorem Q1f (w : World) (v : Value) (a : XM) (ha : IsX w v a) (hl : a.E.length < 1000000000) : Calls Tryz.prog 14 #[v] w (Ret fun v w' => Kp [] w w' ∧ IsB (RX a) v) := by
 obtain ⟨E, rfl, hE⟩ := ha
 by_cases hf : 0 ≤ a.R ∧ a.R ≤ 200 ∧ 0 ≤ a.C ∧ a.C ≤ 200
 ·obtain ⟨R, C, xs⟩ := a
  obtain ⟨h1, h2, h3, h4⟩ := hf
  dsimp only at *
  obtain ⟨r, rfl⟩ := Int.eq_ofNat_of_zero_le h1
  obtain ⟨c, rfl⟩ := Int.eq_ofNat_of_zero_le h3
  have hr : r ≤ 200 := by omega
  have hc : c ≤ 200 := by omega
  have hrc := rcZ hr hc
  have hiff := Qkd (E := xs) hr hc
  refine Q0a [] [] (by simp) [] Tryz.func14 rfl mixed (by kernel_rfl) Tryz.ntmps14 Tryz.results14 rfl ⟨by simp, by simp⟩ (by simp) ?_
  simp only [toS, textOps, toSOp, kindAt, kindOf, odAt, sopsAt, ordOf, zipF]
  have hR := WX.rd (c := ⟨Tryz.prog, 25, w, [], by simp⟩) hE rfl []
  (repeat' (first | refine JC.seq ?_ | refine JC.ops ?_ | refine JO.nil ?_ | refine Q00 ?_ | (apply Q06; (iterate 3 exact rfl)) | (apply Q02; (iterate 3 exact rfl)) | (apply Q0g; (iterate 4 exact rfl); exact at0; exact rfl) | (apply Q0x; (iterate 4 exact rfl); intro _)))
  refine Q09 trivial rfl rfl rfl (fun w _ _ => Q8k r c w) fun w v w' _ _ _ hv => ?_
  obtain ⟨b', rfl, hb⟩ := hv
  obtain rfl := hb.2 ⟨h1, h2, h3, h4⟩
  (repeat' (first | refine JC.seq ?_ | refine JC.ops ?_ | refine JO.nil ?_ | refine Q00 ?_ | (apply Q04; (iterate 3 exact rfl)) | (apply Q06; (iterate 3 exact rfl)) | (apply Q02; (iterate 3 exact rfl)) | (apply Q0g; (iterate 4 exact rfl); exact at0; exact rfl) | (apply Q3r; (iterate 3 exact rfl); (first | assumption | exact WX.rd (by assumption) rfl [] | exact OwnX.rd (by assumption))) | (apply Q1q; (iterate 4 exact rfl); (first | assumption | omega)) | (apply Q0q; (iterate 4 exact rfl)) | (apply Q1e; (iterate 3 exact rfl)) | (apply Q3h; (iterate 4 exact rfl); all_goals intro hc; all_goals try (exfalso; omega)) | refine Q0o ?_ | refine JC.skip ?_ | refine JC.ret ?_ | refine Q08 rfl ?_ | refine Q07 rfl ?_))
  ·exact Q0j rfl (fun a w' st => ⟨st.kp, Q2s (fun h => by have := (hiff.1 h).1; omega)⟩)
  ·refine Q09 trivial rfl rfl rfl (fun w' hk hs => Q8z w' E _ _ (hE.mono hk) hl) fun w v w' _ _ _ hv => ?_
   obtain ⟨b', rfl, hb⟩ := hv
   (repeat' (first | refine JO.nil ?_ | refine Q00 ?_ | (apply Q02; (iterate 3 exact rfl)) | refine JC.ret ?_))
   exact Q0j rfl (fun a w' st => ⟨st.kp, b', rfl, hb.trans ⟨fun h => hiff.2 ⟨by omega, h⟩, fun h => (hiff.1 h).2⟩⟩)
 ·refine Q0a [] [] (by simp) [] Tryz.func14 rfl mixed (by kernel_rfl) Tryz.ntmps14 Tryz.results14 rfl ⟨by simp, by simp⟩ (by simp) ?_
  simp only [toS, textOps, toSOp, kindAt, kindOf, odAt, sopsAt, ordOf, zipF]
  (repeat' (first | refine JC.seq ?_ | refine JC.ops ?_ | refine JO.nil ?_ | refine Q00 ?_ | (apply Q06; (iterate 3 exact rfl)) | (apply Q02; (iterate 3 exact rfl)) | (apply Q0g; (iterate 4 exact rfl); exact at0; exact rfl) | (apply Q0x; (iterate 4 exact rfl); intro _)))
  refine Q09 trivial rfl rfl rfl (fun w _ _ => Q8k a.R a.C w) fun w v w' _ _ _ hv => ?_
  obtain ⟨b', rfl, hb⟩ := hv
  cases b' with
  | true => exact absurd (hb.1 rfl) hf
  | false =>
   (repeat' (first | refine JC.seq ?_ | refine JC.ops ?_ | refine JO.nil ?_ | refine Q00 ?_ | (apply Q04; (iterate 3 exact rfl)) | (apply Q02; (iterate 3 exact rfl)) | (apply Q0n; (iterate 4 exact rfl)) | (apply Q1e; (iterate 3 exact rfl)) | refine Q0o ?_ | refine JC.ret ?_ | refine Q08 rfl ?_ | (apply Q10; exact rfl; exact rfl; (first | (intro h; cases h; done) | (intro _; rfl)))))
   exact Q0j rfl (fun a w' st => ⟨st.kp, Q2s (fun h => hf h.fits)⟩)

set_option maxHeartbeats 1000000 in
theorem Q9r (w : World) (v u : Value) (a b : XM) (ha : IsX w v a) (hb : IsX w u b) (hl : a.E.length < 1000000000) (hl' : b.E.length < 1000000000) : Calls Tryz.prog 58 #[v, u] w (Ret fun v w' => Kp [] w w' ∧ IsB (Alike a b) v) := by
 obtain ⟨E, rfl, hE⟩ := ha
 obtain ⟨E', rfl, hE'⟩ := hb
 refine Q0a [] [] (by simp) [] Tryz.func58 rfl mixed (by kernel_rfl) Tryz.ntmps58 Tryz.results58 rfl ⟨by simp, by simp⟩ (by simp) ?_
 simp only [toS, textOps, toSOp, kindAt, kindOf, odAt, sopsAt, ordOf, zipF]
 (repeat' (first | refine JC.seq ?_ | refine JC.ops ?_ | refine JO.nil ?_ | refine Q00 ?_ | (apply Q02; (iterate 3 exact rfl)) | (apply Q0d; (iterate 4 exact rfl); exact at1; exact rfl) | (apply Q0x; (iterate 4 exact rfl); intro _)))
 refine Q09 trivial rfl rfl rfl (fun w hk _ => Q1f w _ a ⟨E, rfl, hE.mono hk⟩ hl) fun w v w' _ _ _ hR => ?_
 obtain ⟨b', rfl, hb⟩ := hR
 (repeat' (first | refine JC.seq ?_ | refine JC.ops ?_ | refine JO.nil ?_ | refine Q00 ?_ | (apply Q02; (iterate 3 exact rfl)) | (apply Q0d; (iterate 4 exact rfl); exact at0; exact rfl)))
 refine Q09 trivial rfl rfl rfl (fun w hk _ => Q1f w _ b ⟨E', rfl, hE'.mono hk⟩ hl') fun w v w' _ _ _ hR => ?_
 obtain ⟨b2, rfl, hb'⟩ := hR
 cases b' <;> cases b2
 ·(repeat' (first | refine JC.seq ?_ | refine JC.ops ?_ | refine JO.nil ?_ | refine Q00 ?_ | (apply Q04; (iterate 3 exact rfl)) | (apply Q02; (iterate 3 exact rfl)) | (apply Q0q; (iterate 4 exact rfl)) | refine JC.ret ?_ | (apply Q10; exact rfl; exact rfl; (first | (intro h; cases h; done) | (intro _; rfl)))))
  exact Q0j rfl (fun a w' st => ⟨st.kp, Q2s (fun h => by cases hb.2 h.1)⟩)
 ·(repeat' (first | refine JC.seq ?_ | refine JC.ops ?_ | refine JO.nil ?_ | refine Q00 ?_ | (apply Q04; (iterate 3 exact rfl)) | (apply Q02; (iterate 3 exact rfl)) | (apply Q0q; (iterate 4 exact rfl)) | refine JC.ret ?_ | (apply Q10; exact rfl; exact rfl; (first | (intro h; cases h; done) | (intro _; rfl)))))
  exact Q0j rfl (fun a w' st => ⟨st.kp, Q2s (fun h => by cases hb.2 h.1)⟩)
 ·(repeat' (first | refine JC.seq ?_ | refine JC.ops ?_ | refine JO.nil ?_ | refine Q00 ?_ | (apply Q04; (iterate 3 exact rfl)) | (apply Q02; (iterate 3 exact rfl)) | (apply Q0n; (iterate 4 exact rfl)) | (apply Q0q; (iterate 4 exact rfl)) | refine JC.ret ?_ | (apply Q10; exact rfl; exact rfl; (first | (intro h; cases h; done) | (intro _; rfl)))))
  exact Q0j rfl (fun a w' st => ⟨st.kp, Q2s (fun h => by cases hb'.2 h.2.1)⟩)
 ·(repeat' (first | refine JC.seq ?_ | refine JC.ops ?_ | refine JO.nil ?_ | refine Q00 ?_ | (apply Q04; (iterate 3 exact rfl)) | (apply Q06; (iterate 3 exact rfl)) | (apply Q02; (iterate 3 exact rfl)) | (apply Q0g; (iterate 4 exact rfl); (first | exact at0 | exact at1); exact rfl) | (apply Q0n; (iterate 4 exact rfl)) | (apply Q0q; (iterate 4 exact rfl)) | (apply Q2f; (iterate 4 exact rfl); all_goals intro hc; all_goals try (exfalso; omega)) | refine JC.ret ?_ | (apply Q10; exact rfl; exact rfl; (first | (intro h; cases h; done) | (intro _; rfl)))))
  all_goals first
   | exact Q0j rfl (fun a w' st => ⟨st.kp, Qb6 ⟨hb.1 rfl, hb'.1 rfl, by omega, by omega⟩⟩)
   | exact Q0j rfl (fun a w' st => ⟨st.kp, Q2s fun h => by have h1 := h.2.2.1; have h2 := h.2.2.2; omega⟩)


theorem Q3x {w w' : World} {v : Value} (h : v = .tuple #[zeroM, .bool false]) : GivesMB zM false w v w' := ⟨[], zeroM, h, New.nil _ _, OwnM.zero⟩
theorem Q75 {m : ZM} (h : RtZ m) : m.xm.E.length < 1000000000 := by have := h.le; simp [ZM.xm]; omega

set_option maxHeartbeats 2000000 in
theorem Qj5 (K : Nat) (w : World) (v u : Value) (m n : ZM) (hm : RtZ m) (hn : RtZ n) (hr : m.r = n.r) (hc : m.c = n.c) (hK : K ≤ 90000000) (hx : BdZ K m) (hy : BdZ K n) (hv : IsM w v m) (hu : IsM w u n) :
  Calls Tryz.prog 21 #[v, u] w (Ret fun v w' => Kp [] w w' ∧ GivesMB (addZ m n) true w v w') := by
 have hvX := hv.x
 have huX := hu.x
 obtain ⟨E, rfl, hE⟩ := hv
 obtain ⟨E', rfl, hE'⟩ := hu
 have hle := hm.le
 have hl := hm.len
 have hl' := hn.len
 rw [← hr, ← hc] at hl'
 rw [hl] at hE
 rw [hl'] at hE'
 have hgx := Qgl (· + ·) hm hn hr hc
 refine Q0a [⟨8, 2, [], []⟩] [] (by simp) [] Tryz.func21 rfl mixed (by kernel_rfl) Tryz.ntmps21 Tryz.results21 rfl ⟨by simp, by simp⟩ (by simp) ?_
 simp only [toS, textOps, toSOp, kindAt, kindOf, odAt, sopsAt, ordOf, zipF]
 have hR := WZ.rd (c := ⟨Tryz.prog, 43, w, [], by simp⟩) hE rfl []
 have hR' := WZ.rd (c := ⟨Tryz.prog, 43, w, [], by simp⟩) hE' rfl []
 (repeat' (first | refine JC.seq ?_ | refine JC.ops ?_ | refine JO.nil ?_ | refine Q00 ?_ | (apply Q02; (iterate 3 exact rfl)) | (apply Q0d; (iterate 4 exact rfl); (first | exact at1 | exact at2); exact rfl) | (apply Q0e; (iterate 3 exact rfl); intro _) | (apply Q0x; (iterate 4 exact rfl); intro _)))
 rename_i b2 b3 b4
 refine Q09 trivial rfl rfl rfl (fun w hk _ => Q9r w _ _ m.xm n.xm (hvX.mono hk) (huX.mono hk) (Q75 hm) (Q75 hn)) fun w v w' _ _ _ hR => ?_
 obtain ⟨b', rfl, hb⟩ := hR
 obtain rfl := hb.2 ⟨hm.rx, hn.rx, by simp [ZM.xm, hr], by simp [ZM.xm, hc]⟩
 (repeat' (first | refine JC.seq ?_ | refine JC.ops ?_ | refine JO.nil ?_ | refine Q00 ?_ | (apply Q04; (iterate 3 exact rfl)) | (apply Q06; (iterate 3 exact rfl)) | (apply Q02; (iterate 3 exact rfl)) | (apply Q0g; (iterate 4 exact rfl); exact at2; exact rfl) | (apply Q1e; (iterate 3 exact rfl)) | refine JC.skip ?_ | refine Q07 rfl ?_))
 refine Q0h (A := [_, _, _]) (B := []) rfl (by first | trivial | exact ⟨rfl, rfl⟩) rfl rfl rfl (fun w _ _ => Q6i m.r m.c hm.r hm.c w) fun w v w' _ _ _ hR => ?_
 obtain ⟨N, Eo, hN, rfl, hO⟩ := hR
 obtain ⟨Ao, co, rfl⟩ := hO.form
 refine ⟨N, hN, ?_⟩
 (repeat' (first | refine JC.seq ?_ | refine JC.ops ?_ | refine JO.nil ?_ | refine Q00 ?_ | (apply Q02; (iterate 3 exact rfl)) | (apply Q05; exact rfl; (first | exact trivial | exact ⟨rfl, rfl⟩); exact rfl; exact rfl; exact at0; (iterate 3 exact rfl)) | (apply Q0e; (iterate 3 exact rfl); intro _) | (apply Q05; exact rfl; (first | exact trivial | exact ⟨rfl, rfl⟩); exact rfl; exact rfl; exact at0; (iterate 3 exact rfl)) | refine JC.block ?_))
 rename_i b7
 refine Q0k (ι := Nat × SHeap) ⟨fun z => [(8, nv z.1), (2, .pointer (some ⟨b2, 0, none⟩)), (3, .pointer (some ⟨b3, 0, none⟩)), (4, .pointer (some ⟨b4, 0, none⟩)), (7, .pointer (some ⟨b7, 0, none⟩))],
  fun z => [(b7, .cells #[nv m.r, nv m.c, .slice Ao (m.r * m.c) co] 29), (b4, .cells #[iv 0, iv 0, .slice none 0 0] 29), (b3, .cells #[nv n.r, nv n.c, E'] 29), (b2, .cells #[nv m.r, nv m.c, E] 29)] ++ (z.2 ++ []),
  fun z => z.1 ≤ m.r * m.c ∧ OwnZ z.2 (.slice Ao (m.r * m.c) co) (m.r * m.c) (tab (m.r * m.c) fun i => if i < z.1 then m.e.getD i 0 + n.e.getD i 0 else 0), fun z => m.r * m.c - z.1⟩ (0, N) ⟨by omega, by simpa using hO⟩ (by repeat first | exact trivial | refine ⟨rfl, ?_⟩) (by (first | exact HSub.refl _ | (repeat' first | exact HSub.nil _ | exact HSub.refl _ | refine HSub.at 0 rfl ?_ | refine HSub.at 1 rfl ?_ | refine HSub.at 2 rfl ?_ | refine HSub.at 3 rfl ?_ | refine HSub.at 4 rfl ?_ | refine HSub.at 5 rfl ?_ | refine HSub.at 6 rfl ?_ | refine HSub.at 7 rfl ?_))) (fun z hz => ?_)
 clear hO
 obtain ⟨k, N⟩ := z
 obtain ⟨hk, hO⟩ := hz
 dsimp only at hk hO ⊢
 by_cases hkk : k < m.r * m.c
 ·(repeat' (first | refine JC.seq ?_ | refine JC.ops ?_ | refine JC.opsD ?_ | refine JO.nil ?_ | refine Q00 ?_ | (apply Q04; (iterate 3 exact rfl)) | (apply Q06; (iterate 3 exact rfl)) | (apply Q0g; (iterate 4 exact rfl); (first | exact at0 | exact at2 | exact at3); exact rfl) | (apply Q1m; (iterate 4 exact rfl); (first | assumption | exact WZ.rd (by assumption) rfl [] | exact OwnZ.rd (by assumption)); (first | assumption | omega)) | (apply Q52; (iterate 4 exact rfl); (first | assumption | exact WZ.rd (by assumption) rfl [] | exact OwnZ.rd (by assumption)); (repeat' first | exact HSub.nil _ | exact HSub.hd | exact Q03 | exact HSub.refl _ | refine HSub.skip ?_ | refine Q01 ?_); (first | assumption | omega)) | (apply Q4s; (iterate 3 exact rfl); (first | assumption | exact WZ.rd (by assumption) rfl [] | exact OwnZ.rd (by assumption))) | (apply Q0m; (iterate 4 exact rfl); all_goals intro hc; all_goals try (exfalso; omega)) | refine JC.skip ?_ | refine Q08 rfl ?_ | refine JC.block ?_))
  refine Q09 (by first | trivial | exact ⟨rfl, rfl⟩) rfl rfl rfl (fun w _ _ => Qk8 w _ _ (m.e.getD k 0) (n.e.getD k 0) K (Q0t (hx k)) (Q0t (hy k)) (by omega)) fun w v w' _ _ _ hR => ?_
  subst hR
  (repeat' (first | (apply Q1m; (iterate 4 exact rfl); (first | assumption | exact WZ.rd (by assumption) rfl [] | exact OwnZ.rd (by assumption)); (first | assumption | omega))))
  refine Q5s (A := [_, _, _, _]) (u := m.e.getD k 0 + n.e.getD k 0) hO rfl rfl (by first | trivial | exact ⟨rfl, rfl⟩) rfl rfl hkk (fun N' hO' => ?_)
  rw [Qd2 (f := fun i => m.e.getD i 0 + n.e.getD i 0)] at hO'
  (repeat' (first | refine JC.ops ?_ | refine JO.nil ?_ | refine Q00 ?_ | (apply Q04; (iterate 3 exact rfl)) | (apply Q02; (iterate 3 exact rfl)) | (apply Q0r; (iterate 4 exact rfl); omega) | refine Q0b ?_))
  exact Q0c (k + 1, N') ⟨by dsimp only; omega, hO'⟩ (by dsimp only; omega) (by repeat first | exact trivial | refine ⟨rfl, ?_⟩) (HSub.refl _)
 ·(repeat' (first | refine JC.seq ?_ | refine JC.ops ?_ | refine JO.nil ?_ | refine Q00 ?_ | (apply Q04; (iterate 3 exact rfl)) | (apply Q06; (iterate 3 exact rfl)) | (apply Q02; (iterate 3 exact rfl)) | (apply Q0g; (iterate 4 exact rfl); (first | exact at0 | exact at1); exact rfl) | (apply Q0d; (iterate 4 exact rfl); (first | exact at0 | exact at1); exact rfl) | (apply Q4s; (iterate 3 exact rfl); (first | assumption | exact WZ.rd (by assumption) rfl [] | exact OwnZ.rd (by assumption))) | (apply Q05; exact rfl; (first | exact trivial | exact ⟨rfl, rfl⟩); exact rfl; exact rfl; (first | exact at0 | exact at1); (iterate 3 exact rfl)) | (apply Q0m; (iterate 4 exact rfl); all_goals intro hc; all_goals try (exfalso; omega)) | (apply Q05; exact rfl; (first | exact trivial | exact ⟨rfl, rfl⟩); exact rfl; exact rfl; (first | exact at0 | exact at1); (iterate 3 exact rfl)) | refine Q0i ?_ | refine JC.exit ?_ | refine JC.ret ?_ | refine Q07 rfl ?_ | refine Q0f ?_))
  rw [Q1h (g' := fun i => m.e.getD i 0 + n.e.getD i 0) (fun i hi => if_pos (by omega)), hgx] at hO
  exact Q16 1 rfl rfl rfl rfl (fun a w' st => ⟨st.kp, N, _, rfl, st.newOf rfl (by (repeat' first | exact HSub.nil _ | exact HSub.hd | exact Q03 | exact HSub.refl _ | refine HSub.skip ?_ | refine Q01 ?_)), OwnM.mk' hO⟩)

set_option maxHeartbeats 1000000 in
theorem Qh7 (w : World) (v u : Value) (a b : XM) (h : ¬ Alike a b) (ha : IsX w v a) (hb : IsX w u b) (hl : a.E.length < 1000000000) (hl' : b.E.length < 1000000000) :
  Calls Tryz.prog 21 #[v, u] w (Ret fun v w' => Kp [] w w' ∧ v = .tuple #[zeroM, .bool false]) := by
 have ha0 := ha
 have hb0 := hb
 obtain ⟨E, rfl, hE⟩ := ha
 obtain ⟨E', rfl, hE'⟩ := hb
 refine Q0a [⟨8, 2, [], []⟩] [] (by simp) [] Tryz.func21 rfl mixed (by kernel_rfl) Tryz.ntmps21 Tryz.results21 rfl ⟨by simp, by simp⟩ (by simp) ?_
 simp only [toS, textOps, toSOp, kindAt, kindOf, odAt, sopsAt, ordOf, zipF]
 (repeat' (first | refine JC.seq ?_ | refine JC.ops ?_ | refine JO.nil ?_ | refine Q00 ?_ | (apply Q02; (iterate 3 exact rfl)) | (apply Q0d; (iterate 4 exact rfl); (first | exact at1 | exact at2); exact rfl) | (apply Q0e; (iterate 3 exact rfl); intro _) | (apply Q0x; (iterate 4 exact rfl); intro _)))
 refine Q09 trivial rfl rfl rfl (fun w hk _ => Q9r w _ _ a b (ha0.mono hk) (hb0.mono hk) hl hl') fun w v w' _ _ _ hR => ?_
 obtain ⟨b', rfl, hb⟩ := hR
 cases b' with
 | true => exact absurd (hb.1 rfl) h
 | false =>
  (repeat' (first | refine JC.seq ?_ | refine JC.ops ?_ | refine JO.nil ?_ | refine Q00 ?_ | (apply Q04; (iterate 3 exact rfl)) | (apply Q02; (iterate 3 exact rfl)) | (apply Q1e; (iterate 3 exact rfl)) | (apply Q05; exact rfl; (first | exact trivial | exact ⟨rfl, rfl⟩); exact rfl; exact rfl; exact at0; (iterate 3 exact rfl)) | (apply Q11; (iterate 5 exact rfl)) | (apply Q05; exact rfl; (first | exact trivial | exact ⟨rfl, rfl⟩); exact rfl; exact rfl; exact at0; (iterate 3 exact rfl)) | refine Q0o ?_ | refine JC.ret ?_ | refine Q08 rfl ?_))
  exact Q16 0 rfl rfl rfl rfl (fun a w' st => ⟨st.kp, rfl⟩)


theorem Qcn {n a b i j : Nat} {x : Int} {es : List Int} (hl : es.length = n * n) (ha : a < n) (hb : b < n) (hj : j < n) : enz n (es.set (a * n + b) x) i j = if i = a ∧ j = b then x else enz n es i j := by
 unfold enz
 rw [List.getD, List.getD, List.getElem?_set]
 by_cases h : i = a ∧ j = b
 ·obtain ⟨rfl, rfl⟩ := h
  rw [if_pos (show i * n + j = i * n + j from rfl), if_pos (show i * n + j < es.length by rw [hl]; exact Q3y ha hb)]
  simp
 ·rw [if_neg h, if_neg (fun e => h ?_)]
  obtain ⟨h1, h2⟩ := Qmp hb hj e
  exact ⟨h1.symm, h2.symm⟩

def swR (M : Mi) (k p j : Nat) : Mi := fun a b => if p ≠ k ∧ b < j then (if a = p then M k b else if a = k then M p b else M a b) else M a b
theorem Qi3 (M : Mi) (k p : Nat) (a b : Nat) : swR M k p 0 a b = M a b := by unfold swR; rw [if_neg (by omega)]
theorem Qa2 (M : Mi) (k j : Nat) (a b : Nat) : swR M k k j a b = M a b := by unfold swR; rw [if_neg (by omega)]
theorem Qi4 {M : Mi} {k p j : Nat} (h : p ≠ k) (a b : Nat) : (if a = k ∧ b = j then M p j else if a = p ∧ b = j then M k j else swR M k p j a b) = swR M k p (j + 1) a b := by
 unfold swR
 by_cases h1 : a = k ∧ b = j
 ·obtain ⟨rfl, rfl⟩ := h1
  rw [if_pos ⟨rfl, rfl⟩, if_pos ⟨h, by omega⟩, if_neg (fun e => h e.symm), if_pos rfl]
 ·rw [if_neg h1]
  by_cases h2 : a = p ∧ b = j
  ·obtain ⟨rfl, rfl⟩ := h2
   rw [if_pos ⟨rfl, rfl⟩, if_pos ⟨h, by omega⟩, if_pos rfl]
  ·rw [if_neg h2]
   by_cases h3 : b = j
   ·subst h3
    rw [if_neg (by omega), if_pos ⟨h, by omega⟩, if_neg (fun e => h2 ⟨e, rfl⟩), if_neg (fun e => h1 ⟨e, rfl⟩)]
   ·have : (b < j + 1) ↔ b < j := by omega
    simp only [this]

structure DetR (n K : Nat) (A0 : Mi) (k : Nat) (last : Int) (tn : Bool) (es : List Int) : Prop where
 ex : ∃ A, Bar n A k (enz n es) last ∧ det n A = (if tn then -1 else 1) * det n A0 ∧ ∀ i j, (A i j).natAbs < 256 ^ K
 bd : ∀ i j, i < n → j < n → (enz n es i j).natAbs < 256 ^ (n * (K + 1) + 1)
theorem DetR.swap {n K k p : Nat} {A0 : Mi} {last : Int} {tn : Bool} {es es2 : List Int} (h : DetR n K A0 k last tn es) (hk : k ≤ p) (hp : p < n) (h2 : ∀ i j, i < n → j < n → enz n es2 i j = swR (enz n es) k p n i j) : DetR n K A0 k last (tn != !decide (p = k)) es2 := by
 have hb : ∀ i j, i < n → j < n → (enz n es2 i j).natAbs < 256 ^ (n * (K + 1) + 1) := fun i j hi hj => by
  rw [h2 i j hi hj]
  unfold swR
  split
  ·split
   ·exact h.bd _ _ (by omega) hj
   ·split
    ·exact h.bd _ _ hp hj
    ·exact h.bd _ _ hi hj
  ·exact h.bd _ _ hi hj
 refine ⟨?_, hb⟩
 obtain ⟨A, hbar, hdet, hA⟩ := h.ex
 by_cases hpk : p = k
 ·subst hpk
  have e : (tn != !decide (p = p)) = tn := by simp
  rw [e]
  exact ⟨A, ⟨hbar.eqd, hbar.ne, fun i j hi hin hj hjn => by rw [h2 i j hin hjn, Qa2]; exact hbar.eq i j hi hin hj hjn⟩, hdet, hA⟩
 ·have hsw := hbar.swap (M' := enz n es2) 1 (q := p) (by omega) hp (fun j hj => by rw [h2 _ _ (by omega) hj, Int.one_mul]; unfold swR; rw [if_pos ⟨hpk, hj⟩, if_neg (fun e => hpk e.symm), if_pos rfl])
   (fun j hj => by rw [h2 _ _ hp hj]; unfold swR; rw [if_pos ⟨hpk, hj⟩, if_pos rfl]) (fun i j hi hj h3 h4 => by rw [h2 _ _ hi hj]; unfold swR; rw [if_pos ⟨hpk, hj⟩, if_neg h4, if_neg h3])
  refine ⟨_, hsw.1, ?_, fun i j => ?_⟩
  ·rw [hsw.2, hdet]
   simp only [hpk, decide_false, Bool.not_false]
   cases tn <;> simp
  ·by_cases hi : i = k
   ·subst hi
    rw [setRow_self, Int.one_mul]
    exact hA _ _
   ·rw [Q0p hi]
    unfold swp
    rw [if_neg hi]
    split <;> exact hA _ _
theorem DetR.none {n K k : Nat} {A0 : Mi} {last : Int} {tn : Bool} {es : List Int} (h : DetR n K A0 k last tn es) (hk : k < n) (hz : ∀ i, k ≤ i → i < n → enz n es i k = 0) : det n A0 = 0 := by
 obtain ⟨A, hbar, hdet, _⟩ := h.ex
 have h0 := hbar.none hk hz
 rw [h0] at hdet
 cases tn <;> simp at hdet <;> omega

section
variable {c : Cx} {Q : Exit → Act → World → Prop} {F : SFrame} {H : SHeap}
theorem Qn9 {i j : Int} {k : IntKind} {m : Mode} {r : List SOp} {g : Option (Option Tmp × Bool)} {ns : Bool} {d : Tmp} {ty t t' : TypeId} {x y : Operand} (hd : dstOk c.n (some d) = true) (hg : guardF F g = some true) (hx : ev F x = some (.int k i)) (hy : ev F y = some (.int k j))
  (h : JO c Q m r ((d, .bool (decide (i ≠ j))) :: F) H) : JO c Q m (⟨some d, .binOp .neq t x y t', ty, g, .mov, ns⟩ :: r) F H := by
 refine Q3h hd hg hx hy (fun hc => ?_) (fun hc => ?_)
 ·rw [decide_eq_true hc] at h; exact h
 ·rw [decide_eq_false (fun h => h hc)] at h; exact h
theorem JC.later {s : SCode} {ι : Type} (F0 : ι → SFrame) (H0 : ι → SHeap) (p : ι → Prop) (rest : ∀ z, p z → JX c Q .normal (F0 z) (H0 z)) (h : (∀ z, p z → JX c Q .normal (F0 z) (H0 z)) → JC c Q s F H) : JC c Q s F H := h rest
end

set_option maxHeartbeats 16000000 in
theorem Q7s (K : Nat) (w : World) (v : Value) (m : ZM) (hm : RtZ m) (hsq : m.r = m.c) (hK : (m.r + 1) * (K + 1) ≤ 40000000) (hx : BdZ K m) (hv : IsM w v m) :
  Calls Tryz.prog 8 #[v] w (Ret fun v w' => Kp [] w w' ∧ v = .tuple #[Wv (det m.r m.at), .bool true]) := by
 have hv0 := hv
 have hvX := hv.x
 obtain ⟨E, rfl, hE⟩ := hv
 obtain ⟨n, c, e⟩ := m
 obtain rfl : n = c := hsq
 have hlen : e.length = n * n := hm.len
 have hle := rcZ hm.r hm.c
 have hbr : n ≤ 200 := hm.r
 have hB : n * (K + 1) + 1 ≤ 40000000 := by
  have e1 : (n + 1) * (K + 1) = n * (K + 1) + (K + 1) := by rw [Nat.add_mul, Nat.one_mul]
  simp only at hK; omega
 dsimp only at hE hK hle ⊢
 rw [hlen] at hE
 refine Q0a [⟨29, 1, [], []⟩, ⟨30, 1, [], []⟩, ⟨31, 3, [0, 1, 3, 2, 4, 5, 6, 7, 8, 9, 10, 11, 12, 13], []⟩] [] (by simp) [] Tryz.func8 rfl mixed (by kernel_rfl) Tryz.ntmps8 Tryz.results8 rfl ⟨by simp, by simp⟩ (by simp) ?_
 simp only [toS, textOps, toSOp, kindAt, kindOf, odAt, sopsAt, ordOf, zipF]
 have hRE := WZ.rd (c := ⟨Tryz.prog, 189, w, [], by simp⟩) hE rfl []
 (repeat' (first | refine JC.seq ?_ | refine JC.ops ?_ | refine JO.nil ?_ | refine Q00 ?_ | (apply Q02; (iterate 3 exact rfl)) | (apply Q0d; (iterate 4 exact rfl); exact at1; exact rfl) | (apply Q0e; (iterate 3 exact rfl); intro _) | (apply Q0x; (iterate 4 exact rfl); intro _)))
 rename_i b1 b2
 refine Q09 trivial rfl rfl rfl (fun w hk _ => Q1f w _ _ (hvX.mono hk) (Q75 hm)) fun w v w' _ _ _ hR => ?_
 obtain ⟨b', rfl, hb⟩ := hR
 obtain rfl := hb.2 hm.rx
 (repeat' (first | refine JC.seq ?_ | refine JC.ops ?_ | refine JO.nil ?_ | refine Q00 ?_ | (apply Q04; (iterate 3 exact rfl)) | (apply Q06; (iterate 3 exact rfl)) | (apply Q02; (iterate 3 exact rfl)) | (apply Q0g; (iterate 4 exact rfl); exact at1; exact rfl) | (apply Q0q; (iterate 4 exact rfl)) | (apply Q1e; (iterate 3 exact rfl)) | (apply Q3h; (iterate 4 exact rfl); all_goals intro hc; all_goals try (exfalso; omega)) | refine JC.skip ?_ | refine Q07 rfl ?_))
 refine Q33 rfl rfl rfl (fun b => ?_)
 (repeat' (first | (apply Q06; (iterate 3 exact rfl)) | (apply Q0g; (iterate 4 exact rfl); exact at2; exact rfl)))
 have hO : OwnZ [(b, .cells #[] 34)] (.slice (some ⟨b, 0, none⟩) 0 0) 0 [] := by
  have := OwnRow.mk' (e := 34) (sz := 2) (n := 0) (b := b) (cs := #[]) rfl (by simp only [maxLen]; omega)
  exact this
 refine Qbn (A := []) hO hRE (by (repeat' first | exact HSub.nil _ | exact HSub.hd | exact Q03 | exact HSub.refl _ | refine HSub.skip ?_ | refine Q01 ?_)) rfl (by first | trivial | exact ⟨rfl, rfl⟩) rfl rfl rfl rfl (by omega) (fun v6 N hO' => ?_)
 rw [Nat.zero_add, List.nil_append] at hO'
 obtain ⟨A6, c6, rfl⟩ := hO'.form
 (repeat' (first | refine JC.seq ?_ | refine JC.ops ?_ | refine JO.nil ?_ | refine Q00 ?_ | (apply Q02; (iterate 3 exact rfl))))
 refine Q09 (by first | trivial | exact ⟨rfl, rfl⟩) rfl rfl rfl (fun w _ _ => Qaz w 1 (by omega) (by omega)) fun w v w' _ _ _ hR => ?_
 subst hR
 (repeat' (first | refine JC.seq ?_ | refine JC.ops ?_ | refine JO.nil ?_ | refine Q00 ?_ | (apply Q02; (iterate 3 exact rfl)) | (apply Q05; exact rfl; (first | exact trivial | exact ⟨rfl, rfl⟩); exact rfl; exact rfl; exact at0; (iterate 3 exact rfl)) | (apply Q0e; (iterate 3 exact rfl); intro _) | (apply Q05; exact rfl; (first | exact trivial | exact ⟨rfl, rfl⟩); exact rfl; exact rfl; exact at0; (iterate 3 exact rfl)) | refine JC.block ?_))
 rename_i b7
 have hD0 : DetR n K (ZM.mk n n e).at 0 1 false e := ⟨⟨_, Qhr n (ZM.mk n n e).at, by simp, fun i j => hx.at i j⟩, fun i j hi hj => Q8q (hx.at i j) (by have : K + 1 ≤ n * (K + 1) := Nat.le_mul_of_pos_left _ (by omega); omega)⟩
 generalize (ZM.mk n n e).at = A0 at hD0 ⊢
 refine Q0k (ι := Nat × Int × Bool × SHeap × List Int) ⟨fun z => [(9, nv z.1), (8, .bool z.2.2.1), (7, .pointer (some ⟨b7, 0, none⟩)), (6, .slice A6 (n * n) c6), (5, nv n), (2, .pointer (some ⟨b2, 0, none⟩))],
  fun z => [(b7, .cells (wc z.2.1) 34), (b2, .cells #[.bool false, .string ⟨#[]⟩] 34)] ++ (z.2.2.2.1 ++ []),
  fun z => z.1 ≤ n ∧ OwnZ z.2.2.2.1 (.slice A6 (n * n) c6) (n * n) z.2.2.2.2 ∧ DetR n K A0 z.1 z.2.1 z.2.2.1 z.2.2.2.2, fun z => n - z.1⟩ (0, 1, false, N, e) ⟨by omega, hO', hD0⟩ (by repeat first | exact trivial | refine ⟨rfl, ?_⟩) ⟨[(b1, .cells #[nv n, nv n, E] 29)], by
   dsimp only
   simp only [List.cons_append, List.nil_append, List.append_nil]
   exact List.Perm.cons _ List.perm_middle⟩ (fun z hz => ?_)
 clear hO hO' hD0
 obtain ⟨k, last, tn, N, es⟩ := z
 obtain ⟨hkn, hO, hD⟩ := hz
 dsimp only at hkn hO hD ⊢
 have hel := hO.len
 by_cases hlt : k < n
 ·have q0 : k * n ≤ 40000 := Nat.le_trans (Nat.mul_le_mul_right n hkn) hle
  (repeat' (first | refine JC.seq ?_ | refine JC.ops ?_ | refine JO.nil ?_ | refine Q00 ?_ | (apply Q04; (iterate 3 exact rfl)) | (apply Q0m; (iterate 4 exact rfl); all_goals intro hc; all_goals try (exfalso; omega)) | refine JC.skip ?_ | refine Q08 rfl ?_))
  refine JC.block ?_
  (repeat' (first | refine JC.seq ?_ | refine JC.ops ?_ | refine JO.nil ?_ | refine Q00 ?_ | (apply Q04; (iterate 3 exact rfl)) | (apply Q02; (iterate 3 exact rfl))))
  refine JC.later (ι := { p : Nat // k ≤ p ∧ p < n ∧ enz n es p k ≠ 0 }) (fun p => [(10, nv p.1), (9, nv k), (8, .bool tn), (7, .pointer (some ⟨b7, 0, none⟩)), (6, .slice A6 (n * n) c6), (5, nv n), (2, .pointer (some ⟨b2, 0, none⟩))]) (fun _ => [(b7, .cells (wc last) 34), (b2, .cells #[.bool false, .string ⟨#[]⟩] 34)] ++ (N ++ [])) (fun _ => True) (fun p _ => ?_) (fun rest => ?_)
  ·obtain ⟨p, hkp, hpn, hpz⟩ := p
   dsimp only
   have q1 : p * n ≤ 40000 := Nat.le_trans (Nat.mul_le_mul_right n (by omega)) hle
   refine Q00 ?_
   (repeat' (first | refine JC.seq ?_ | refine JC.ops ?_ | refine JO.nil ?_ | refine Q00 ?_ | (apply Q04; (iterate 3 exact rfl)) | (apply Q02; (iterate 3 exact rfl)) | (apply Q2f; (iterate 4 exact rfl); all_goals intro hc; all_goals try (exfalso; omega)) | refine JC.skip ?_ | refine Q07 rfl ?_))
   all_goals first
    | (exfalso; omega)
    | skip
   refine JC.later (ι := { z : SHeap × List Int // OwnZ z.1 (.slice A6 (n * n) c6) (n * n) z.2 ∧ ∀ i j, i < n → j < n → enz n z.2 i j = swR (enz n es) k p n i j }) (fun _ => [(10, nv p), (9, nv k), (8, .bool tn), (7, .pointer (some ⟨b7, 0, none⟩)), (6, .slice A6 (n * n) c6), (5, nv n), (2, .pointer (some ⟨b2, 0, none⟩))]) (fun z => [(b7, .cells (wc last) 34), (b2, .cells #[.bool false, .string ⟨#[]⟩] 34)] ++ (z.1.1 ++ [])) (fun _ => True) (fun z _ => ?_) (fun rest2 => ?_)
   ·obtain ⟨⟨N2, es2⟩, hO2, hM2⟩ := z
    dsimp only at hO2 hM2 ⊢
    clear hO
    have hD2 := hD.swap hkp hpn hM2
    have hpz2 : enz n es2 k k ≠ 0 := by
     rw [hM2 k k hlt hlt]
     unfold swR
     by_cases h : p = k
     ·subst h; rw [if_neg (by omega)]; exact hpz
     ·rw [if_pos ⟨h, hlt⟩, if_neg (fun e => h e.symm), if_pos rfl]; exact hpz
    clear hM2 hpz hD
    have hel2 := hO2.len
    obtain ⟨A, hbar, hdet, hA⟩ := hD2.ex
    refine Q00 ?_
    (repeat' (first | refine JC.seq ?_ | refine JC.ops ?_ | (apply Q04; (iterate 3 exact rfl))))
    refine Qn9 rfl rfl rfl rfl ?_
    (repeat' (first | refine JC.seq ?_ | refine JC.ops ?_ | refine JO.nil ?_ | refine Q00 ?_ | (apply Q04; (iterate 3 exact rfl)) | (apply Q02; (iterate 3 exact rfl)) | (apply Q0r; (iterate 4 exact rfl); omega) | (apply Q6s; (iterate 4 exact rfl)) | refine JC.block ?_))
    have htn : (tn != decide ((p : Int) ≠ (k : Int))) = (tn != !decide (p = k)) := by
     congr 1
     rw [← decide_not, decide_eq_decide]
     omega
    rw [htn]
    generalize (tn != !decide (p = k)) = tn2 at hdet hD2 ⊢
    refine Q0k (ι := Nat × SHeap × List Int) ⟨fun z => [(13, nv z.1), (9, nv k), (8, .bool tn2), (7, .pointer (some ⟨b7, 0, none⟩)), (6, .slice A6 (n * n) c6), (5, nv n), (2, .pointer (some ⟨b2, 0, none⟩))], fun z => [(b7, .cells (wc last) 34), (b2, .cells #[.bool false, .string ⟨#[]⟩] 34)] ++ (z.2.1 ++ []),
     fun z => k + 1 ≤ z.1 ∧ z.1 ≤ n ∧ OwnZ z.2.1 (.slice A6 (n * n) c6) (n * n) z.2.2 ∧ ∀ i j, i < n → j < n → enz n z.2.2 i j = elS (enz n es2) k last z.1 0 i j, fun z => n - z.1⟩ (k + 1, N2, es2) ⟨by dsimp only; omega, by dsimp only; omega, hO2, fun i j _ _ => (Q6e _ _ _ _ (by omega) _ _).symm⟩ (by repeat first | exact trivial | refine ⟨rfl, ?_⟩) (HSub.refl _) (fun z hz => ?_)
    clear hO2
    obtain ⟨i, N3, es3⟩ := z
    obtain ⟨hki, hin, hO3, hM3⟩ := hz
    dsimp only at hki hin hO3 hM3 ⊢
    by_cases hi : i < n
    ·have q2 : i * n ≤ 40000 := Nat.le_trans (Nat.mul_le_mul_right n (by omega)) hle
     (repeat' (first | refine JC.seq ?_ | refine JC.ops ?_ | refine JO.nil ?_ | refine Q00 ?_ | (apply Q04; (iterate 3 exact rfl)) | (apply Q02; (iterate 3 exact rfl)) | (apply Q0r; (iterate 4 exact rfl); omega) | (apply Q0m; (iterate 4 exact rfl); all_goals intro hc; all_goals try (exfalso; omega)) | refine JC.skip ?_ | refine Q08 rfl ?_ | refine JC.block ?_))
     refine Q0k (ι := Nat × SHeap × List Int) ⟨fun z => [(14, nv z.1), (13, nv i), (9, nv k), (8, .bool tn2), (7, .pointer (some ⟨b7, 0, none⟩)), (6, .slice A6 (n * n) c6), (5, nv n), (2, .pointer (some ⟨b2, 0, none⟩))], fun z => [(b7, .cells (wc last) 34), (b2, .cells #[.bool false, .string ⟨#[]⟩] 34)] ++ (z.2.1 ++ []),
      fun z => k + 1 ≤ z.1 ∧ z.1 ≤ n ∧ OwnZ z.2.1 (.slice A6 (n * n) c6) (n * n) z.2.2 ∧ ∀ a b, a < n → b < n → enz n z.2.2 a b = elS (enz n es2) k last i z.1 a b, fun z => n - z.1⟩ (k + 1, N3, es3) ⟨by dsimp only; omega, by dsimp only; omega, hO3, fun a b ha hb => by rw [hM3 a b ha hb, Q7p]⟩ (by repeat first | exact trivial | refine ⟨rfl, ?_⟩) (HSub.refl _) (fun z hz => ?_)
     clear hO3
     obtain ⟨j, N4, es4⟩ := z
     obtain ⟨hkj, hjn, hO4, hM4⟩ := hz
     dsimp only at hkj hjn hO4 hM4 ⊢
     have hel4 := hO4.len
     by_cases hj : j < n
     ·have x1 := Q3y hlt hlt
      have x2 := Q3y hi hj
      have x3 := Q3y hi hlt
      have x4 := Q3y hlt hj
      have e0 : es4.getD (k * n + k) 0 = enz n es2 k k := (hM4 k k hlt hlt).trans (by unfold elS; rw [if_neg (by omega)])
      have e1 : es4.getD (i * n + j) 0 = enz n es2 i j := (hM4 i j hi hj).trans (by unfold elS; rw [if_neg (by omega)])
      have e2 : es4.getD (i * n + k) 0 = enz n es2 i k := (hM4 i k hi hlt).trans (by unfold elS; rw [if_neg (by omega)])
      have e3 : es4.getD (k * n + j) 0 = enz n es2 k j := (hM4 k j hlt hj).trans (by unfold elS; rw [if_neg (by omega)])
      have d0 := hD2.bd k k hlt hlt
      have d1 := hD2.bd i j hi hj
      have d2 := hD2.bd i k hi hlt
      have d3 := hD2.bd k j hlt hj
      rw [← e0] at d0
      rw [← e1] at d1
      rw [← e2] at d2
      rw [← e3] at d3
      (repeat' (first | refine JC.seq ?_ | refine JC.ops ?_ | refine JC.opsD ?_ | refine JO.nil ?_ | refine Q00 ?_ | (apply Q04; (iterate 3 exact rfl)) | (apply Q1m; (iterate 4 exact rfl); (first | assumption | exact WZ.rd (by assumption) rfl [] | exact OwnZ.rd (by assumption)); (first | assumption | omega)) | (apply Q52; (iterate 4 exact rfl); (first | assumption | exact WZ.rd (by assumption) rfl [] | exact OwnZ.rd (by assumption)); (repeat' first | exact HSub.nil _ | exact HSub.hd | exact Q03 | exact HSub.refl _ | refine HSub.skip ?_ | refine Q01 ?_); (first | assumption | omega)) | (apply Q1a; (iterate 4 exact rfl); omega) | (apply Q1q; (iterate 4 exact rfl); (first | assumption | omega)) | (apply Q0m; (iterate 4 exact rfl); all_goals intro hc; all_goals try (exfalso; omega)) | refine JC.skip ?_ | refine Q08 rfl ?_ | refine JC.block ?_))
      refine Q09 (by first | trivial | exact ⟨rfl, rfl⟩) rfl rfl rfl (fun w _ _ => Qe3 w _ _ (es4.getD (k * n + k) 0) (es4.getD (i * n + j) 0) (n * (K + 1) + 1) (Q0t d0) (Q0t d1) (by omega)) fun w v w' _ _ _ hR => ?_
      subst hR
      (repeat' (first | refine JC.seq ?_ | refine JC.opsD ?_ | refine JO.nil ?_ | refine Q00 ?_ | (apply Q04; (iterate 3 exact rfl)) | (apply Q1m; (iterate 4 exact rfl); (first | assumption | exact WZ.rd (by assumption) rfl [] | exact OwnZ.rd (by assumption)); (first | assumption | omega)) | (apply Q52; (iterate 4 exact rfl); (first | assumption | exact WZ.rd (by assumption) rfl [] | exact OwnZ.rd (by assumption)); (repeat' first | exact HSub.nil _ | exact HSub.hd | exact Q03 | exact HSub.refl _ | refine HSub.skip ?_ | refine Q01 ?_); (first | assumption | omega)) | (apply Q1a; (iterate 4 exact rfl); omega) | (apply Q1q; (iterate 4 exact rfl); (first | assumption | omega)) | (apply Q05; exact rfl; (first | exact trivial | exact ⟨rfl, rfl⟩); exact rfl; exact rfl; exact at0; (iterate 3 exact rfl)) | (apply Q0e; (iterate 3 exact rfl); intro _) | (apply Q05; exact rfl; (first | exact trivial | exact ⟨rfl, rfl⟩); exact rfl; exact rfl; exact at0; (iterate 3 exact rfl))))
      refine Q09 (by first | trivial | exact ⟨rfl, rfl⟩) rfl rfl rfl (fun w _ _ => Qe3 w _ _ (es4.getD (i * n + k) 0) (es4.getD (k * n + j) 0) (n * (K + 1) + 1) (Q0t d2) (Q0t d3) (by omega)) fun w v w' _ _ _ hR => ?_
      subst hR
      (repeat' (first | refine JC.seq ?_ | refine JC.opsD ?_ | refine JO.nil ?_ | refine Q00 ?_ | (apply Q0d; (iterate 4 exact rfl); (first | exact at0 | exact at1 | exact at2); exact rfl) | (apply Q05; exact rfl; (first | exact trivial | exact ⟨rfl, rfl⟩); exact rfl; exact rfl; (first | exact at0 | exact at1 | exact at2); (iterate 3 exact rfl)) | (apply Q0e; (iterate 3 exact rfl); intro _) | (apply Q05; exact rfl; (first | exact trivial | exact ⟨rfl, rfl⟩); exact rfl; exact rfl; (first | exact at0 | exact at1 | exact at2); (iterate 3 exact rfl))))
      refine Q09 (by first | trivial | exact ⟨rfl, rfl⟩) rfl rfl rfl (fun w _ _ => Qny w _ _ (es4.getD (k * n + k) 0 * es4.getD (i * n + j) 0) (es4.getD (i * n + k) 0 * es4.getD (k * n + j) 0) _ (Q0t (Q29 d0 d1)) (Q0t (Q29 d2 d3)) (by omega)) fun w v w' _ _ _ hR => ?_
      subst hR
      skip
      refine Q09 (by first | trivial | exact ⟨rfl, rfl⟩) rfl rfl rfl (fun w _ _ => Qo0 w _ _ (es4.getD (k * n + k) 0 * es4.getD (i * n + j) 0 - es4.getD (i * n + k) 0 * es4.getD (k * n + j) 0) last (n * (K + 1) + 1 + (n * (K + 1) + 1) + 1) (Q0t (Qbg (Q29 d0 d1) (Q29 d2 d3))) (Q0t (Q8q (hbar.lastLt (by omega) hbr hA) (by omega))) (by omega)) fun w v w' _ _ _ hR => ?_
      rw [if_neg hbar.ne] at hR
      subst hR
      (repeat' (first | refine JC.ops ?_ | refine JO.nil ?_ | refine Q00 ?_ | (apply Q04; (iterate 3 exact rfl)) | (apply Q02; (iterate 3 exact rfl)) | (apply Q0d; (iterate 4 exact rfl); (first | exact at0 | exact at1); exact rfl) | (apply Q1m; (iterate 4 exact rfl); (first | assumption | exact WZ.rd (by assumption) rfl [] | exact OwnZ.rd (by assumption)); (first | assumption | omega)) | (apply Q1a; (iterate 4 exact rfl); omega) | (apply Q1q; (iterate 4 exact rfl); (first | assumption | omega)) | (apply Q0v; (iterate 4 exact rfl)) | (apply Q05; exact rfl; (first | exact trivial | exact ⟨rfl, rfl⟩); exact rfl; exact rfl; (first | exact at0 | exact at1); (iterate 3 exact rfl)) | (apply Q0e; (iterate 3 exact rfl); intro _) | (apply Q05; exact rfl; (first | exact trivial | exact ⟨rfl, rfl⟩); exact rfl; exact rfl; (first | exact at0 | exact at1); (iterate 3 exact rfl))))
      refine Q5s (A := [_, _, _, _, _, _]) (u := (es4.getD (k * n + k) 0 * es4.getD (i * n + j) 0 - es4.getD (i * n + k) 0 * es4.getD (k * n + j) 0) / last) hO4 rfl rfl (by first | trivial | exact ⟨rfl, rfl⟩) rfl rfl x2 (fun N5 hO5 => ?_)
      (repeat' (first | refine JC.ops ?_ | refine JO.nil ?_ | refine Q00 ?_ | (apply Q04; (iterate 3 exact rfl)) | (apply Q02; (iterate 3 exact rfl)) | (apply Q0r; (iterate 4 exact rfl); omega) | refine Q0b ?_))
      refine Q0c (j + 1, N5, _) ⟨by dsimp only; omega, by dsimp only; omega, hO5, fun a b ha hb => ?_⟩ (by dsimp only; omega) (by repeat first | exact trivial | refine ⟨rfl, ?_⟩) (HSub.skip (HSub.skip (HSub.skip (HSub.skip (HSub.refl _)))))
      dsimp only
      rw [Qcn hel4 hi hj hb, e0, e1, e2, e3, hM4 a b ha hb]
      exact Q7q _ _ _ _ _ (by omega) (by omega) _ _
     ·(repeat' (first | refine JC.seq ?_ | refine JC.ops ?_ | refine JO.nil ?_ | refine Q00 ?_ | (apply Q04; (iterate 3 exact rfl)) | (apply Q02; (iterate 3 exact rfl)) | (apply Q0r; (iterate 4 exact rfl); omega) | (apply Q0m; (iterate 4 exact rfl); all_goals intro hc; all_goals try (exfalso; omega)) | refine Q0i ?_ | refine JC.exit ?_ | refine Q07 rfl ?_ | refine Q0b ?_ | refine Q0f ?_))
      obtain rfl : j = n := by omega
      refine Q0c (i + 1, N4, es4) ⟨by dsimp only; omega, by dsimp only; omega, hO4, fun a b ha hb => ?_⟩ (by dsimp only; omega) (by repeat first | exact trivial | refine ⟨rfl, ?_⟩) (HSub.refl _)
      dsimp only
      rw [hM4 a b ha hb, Qas _ _ _ _ _ _ _ hb]
    ·obtain rfl : i = n := by omega
     have x1 := Q3y hlt hlt
     have e0 : es3.getD (k * i + k) 0 = enz i es2 k k := (hM3 k k hlt hlt).trans (by unfold elS; rw [if_neg (by omega)])
     have hst := hbar.step (M' := enz i es3) hlt hpz2 (fun a b ha hin hb hjn => by
      rw [hM3 a b hin hjn]
      unfold elS
      rw [if_pos ⟨hb, ha, .inl (by omega)⟩])
     rw [← e0] at hst
     (repeat' (first | refine JC.seq ?_ | refine JC.ops ?_ | refine JO.nil ?_ | refine Q00 ?_ | (apply Q04; (iterate 3 exact rfl)) | (apply Q02; (iterate 3 exact rfl)) | (apply Q1m; (iterate 4 exact rfl); (first | assumption | exact WZ.rd (by assumption) rfl [] | exact OwnZ.rd (by assumption)); (first | assumption | omega)) | (apply Q52; (iterate 4 exact rfl); (first | assumption | exact WZ.rd (by assumption) rfl [] | exact OwnZ.rd (by assumption)); (repeat' first | exact HSub.nil _ | exact HSub.hd | exact Q03 | exact HSub.refl _ | refine HSub.skip ?_ | refine Q01 ?_); (first | assumption | omega)) | (apply Q0r; (iterate 4 exact rfl); omega) | (apply Q1a; (iterate 4 exact rfl); omega) | (apply Q1q; (iterate 4 exact rfl); (first | assumption | omega)) | (apply Q05; exact rfl; (first | exact trivial | exact ⟨rfl, rfl⟩); exact rfl; exact rfl; exact at0; (iterate 3 exact rfl)) | (apply Q0m; (iterate 4 exact rfl); all_goals intro hc; all_goals try (exfalso; omega)) | (apply Q05; exact rfl; (first | exact trivial | exact ⟨rfl, rfl⟩); exact rfl; exact rfl; exact at0; (iterate 3 exact rfl)) | refine Q0i ?_ | refine JC.exit ?_ | refine Q07 rfl ?_ | refine Q0b ?_ | refine Q0f ?_))
     refine Q0c (k + 1, es3.getD (k * i + k) 0, tn2, N3, es3) ⟨by dsimp only; omega, hO3, ⟨A, hst, hdet, hA⟩, fun a b ha hb => ?_⟩ (by dsimp only; omega) (by repeat first | exact trivial | refine ⟨rfl, ?_⟩) (HSub.refl _)
     dsimp only
     by_cases hc : k < b ∧ k < a
     ·exact hst.lt hbr hA (by omega) ha (by omega) hb
     ·rw [hM3 a b ha hb]
      unfold elS
      rw [if_neg (by omega)]
      exact hD2.bd a b ha hb
   ·refine JC.block ?_
    refine Q0k (ι := Nat × SHeap × List Int) ⟨fun z => [(11, nv z.1), (10, nv p), (9, nv k), (8, .bool tn), (7, .pointer (some ⟨b7, 0, none⟩)), (6, .slice A6 (n * n) c6), (5, nv n), (2, .pointer (some ⟨b2, 0, none⟩))], fun z => [(b7, .cells (wc last) 34), (b2, .cells #[.bool false, .string ⟨#[]⟩] 34)] ++ (z.2.1 ++ []),
     fun z => z.1 ≤ n ∧ OwnZ z.2.1 (.slice A6 (n * n) c6) (n * n) z.2.2 ∧ ∀ i j, i < n → j < n → enz n z.2.2 i j = swR (enz n es) k p z.1 i j, fun z => n - z.1⟩ (0, N, es) ⟨by dsimp only; omega, hO, fun i j _ _ => (Qi3 _ _ _ _ _).symm⟩ (by repeat first | exact trivial | refine ⟨rfl, ?_⟩) (HSub.refl _) (fun z hz => ?_)
    clear hO
    obtain ⟨j, N, es2⟩ := z
    obtain ⟨hj, hO, hM⟩ := hz
    dsimp only at hj hO hM ⊢
    have hel2 := hO.len
    by_cases hjp : j < n ∧ p ≠ k
    ·obtain ⟨hjn, hpk⟩ := hjp
     have x1 := Q3y hpn hjn
     have x2 := Q3y hlt hjn
     (repeat' (first | refine JC.seq ?_ | refine JC.ops ?_ | refine JO.nil ?_ | refine Q00 ?_ | (apply Q04; (iterate 3 exact rfl)) | (apply Q1m; (iterate 4 exact rfl); (first | assumption | exact WZ.rd (by assumption) rfl [] | exact OwnZ.rd (by assumption)); (first | assumption | omega)) | (apply Q52; (iterate 4 exact rfl); (first | assumption | exact WZ.rd (by assumption) rfl [] | exact OwnZ.rd (by assumption)); (repeat' first | exact HSub.nil _ | exact HSub.hd | exact Q03 | exact HSub.refl _ | refine HSub.skip ?_ | refine Q01 ?_); (first | assumption | omega)) | (apply Q1a; (iterate 4 exact rfl); omega) | (apply Q1q; (iterate 4 exact rfl); (first | assumption | omega)) | (apply Q0n; (iterate 4 exact rfl)) | (apply Q05; exact rfl; (first | exact trivial | exact ⟨rfl, rfl⟩); exact rfl; exact rfl; exact at0; (iterate 3 exact rfl)) | (apply Q0m; (iterate 4 exact rfl); all_goals intro hc; all_goals try (exfalso; omega)) | (apply Q3h; (iterate 4 exact rfl); all_goals intro hc; all_goals try (exfalso; omega)) | (apply Q0e; (iterate 3 exact rfl); intro _) | (apply Q05; exact rfl; (first | exact trivial | exact ⟨rfl, rfl⟩); exact rfl; exact rfl; exact at0; (iterate 3 exact rfl)) | refine JC.skip ?_ | refine Q08 rfl ?_ | refine JC.block ?_))
     rename_i b12
     have g1 : es2.getD (k * n + j) 0 = enz n es k j := (hM k j hlt hjn).trans (by unfold swR; rw [if_neg (by omega)])
     have g2 : es2.getD (p * n + j) 0 = enz n es p j := (hM p j hpn hjn).trans (by unfold swR; rw [if_neg (by omega)])
     refine Q5s (A := [_, _, _]) (u := es2.getD (k * n + j) 0) hO rfl rfl (by first | trivial | exact ⟨rfl, rfl⟩) rfl rfl x1 (fun N1 hO1 => ?_)
     (repeat' (first | refine JC.ops ?_ | refine JO.nil ?_ | refine Q00 ?_ | (apply Q04; (iterate 3 exact rfl)) | (apply Q0d; (iterate 4 exact rfl); exact at0; exact rfl) | (apply Q1m; (iterate 4 exact rfl); (first | assumption | exact WZ.rd (by assumption) rfl [] | exact OwnZ.rd (by assumption)); (first | assumption | omega)) | (apply Q1a; (iterate 4 exact rfl); omega) | (apply Q1q; (iterate 4 exact rfl); (first | assumption | omega))))
     refine Q5s (A := [_, _, _]) (u := es2.getD (p * n + j) 0) hO1 rfl rfl (by first | trivial | exact ⟨rfl, rfl⟩) rfl rfl x2 (fun N2 hO2 => ?_)
     (repeat' (first | refine JC.ops ?_ | refine JO.nil ?_ | refine Q00 ?_ | (apply Q04; (iterate 3 exact rfl)) | (apply Q02; (iterate 3 exact rfl)) | (apply Q0r; (iterate 4 exact rfl); omega) | refine Q0b ?_))
     refine Q0c (j + 1, N2, _) ⟨by dsimp only; omega, hO2, fun a b ha hb => ?_⟩ (by dsimp only; omega) (by repeat first | exact trivial | refine ⟨rfl, ?_⟩) (HSub.skip (HSub.refl _))
     dsimp only
     rw [Qcn (by rw [List.length_set]; exact hel2) hlt hjn hb, Qcn hel2 hpn hjn hb, g1, g2, hM a b ha hb]
     exact Qi4 hpk a b
    ·have hexit : ∀ i' j', i' < n → j' < n → enz n es2 i' j' = swR (enz n es) k p n i' j' := fun i' j' h1 h2 => by
      rw [hM i' j' h1 h2]
      by_cases h : p = k
      ·subst h; rw [Qa2, Qa2]
      ·obtain rfl : j = n := by omega
       rfl
     (repeat' (first | refine JC.seq ?_ | refine JC.ops ?_ | refine JO.nil ?_ | (apply Q04; (iterate 3 exact rfl)) | (apply Q0n; (iterate 4 exact rfl)) | (apply Q0q; (iterate 4 exact rfl)) | (apply Q0m; (iterate 4 exact rfl); all_goals intro hc; all_goals try (exfalso; omega)) | (apply Q3h; (iterate 4 exact rfl); all_goals intro hc; all_goals try (exfalso; omega)) | (apply Q10; exact rfl; exact rfl; (first | (intro h; cases h; done) | (intro _; rfl)))))
     all_goals refine Q00 ?_
     all_goals (repeat' (first | refine Q0i ?_ | refine JC.exit ?_ | refine Q07 rfl ?_ | refine Q0f ?_))
     all_goals exact JX.part (by repeat first | exact trivial | refine ⟨rfl, ?_⟩) (HSub.refl _) (rest2 ⟨(N, es2), hO, hexit⟩ trivial)
  ·refine JC.block ?_
   refine Q0k (ι := Nat) ⟨fun p => [(10, nv p), (9, nv k), (8, .bool tn), (7, .pointer (some ⟨b7, 0, none⟩)), (6, .slice A6 (n * n) c6), (5, nv n), (2, .pointer (some ⟨b2, 0, none⟩))], fun _ => [(b7, .cells (wc last) 34), (b2, .cells #[.bool false, .string ⟨#[]⟩] 34)] ++ (N ++ []), fun p => k ≤ p ∧ p ≤ n ∧ ∀ i, k ≤ i → i < p → enz n es i k = 0, fun p => n - p⟩ k ⟨by omega, by omega, fun i h1 h2 => by omega⟩ (by repeat first | exact trivial | refine ⟨rfl, ?_⟩) (HSub.refl _) (fun p hp => ?_)
   obtain ⟨hkp, hpn, hpz⟩ := hp
   dsimp only
   by_cases hpl : p < n
   ·have hpk := Q3y hpl hlt
    have q1 : p * n ≤ 40000 := Nat.le_trans (Nat.mul_le_mul_right n (by omega)) hle
    (repeat' (first | refine JC.seq ?_ | refine JC.ops ?_ | refine JO.nil ?_ | refine Q00 ?_ | (apply Q04; (iterate 3 exact rfl)) | (apply Q1m; (iterate 4 exact rfl); (first | assumption | exact WZ.rd (by assumption) rfl [] | exact OwnZ.rd (by assumption)); (first | assumption | omega)) | (apply Q9e; (iterate 4 exact rfl); (first | assumption | exact WX.rd (by assumption) rfl [] | exact OwnX.rd (by assumption)); (repeat' first | exact HSub.nil _ | exact HSub.hd | exact Q03 | exact HSub.refl _ | refine HSub.skip ?_ | refine Q01 ?_); (first | assumption | omega)) | (apply Q4j; (iterate 3 exact rfl); (first | assumption | exact WX.rd (by assumption) rfl [] | exact OwnX.rd (by assumption)); omega) | (apply Q1a; (iterate 4 exact rfl); omega) | (apply Q1q; (iterate 4 exact rfl); (first | assumption | omega)) | (apply Q0n; (iterate 4 exact rfl)) | (apply Qg4; (iterate 4 exact rfl)) | (apply Q0m; (iterate 4 exact rfl); all_goals intro hc; all_goals try (exfalso; omega))))
    have hz59 : decide (((List.map wz es).getD (p * n + k) w0x).snd = []) = decide (enz n es p k = 0) := by rw [Q8c]; exact decide_eq_decide.2 Qbv
    by_cases hz : enz n es p k = 0
    ·rw [hz59, decide_eq_true hz]
     (repeat' (first | refine JC.ops ?_ | refine JO.nil ?_ | refine Q00 ?_ | (apply Q04; (iterate 3 exact rfl)) | (apply Q02; (iterate 3 exact rfl)) | (apply Q0r; (iterate 4 exact rfl); omega) | refine JC.skip ?_ | refine Q08 rfl ?_ | refine JC.block ?_ | refine Q0b ?_))
     refine Q0c (p + 1) ⟨by omega, by omega, fun i h1 h2 => ?_⟩ (by dsimp only; omega) (by repeat first | exact trivial | refine ⟨rfl, ?_⟩) (HSub.refl _)
     rcases Nat.lt_or_ge i p with h | h
     ·exact hpz i h1 h
     ·obtain rfl : i = p := by omega
      exact hz
    ·rw [hz59, decide_eq_false hz]
     (repeat' (first | refine Q0i ?_ | refine JC.exit ?_ | refine Q07 rfl ?_ | refine Q0f ?_))
     exact JX.part (by repeat first | exact trivial | refine ⟨rfl, ?_⟩) (HSub.refl _) (rest ⟨p, hkp, hpl, hz⟩ trivial)
   ·obtain rfl : p = n := by omega
    have h0 := hD.none hlt hpz
    (repeat' (first | refine JC.seq ?_ | refine JC.ops ?_ | refine JO.nil ?_ | refine Q00 ?_ | (apply Q04; (iterate 3 exact rfl)) | (apply Q02; (iterate 3 exact rfl)) | (apply Q0q; (iterate 4 exact rfl)) | (apply Q05; exact rfl; (first | exact trivial | exact ⟨rfl, rfl⟩); exact rfl; exact rfl; exact at1; (iterate 3 exact rfl)) | (apply Q0m; (iterate 4 exact rfl); all_goals intro hc; all_goals try (exfalso; omega)) | (apply Q2f; (iterate 4 exact rfl); all_goals intro hc; all_goals try (exfalso; omega)) | (apply Q11; (iterate 5 exact rfl)) | (apply Q05; exact rfl; (first | exact trivial | exact ⟨rfl, rfl⟩); exact rfl; exact rfl; exact at1; (iterate 3 exact rfl)) | refine Q0i ?_ | refine Q0o ?_ | refine JC.exit ?_ | refine JC.ret ?_ | refine Q08 rfl ?_ | refine Q07 rfl ?_ | refine Q1b ?_ | refine Q0f ?_ | (apply Q10; exact rfl; exact rfl; (first | (intro h; cases h; done) | (intro _; rfl)))))
    refine Q16 1 rfl rfl rfl rfl (fun a w' st => ⟨st.kp, ?_⟩)
    rw [h0, Wz0]
    rfl
 ·obtain rfl : k = n := by omega
  obtain ⟨A, hbar, hdet, hA⟩ := hD.ex
  have hdone := hbar.done
  have hlast := hbar.lastLt (Nat.le_refl _) hbr hA
  (repeat' (first | refine JC.seq ?_ | refine JC.ops ?_ | refine JO.nil ?_ | refine Q00 ?_ | (apply Q04; (iterate 3 exact rfl)) | (apply Q0m; (iterate 4 exact rfl); all_goals intro hc; all_goals try (exfalso; omega)) | refine Q0i ?_ | refine JC.exit ?_ | refine Q07 rfl ?_ | refine Q0f ?_))
  cases tn with
  | false =>
   (repeat' (first | refine JC.seq ?_ | refine JC.ops ?_ | refine JO.nil ?_ | refine Q00 ?_ | (apply Q02; (iterate 3 exact rfl)) | (apply Q0d; (iterate 4 exact rfl); (first | exact at0 | exact at1); exact rfl) | (apply Q05; exact rfl; (first | exact trivial | exact ⟨rfl, rfl⟩); exact rfl; exact rfl; (first | exact at0 | exact at1); (iterate 3 exact rfl)) | (apply Q05; exact rfl; (first | exact trivial | exact ⟨rfl, rfl⟩); exact rfl; exact rfl; (first | exact at0 | exact at1); (iterate 3 exact rfl)) | refine JC.skip ?_ | refine JC.ret ?_ | refine Q07 rfl ?_))
   refine Q16 1 rfl rfl rfl rfl (fun a w' st => ⟨st.kp, ?_⟩)
   have : det k A0 = last := by rw [hdone, hdet]; simp
   rw [this]
   rfl
  | true =>
   (repeat' (first | refine JC.ops ?_ | (apply Q0d; (iterate 4 exact rfl); exact at0; exact rfl) | refine Q08 rfl ?_))
   refine Q09 (by first | trivial | exact ⟨rfl, rfl⟩) rfl rfl rfl (fun w _ _ => Qha w _ last _ (Q0t hlast) (by omega)) fun w v w' _ _ _ hR => ?_
   subst hR
   (repeat' (first | refine JC.seq ?_ | refine JC.ops ?_ | refine JO.nil ?_ | refine Q00 ?_ | (apply Q02; (iterate 3 exact rfl)) | (apply Q0d; (iterate 4 exact rfl); (first | exact at0 | exact at1); exact rfl) | (apply Q05; exact rfl; (first | exact trivial | exact ⟨rfl, rfl⟩); exact rfl; exact rfl; (first | exact at0 | exact at1); (iterate 3 exact rfl)) | (apply Q05; exact rfl; (first | exact trivial | exact ⟨rfl, rfl⟩); exact rfl; exact rfl; (first | exact at0 | exact at1); (iterate 3 exact rfl)) | refine JC.ret ?_))
   refine Q16 1 rfl rfl rfl rfl (fun a w' st => ⟨st.kp, ?_⟩)
   have : det k A0 = -last := by rw [hdone, hdet]; simp
   rw [this]
   rfl


set_option maxHeartbeats 2000000 in
theorem Qm0 (w : World) (v : Value) (m : ZM) (i j : Int) (hm : RtZ m) (hv : IsM w v m) : Calls Tryz.prog 19 #[v, iv i, iv j] w (Ret fun v w' => Kp [] w w' ∧ v = Wv (atZ m i j)) := by
 have hvX := hv.x
 obtain ⟨E, rfl, hE⟩ := hv
 have hl := hm.len
 have hle := hm.le
 by_cases h : 0 ≤ i ∧ i < m.r ∧ 0 ≤ j ∧ j < m.c
 ·obtain ⟨i, rfl⟩ := Int.eq_ofNat_of_zero_le h.1
  obtain ⟨j, rfl⟩ := Int.eq_ofNat_of_zero_le h.2.2.1
  have hi : i < m.r := by omega
  have hj : j < m.c := by omega
  have hlt := Q3y hi hj
  have e : atZ m i j = m.e.getD (i * m.c + j) 0 := if_pos h
  rw [e]
  refine Q0a [] [] (by simp) [] Tryz.func19 rfl mixed (by kernel_rfl) Tryz.ntmps19 Tryz.results19 rfl ⟨by simp, by simp⟩ (by simp) ?_
  simp only [toS, textOps, toSOp, kindAt, kindOf, odAt, sopsAt, ordOf, zipF]
  (repeat' (first | refine JC.seq ?_ | refine JC.ops ?_ | refine JO.nil ?_ | refine Q00 ?_ | (apply Q0d; (iterate 4 exact rfl); exact at1; exact rfl) | (apply Q0e; (iterate 3 exact rfl); intro _) | (apply Q0x; (iterate 4 exact rfl); intro _)))
  refine Q09 trivial rfl rfl rfl (fun w hk _ => Q1f w _ m.xm (hvX.mono hk) (Q75 hm)) fun w v w' _ _ _ hR => ?_
  obtain ⟨b, rfl, hb⟩ := hR
  obtain rfl := hb.2 hm.rx
  have hic : i * m.c ≤ 40000 := by omega
  (repeat' (first | refine JC.seq ?_ | refine JC.ops ?_ | refine JO.nil ?_ | refine Q00 ?_ | (apply Q04; (iterate 3 exact rfl)) | (apply Q06; (iterate 3 exact rfl)) | (apply Q02; (iterate 3 exact rfl)) | (apply Q0g; (iterate 4 exact rfl); (first | exact at0 | exact at1); exact rfl) | (apply Q1m; (iterate 4 exact rfl); (first | assumption | exact WZ.rd (by assumption) rfl [] | exact OwnZ.rd (by assumption)); (first | assumption | omega)) | (apply Q52; (iterate 4 exact rfl); (first | assumption | exact WZ.rd (by assumption) rfl [] | exact OwnZ.rd (by assumption)); (repeat' first | exact HSub.nil _ | exact HSub.hd | exact Q03 | exact HSub.refl _ | refine HSub.skip ?_ | refine Q01 ?_); (first | assumption | omega)) | (apply Q1a; (iterate 4 exact rfl); omega) | (apply Q1q; (iterate 4 exact rfl); (first | assumption | omega)) | (apply Q0q; (iterate 4 exact rfl)) | (apply Q1e; (iterate 3 exact rfl)) | (apply Q05; exact rfl; (first | exact trivial | exact ⟨rfl, rfl⟩); exact rfl; exact rfl; (first | exact at0 | exact at1); (iterate 3 exact rfl)) | (apply Q0m; (iterate 4 exact rfl); all_goals intro hc; all_goals try (exfalso; omega)) | (apply Q2k; (iterate 4 exact rfl); all_goals intro hc; all_goals try (exfalso; omega)) | (apply Q05; exact rfl; (first | exact trivial | exact ⟨rfl, rfl⟩); exact rfl; exact rfl; (first | exact at0 | exact at1); (iterate 3 exact rfl)) | refine JC.skip ?_ | refine JC.ret ?_ | refine Q07 rfl ?_))
  exact Q0z 0 rfl rfl rfl (fun a w st => ⟨st.kp, rfl⟩)
 ·have e : atZ m i j = 0 := if_neg h
  rw [e]
  refine Q0a [] [] (by simp) [] Tryz.func19 rfl mixed (by kernel_rfl) Tryz.ntmps19 Tryz.results19 rfl ⟨by simp, by simp⟩ (by simp) ?_
  simp only [toS, textOps, toSOp, kindAt, kindOf, odAt, sopsAt, ordOf, zipF]
  (repeat' (first | refine JC.seq ?_ | refine JC.ops ?_ | refine JO.nil ?_ | refine Q00 ?_ | (apply Q0d; (iterate 4 exact rfl); exact at1; exact rfl) | (apply Q0e; (iterate 3 exact rfl); intro _) | (apply Q0x; (iterate 4 exact rfl); intro _)))
  refine Q09 trivial rfl rfl rfl (fun w hk _ => Q1f w _ m.xm (hvX.mono hk) (Q75 hm)) fun w v w' _ _ _ hR => ?_
  obtain ⟨b, rfl, hb⟩ := hR
  obtain rfl := hb.2 hm.rx
  (repeat' (first | refine JC.seq ?_ | refine JC.ops ?_ | refine JO.nil ?_ | refine Q00 ?_ | (apply Q04; (iterate 3 exact rfl)) | (apply Q06; (iterate 3 exact rfl)) | (apply Q02; (iterate 3 exact rfl)) | (apply Q0g; (iterate 4 exact rfl); (first | exact at0 | exact at1); exact rfl) | (apply Q0n; (iterate 4 exact rfl)) | (apply Q0q; (iterate 4 exact rfl)) | (apply Q1e; (iterate 3 exact rfl)) | (apply Q05; exact rfl; (first | exact trivial | exact ⟨rfl, rfl⟩); exact rfl; exact rfl; (first | exact at0 | exact at1); (iterate 3 exact rfl)) | (apply Q0m; (iterate 4 exact rfl); all_goals intro hc; all_goals try (exfalso; omega)) | (apply Q2k; (iterate 4 exact rfl); all_goals intro hc; all_goals try (exfalso; omega)) | (apply Q11; (iterate 5 exact rfl)) | (apply Q05; exact rfl; (first | exact trivial | exact ⟨rfl, rfl⟩); exact rfl; exact rfl; (first | exact at0 | exact at1); (iterate 3 exact rfl)) | refine Q0o ?_ | refine JC.ret ?_ | refine Q08 rfl ?_ | (apply Q10; exact rfl; exact rfl; (first | (intro h; cases h; done) | (intro _; rfl)))))
  all_goals first
   | (exfalso; omega)
   | exact Q0z 0 rfl rfl rfl (fun a w st => ⟨st.kp, by rw [Wz0]; rfl⟩)


theorem Qil (b : Nat) (z : Int) : OwnZ [(b, .cells ⟨[.bool (wz z).1, sv (wz z).2]⟩ 34)] (.slice (some ⟨b, 0, none⟩) 1 1) 1 [z] := by
 have h := OwnRow.mk' (e := 34) (sz := 2) (n := 1) (b := b) (cs := ⟨[.bool (wz z).1, sv (wz z).2]⟩) (by simp) (by simp only [maxLen]; omega)
 exact h

open Classical in
def GivesLB (zs : List Int) (b : Bool) (w : World) (v : Value) (w' : World) : Prop := ∃ N E, New N w w' ∧ v = .tuple #[E, .bool b] ∧ OwnZ N E zs.length zs
theorem GivesLB.nil {w w' : World} {v : Value} (h : v = .tuple #[.slice none 0 0, .bool false]) : GivesLB [] false w v w' := ⟨[], _, New.nil _ _, h, OwnZ.nil⟩
theorem Qow {L : Nat} {zs : List Int} (h : ∀ i, (zs.getD i 0).natAbs < 256 ^ L) : BdL L zs := h

section
variable {c : Cx} {Q : Exit → Act → World → Prop} {m : Mode} {F : SFrame} {H : SHeap} {r : List SOp} {g : Option (Option Tmp × Bool)} {ns : Bool} {d : Tmp} {ty t t' : TypeId} {x y : Operand} {N : SHeap} {n : Nat} {v : Value}
end

end Go.Proofs.YtdlmnloikakjpaaGreatDoor

namespace Go.Proofs.YtdlmnloikakjpaaGreatDoor
open Go
set_option linter.unusedSimpArgs false
set_option linter.unusedVariables false
set_option linter.unusedSectionVars false

theorem Qa4 : ∀ {n r : Nat} {f : Nat → Int}, r ≤ n → smI (n + 1) f = smI n (fun a => f (sk r a)) + f r
 | 0, r, f, h => by
  obtain rfl : r = 0 := by omega
  rfl
 | n + 1, r, f, h => by
  by_cases hr : r = n + 1
  ·subst hr
   show smI (n + 1) f + f (n + 1) = _
   congr 1
   refine Q12 fun i hi => ?_
   unfold sk
   rw [if_pos hi]
  ·show smI (n + 1) f + f (n + 1) = smI n (fun a => f (sk r a)) + f (sk r n) + f r
   rw [Qa4 (n := n) (r := r) (by omega)]
   have : sk r n = n + 1 := by unfold sk; rw [if_neg (by omega)]
   rw [this]
   omega
theorem Qjm {a b : Nat} (h : a % 2 = b % 2) : sg a = sg b := by unfold sg; rw [h]
theorem Qkr (b : Nat) : sk 0 b = b + 1 := by unfold sk; rw [if_neg (Nat.not_lt_zero b)]
theorem Qks (t y : Nat) : sk (t + 1) (y + 1) = sk t y + 1 := by
 unfold sk
 by_cases h : y < t
 ·rw [if_pos h, if_pos (by omega)]
 ·rw [if_neg h, if_neg (by omega)]
theorem Qog {r a x : Nat} : sk (sk r a) (sk (unsk (sk r a) r) x) = sk r (sk a x) := by
 by_cases h1 : a < r
 ·have e1 : sk r a = a := by unfold sk; rw [if_pos h1]
  have e2 : unsk a r = r - 1 := by unfold unsk; rw [if_neg (by omega)]
  rw [e1, e2]
  unfold sk
  repeat' split
  all_goals omega
 ·have e1 : sk r a = a + 1 := by unfold sk; rw [if_neg h1]
  have e2 : unsk (a + 1) r = r := by unfold unsk; rw [if_pos (by omega)]
  rw [e1, e2]
  unfold sk
  repeat' split
  all_goals omega
theorem Qoh (r a t : Nat) : sg (sk r a) * sg (unsk (sk r a) r + t) = sg (r + (t + 1)) * sg a := by
 by_cases h1 : a < r
 ·have e1 : sk r a = a := by unfold sk; rw [if_pos h1]
  have e2 : unsk a r = r - 1 := by unfold unsk; rw [if_neg (by omega)]
  rw [e1, e2, Qjm (a := r - 1 + t) (b := r + (t + 1)) (by omega)]
  exact Int.mul_comm _ _
 ·have e1 : sk r a = a + 1 := by unfold sk; rw [if_neg h1]
  have e2 : unsk (a + 1) r = r := by unfold unsk; rw [if_pos (by omega)]
  rw [e1, e2, show r + (t + 1) = r + t + 1 by omega, Qce, Qce, Int.neg_mul, Int.neg_mul, Int.mul_comm]

theorem Qgv : ∀ {n : Nat} {A : Mi} {r t : Nat}, r ≤ n → t ≤ n → det (n + 1) (setRow A r (unit t)) = sg (r + t) * det n (fun a b => A (sk r a) (sk t b))
 | n, A, r, 0, hr, _ => by
  rw [det, Qa4 hr, Q64, setRow_self, Q2t]
  ·have e : (fun a b => A (sk r a) (sk 0 b)) = fun a b => A (sk r a) (b + 1) := by funext a b; rw [Qkr]
   rw [e]
   show 0 + sg r * 1 * _ = _
   rw [Nat.add_zero, Int.mul_one, Int.zero_add]
  ·intro a ha
   have hne : r ≠ sk r a := by unfold sk; split <;> omega
   rw [Q54 hne]
   have hz : det n (setRow (fun x b => A (sk (sk r a) x) (b + 1)) (unsk (sk r a) r) fun b => unit 0 (b + 1)) = 0 :=
    Q6g (Qcb (by unfold sk; split <;> omega) (by omega) hne) (fun j _ => by unfold unit; rw [if_neg (by omega)])
   rw [hz, Int.mul_zero]
 | 0, A, r, t + 1, _, ht => absurd ht (by omega)
 | n + 1, A, r, t + 1, hr, ht => by
  rw [det, Qa4 hr, setRow_self]
  have h0 : unit (t + 1) 0 = 0 := by unfold unit; rw [if_neg (by omega)]
  rw [h0, Int.mul_zero, Int.zero_mul, Int.add_zero]
  show _ = sg (r + (t + 1)) * det (n + 1) _
  rw [det, ← Q2j]
  refine Q12 fun a ha => ?_
  have hne : r ≠ sk r a := by unfold sk; split <;> omega
  have hne2 : sk r a ≠ r := fun e => hne e.symm
  rw [Q54 hne, Q0p hne2]
  have e1 : (fun b => unit (t + 1) (b + 1)) = unit t := by
   funext b
   unfold unit
   by_cases h : t = b
   ·rw [if_pos h, if_pos (by omega)]
   ·rw [if_neg h, if_neg (by omega)]
  rw [e1, Qgv (n := n) (by have := Qcb (n := n + 1) (i := sk r a) (r := r) (by unfold sk; split <;> omega) (by omega) hne; omega) (by omega)]
  have e2 : (fun x b => A (sk (sk r a) (sk (unsk (sk r a) r) x)) (sk t b + 1)) = fun x b => A (sk r (sk a x)) (sk (t + 1) (b + 1)) := by
   funext x b
   rw [Qog, Qks]
  have e3 : sk (t + 1) 0 = 0 := by unfold sk; rw [if_pos (by omega)]
  show sg (sk r a) * A (sk r a) 0 * (sg (unsk (sk r a) r + t) * det n fun x b => A (sk (sk r a) (sk (unsk (sk r a) r) x)) (sk t b + 1)) = sg (r + (t + 1)) * (sg a * A (sk r a) (sk (t + 1) 0) * det n fun x b => A (sk r (sk a x)) (sk (t + 1) (b + 1)))
  rw [e2, e3]
  have := Qoh r a t
  generalize det n (fun x b => A (sk r (sk a x)) (sk (t + 1) (b + 1))) = D
  rw [show sg (sk r a) * A (sk r a) 0 * (sg (unsk (sk r a) r + t) * D) = sg (sk r a) * sg (unsk (sk r a) r + t) * (A (sk r a) 0 * D) by grind, this]
  grind

def adj (n : Nat) (A : Mi) (d : Int) : Mi := fun i j => sg (i + j) * det n (fun a b => A (sk j a) (sk i b)) * d
theorem Qhi {n : Nat} {A : Mi} {d : Int} {i k : Nat} (hi : i ≤ n) (hk : k ≤ n) : mmI (n + 1) A (adj n A d) i k = if i = k then d * det (n + 1) A else 0 := by
 have h1 : mmI (n + 1) A (adj n A d) i k = d * smI (n + 1) fun j => A i j * det (n + 1) (setRow A k (unit j)) := by
  unfold mmI
  rw [← Q2j]
  refine Q12 fun j hj => ?_
  rw [Qgv hk (by omega), Qjm (a := k + j) (b := j + k) (by omega)]
  unfold adj
  grind
 rw [h1, ← Q6h (A := A) (f := fun j => A i j) (by omega)]
 by_cases h : i = k
 ·subst h
  rw [if_pos rfl]
  have : (fun j => A i j) = A i := rfl
  rw [this, Q1p]
 ·rw [if_neg h, Q35 (r := k) (s := i) (by omega) (by omega) (fun e => h e.symm) (fun j => by rw [setRow_self, Q0p h]), Int.mul_zero]

end Go.Proofs.YtdlmnloikakjpaaGreatDoor

namespace Go.Proofs.YtdlmnloikakjpaaGreatDoor
open Go Go.RowKit
set_option linter.unusedSimpArgs false
set_option linter.unusedVariables false
set_option linter.unusedSectionVars false

def cn (r i : Nat) : Nat := if i ≤ r then i else i - 1
theorem Qgw (r : Nat) : cn r (r + 1) = cn r r := by unfold cn; rw [if_neg (by omega), if_pos (by omega)]; omega
theorem Qgx {r i : Nat} (h : i ≠ r) : cn r (i + 1) = cn r i + 1 := by unfold cn; split <;> split <;> omega
theorem Qn1 {r i : Nat} (h : i ≠ r) : sk r (cn r i) = i := by
 unfold sk cn
 repeat' split
 all_goals omega
theorem Qk1 {n r : Nat} (hr : r < n) : cn r n = n - 1 := by unfold cn; rw [if_neg (by omega)]
theorem Qi1 {f : Nat → Int} (n : Nat) : tab (n + 1) f = tab n f ++ [f n] := by simp [tab, List.range_succ]
def wiG (m : ZM) (r c : Nat) : Mi := fun a b => m.at (sk r a) (sk c b)
def wiZ (m : ZM) (r c : Nat) : ZM := zof (m.r - 1) (m.r - 1) (wiG m r c)
def wiS (m : ZM) (r c i j : Nat) : List Int := tbz (cn r i) (m.r - 1) (wiG m r c) ++ (if i = r then [] else tab (cn c j) fun b => wiG m r c (cn r i) b)
theorem Q7x (m : ZM) (r c i : Nat) : wiS m r c i 0 = tbz (cn r i) (m.r - 1) (wiG m r c) := by
 unfold wiS
 split
 ·simp
 ·have : cn c 0 = 0 := by unfold cn; rw [if_pos (Nat.zero_le _)]
  rw [this]; simp [tab]
theorem Qki (m : ZM) (r c j : Nat) (j' : Nat) : wiS m r c r j = wiS m r c r j' := by unfold wiS; rw [if_pos rfl, if_pos rfl]
theorem Qkj (m : ZM) (r c i : Nat) : wiS m r c i (c + 1) = wiS m r c i c := by unfold wiS; rw [Qgw]
theorem Qhu {m : ZM} {r c i j : Nat} (hi : i ≠ r) (hj : j ≠ c) : wiS m r c i j ++ [m.at i j] = wiS m r c i (j + 1) := by
 unfold wiS
 rw [if_neg hi, if_neg hi, Qgx hj, Qi1, List.append_assoc]
 congr 2
 unfold wiG
 rw [Qn1 hi, Qn1 hj]
theorem Qhv {m : ZM} {r c i : Nat} (hc : c < m.r) : wiS m r c i m.r = wiS m r c (i + 1) 0 := by
 rw [Q7x]
 unfold wiS
 by_cases h : i = r
 ·subst h
  rw [if_pos rfl, List.append_nil, Qgw]
 ·rw [if_neg h, Qgx h, Qk1 hc]
  exact (Q9z _ _ _).symm

set_option maxHeartbeats 4000000 in
theorem Qh0 (w : World) (v : Value) (m : ZM) (r c : Nat) (hm : RtZ m) (hsq : m.r = m.c) (hr : r < m.r) (hcc : c < m.r) (hv : IsM w v m) :
  Calls Tryz.prog 48 #[v, nv r, nv c] w (Ret fun v w' => Kp [] w w' ∧ GivesM (wiZ m r c) w v w') := by
 obtain ⟨E, rfl, hE⟩ := hv
 have hle := hm.le
 have hmr := hm.r
 rw [hm.len, ← hsq] at hE
 rw [← hsq]
 have hnn := rcZ hmr hmr
 refine Q0a [⟨9, 2, [], []⟩] [] (by simp) [] Tryz.func48 rfl mixed (by kernel_rfl) Tryz.ntmps48 Tryz.results48 rfl ⟨by simp, by simp⟩ (by simp) ?_
 simp only [toS, textOps, toSOp, kindAt, kindOf, odAt, sopsAt, ordOf, zipF]
 have hR := WZ.rd (c := ⟨Tryz.prog, 53, w, [], by simp⟩) hE rfl []
 (repeat' (first | refine JC.seq ?_ | refine JC.ops ?_ | refine JO.nil ?_ | refine Q00 ?_ | (apply Q06; (iterate 3 exact rfl)) | (apply Q02; (iterate 3 exact rfl)) | (apply Q0g; (iterate 4 exact rfl); (first | exact at0 | exact at1); exact rfl) | (apply Q68; (iterate 4 exact rfl)) | (apply Q2m; (iterate 4 exact rfl); omega) | (apply Q05; exact rfl; (first | exact trivial | exact ⟨rfl, rfl⟩); exact rfl; exact rfl; (first | exact at0 | exact at1); (iterate 3 exact rfl)) | (apply Q0e; (iterate 3 exact rfl); intro _) | (apply Q0x; (iterate 4 exact rfl); intro _) | (apply Q05; exact rfl; (first | exact trivial | exact ⟨rfl, rfl⟩); exact rfl; exact rfl; (first | exact at0 | exact at1); (iterate 3 exact rfl)) | refine JC.block ?_))
 rename_i b3 b6 b7
 refine Q0k (ι := Nat × Nat × SHeap × Value) ⟨fun z => [(8, nv z.1), (1, nv r), (2, nv c), (3, .pointer (some ⟨b3, 0, none⟩)), (6, .pointer (some ⟨b6, 0, none⟩)), (7, .pointer (some ⟨b7, 0, none⟩))],
  fun z => [(b7, .cells #[nv (m.r - 1), nv (m.r - 1), z.2.2.2] 29), (b6, .cells #[iv 0, iv 0, .slice none 0 0] 29), (b3, .cells #[nv m.r, nv m.r, E] 29)] ++ (z.2.2.1 ++ []),
  fun z => z.1 ≤ m.r ∧ z.2.1 ≤ z.1 * m.r ∧ OwnZ z.2.2.1 z.2.2.2 z.2.1 (wiS m r c z.1 0), fun z => m.r - z.1⟩ (0, 0, [], .slice none 0 0) ⟨by omega, by simp, by rw [Q7x, show cn r 0 = 0 from rfl]; simpa [Q3m] using OwnZ.nil⟩ (by repeat first | exact trivial | refine ⟨rfl, ?_⟩) (by (repeat' first | exact HSub.refl _ | exact HSub.nil _ | refine HSub.at 0 rfl ?_ | refine HSub.at 1 rfl ?_ | refine HSub.at 2 rfl ?_ | refine HSub.at 3 rfl ?_ | refine HSub.at 4 rfl ?_ | refine HSub.at 5 rfl ?_ | refine HSub.at 6 rfl ?_ | refine HSub.at 7 rfl ?_ | refine HSub.at 8 rfl ?_ | refine HSub.at 9 rfl ?_ | refine HSub.at 10 rfl ?_ | refine HSub.at 11 rfl ?_ | refine HSub.at 12 rfl ?_ | refine HSub.at 13 rfl ?_ | refine HSub.at 14 rfl ?_ | refine HSub.at 15 rfl ?_ | refine HSub.at 16 rfl ?_ | refine HSub.at 17 rfl ?_ | refine HSub.at 18 rfl ?_ | refine HSub.at 19 rfl ?_ | refine Q0l ?_ | refine HSub.skip ?_ | refine Q01 ?_)) (fun z hz => ?_)
 obtain ⟨i, k, N, v8⟩ := z
 obtain ⟨hi, hk, hO⟩ := hz
 dsimp only at hi hk hO ⊢
 obtain ⟨A8, c8, rfl⟩ := hO.form
 by_cases hii : i < m.r
 ·have q1 : i * m.r ≤ 40000 := Nat.le_trans (Nat.mul_le_mul_right _ hi) hnn
  (repeat' (first | refine JC.seq ?_ | refine JC.ops ?_ | refine JO.nil ?_ | refine Q00 ?_ | (apply Q04; (iterate 3 exact rfl)) | (apply Q06; (iterate 3 exact rfl)) | (apply Q02; (iterate 3 exact rfl)) | (apply Q0g; (iterate 4 exact rfl); exact at2; exact rfl) | (apply Q0m; (iterate 4 exact rfl); all_goals intro hc; all_goals try (exfalso; omega)) | refine JC.skip ?_ | refine Q08 rfl ?_ | refine JC.block ?_))
  refine Q0k (ι := Nat × Nat × SHeap × Value) ⟨fun z => [(9, nv z.1), (8, nv i), (1, nv r), (2, nv c), (3, .pointer (some ⟨b3, 0, none⟩)), (6, .pointer (some ⟨b6, 0, none⟩)), (7, .pointer (some ⟨b7, 0, none⟩))],
   fun z => [(b7, .cells #[nv (m.r - 1), nv (m.r - 1), z.2.2.2] 29), (b6, .cells #[iv 0, iv 0, .slice none 0 0] 29), (b3, .cells #[nv m.r, nv m.r, E] 29)] ++ (z.2.2.1 ++ []),
   fun z => z.1 ≤ m.r ∧ z.2.1 ≤ i * m.r + z.1 ∧ OwnZ z.2.2.1 z.2.2.2 z.2.1 (wiS m r c i z.1), fun z => m.r - z.1⟩ (0, k, N, .slice A8 k c8) ⟨by omega, by dsimp only; omega, hO⟩ (by repeat first | exact trivial | refine ⟨rfl, ?_⟩) (HSub.refl _) (fun z hz => ?_)
  clear hO
  obtain ⟨j, k, N, v8⟩ := z
  obtain ⟨hj, hk, hO⟩ := hz
  dsimp only at hj hk hO ⊢
  obtain ⟨A8, c8, rfl⟩ := hO.form
  by_cases hjj : j < m.r
  ·have hij : i * m.r + j < m.r * m.r := Q3y hii hjj
   by_cases h1 : i = r
   ·subst h1
    rw [Qki m i c j (j + 1)] at hO
    (repeat' (first | refine JC.seq ?_ | refine JC.ops ?_ | refine JO.nil ?_ | refine Q00 ?_ | (apply Q04; (iterate 3 exact rfl)) | (apply Q06; (iterate 3 exact rfl)) | (apply Q02; (iterate 3 exact rfl)) | (apply Q0g; (iterate 4 exact rfl); exact at2; exact rfl) | (apply Q0r; (iterate 4 exact rfl); omega) | (apply Q0q; (iterate 4 exact rfl)) | (apply Q0m; (iterate 4 exact rfl); all_goals intro hc; all_goals try (exfalso; omega)) | (apply Q3h; (iterate 4 exact rfl); all_goals intro hc; all_goals try (exfalso; omega)) | refine JC.skip ?_ | refine Q08 rfl ?_ | refine Q07 rfl ?_ | refine JC.block ?_ | refine Q0b ?_ | (apply Q10; exact rfl; exact rfl; (first | (intro h; cases h; done) | (intro _; rfl)))))
    exact Q0c (j + 1, k, N, _) ⟨by dsimp only; omega, by dsimp only; omega, hO⟩ (by dsimp only; omega) (by repeat first | exact trivial | refine ⟨rfl, ?_⟩) (HSub.refl _)
   ·by_cases h2 : j = c
    ·subst h2
     rw [← Qkj] at hO
     (repeat' (first | refine JC.seq ?_ | refine JC.ops ?_ | refine JO.nil ?_ | refine Q00 ?_ | (apply Q04; (iterate 3 exact rfl)) | (apply Q06; (iterate 3 exact rfl)) | (apply Q02; (iterate 3 exact rfl)) | (apply Q0g; (iterate 4 exact rfl); exact at2; exact rfl) | (apply Q0r; (iterate 4 exact rfl); omega) | (apply Q0n; (iterate 4 exact rfl)) | (apply Q0m; (iterate 4 exact rfl); all_goals intro hc; all_goals try (exfalso; omega)) | (apply Q3h; (iterate 4 exact rfl); all_goals intro hc; all_goals try (exfalso; omega)) | refine JC.skip ?_ | refine Q08 rfl ?_ | refine Q07 rfl ?_ | refine JC.block ?_ | refine Q0b ?_))
     exact Q0c (j + 1, k, N, _) ⟨by dsimp only; omega, by dsimp only; omega, hO⟩ (by dsimp only; omega) (by repeat first | exact trivial | refine ⟨rfl, ?_⟩) (HSub.refl _)
    ·have e : m.e.getD (i * m.r + j) 0 = m.at i j := by show _ = m.e.getD (i * m.c + j) 0; rw [← hsq]
     (repeat' (first | refine JC.seq ?_ | refine JC.ops ?_ | refine JO.nil ?_ | refine Q00 ?_ | (apply Q04; (iterate 3 exact rfl)) | (apply Q06; (iterate 3 exact rfl)) | (apply Q0g; (iterate 4 exact rfl); exact at2; exact rfl) | (apply Q0n; (iterate 4 exact rfl)) | (apply Q0m; (iterate 4 exact rfl); all_goals intro hc; all_goals try (exfalso; omega)) | (apply Q3h; (iterate 4 exact rfl); all_goals intro hc; all_goals try (exfalso; omega)) | refine JC.skip ?_ | refine Q08 rfl ?_ | refine JC.block ?_))
     refine Q36 [(b7, .cells #[nv (m.r - 1), nv (m.r - 1), .slice A8 k c8] 29), (b3, .cells #[nv m.r, nv m.r, E] 29)] (by (first | exact HSub.refl _ | (repeat' first | exact HSub.nil _ | exact HSub.refl _ | refine HSub.at 0 rfl ?_ | refine HSub.at 1 rfl ?_ | refine HSub.at 2 rfl ?_ | refine HSub.at 3 rfl ?_ | refine HSub.at 4 rfl ?_ | refine HSub.at 5 rfl ?_ | refine HSub.at 6 rfl ?_ | refine HSub.at 7 rfl ?_))) ?_
     (repeat' (first | (apply Q04; (iterate 3 exact rfl)) | (apply Q06; (iterate 3 exact rfl)) | (apply Q0g; (iterate 4 exact rfl); (first | exact at0 | exact at1); exact rfl) | (apply Q1m; (iterate 4 exact rfl); (first | assumption | exact WZ.rd (by assumption) rfl [] | exact OwnZ.rd (by assumption)); (first | assumption | omega)) | (apply Q52; (iterate 4 exact rfl); (first | assumption | exact WZ.rd (by assumption) rfl [] | exact OwnZ.rd (by assumption)); (repeat' first | exact HSub.nil _ | exact HSub.hd | exact Q03 | exact HSub.refl _ | refine HSub.skip ?_ | refine Q01 ?_); (first | assumption | omega)) | (apply Q1a; (iterate 4 exact rfl); omega) | (apply Q1q; (iterate 4 exact rfl); (first | assumption | omega))))
     rw [e]
     refine Q7j (sz := 2) (vs := [Wv (m.at i j)]) (cl := [.bool (wz (m.at i j)).1, sv (wz (m.at i j)).2]) rfl rfl (by first | rfl | trivial | exact ⟨rfl, rfl⟩) rfl rfl (fun v hv => by
      cases List.mem_singleton.1 hv; rfl) rfl (by decide) (by decide) (fun b => ?_)
     have ho := Qil b (m.at i j)
     skip
     refine Q39 (A := [_, _, _, _]) (B := []) hO ho.rd (by (repeat' first | exact HSub.nil _ | exact HSub.hd | exact Q03 | exact HSub.refl _ | refine HSub.skip ?_ | refine Q01 ?_)) rfl (by (first | exact HSub.refl _ | (repeat' first | exact HSub.nil _ | exact HSub.refl _ | refine HSub.at 0 rfl ?_ | refine HSub.at 1 rfl ?_ | refine HSub.at 2 rfl ?_ | refine HSub.at 3 rfl ?_ | refine HSub.at 4 rfl ?_ | refine HSub.at 5 rfl ?_ | refine HSub.at 6 rfl ?_ | refine HSub.at 7 rfl ?_))) rfl rfl rfl rfl (by omega) (fun v4 N4 hO4 => ?_)
     rw [Qhu h1 h2] at hO4
     obtain ⟨A4, c4, rfl⟩ := hO4.form
     (repeat' (first | refine JC.ops ?_ | refine JO.nil ?_ | refine Q00 ?_ | (apply Q04; (iterate 3 exact rfl)) | (apply Q06; (iterate 3 exact rfl)) | (apply Q02; (iterate 3 exact rfl)) | (apply Q0r; (iterate 4 exact rfl); omega) | (apply Q28; exact rfl; (first | exact trivial | exact ⟨rfl, rfl⟩); exact rfl; exact rfl; exact at1; exact rfl; exact rfl; (first | exact Nat.le_of_ble_eq_true rfl | (simp; done) | omega)) | refine Q0b ?_))
     exact Q0c (j + 1, k + 1, N4, _) ⟨by dsimp only; omega, by dsimp only; omega, hO4⟩ (by dsimp only; omega) (by repeat first | exact trivial | refine ⟨rfl, ?_⟩) (by exact HSub.skip (HSub.refl _))
  ·obtain rfl : j = m.r := by omega
   rw [Qhv hcc] at hO
   (repeat' (first | refine JC.seq ?_ | refine JC.ops ?_ | refine JO.nil ?_ | refine Q00 ?_ | (apply Q04; (iterate 3 exact rfl)) | (apply Q06; (iterate 3 exact rfl)) | (apply Q02; (iterate 3 exact rfl)) | (apply Q0g; (iterate 4 exact rfl); exact at2; exact rfl) | (apply Q0r; (iterate 4 exact rfl); omega) | (apply Q0m; (iterate 4 exact rfl); all_goals intro hc; all_goals try (exfalso; omega)) | refine Q0i ?_ | refine JC.exit ?_ | refine Q07 rfl ?_ | refine Q0b ?_ | refine Q0f ?_))
   exact Q0c (i + 1, k, N, _) ⟨by dsimp only; omega, by dsimp only; rw [Nat.add_mul, Nat.one_mul]; omega, hO⟩ (by dsimp only; omega) (by repeat first | exact trivial | refine ⟨rfl, ?_⟩) (HSub.refl _)
 ·obtain rfl : i = m.r := by omega
  (repeat' (first | refine JC.seq ?_ | refine JC.ops ?_ | refine JO.nil ?_ | refine Q00 ?_ | (apply Q04; (iterate 3 exact rfl)) | (apply Q06; (iterate 3 exact rfl)) | (apply Q0g; (iterate 4 exact rfl); (first | exact at0 | exact at1 | exact at2); exact rfl) | (apply Q0d; (iterate 4 exact rfl); (first | exact at0 | exact at1 | exact at2); exact rfl) | (apply Q05; exact rfl; (first | exact trivial | exact ⟨rfl, rfl⟩); exact rfl; exact rfl; (first | exact at0 | exact at1 | exact at2); (iterate 3 exact rfl)) | (apply Q0m; (iterate 4 exact rfl); all_goals intro hc; all_goals try (exfalso; omega)) | (apply Q05; exact rfl; (first | exact trivial | exact ⟨rfl, rfl⟩); exact rfl; exact rfl; (first | exact at0 | exact at1 | exact at2); (iterate 3 exact rfl)) | refine Q0i ?_ | refine JC.exit ?_ | refine JC.ret ?_ | refine Q07 rfl ?_ | refine Q0f ?_))
  rw [Q7x, Qk1 hr] at hO
  exact Q0z 1 rfl rfl rfl (fun a w' st => ⟨st.kp, N, st.newOf rfl (by (repeat' first | exact HSub.nil _ | exact HSub.hd | exact Q03 | exact HSub.refl _ | refine HSub.skip ?_ | refine Q01 ?_)), OwnM.mk' hO⟩)

theorem Qkh (m : ZM) (r c : Nat) : det (m.r - 1) (wiZ m r c).at = det (m.r - 1) fun a b => m.at (sk r a) (sk c b) := Q15 fun i hi j hj => Qb8 hi hj
theorem Qmt {m : ZM} {K : Nat} (h : BdZ K m) (r c : Nat) : BdZ K (wiZ m r c) := fun i => by
 show ((tab ((m.r - 1) * (m.r - 1)) fun k => wiG m r c (k / (m.r - 1)) (k % (m.r - 1))).getD i 0).natAbs < _
 by_cases hi : i < (m.r - 1) * (m.r - 1)
 ·rw [Q58 hi]; exact h.at _ _
 ·rw [List.getD, List.getElem?_eq_none (by simp [tab]; omega)]; exact Nat.pow_pos (by decide)
def adjZ (m : ZM) : ZM := zof m.r m.r (adj (m.r - 1) m.at (det m.r m.at))
def adS (m : ZM) (i j : Nat) : List Int := tbz m.r m.r fun a b => if a < i ∨ (a = i ∧ b < j) then adj (m.r - 1) m.at (det m.r m.at) a b else 0
theorem Qjd (m : ZM) : adS m 0 0 = tab (m.r * m.r) fun _ => 0 := by
 unfold adS tbz
 exact Q1h fun t _ => by simp
theorem Qhj {m : ZM} {i j : Nat} (hj : j < m.r) : (adS m i j).set (i * m.r + j) (adj (m.r - 1) m.at (det m.r m.at) i j) = adS m i (j + 1) := by
 unfold adS
 rw [Q7z hj]
 refine Q13 fun a b _ _ => ?_
 by_cases h : a = i ∧ b = j
 ·obtain ⟨rfl, rfl⟩ := h
  rw [if_pos ⟨rfl, rfl⟩, if_pos (.inr ⟨rfl, by omega⟩)]
 ·rw [if_neg h]
  have : (a < i ∨ a = i ∧ b < j + 1) ↔ (a < i ∨ a = i ∧ b < j) := by omega
  simp only [this]
theorem Qmi (m : ZM) (i : Nat) : adS m i m.r = adS m (i + 1) 0 := Q13 fun a b _ hb => by
 have : (a < i ∨ a = i ∧ b < m.r) ↔ (a < i + 1 ∨ a = i + 1 ∧ b < 0) := by omega
 simp only [this]
theorem Qmj (m : ZM) : adS m m.r 0 = (adjZ m).e := Q13 fun a b ha _ => by rw [if_pos (.inl ha)]
theorem Qdt {d : Int} : (magU d.natAbs = [1]) ↔ d.natAbs = 1 := by
 have h1 : magU 1 = [1] := by decide
 constructor
 ·intro h
  exact Qao (h.trans h1.symm)
 ·intro h
  rw [h, h1]

set_option maxHeartbeats 8000000 in
theorem Q7d (K : Nat) (w : World) (v : Value) (m : ZM) (hm : RtZ m) (hsq : m.r = m.c) (hK : (m.r + 1) * (K + 1) ≤ 40000000) (hx : BdZ K m) (hv : IsM w v m) :
  Calls Tryz.prog 10 #[v] w (Ret fun v w' => Kp [] w w' ∧ if (det m.r m.at).natAbs = 1 then GivesMB (adjZ m) true w v w' else v = .tuple #[zeroM, .bool false]) := by
 have hv0 := hv
 obtain ⟨E, rfl, hE⟩ := hv
 have hle := hm.le
 have hmr := hm.r
 have hnn := rcZ hmr hmr
 by_cases h1 : (det m.r m.at).natAbs = 1
 ·simp only [if_pos h1]
  have hB : ∀ i j, (det (m.r - 1) fun a b => m.at (sk i a) (sk j b)).natAbs < 256 ^ ((m.r + 1) * (K + 1)) := fun i j => by
   have := Qdz (n := m.r - 1) (A := fun a b => m.at (sk i a) (sk j b)) (K := K) (by omega) (fun a b => hx.at _ _)
   refine Nat.lt_of_le_of_lt this (Nat.pow_lt_pow_right (by decide) ?_)
   have e1 : (m.r + 1) * (K + 1) = m.r * (K + 1) + (K + 1) := by rw [Nat.add_mul, Nat.one_mul]
   have := Nat.mul_le_mul_right (K + 1) (show m.r - 1 ≤ m.r by omega)
   omega
  have hd1 : (det m.r m.at).natAbs < 256 ^ ((m.r + 1) * (K + 1)) := by rw [h1]; exact Nat.one_lt_pow (by have : 0 < (m.r + 1) * (K + 1) := Nat.mul_pos (by omega) (by omega); omega) (by decide)
  refine Q0a [⟨14, 2, [], []⟩] [] (by simp) [] Tryz.func10 rfl mixed (by kernel_rfl) Tryz.ntmps10 Tryz.results10 rfl ⟨by simp, by simp⟩ (by simp) ?_
  simp only [toS, textOps, toSOp, kindAt, kindOf, odAt, sopsAt, ordOf, zipF]
  (repeat' (first | refine JC.seq ?_ | refine JC.ops ?_ | refine JO.nil ?_ | refine Q00 ?_ | (apply Q02; (iterate 3 exact rfl)) | (apply Q0d; (iterate 4 exact rfl); exact at1; exact rfl) | (apply Q0e; (iterate 3 exact rfl); intro _) | (apply Q0x; (iterate 4 exact rfl); intro _)))
  rename_i b1 b2
  refine Q09 trivial rfl rfl rfl (fun w hk _ => Q7s K w _ m hm hsq hK hx (hv0.mono hk)) fun w v w' _ _ _ hR => ?_
  subst hR
  (repeat' (first | refine JC.seq ?_ | refine JC.ops ?_ | refine JO.nil ?_ | refine Q00 ?_ | (apply Q04; (iterate 3 exact rfl)) | (apply Q06; (iterate 3 exact rfl)) | (apply Q02; (iterate 3 exact rfl)) | (apply Q0g; (iterate 4 exact rfl); exact at0; exact rfl) | (apply Q0q; (iterate 4 exact rfl)) | (apply Q1e; (iterate 3 exact rfl)) | (apply Q0v; (iterate 4 exact rfl)) | (apply Q05; exact rfl; (first | exact trivial | exact ⟨rfl, rfl⟩); exact rfl; exact rfl; exact at0; (iterate 3 exact rfl)) | (apply Qch; (iterate 4 exact rfl)) | (apply Q0e; (iterate 3 exact rfl); intro _) | (apply Q05; exact rfl; (first | exact trivial | exact ⟨rfl, rfl⟩); exact rfl; exact rfl; exact at0; (iterate 3 exact rfl))))
  rename_i b4
  rw [show decide (magU (det m.r m.at).natAbs ≠ [1]) = false from decide_eq_false (fun h => h (Qdt.2 h1))]
  (repeat' (first | refine JC.seq ?_ | refine JC.ops ?_ | refine Q00 ?_ | (apply Q06; (iterate 3 exact rfl)) | (apply Q0g; (iterate 4 exact rfl); exact at2; exact rfl) | refine JC.skip ?_ | refine Q07 rfl ?_))
  refine Q0h (A := [_, _, _]) (B := []) rfl (by first | trivial | exact ⟨rfl, rfl⟩) rfl rfl rfl (fun w _ _ => Q6i m.r m.r hmr hmr w) fun w v w' _ _ _ hR => ?_
  obtain ⟨N, Eo, hN, rfl, hO⟩ := hR
  obtain ⟨Ao, co, rfl⟩ := hO.form
  refine ⟨N, hN, ?_⟩
  generalize hd : det m.r m.at = d at h1 hd1 ⊢
  (repeat' (first | refine JC.seq ?_ | refine JC.ops ?_ | refine JO.nil ?_ | refine Q00 ?_ | (apply Q02; (iterate 3 exact rfl)) | (apply Q05; exact rfl; (first | exact trivial | exact ⟨rfl, rfl⟩); exact rfl; exact rfl; exact at0; (iterate 3 exact rfl)) | (apply Q0e; (iterate 3 exact rfl); intro _) | (apply Q05; exact rfl; (first | exact trivial | exact ⟨rfl, rfl⟩); exact rfl; exact rfl; exact at0; (iterate 3 exact rfl)) | refine JC.block ?_))
  rename_i b6
  have hadj : ∀ i j, sg (i + j) * (det (m.r - 1) fun a b => m.at (sk j a) (sk i b)) * d = adj (m.r - 1) m.at (det m.r m.at) i j := fun i j => by rw [hd]; rfl
  refine Q0k (ι := Nat × SHeap) ⟨fun z => [(7, nv z.1), (6, .pointer (some ⟨b6, 0, none⟩)), (4, .pointer (some ⟨b4, 0, none⟩)), (2, .pointer (some ⟨b2, 0, none⟩)), (1, .pointer (some ⟨b1, 0, none⟩))],
   fun z => [(b6, .cells #[nv m.r, nv m.r, .slice Ao (m.r * m.r) co] 29), (b4, .cells (wc d) 34), (b2, .cells #[iv 0, iv 0, .slice none 0 0] 29), (b1, .cells #[nv m.r, nv m.c, E] 29)] ++ (z.2 ++ []),
   fun z => z.1 ≤ m.r ∧ OwnZ z.2 (.slice Ao (m.r * m.r) co) (m.r * m.r) (adS m z.1 0), fun z => m.r - z.1⟩ (0, N) ⟨by omega, by rw [Qjd]; exact hO⟩ (by repeat first | exact trivial | refine ⟨rfl, ?_⟩) (by (repeat' first | exact HSub.refl _ | exact HSub.nil _ | refine HSub.at 0 rfl ?_ | refine HSub.at 1 rfl ?_ | refine HSub.at 2 rfl ?_ | refine HSub.at 3 rfl ?_ | refine HSub.at 4 rfl ?_ | refine HSub.at 5 rfl ?_ | refine HSub.at 6 rfl ?_ | refine HSub.at 7 rfl ?_ | refine HSub.at 8 rfl ?_ | refine HSub.at 9 rfl ?_ | refine HSub.at 10 rfl ?_ | refine HSub.at 11 rfl ?_ | refine HSub.at 12 rfl ?_ | refine HSub.at 13 rfl ?_ | refine HSub.at 14 rfl ?_ | refine HSub.at 15 rfl ?_ | refine HSub.at 16 rfl ?_ | refine HSub.at 17 rfl ?_ | refine HSub.at 18 rfl ?_ | refine HSub.at 19 rfl ?_ | refine Q0l ?_ | refine HSub.skip ?_ | refine Q01 ?_)) (fun z hz => ?_)
  clear hO
  obtain ⟨i, N⟩ := z
  obtain ⟨hi, hO⟩ := hz
  dsimp only at hi hO ⊢
  by_cases hii : i < m.r
  ·have q1 : i * m.r ≤ 40000 := Nat.le_trans (Nat.mul_le_mul_right _ hi) hnn
   (repeat' (first | refine JC.seq ?_ | refine JC.ops ?_ | refine JO.nil ?_ | refine Q00 ?_ | (apply Q04; (iterate 3 exact rfl)) | (apply Q06; (iterate 3 exact rfl)) | (apply Q02; (iterate 3 exact rfl)) | (apply Q0g; (iterate 4 exact rfl); exact at3; exact rfl) | (apply Q0m; (iterate 4 exact rfl); all_goals intro hc; all_goals try (exfalso; omega)) | refine JC.skip ?_ | refine Q08 rfl ?_ | refine JC.block ?_))
   refine Q0k (ι := Nat × SHeap) ⟨fun z => [(8, nv z.1), (7, nv i), (6, .pointer (some ⟨b6, 0, none⟩)), (4, .pointer (some ⟨b4, 0, none⟩)), (2, .pointer (some ⟨b2, 0, none⟩)), (1, .pointer (some ⟨b1, 0, none⟩))],
    fun z => [(b6, .cells #[nv m.r, nv m.r, .slice Ao (m.r * m.r) co] 29), (b4, .cells (wc d) 34), (b2, .cells #[iv 0, iv 0, .slice none 0 0] 29), (b1, .cells #[nv m.r, nv m.c, E] 29)] ++ (z.2 ++ []),
    fun z => z.1 ≤ m.r ∧ OwnZ z.2 (.slice Ao (m.r * m.r) co) (m.r * m.r) (adS m i z.1), fun z => m.r - z.1⟩ (0, N) ⟨by omega, hO⟩ (by repeat first | exact trivial | refine ⟨rfl, ?_⟩) (HSub.refl _) (fun z hz => ?_)
   clear hO
   obtain ⟨j, N⟩ := z
   obtain ⟨hj, hO⟩ := hz
   dsimp only at hj hO ⊢
   by_cases hjj : j < m.r
   ·have hij := Q3y hii hjj
    (repeat' (first | refine JC.seq ?_ | refine JC.ops ?_ | refine JO.nil ?_ | refine Q00 ?_ | (apply Q04; (iterate 3 exact rfl)) | (apply Q06; (iterate 3 exact rfl)) | (apply Q0g; (iterate 4 exact rfl); exact at3; exact rfl) | (apply Q0d; (iterate 4 exact rfl); exact at3; exact rfl) | (apply Q0m; (iterate 4 exact rfl); all_goals intro hc; all_goals try (exfalso; omega)) | refine JC.skip ?_ | refine Q08 rfl ?_ | refine JC.block ?_))
    refine Q0h (A := [_, _, _, _]) (B := N ++ []) rfl (by first | trivial | exact ⟨rfl, rfl⟩) rfl rfl rfl (fun w hk _ => Qh0 w _ m j i hm hsq hjj hii (hv0.mono hk)) fun w v w' _ _ _ hR => ?_
    obtain ⟨Nw, hNw, Ew, rfl, hOw⟩ := hR
    obtain ⟨Aw, cw, rfl⟩ := hOw.form
    refine ⟨Nw, hNw, ?_⟩
    skip
    refine Q09 (by first | trivial | exact ⟨rfl, rfl⟩) rfl rfl rfl (fun w hk hs => Q7s K w _ (wiZ m j i) (Q74 (by omega) (by omega)) rfl (Nat.le_trans (Nat.mul_le_mul_right _ (show m.r - 1 + 1 ≤ m.r + 1 by omega)) hK) (Qmt hx j i) ⟨_, rfl, hOw.rd.at hk hs (by (repeat' first | exact HSub.nil _ | exact HSub.hd | exact Q03 | exact HSub.refl _ | refine HSub.skip ?_ | refine Q01 ?_))⟩) fun w v w' _ _ _ hR => ?_
    rw [show det (wiZ m j i).r (wiZ m j i).at = det (m.r - 1) fun a b => m.at (sk j a) (sk i b) from Qkh m j i] at hR
    subst hR
    have hDb := hB j i
    have hA := hadj i j
    generalize (det (m.r - 1) fun a b => m.at (sk j a) (sk i b)) = D at hDb hA ⊢
    (repeat' (first | refine JC.seq ?_ | refine JC.ops ?_ | refine JC.opsD ?_ | refine JO.nil ?_ | refine Q00 ?_ | (apply Q04; (iterate 3 exact rfl)) | (apply Q06; (iterate 3 exact rfl)) | (apply Q02; (iterate 3 exact rfl)) | (apply Q0g; (iterate 4 exact rfl); (first | exact at0 | exact at1 | exact at2 | exact at4); exact rfl) | (apply Q0d; (iterate 4 exact rfl); (first | exact at0 | exact at1 | exact at2 | exact at4); exact rfl) | (apply Q1a; (iterate 4 exact rfl); omega) | (apply Q1q; (iterate 4 exact rfl); (first | assumption | omega)) | (apply Qnc; (iterate 4 exact rfl); omega) | (apply Q0v; (iterate 4 exact rfl)) | (apply Q05; exact rfl; (first | exact trivial | exact ⟨rfl, rfl⟩); exact rfl; exact rfl; (first | exact at0 | exact at1 | exact at2 | exact at4); (iterate 3 exact rfl)) | (apply Q2f; (iterate 4 exact rfl); all_goals intro hc; all_goals try (exfalso; omega)) | (apply Q0e; (iterate 3 exact rfl); intro _) | (apply Q05; exact rfl; (first | exact trivial | exact ⟨rfl, rfl⟩); exact rfl; exact rfl; (first | exact at0 | exact at1 | exact at2 | exact at4); (iterate 3 exact rfl)) | refine JC.skip ?_ | refine Q08 rfl ?_ | refine Q07 rfl ?_))
    have hpar : ((i + j : Nat) : Int).tmod 2 = (((i + j) % 2 : Nat) : Int) := (Int.ofNat_tmod (i + j) 2).symm
    ·refine Q09 (by first | trivial | exact ⟨rfl, rfl⟩) rfl rfl rfl (fun w _ _ => Qha w _ D _ (Q0t hDb) (by omega)) fun w v w' _ _ _ hR => ?_
     subst hR
     (repeat' (first | refine JC.opsD ?_ | refine JO.nil ?_ | refine Q00 ?_ | (apply Q04; (iterate 3 exact rfl)) | (apply Q06; (iterate 3 exact rfl)) | (apply Q0g; (iterate 4 exact rfl); (first | exact at0 | exact at1 | exact at2 | exact at4); exact rfl) | (apply Q0d; (iterate 4 exact rfl); (first | exact at0 | exact at1 | exact at2 | exact at4); exact rfl) | (apply Q1a; (iterate 4 exact rfl); omega) | (apply Q1q; (iterate 4 exact rfl); (first | assumption | omega)) | (apply Q05; exact rfl; (first | exact trivial | exact ⟨rfl, rfl⟩); exact rfl; exact rfl; (first | exact at0 | exact at1 | exact at2 | exact at4); (iterate 3 exact rfl)) | (apply Q05; exact rfl; (first | exact trivial | exact ⟨rfl, rfl⟩); exact rfl; exact rfl; (first | exact at0 | exact at1 | exact at2 | exact at4); (iterate 3 exact rfl))))
     refine Q09 (by first | trivial | exact ⟨rfl, rfl⟩) rfl rfl rfl (fun w _ _ => Qe3 w _ _ (-D) d _ (Q0t (by rw [Int.natAbs_neg]; exact hDb)) (Q0t hd1) (by omega)) fun w v w' _ _ _ hR => ?_
     rw [show -D * d = adj (m.r - 1) m.at (det m.r m.at) i j by rw [← hA, show sg (i + j) = -1 from if_neg (by omega)]; simp] at hR
     subst hR
     (repeat' (first | (apply Q1m; (iterate 4 exact rfl); (first | assumption | exact WZ.rd (by assumption) rfl [] | exact OwnZ.rd (by assumption)); (first | assumption | omega))))
     refine Q5s (A := [_, _, _, _, _] ++ Nw) hO rfl rfl (by first | trivial | exact ⟨rfl, rfl⟩) rfl rfl hij (fun N' hO' => ?_)
     rw [Qhj hjj] at hO'
     (repeat' (first | refine JC.ops ?_ | refine JO.nil ?_ | refine Q00 ?_ | (apply Q04; (iterate 3 exact rfl)) | (apply Q02; (iterate 3 exact rfl)) | (apply Q0r; (iterate 4 exact rfl); omega) | refine Q0b ?_))
     exact Q0c (j + 1, N') ⟨by dsimp only; omega, hO'⟩ (by dsimp only; omega) (by repeat first | exact trivial | refine ⟨rfl, ?_⟩) (by (repeat' first | exact HSub.refl _ | exact HSub.nil _ | refine HSub.at 0 rfl ?_ | refine HSub.at 1 rfl ?_ | refine HSub.at 2 rfl ?_ | refine HSub.at 3 rfl ?_ | refine HSub.at 4 rfl ?_ | refine HSub.at 5 rfl ?_ | refine HSub.at 6 rfl ?_ | refine HSub.at 7 rfl ?_ | refine HSub.at 8 rfl ?_ | refine HSub.at 9 rfl ?_ | refine HSub.at 10 rfl ?_ | refine HSub.at 11 rfl ?_ | refine HSub.at 12 rfl ?_ | refine HSub.at 13 rfl ?_ | refine HSub.at 14 rfl ?_ | refine HSub.at 15 rfl ?_ | refine HSub.at 16 rfl ?_ | refine HSub.at 17 rfl ?_ | refine HSub.at 18 rfl ?_ | refine HSub.at 19 rfl ?_ | refine Q0l ?_ | refine HSub.skip ?_ | refine Q01 ?_))
    ·have hpar : ((i + j : Nat) : Int).tmod 2 = (((i + j) % 2 : Nat) : Int) := (Int.ofNat_tmod (i + j) 2).symm
     refine Q09 (by first | trivial | exact ⟨rfl, rfl⟩) rfl rfl rfl (fun w _ _ => Qe3 w _ _ (D) d _ (Q0t hDb) (Q0t hd1) (by omega)) fun w v w' _ _ _ hR => ?_
     rw [show D * d = adj (m.r - 1) m.at (det m.r m.at) i j by rw [← hA, show sg (i + j) = 1 from if_pos (by omega)]; simp] at hR
     subst hR
     (repeat' (first | (apply Q1m; (iterate 4 exact rfl); (first | assumption | exact WZ.rd (by assumption) rfl [] | exact OwnZ.rd (by assumption)); (first | assumption | omega))))
     refine Q5s (A := [_, _, _, _, _] ++ Nw) hO rfl rfl (by first | trivial | exact ⟨rfl, rfl⟩) rfl rfl hij (fun N' hO' => ?_)
     rw [Qhj hjj] at hO'
     (repeat' (first | refine JC.ops ?_ | refine JO.nil ?_ | refine Q00 ?_ | (apply Q04; (iterate 3 exact rfl)) | (apply Q02; (iterate 3 exact rfl)) | (apply Q0r; (iterate 4 exact rfl); omega) | refine Q0b ?_))
     exact Q0c (j + 1, N') ⟨by dsimp only; omega, hO'⟩ (by dsimp only; omega) (by repeat first | exact trivial | refine ⟨rfl, ?_⟩) (by (repeat' first | exact HSub.refl _ | exact HSub.nil _ | refine HSub.at 0 rfl ?_ | refine HSub.at 1 rfl ?_ | refine HSub.at 2 rfl ?_ | refine HSub.at 3 rfl ?_ | refine HSub.at 4 rfl ?_ | refine HSub.at 5 rfl ?_ | refine HSub.at 6 rfl ?_ | refine HSub.at 7 rfl ?_ | refine HSub.at 8 rfl ?_ | refine HSub.at 9 rfl ?_ | refine HSub.at 10 rfl ?_ | refine HSub.at 11 rfl ?_ | refine HSub.at 12 rfl ?_ | refine HSub.at 13 rfl ?_ | refine HSub.at 14 rfl ?_ | refine HSub.at 15 rfl ?_ | refine HSub.at 16 rfl ?_ | refine HSub.at 17 rfl ?_ | refine HSub.at 18 rfl ?_ | refine HSub.at 19 rfl ?_ | refine Q0l ?_ | refine HSub.skip ?_ | refine Q01 ?_))
   ·obtain rfl : j = m.r := by omega
    rw [Qmi] at hO
    (repeat' (first | refine JC.seq ?_ | refine JC.ops ?_ | refine JO.nil ?_ | refine Q00 ?_ | (apply Q04; (iterate 3 exact rfl)) | (apply Q06; (iterate 3 exact rfl)) | (apply Q02; (iterate 3 exact rfl)) | (apply Q0g; (iterate 4 exact rfl); exact at3; exact rfl) | (apply Q0r; (iterate 4 exact rfl); omega) | (apply Q0m; (iterate 4 exact rfl); all_goals intro hc; all_goals try (exfalso; omega)) | refine Q0i ?_ | refine JC.exit ?_ | refine Q07 rfl ?_ | refine Q0b ?_ | refine Q0f ?_))
    exact Q0c (i + 1, N) ⟨by dsimp only; omega, hO⟩ (by dsimp only; omega) (by repeat first | exact trivial | refine ⟨rfl, ?_⟩) (HSub.refl _)
  ·obtain rfl : i = m.r := by omega
   (repeat' (first | refine JC.seq ?_ | refine JC.ops ?_ | refine JO.nil ?_ | refine Q00 ?_ | (apply Q04; (iterate 3 exact rfl)) | (apply Q06; (iterate 3 exact rfl)) | (apply Q02; (iterate 3 exact rfl)) | (apply Q0g; (iterate 4 exact rfl); (first | exact at0 | exact at2 | exact at3); exact rfl) | (apply Q0d; (iterate 4 exact rfl); (first | exact at0 | exact at2 | exact at3); exact rfl) | (apply Q05; exact rfl; (first | exact trivial | exact ⟨rfl, rfl⟩); exact rfl; exact rfl; (first | exact at0 | exact at2 | exact at3); (iterate 3 exact rfl)) | (apply Q0m; (iterate 4 exact rfl); all_goals intro hc; all_goals try (exfalso; omega)) | (apply Q05; exact rfl; (first | exact trivial | exact ⟨rfl, rfl⟩); exact rfl; exact rfl; (first | exact at0 | exact at2 | exact at3); (iterate 3 exact rfl)) | refine Q0i ?_ | refine JC.exit ?_ | refine JC.ret ?_ | refine Q07 rfl ?_ | refine Q0f ?_))
   rw [Qmj] at hO
   exact Q16 2 rfl rfl rfl rfl (fun a w' st => ⟨st.kp, N, _, rfl, st.newOf rfl (by (repeat' first | exact HSub.nil _ | exact HSub.hd | exact Q03 | exact HSub.refl _ | refine HSub.skip ?_ | refine Q01 ?_)), OwnM.mk' hO⟩)
 ·simp only [if_neg h1]
  refine Q0a [⟨14, 2, [], []⟩] [] (by simp) [] Tryz.func10 rfl mixed (by kernel_rfl) Tryz.ntmps10 Tryz.results10 rfl ⟨by simp, by simp⟩ (by simp) ?_
  simp only [toS, textOps, toSOp, kindAt, kindOf, odAt, sopsAt, ordOf, zipF]
  (repeat' (first | refine JC.seq ?_ | refine JC.ops ?_ | refine JO.nil ?_ | refine Q00 ?_ | (apply Q02; (iterate 3 exact rfl)) | (apply Q0d; (iterate 4 exact rfl); exact at1; exact rfl) | (apply Q0e; (iterate 3 exact rfl); intro _) | (apply Q0x; (iterate 4 exact rfl); intro _)))
  rename_i b1 b2
  refine Q09 trivial rfl rfl rfl (fun w hk _ => Q7s K w _ m hm hsq hK hx (hv0.mono hk)) fun w v w' _ _ _ hR => ?_
  subst hR
  (repeat' (first | refine JC.seq ?_ | refine JC.ops ?_ | refine JO.nil ?_ | refine Q00 ?_ | (apply Q04; (iterate 3 exact rfl)) | (apply Q06; (iterate 3 exact rfl)) | (apply Q02; (iterate 3 exact rfl)) | (apply Q0g; (iterate 4 exact rfl); exact at0; exact rfl) | (apply Q0q; (iterate 4 exact rfl)) | (apply Q1e; (iterate 3 exact rfl)) | (apply Q0v; (iterate 4 exact rfl)) | (apply Q05; exact rfl; (first | exact trivial | exact ⟨rfl, rfl⟩); exact rfl; exact rfl; exact at0; (iterate 3 exact rfl)) | (apply Qch; (iterate 4 exact rfl)) | (apply Q0e; (iterate 3 exact rfl); intro _) | (apply Q05; exact rfl; (first | exact trivial | exact ⟨rfl, rfl⟩); exact rfl; exact rfl; exact at0; (iterate 3 exact rfl))))
  rename_i b4
  rw [show decide (magU (det m.r m.at).natAbs ≠ [1]) = true from decide_eq_true (fun h => h1 (Qdt.1 h))]
  (repeat' (first | refine JC.seq ?_ | refine JC.ops ?_ | refine JO.nil ?_ | refine Q00 ?_ | (apply Q02; (iterate 3 exact rfl)) | (apply Q05; exact rfl; (first | exact trivial | exact ⟨rfl, rfl⟩); exact rfl; exact rfl; exact at1; (iterate 3 exact rfl)) | (apply Q11; (iterate 5 exact rfl)) | (apply Q05; exact rfl; (first | exact trivial | exact ⟨rfl, rfl⟩); exact rfl; exact rfl; exact at1; (iterate 3 exact rfl)) | refine Q0o ?_ | refine JC.ret ?_ | refine Q08 rfl ?_))
  exact Q16 1 rfl rfl rfl rfl (fun a w' st => ⟨st.kp, rfl⟩)

end Go.Proofs.YtdlmnloikakjpaaGreatDoor

namespace Go.Proofs.YtdlmnloikakjpaaGreatDoor
open Go Go.RowKit Go.ChangeShapes Go.WideShapes Go.ChangeAt
set_option linter.unusedSimpArgs false
set_option linter.unusedVariables false
set_option linter.unusedSectionVars false

def IsL (w : World) (v : Value) (L : List Int) : Prop := (∀ i, I64 (L.getD i 0)) ∧ WI w v L.length L ∧ L.length < 9223372036854775808
theorem IsL.mono {w w' : World} {v : Value} {L : List Int} (h : IsL w v L) (hk : Kp [] w w') : IsL w' v L := ⟨h.1, h.2.1.mono hk, h.2.2⟩

def IsLL (w : World) (v : Value) (X : List (List Int)) : Prop := X.length < 9223372036854775808 ∧ ∃ ss : List Value, RdW w 1 v X.length ss ∧ ∀ i, i < X.length → IsL w (ss.getD i (iv 0)) (X.getD i [])
theorem IsLL.mono {w w' : World} {v : Value} {X : List (List Int)} (h : IsLL w v X) (hk : Kp [] w w') : IsLL w' v X := by
 obtain ⟨h0, ss, h1, h2⟩ := h
 exact ⟨h0, ss, h1.mono hk, fun i hi => (h2 i hi).mono hk⟩
theorem cells2i : Tryz.prog.cellsOf 25 = 2 := by kernel_rfl
theorem cells1i : Tryz.prog.cellsOf 3 = 1 := by kernel_rfl
theorem Qaj {P : Program} {w : World} {r : Reach} {base : Nat} {t : TypeId} {v : Value} {n : Nat} {e : TypeId} (ht : P.underlying t = some (.array n e)) (h : Value.okWide P w r base t v) : ∃ cs, v = .agg cs ∧ cs.size = P.cellsOf t := by
 unfold Value.okWide at h
 rw [ht] at h
 cases v <;> simp at h
 exact ⟨_, rfl, h.1⟩
set_option maxRecDepth 100000 in
theorem Qbr {H : Type} {enc : TypeId × Value → H} {w : World} {r : Reach} {b0 : Nat} {held : Bool} {v : Value} {d : DataW H} {ps : List MemPlace} (hv : Value.okWide Tryz.prog w r b0 25 v)
  (h : DataW.Trod enc Tryz.prog w 0 (fun _ => true) held 25 v d ps) : ∃ q0 q1 : Int, v = .agg #[iv q0, iv q1] ∧ I64 q0 ∧ I64 q1 := by
 obtain ⟨cs, rfl, hsz⟩ := Qaj Tryz.underlying25 hv
 rw [cells2i] at hsz
 obtain ⟨l⟩ := cs
 obtain ⟨c0, c1, rfl⟩ : ∃ c0 c1, l = [c0, c1] := by
  match l, hsz with
  | [a, b], _ => exact ⟨a, b, rfl⟩
 obtain ⟨fuel, hf⟩ := h
 obtain ⟨xs, m, _, _, _, hx, hall⟩ := DataW.trod_array Tryz.underlying25 hf
 have a0 := hall 0 (by omega)
 have a1 := hall 1 (by omega)
 rw [cells1i] at a0 a1
 rw [List.getElem?_eq_getElem (by omega)] at a0 a1
 obtain ⟨n0, e0, _, w0⟩ := DataW.trod_int Tryz.underlying3 (show DataW.trod enc Tryz.prog w 0 (fun _ => true) held m 3 [c0] = some _ from a0)
 obtain ⟨n1, e1, _, w1⟩ := DataW.trod_int Tryz.underlying3 (show DataW.trod enc Tryz.prog w 0 (fun _ => true) held m 3 [c1] = some _ from a1)
 simp only [List.cons.injEq, and_true] at e0 e1
 subst e0 e1
 exact ⟨n0, n1, rfl, Qgo w0, Qgo w1⟩

end Go.Proofs.YtdlmnloikakjpaaGreatDoor

namespace Go.Proofs.YtdlmnloikakjpaaGreatDoor
open Go Go.RowKit
set_option linter.unusedSimpArgs false
set_option linter.unusedVariables false
set_option linter.unusedSectionVars false

def unF (i j : Nat) (sw : Bool) (f : Int) (M : Mi) : Mi := fun a b => if i = j then (if a = i then -M a b else M a b) else if sw then (if a = i then M j b else if a = j then M i b else M a b) else (if a = i then M i b + f * M j b else M a b)
structure UnI (n k : Nat) (M : Mi) : Prop where
 dt : (det n M).natAbs = 1
 bd : ∀ a b, a < n → b < n → (M a b).natAbs ≤ 4 ^ k
theorem UnI.step {n k i j : Nat} {sw : Bool} {f : Int} {M M' : Mi} (h : UnI n k M) (hi : i < n) (hj : j < n) (hf : f.natAbs ≤ 3) (hM : ∀ a b, a < n → b < n → M' a b = unF i j sw f M a b) : UnI n (k + 1) M' := by
 refine ⟨?_, fun a b ha hb => ?_⟩
 ·by_cases h1 : i = j
  ·subst h1
   have e : det n M' = det n (setRow M i fun b => -1 * M i b) := Q15 fun a ha b hb => by
    rw [hM a b ha hb]
    unfold unF
    rw [if_pos rfl]
    by_cases h2 : a = i
    ·subst h2; rw [if_pos rfl, setRow_self]; omega
    ·rw [if_neg h2, Q0p h2]
   rw [e, Qdy _ hi, Int.natAbs_mul, h.dt]
   rfl
  ·cases sw with
   | true =>
    have e : det n M' = det n (swp M i j) := Q15 fun a ha b hb => by
     rw [hM a b ha hb]
     unfold unF swp
     rw [if_neg h1]
     rfl
    rw [e, Q4n hi hj h1, Int.natAbs_neg, h.dt]
   | false =>
    have e : det n M' = det n (setRow M i fun b => M i b + f * M j b) := Q15 fun a ha b hb => by
     rw [hM a b ha hb]
     unfold unF
     rw [if_neg h1]
     by_cases h2 : a = i
     ·subst h2; rw [setRow_self]; simp
     ·rw [Q0p h2]; simp [h2]
    rw [e, Q4o f hi hj h1, h.dt]
 ·have b0 := h.bd a b ha hb
  have b1 := h.bd i b hi hb
  have b2 := h.bd j b hj hb
  have e : 4 ^ (k + 1) = 4 * 4 ^ k := by rw [Nat.pow_succ]; omega
  rw [hM a b ha hb, e]
  have b3 : (f * M j b).natAbs ≤ 3 * 4 ^ k := by rw [Int.natAbs_mul]; exact Nat.mul_le_mul hf b2
  unfold unF
  generalize f * M j b = y at b3 ⊢
  generalize 4 ^ k = P at *
  split
  ·split <;> omega
  ·split
   ·split
    ·omega
    ·split <;> omega
   ·split <;> omega

section
variable {c : Cx} {Q : Exit → Act → World → Prop} {m : Mode} {F : SFrame} {H : SHeap} {r : List SOp} {g : Option (Option Tmp × Bool)} {ns : Bool} {d : Tmp} {ty t t' : TypeId} {x y : Operand}
end


theorem Qnu {d : Int} (h : d.natAbs = 1) : d * d = 1 := by
 rcases (show d = 1 ∨ d = -1 by omega) with rfl | rfl <;> rfl
theorem Qos {n : Nat} {A : Mi} (h : (det n A).natAbs = 1) {i k : Nat} (hi : i < n) (hk : k < n) : mmI n A (adj (n - 1) A (det n A)) i k = idI i k := by
 obtain ⟨n, rfl⟩ : ∃ m, n = m + 1 := ⟨n - 1, by omega⟩
 have := Qhi (n := n) (A := A) (d := det (n + 1) A) (i := i) (k := k) (by omega) (by omega)
 rw [Qnu h] at this
 exact this
theorem Qcw {x m : ZM} (hx : RtZ x) (h1 : x.r = m.r) (h2 : x.c = m.r) (hd : (det m.r m.at).natAbs = 1) (h : ∀ i j, i < m.r → j < m.r → mmI m.r x.at m.at i j = idI i j) : x = adjZ m := by
 rw [← Qey hx, h1, h2]
 refine Qb7 (r := m.r) (c := m.r) fun i j hi hj => ?_
 have e1 : mmI m.r x.at (mmI m.r m.at (adj (m.r - 1) m.at (det m.r m.at))) i j = x.at i j := by
  rw [← Qal (A := x.at) (i := i) hj]
  exact Qbu (fun _ _ => rfl) (fun k hk => Qos hd hk hj)
 rw [← e1, ← Qgj]
 refine (Qbu (A' := idI) (B' := adj (m.r - 1) m.at (det m.r m.at)) (fun k hk => h i k hi hk) (fun _ _ => rfl)).trans ?_
 exact Qnl hi
def eB (n : Nat) : Nat → Nat
 | 0 => 11
 | k + 1 => eB n k + (2 * eB n k + 1) * (n - (k + 1))
def uB (n : Nat) : Nat → Nat
 | 0 => 0
 | k + 1 => uB n k + eB n (k + 1) + 1
theorem euB : ∀ n, n < 7 → ∀ k, k < 7 → k ≤ n → eB n k < 300000 ∧ uB n k < 300000 := by decide
theorem Qls {n k : Nat} : 256 ^ eB n k * (9 * (1 + 256 ^ eB n k) ^ 2) ^ (n - (k + 1)) ≤ 256 ^ eB n (k + 1) := by
 rw [eB, Nat.pow_add]
 refine Nat.mul_le_mul_left _ ?_
 rw [Nat.pow_mul]
 refine Nat.pow_le_pow_left ?_ _
 have e : 256 ^ (2 * eB n k + 1) = (256 ^ eB n k) ^ 2 * 256 := by rw [Nat.pow_succ, Nat.mul_comm 2, Nat.pow_mul]
 rw [e]
 have hp : 0 < 256 ^ eB n k := Nat.pow_pos (by decide)
 generalize 256 ^ eB n k = X at hp ⊢
 have h1 : (1 + X) ^ 2 ≤ (2 * X) ^ 2 := Nat.pow_le_pow_left (by omega) 2
 have h2 : (2 * X) ^ 2 = 4 * X ^ 2 := by rw [Nat.mul_pow]
 omega
theorem Qkm {n k : Nat} : 256 ^ uB n k * (1 + 256 ^ eB n (k + 1)) + 256 ^ eB n (k + 1) ≤ 256 ^ uB n (k + 1) := by
 rw [uB, Nat.pow_succ, Nat.pow_add]
 have hp : 0 < 256 ^ uB n k := Nat.pow_pos (by decide)
 have hq : 0 < 256 ^ eB n (k + 1) := Nat.pow_pos (by decide)
 generalize 256 ^ uB n k = X at hp ⊢
 generalize 256 ^ eB n (k + 1) = Y at hq ⊢
 have h1 : X ≤ X * Y := Nat.le_mul_of_pos_right _ hq
 have h2 : Y ≤ X * Y := Nat.le_mul_of_pos_left _ hp
 rw [Nat.mul_add, Nat.mul_one]
 omega

theorem Qk5 (w : World) (v : Value) (m : ZM) (hm : RtZ m) (hsq : m.r = m.c) (hn : m.r ≤ 6) (hx : BdZ 12 m) (hb : ∀ i j, i < m.r → j < m.r → (m.at i j).natAbs ≤ 256 ^ 11) (hv : IsM w v m) :
  Calls Tryz.prog 9 #[v] w (Ret fun v w' => Kp [] w w' ∧ if (det m.r m.at).natAbs = 1 then GivesMB (adjZ m) true w v w' else v = .tuple #[zeroM, .bool false]) := by
 have hK : (m.r + 1) * (12 + 1) ≤ 40000000 := Nat.le_trans (Nat.mul_le_mul_right _ (show m.r + 1 ≤ 7 by omega)) (by decide)
 obtain ⟨KK, hKK⟩ : ∃ K : Nat, K = 300000 := ⟨_, rfl⟩
 refine Q14 (Q8m KK 12 (fun k => 256 ^ eB m.r k) (fun k => 256 ^ uB m.r k) w v m hm hsq (by omega) hK hx hv hb (Nat.pow_pos (by decide)) (fun k _ => Qls) (fun k _ => Qkm) (fun k hk => ?_) (by omega)) fun v w' h => ⟨h.1, ?_⟩
 ·have h := euB m.r (by omega) k (by omega) hk
  rw [← hKK] at h
  exact ⟨Nat.pow_lt_pow_right (by decide) h.1, Nat.pow_lt_pow_right (by decide) h.2⟩
 ·have h2 := h.2
  by_cases hd : (det m.r m.at).natAbs = 1
  ·rw [if_pos hd] at h2 ⊢
   obtain ⟨x, hx, h3, h4, h5, h6⟩ := h2
   rw [← Qcw hx h3 h4 hd h5]
   exact h6
  ·rw [if_neg hd] at h2 ⊢
   exact h2


set_option maxHeartbeats 4000000 in
theorem Qc3 (w : World) (v : Value) (a : XM) (h : ¬ RX a) (ha : IsX w v a) (hl : a.E.length < 1000000000) :
  Calls Tryz.prog 16 #[v] w (Ret fun v w' => Kp [] w w' ∧ v = zeroM) := by
 have ha0 := ha
 obtain ⟨E, rfl, hE⟩ := ha
 refine Q0a [] [] (by simp) [] Tryz.func16 rfl mixed (by kernel_rfl) Tryz.ntmps16 Tryz.results16 rfl ⟨by simp, by simp⟩ (by simp) ?_
 simp only [toS, textOps, toSOp, kindAt, kindOf, odAt, sopsAt, ordOf, zipF]
 (repeat' (first | refine JC.seq ?_ | refine JC.ops ?_ | refine JO.nil ?_ | refine Q00 ?_ | (apply Q0d; (iterate 4 exact rfl); exact at1; exact rfl) | (apply Q0e; (iterate 3 exact rfl); intro _) | (apply Q0x; (iterate 4 exact rfl); intro _)))
 refine Q09 (by first | trivial | exact ⟨rfl, rfl⟩) rfl (by first | rfl | exact ⟨rfl, rfl⟩) rfl (fun w hk _ => Q20 w _ a (ha0.mono hk) (by omega)) fun w v w' _ _ _ hR => ?_
 obtain ⟨b1, rfl, hb1⟩ := hR
 obtain rfl : b1 = false := by cases b1 with
  | true => exact absurd (hb1.1 rfl) h
  | false => rfl
 (repeat' (first | refine JC.seq ?_ | refine JC.ops ?_ | refine JO.nil ?_ | refine Q00 ?_ | (apply Q1e; (iterate 3 exact rfl)) | (apply Q05; exact rfl; (first | exact trivial | exact ⟨rfl, rfl⟩); exact rfl; exact rfl; exact at0; (iterate 3 exact rfl)) | (apply Q11; (iterate 5 exact rfl)) | (apply Q05; exact rfl; (first | exact trivial | exact ⟨rfl, rfl⟩); exact rfl; exact rfl; exact at0; (iterate 3 exact rfl)) | refine Q0o ?_ | refine JC.ret ?_ | refine Q08 rfl ?_))
 exact Q0z 0 rfl rfl rfl (fun a w' st => ⟨st.kp, rfl⟩)

set_option maxHeartbeats 4000000 in
theorem Qoq (w : World) (v : Value) (a : XM) (i j : Int) (h : ¬ RX a) (ha : IsX w v a) (hl : a.E.length < 1000000000) :
  Calls Tryz.prog 18 #[v, iv i, iv j] w (Ret fun v w' => Kp [] w w' ∧ v = Wv 0) := by
 have ha0 := ha
 obtain ⟨E, rfl, hE⟩ := ha
 refine Q0a [] [] (by simp) [] Tryz.func18 rfl mixed (by kernel_rfl) Tryz.ntmps18 Tryz.results18 rfl ⟨by simp, by simp⟩ (by simp) ?_
 simp only [toS, textOps, toSOp, kindAt, kindOf, odAt, sopsAt, ordOf, zipF]
 (repeat' (first | refine JC.seq ?_ | refine JC.ops ?_ | refine JO.nil ?_ | refine Q00 ?_ | (apply Q0d; (iterate 4 exact rfl); exact at1; exact rfl) | (apply Q0e; (iterate 3 exact rfl); intro _) | (apply Q0x; (iterate 4 exact rfl); intro _)))
 refine Q09 (by first | trivial | exact ⟨rfl, rfl⟩) rfl (by first | rfl | exact ⟨rfl, rfl⟩) rfl (fun w hk _ => Q20 w _ a (ha0.mono hk) (by omega)) fun w v w' _ _ _ hR => ?_
 obtain ⟨b1, rfl, hb1⟩ := hR
 obtain rfl : b1 = false := by cases b1 with
  | true => exact absurd (hb1.1 rfl) h
  | false => rfl
 (repeat' (first | refine JC.seq ?_ | refine JC.ops ?_ | refine JO.nil ?_ | refine Q00 ?_ | (apply Q04; (iterate 3 exact rfl)) | (apply Q0n; (iterate 4 exact rfl)) | (apply Q1e; (iterate 3 exact rfl)) | (apply Q05; exact rfl; (first | exact trivial | exact ⟨rfl, rfl⟩); exact rfl; exact rfl; exact at0; (iterate 3 exact rfl)) | (apply Q11; (iterate 5 exact rfl)) | (apply Q05; exact rfl; (first | exact trivial | exact ⟨rfl, rfl⟩); exact rfl; exact rfl; exact at0; (iterate 3 exact rfl)) | refine Q0o ?_ | refine JC.ret ?_ | refine Q08 rfl ?_ | (apply Q10; exact rfl; exact rfl; (first | (intro h; cases h; done) | (intro _; rfl)))))
 exact Q0z 0 rfl rfl rfl (fun a w' st => ⟨st.kp, rfl⟩)

set_option maxHeartbeats 4000000 in
theorem Qj4 (w : World) (v : Value) (a : XM) (i j : Int) (h : ¬ RX a) (ha : IsX w v a) (hl : a.E.length < 1000000000) :
  Calls Tryz.prog 19 #[v, iv i, iv j] w (Ret fun v w' => Kp [] w w' ∧ v = Wv 0) := by
 have ha0 := ha
 obtain ⟨E, rfl, hE⟩ := ha
 refine Q0a [] [] (by simp) [] Tryz.func19 rfl mixed (by kernel_rfl) Tryz.ntmps19 Tryz.results19 rfl ⟨by simp, by simp⟩ (by simp) ?_
 simp only [toS, textOps, toSOp, kindAt, kindOf, odAt, sopsAt, ordOf, zipF]
 (repeat' (first | refine JC.seq ?_ | refine JC.ops ?_ | refine JO.nil ?_ | refine Q00 ?_ | (apply Q0d; (iterate 4 exact rfl); exact at1; exact rfl) | (apply Q0e; (iterate 3 exact rfl); intro _) | (apply Q0x; (iterate 4 exact rfl); intro _)))
 refine Q09 (by first | trivial | exact ⟨rfl, rfl⟩) rfl (by first | rfl | exact ⟨rfl, rfl⟩) rfl (fun w hk _ => Q1f w _ a (ha0.mono hk) (by omega)) fun w v w' _ _ _ hR => ?_
 obtain ⟨b1, rfl, hb1⟩ := hR
 obtain rfl : b1 = false := by cases b1 with
  | true => exact absurd (hb1.1 rfl) h
  | false => rfl
 (repeat' (first | refine JC.seq ?_ | refine JC.ops ?_ | refine JO.nil ?_ | refine Q00 ?_ | (apply Q04; (iterate 3 exact rfl)) | (apply Q02; (iterate 3 exact rfl)) | (apply Q0n; (iterate 4 exact rfl)) | (apply Q1e; (iterate 3 exact rfl)) | (apply Q05; exact rfl; (first | exact trivial | exact ⟨rfl, rfl⟩); exact rfl; exact rfl; exact at0; (iterate 3 exact rfl)) | (apply Q11; (iterate 5 exact rfl)) | (apply Q05; exact rfl; (first | exact trivial | exact ⟨rfl, rfl⟩); exact rfl; exact rfl; exact at0; (iterate 3 exact rfl)) | refine Q0o ?_ | refine JC.ret ?_ | refine Q08 rfl ?_ | (apply Q10; exact rfl; exact rfl; (first | (intro h; cases h; done) | (intro _; rfl)))))
 exact Q0z 0 rfl rfl rfl (fun a w' st => ⟨st.kp, rfl⟩)

set_option maxHeartbeats 4000000 in
theorem Qm5 (w : World) (v : Value) (a : XM) (i j r c : Int) (h : ¬ RX a) (ha : IsX w v a) (hl : a.E.length < 1000000000) :
  Calls Tryz.prog 11 #[v, iv i, iv j, iv r, iv c] w (Ret fun v w' => Kp [] w w' ∧ v = .tuple #[zeroM, .bool false]) := by
 have ha0 := ha
 obtain ⟨E, rfl, hE⟩ := ha
 refine Q0a [⟨8, 2, [], []⟩] [] (by simp) [] Tryz.func11 rfl mixed (by kernel_rfl) Tryz.ntmps11 Tryz.results11 rfl ⟨by simp, by simp⟩ (by simp) ?_
 simp only [toS, textOps, toSOp, kindAt, kindOf, odAt, sopsAt, ordOf, zipF]
 (repeat' (first | refine JC.seq ?_ | refine JC.ops ?_ | refine JO.nil ?_ | refine Q00 ?_ | (apply Q02; (iterate 3 exact rfl)) | (apply Q0d; (iterate 4 exact rfl); exact at5; exact rfl) | (apply Q0e; (iterate 3 exact rfl); intro _) | (apply Q0x; (iterate 4 exact rfl); intro _) | (apply Qg5; (iterate 5 exact rfl); intro _)))
 refine Q09 (by first | trivial | exact ⟨rfl, rfl⟩) rfl (by first | rfl | exact ⟨rfl, rfl⟩) rfl (fun w hk _ => Q20 w _ a (ha0.mono hk) (by omega)) fun w v w' _ _ _ hR => ?_
 obtain ⟨b1, rfl, hb1⟩ := hR
 obtain rfl : b1 = false := by cases b1 with
  | true => exact absurd (hb1.1 rfl) h
  | false => rfl
 (repeat' (first | refine JC.seq ?_ | refine JC.ops ?_ | refine JO.nil ?_ | refine Q00 ?_ | (apply Q04; (iterate 3 exact rfl)) | (apply Q02; (iterate 3 exact rfl)) | (apply Q0n; (iterate 4 exact rfl)) | (apply Q1e; (iterate 3 exact rfl)) | (apply Q05; exact rfl; (first | exact trivial | exact ⟨rfl, rfl⟩); exact rfl; exact rfl; exact at0; (iterate 3 exact rfl)) | (apply Q11; (iterate 5 exact rfl)) | (apply Q05; exact rfl; (first | exact trivial | exact ⟨rfl, rfl⟩); exact rfl; exact rfl; exact at0; (iterate 3 exact rfl)) | refine Q0o ?_ | refine JC.ret ?_ | refine Q08 rfl ?_ | (apply Q10; exact rfl; exact rfl; (first | (intro h; cases h; done) | (intro _; rfl)))))
 exact Q16 0 rfl rfl rfl rfl (fun a w' st => ⟨st.kp, rfl⟩)

set_option maxHeartbeats 4000000 in
theorem Qep (w : World) (v : Value) (a : XM) (i j r c : Int) (h : ¬ RX a) (ha : IsX w v a) (hl : a.E.length < 1000000000) :
  Calls Tryz.prog 12 #[v, iv i, iv j, iv r, iv c] w (Ret fun v w' => Kp [] w w' ∧ v = .tuple #[zeroM, .bool false]) := by
 have ha0 := ha
 obtain ⟨E, rfl, hE⟩ := ha
 refine Q0a [⟨8, 2, [], []⟩] [] (by simp) [] Tryz.func12 rfl mixed (by kernel_rfl) Tryz.ntmps12 Tryz.results12 rfl ⟨by simp, by simp⟩ (by simp) ?_
 simp only [toS, textOps, toSOp, kindAt, kindOf, odAt, sopsAt, ordOf, zipF]
 (repeat' (first | refine JC.seq ?_ | refine JC.ops ?_ | refine JO.nil ?_ | refine Q00 ?_ | (apply Q02; (iterate 3 exact rfl)) | (apply Q0d; (iterate 4 exact rfl); exact at1; exact rfl) | (apply Q0e; (iterate 3 exact rfl); intro _) | (apply Q0x; (iterate 4 exact rfl); intro _)))
 refine Q09 (by first | trivial | exact ⟨rfl, rfl⟩) rfl (by first | rfl | exact ⟨rfl, rfl⟩) rfl (fun w hk _ => Q1f w _ a (ha0.mono hk) (by omega)) fun w v w' _ _ _ hR => ?_
 obtain ⟨b1, rfl, hb1⟩ := hR
 obtain rfl : b1 = false := by cases b1 with
  | true => exact absurd (hb1.1 rfl) h
  | false => rfl
 (repeat' (first | refine JC.seq ?_ | refine JC.ops ?_ | refine JO.nil ?_ | refine Q00 ?_ | (apply Q04; (iterate 3 exact rfl)) | (apply Q02; (iterate 3 exact rfl)) | (apply Q0n; (iterate 4 exact rfl)) | (apply Q1e; (iterate 3 exact rfl)) | (apply Q05; exact rfl; (first | exact trivial | exact ⟨rfl, rfl⟩); exact rfl; exact rfl; exact at0; (iterate 3 exact rfl)) | (apply Q11; (iterate 5 exact rfl)) | (apply Q05; exact rfl; (first | exact trivial | exact ⟨rfl, rfl⟩); exact rfl; exact rfl; exact at0; (iterate 3 exact rfl)) | refine Q0o ?_ | refine JC.ret ?_ | refine Q08 rfl ?_ | (apply Q10; exact rfl; exact rfl; (first | (intro h; cases h; done) | (intro _; rfl)))))
 exact Q16 0 rfl rfl rfl rfl (fun a w' st => ⟨st.kp, rfl⟩)

set_option maxHeartbeats 4000000 in
theorem Qk6 (w : World) (v : Value) (a : XM) (h : ¬ (RX a ∧ a.R = a.C)) (ha : IsX w v a) (hl : a.E.length < 1000000000) :
  Calls Tryz.prog 7 #[v] w (Ret fun v w' => Kp [] w w' ∧ v = .tuple #[Wv 0, .bool false]) := by
 have ha0 := ha
 obtain ⟨E, rfl, hE⟩ := ha
 refine Q0a [⟨12, 2, [], []⟩, ⟨16, 2, [], []⟩, ⟨18, 1, [], []⟩, ⟨25, 1, [0, 1, 2, 3, 4, 6, 7, 8, 9, 10, 11, 12, 13, 14, 15, 16, 5, 17, 18, 19, 20], []⟩] [] (by simp) [] Tryz.func7 rfl mixed (by kernel_rfl) Tryz.ntmps7 Tryz.results7 rfl ⟨by simp, by simp⟩ (by simp) ?_
 simp only [toS, textOps, toSOp, kindAt, kindOf, odAt, sopsAt, ordOf, zipF]
 (repeat' (first | refine JC.seq ?_ | refine JC.ops ?_ | refine JO.nil ?_ | refine Q00 ?_ | (apply Q02; (iterate 3 exact rfl)) | (apply Q0d; (iterate 4 exact rfl); exact at1; exact rfl) | (apply Q0e; (iterate 3 exact rfl); intro _) | (apply Q0x; (iterate 4 exact rfl); intro _)))
 refine Q09 (by first | trivial | exact ⟨rfl, rfl⟩) rfl (by first | rfl | exact ⟨rfl, rfl⟩) rfl (fun w hk _ => Q20 w _ a (ha0.mono hk) (by omega)) fun w v w' _ _ _ hR => ?_
 obtain ⟨b1, rfl, hb1⟩ := hR
 cases b1 with
 | false =>
  (repeat' (first | refine JC.seq ?_ | refine JC.ops ?_ | refine JO.nil ?_ | refine Q00 ?_ | (apply Q04; (iterate 3 exact rfl)) | (apply Q02; (iterate 3 exact rfl)) | (apply Q0n; (iterate 4 exact rfl)) | (apply Q1e; (iterate 3 exact rfl)) | (apply Q05; exact rfl; (first | exact trivial | exact ⟨rfl, rfl⟩); exact rfl; exact rfl; exact at0; (iterate 3 exact rfl)) | (apply Q11; (iterate 5 exact rfl)) | (apply Q05; exact rfl; (first | exact trivial | exact ⟨rfl, rfl⟩); exact rfl; exact rfl; exact at0; (iterate 3 exact rfl)) | refine Q0o ?_ | refine JC.ret ?_ | refine Q08 rfl ?_ | (apply Q10; exact rfl; exact rfl; (first | (intro h; cases h; done) | (intro _; rfl)))))
  exact Q16 0 rfl rfl rfl rfl (fun a w' st => ⟨st.kp, rfl⟩)
 | true =>
  have g1 := (hb1.1 rfl).fits
  (repeat' (first | refine JC.seq ?_ | refine JC.ops ?_ | refine JO.nil ?_ | refine Q00 ?_ | (apply Q04; (iterate 3 exact rfl)) | (apply Q06; (iterate 3 exact rfl)) | (apply Q02; (iterate 3 exact rfl)) | (apply Q0g; (iterate 4 exact rfl); (first | exact at0 | exact at1); exact rfl) | (apply Q0d; (iterate 4 exact rfl); (first | exact at0 | exact at1); exact rfl) | (apply Q0q; (iterate 4 exact rfl)) | (apply Q1e; (iterate 3 exact rfl)) | (apply Q05; exact rfl; (first | exact trivial | exact ⟨rfl, rfl⟩); exact rfl; exact rfl; (first | exact at0 | exact at1); (iterate 3 exact rfl)) | (apply Q3h; (iterate 4 exact rfl); all_goals intro hc; all_goals try (exfalso; omega)) | (apply Q11; (iterate 5 exact rfl)) | (apply Q05; exact rfl; (first | exact trivial | exact ⟨rfl, rfl⟩); exact rfl; exact rfl; (first | exact at0 | exact at1); (iterate 3 exact rfl)) | refine Q0o ?_ | refine JC.skip ?_ | refine JC.ret ?_ | refine Q08 rfl ?_ | refine Q07 rfl ?_))
  all_goals first
   | exact Q16 0 rfl rfl rfl rfl (fun a w' st => ⟨st.kp, rfl⟩)
   | (exfalso; exact h ⟨hb1.1 rfl, by omega⟩)

set_option maxHeartbeats 4000000 in
theorem Qc0 (w : World) (v : Value) (a : XM) (h : ¬ (RX a ∧ a.R = a.C)) (ha : IsX w v a) (hl : a.E.length < 1000000000) :
  Calls Tryz.prog 8 #[v] w (Ret fun v w' => Kp [] w w' ∧ v = .tuple #[Wv 0, .bool false]) := by
 have ha0 := ha
 obtain ⟨E, rfl, hE⟩ := ha
 refine Q0a [⟨29, 1, [], []⟩, ⟨30, 1, [], []⟩, ⟨31, 3, [0, 1, 3, 2, 4, 5, 6, 7, 8, 9, 10, 11, 12, 13], []⟩] [] (by simp) [] Tryz.func8 rfl mixed (by kernel_rfl) Tryz.ntmps8 Tryz.results8 rfl ⟨by simp, by simp⟩ (by simp) ?_
 simp only [toS, textOps, toSOp, kindAt, kindOf, odAt, sopsAt, ordOf, zipF]
 (repeat' (first | refine JC.seq ?_ | refine JC.ops ?_ | refine JO.nil ?_ | refine Q00 ?_ | (apply Q02; (iterate 3 exact rfl)) | (apply Q0d; (iterate 4 exact rfl); exact at1; exact rfl) | (apply Q0e; (iterate 3 exact rfl); intro _) | (apply Q0x; (iterate 4 exact rfl); intro _)))
 refine Q09 (by first | trivial | exact ⟨rfl, rfl⟩) rfl (by first | rfl | exact ⟨rfl, rfl⟩) rfl (fun w hk _ => Q1f w _ a (ha0.mono hk) (by omega)) fun w v w' _ _ _ hR => ?_
 obtain ⟨b1, rfl, hb1⟩ := hR
 cases b1 with
 | false =>
  (repeat' (first | refine JC.seq ?_ | refine JC.ops ?_ | refine JO.nil ?_ | refine Q00 ?_ | (apply Q04; (iterate 3 exact rfl)) | (apply Q02; (iterate 3 exact rfl)) | (apply Q0n; (iterate 4 exact rfl)) | (apply Q1e; (iterate 3 exact rfl)) | (apply Q05; exact rfl; (first | exact trivial | exact ⟨rfl, rfl⟩); exact rfl; exact rfl; exact at0; (iterate 3 exact rfl)) | (apply Q11; (iterate 5 exact rfl)) | (apply Q05; exact rfl; (first | exact trivial | exact ⟨rfl, rfl⟩); exact rfl; exact rfl; exact at0; (iterate 3 exact rfl)) | refine Q0o ?_ | refine JC.ret ?_ | refine Q08 rfl ?_ | (apply Q10; exact rfl; exact rfl; (first | (intro h; cases h; done) | (intro _; rfl)))))
  exact Q16 0 rfl rfl rfl rfl (fun a w' st => ⟨st.kp, rfl⟩)
 | true =>
  have g1 := (hb1.1 rfl).fits
  (repeat' (first | refine JC.seq ?_ | refine JC.ops ?_ | refine JO.nil ?_ | refine Q00 ?_ | (apply Q04; (iterate 3 exact rfl)) | (apply Q06; (iterate 3 exact rfl)) | (apply Q02; (iterate 3 exact rfl)) | (apply Q0g; (iterate 4 exact rfl); (first | exact at0 | exact at1); exact rfl) | (apply Q0q; (iterate 4 exact rfl)) | (apply Q1e; (iterate 3 exact rfl)) | (apply Q05; exact rfl; (first | exact trivial | exact ⟨rfl, rfl⟩); exact rfl; exact rfl; (first | exact at0 | exact at1); (iterate 3 exact rfl)) | (apply Q3h; (iterate 4 exact rfl); all_goals intro hc; all_goals try (exfalso; omega)) | (apply Q11; (iterate 5 exact rfl)) | (apply Q05; exact rfl; (first | exact trivial | exact ⟨rfl, rfl⟩); exact rfl; exact rfl; (first | exact at0 | exact at1); (iterate 3 exact rfl)) | refine Q0o ?_ | refine JC.skip ?_ | refine JC.ret ?_ | refine Q08 rfl ?_ | refine Q07 rfl ?_))
  all_goals first
   | exact Q16 0 rfl rfl rfl rfl (fun a w' st => ⟨st.kp, rfl⟩)
   | (exfalso; exact h ⟨hb1.1 rfl, by omega⟩)

set_option maxHeartbeats 4000000 in
theorem Qes (w : World) (v : Value) (a : XM) (h : ¬ (RX a ∧ a.R = a.C)) (ha : IsX w v a) (hl : a.E.length < 1000000000) :
  Calls Tryz.prog 9 #[v] w (Ret fun v w' => Kp [] w w' ∧ v = .tuple #[zeroM, .bool false]) := by
 have ha0 := ha
 obtain ⟨E, rfl, hE⟩ := ha
 refine Q0a [⟨5, 2, [], []⟩, ⟨15, 2, [], []⟩, ⟨20, 1, [0, 1, 2, 3, 4, 5, 6, 7, 8, 9, 10, 12, 11, 13, 14, 15], [(11, .seq)]⟩, ⟨27, 3, [], []⟩] [] (by simp) [] Tryz.func9 rfl mixed (by kernel_rfl) Tryz.ntmps9 Tryz.results9 rfl ⟨by simp, by simp⟩ (by simp) ?_
 simp only [toS, textOps, toSOp, kindAt, kindOf, odAt, sopsAt, ordOf, zipF]
 (repeat' (first | refine JC.seq ?_ | refine JC.ops ?_ | refine JO.nil ?_ | refine Q00 ?_ | (apply Q02; (iterate 3 exact rfl)) | (apply Q0d; (iterate 4 exact rfl); exact at1; exact rfl) | (apply Q0e; (iterate 3 exact rfl); intro _) | (apply Q0x; (iterate 4 exact rfl); intro _)))
 refine Q09 (by first | trivial | exact ⟨rfl, rfl⟩) rfl (by first | rfl | exact ⟨rfl, rfl⟩) rfl (fun w hk _ => Qk6 w _ a h (ha0.mono hk) (by omega)) fun w v w' _ _ _ hR => ?_
 subst hR
 (repeat' (first | refine JC.seq ?_ | refine JC.ops ?_ | refine JC.opsD ?_ | refine JO.nil ?_ | refine Q00 ?_ | (apply Q04; (iterate 3 exact rfl)) | (apply Q02; (iterate 3 exact rfl)) | (apply Q0n; (iterate 4 exact rfl)) | (apply Q1e; (iterate 3 exact rfl)) | (apply Q0v; (iterate 4 exact rfl)) | (apply Q05; exact rfl; (first | exact trivial | exact ⟨rfl, rfl⟩); exact rfl; exact rfl; (first | exact at0 | exact at1); (iterate 3 exact rfl)) | (apply Q0e; (iterate 3 exact rfl); intro _) | (apply Q11; (iterate 5 exact rfl)) | (apply Q05; exact rfl; (first | exact trivial | exact ⟨rfl, rfl⟩); exact rfl; exact rfl; (first | exact at0 | exact at1); (iterate 3 exact rfl)) | refine Q0o ?_ | refine JC.ret ?_ | refine Q08 rfl ?_ | (apply Q10; exact rfl; exact rfl; (first | (intro h; cases h; done) | (intro _; rfl)))))
 exact Q16 1 rfl rfl rfl rfl (fun a w' st => ⟨st.kp, rfl⟩)

set_option maxHeartbeats 4000000 in
theorem Qax (w : World) (v : Value) (a : XM) (h : ¬ (RX a ∧ a.R = a.C)) (ha : IsX w v a) (hl : a.E.length < 1000000000) :
  Calls Tryz.prog 10 #[v] w (Ret fun v w' => Kp [] w w' ∧ v = .tuple #[zeroM, .bool false]) := by
 have ha0 := ha
 obtain ⟨E, rfl, hE⟩ := ha
 refine Q0a [⟨14, 2, [], []⟩] [] (by simp) [] Tryz.func10 rfl mixed (by kernel_rfl) Tryz.ntmps10 Tryz.results10 rfl ⟨by simp, by simp⟩ (by simp) ?_
 simp only [toS, textOps, toSOp, kindAt, kindOf, odAt, sopsAt, ordOf, zipF]
 (repeat' (first | refine JC.seq ?_ | refine JC.ops ?_ | refine JO.nil ?_ | refine Q00 ?_ | (apply Q02; (iterate 3 exact rfl)) | (apply Q0d; (iterate 4 exact rfl); exact at1; exact rfl) | (apply Q0e; (iterate 3 exact rfl); intro _) | (apply Q0x; (iterate 4 exact rfl); intro _)))
 refine Q09 (by first | trivial | exact ⟨rfl, rfl⟩) rfl (by first | rfl | exact ⟨rfl, rfl⟩) rfl (fun w hk _ => Qc0 w _ a h (ha0.mono hk) (by omega)) fun w v w' _ _ _ hR => ?_
 subst hR
 (repeat' (first | refine JC.seq ?_ | refine JC.ops ?_ | refine JO.nil ?_ | refine Q00 ?_ | (apply Q04; (iterate 3 exact rfl)) | (apply Q02; (iterate 3 exact rfl)) | (apply Q0n; (iterate 4 exact rfl)) | (apply Q1e; (iterate 3 exact rfl)) | (apply Q0v; (iterate 4 exact rfl)) | (apply Q05; exact rfl; (first | exact trivial | exact ⟨rfl, rfl⟩); exact rfl; exact rfl; (first | exact at0 | exact at1); (iterate 3 exact rfl)) | (apply Q0e; (iterate 3 exact rfl); intro _) | (apply Q11; (iterate 5 exact rfl)) | (apply Q05; exact rfl; (first | exact trivial | exact ⟨rfl, rfl⟩); exact rfl; exact rfl; (first | exact at0 | exact at1); (iterate 3 exact rfl)) | refine Q0o ?_ | refine JC.ret ?_ | refine Q08 rfl ?_ | (apply Q10; exact rfl; exact rfl; (first | (intro h; cases h; done) | (intro _; rfl)))))
 exact Q16 1 rfl rfl rfl rfl (fun a w' st => ⟨st.kp, rfl⟩)


set_option maxHeartbeats 4000000 in
theorem Qh6 (w : World) (v : Value) (m : ZM) (i0 j0 r c : Nat) (hm : RtZ m) (hi0 : i0 + r ≤ m.r) (hj0 : j0 + c ≤ m.c) (hv : IsM w v m) :
  Calls Tryz.prog 12 #[v, nv i0, nv j0, nv r, nv c] w (Ret fun v w' => Kp [] w w' ∧ GivesMB (partZ m i0 j0 r c) true w v w') := by
 have hvX := hv.x
 obtain ⟨E, rfl, hE⟩ := hv
 have hle := hm.le
 have hmr := hm.r
 have hmc := hm.c
 rw [hm.len] at hE
 refine Q0a [⟨8, 2, [], []⟩] [] (by simp) [] Tryz.func12 rfl mixed (by kernel_rfl) Tryz.ntmps12 Tryz.results12 rfl ⟨by simp, by simp⟩ (by simp) ?_
 simp only [toS, textOps, toSOp, kindAt, kindOf, odAt, sopsAt, ordOf, zipF]
 have hR := WZ.rd (c := ⟨Tryz.prog, 97, w, [], by simp⟩) hE rfl []
 (repeat' (first | refine JC.seq ?_ | refine JC.ops ?_ | refine JO.nil ?_ | refine Q00 ?_ | (apply Q02; (iterate 3 exact rfl)) | (apply Q0d; (iterate 4 exact rfl); exact at1; exact rfl) | (apply Q0e; (iterate 3 exact rfl); intro _) | (apply Q0x; (iterate 4 exact rfl); intro _)))
 rename_i b5 b10
 refine Q09 trivial rfl rfl rfl (fun w hk _ => Q1f w _ m.xm (hvX.mono hk) (by simp [ZM.xm]; omega)) fun w v w' _ _ _ hc0 => ?_
 obtain ⟨b', rfl, hb⟩ := hc0
 obtain rfl := hb.2 hm.rx
 (repeat' (first | refine JC.seq ?_ | refine JC.ops ?_ | refine JO.nil ?_ | refine Q00 ?_ | (apply Q04; (iterate 3 exact rfl)) | (apply Q06; (iterate 3 exact rfl)) | (apply Q02; (iterate 3 exact rfl)) | (apply Q0g; (iterate 4 exact rfl); (first | exact at0 | exact at1); exact rfl) | (apply Q68; (iterate 4 exact rfl)) | (apply Q4r; (iterate 4 exact rfl); omega) | (apply Q0q; (iterate 4 exact rfl)) | (apply Q1e; (iterate 3 exact rfl)) | (apply Q05; exact rfl; (first | exact trivial | exact ⟨rfl, rfl⟩); exact rfl; exact rfl; (first | exact at0 | exact at1); (iterate 3 exact rfl)) | (apply Q0m; (iterate 4 exact rfl); all_goals intro hc; all_goals try (exfalso; omega)) | (apply Q1l; (iterate 4 exact rfl); all_goals intro hc; all_goals try (exfalso; omega)) | (apply Q0e; (iterate 3 exact rfl); intro _) | (apply Q05; exact rfl; (first | exact trivial | exact ⟨rfl, rfl⟩); exact rfl; exact rfl; (first | exact at0 | exact at1); (iterate 3 exact rfl)) | refine JC.skip ?_ | refine Q07 rfl ?_ | refine JC.block ?_))
 all_goals first
  | (exfalso; omega)
  | skip
 rename_i b13
 refine Q0k (ι := Nat × Nat × SHeap × Value) ⟨fun z => [(14, nv (i0 + z.1)), (1, nv i0), (2, nv j0), (3, nv r), (4, nv c), (5, .pointer (some ⟨b5, 0, none⟩)), (10, .pointer (some ⟨b10, 0, none⟩)), (13, .pointer (some ⟨b13, 0, none⟩))],
  fun z => [(b13, .cells #[nv r, nv c, z.2.2.2] 29), (b10, .cells #[iv 0, iv 0, .slice none 0 0] 29), (b5, .cells #[nv m.r, nv m.c, E] 29)] ++ (z.2.2.1 ++ []),
  fun z => z.1 ≤ r ∧ z.2.1 = z.1 * c ∧ OwnZ z.2.2.1 z.2.2.2 z.2.1 (tbz z.1 c fun a b => m.at (i0 + a) (j0 + b)), fun z => r - z.1⟩ (0, 0, [], .slice none 0 0) ⟨by omega, by simp, by simpa [Q3m] using OwnZ.nil⟩ (by repeat first | exact trivial | refine ⟨rfl, ?_⟩) (by (repeat' first | exact HSub.refl _ | exact HSub.nil _ | refine HSub.at 0 rfl ?_ | refine HSub.at 1 rfl ?_ | refine HSub.at 2 rfl ?_ | refine HSub.at 3 rfl ?_ | refine HSub.at 4 rfl ?_ | refine HSub.at 5 rfl ?_ | refine HSub.at 6 rfl ?_ | refine HSub.at 7 rfl ?_ | refine HSub.at 8 rfl ?_ | refine HSub.at 9 rfl ?_ | refine HSub.at 10 rfl ?_ | refine HSub.at 11 rfl ?_ | refine HSub.at 12 rfl ?_ | refine HSub.at 13 rfl ?_ | refine HSub.at 14 rfl ?_ | refine HSub.at 15 rfl ?_ | refine HSub.at 16 rfl ?_ | refine HSub.at 17 rfl ?_ | refine HSub.at 18 rfl ?_ | refine HSub.at 19 rfl ?_ | refine Q0l ?_ | refine HSub.skip ?_ | refine Q01 ?_)) (fun z hz => ?_)
 obtain ⟨i, k, N, v8⟩ := z
 obtain ⟨hi, hk, hO⟩ := hz
 dsimp only at hi hk hO ⊢
 obtain ⟨A8, c8, rfl⟩ := hO.form
 by_cases hlt : i < r
 ·have hrow1 := Q90 (c := m.c) (show i0 + i < m.r by omega)
  have hk2 : k ≤ 40000 := by rw [hk]; exact Nat.mul_le_mul (show i ≤ 200 by omega) (show c ≤ 200 by omega)
  have q1 : (i0 + i) * m.c ≤ 40000 := Nat.mul_le_mul (show i0 + i ≤ 200 by omega) hmc
  have f1 : (i0 + i + 1) * m.c = (i0 + i) * m.c + m.c := by rw [Nat.add_mul (i0 + i), Nat.one_mul]
  (repeat' (first | refine JC.seq ?_ | refine JC.ops ?_ | refine JO.nil ?_ | refine Q00 ?_ | (apply Q04; (iterate 3 exact rfl)) | (apply Q1a; (iterate 4 exact rfl); omega) | (apply Q0m; (iterate 4 exact rfl); all_goals intro hc; all_goals try (exfalso; omega)) | refine JC.skip ?_ | refine Q08 rfl ?_ | refine JC.block ?_))
  refine Q36 [(b13, .cells #[nv r, nv c, .slice A8 k c8] 29), (b5, .cells #[nv m.r, nv m.c, E] 29)] (by (first | exact HSub.refl _ | (repeat' first | exact HSub.nil _ | exact HSub.refl _ | refine HSub.at 0 rfl ?_ | refine HSub.at 1 rfl ?_ | refine HSub.at 2 rfl ?_ | refine HSub.at 3 rfl ?_ | refine HSub.at 4 rfl ?_ | refine HSub.at 5 rfl ?_ | refine HSub.at 6 rfl ?_ | refine HSub.at 7 rfl ?_))) ?_
  (repeat' (first | (apply Q04; (iterate 3 exact rfl)) | (apply Q06; (iterate 3 exact rfl)) | (apply Q0g; (iterate 4 exact rfl); (first | exact at0 | exact at1); exact rfl) | (apply Q1a; (iterate 4 exact rfl); omega) | (apply Q1q; (iterate 4 exact rfl); (first | assumption | omega))))
  refine Qa7 (l := (i0 + i) * m.c + j0) (h' := (i0 + i) * m.c + j0 + c) rfl rfl rfl hR rfl rfl (.inl rfl) rfl rfl (.inl rfl) (by omega) (by omega) (fun v3 hv3 _ => ?_)
  have hsl : List.take ((i0 + i) * m.c + j0 + c - ((i0 + i) * m.c + j0)) (List.drop ((i0 + i) * m.c + j0) m.e) = tab c fun b => m.at (i0 + i) (j0 + b) := by
   rw [show (i0 + i) * m.c + j0 + c - ((i0 + i) * m.c + j0) = c by omega]
   refine Q6q (by rw [List.length_take, List.length_drop, hm.len]; omega) (fun b hb => ?_)
   rw [List.getElem?_take_of_lt hb, List.getElem?_drop, Q3i (d := 0) (by rw [hm.len]; omega), Nat.add_assoc]
   rfl
  rw [hsl, show (i0 + i) * m.c + j0 + c - ((i0 + i) * m.c + j0) = c by omega] at hv3
  skip
  refine Q39 (A := [_, _, _]) (B := []) hO hv3 (HSub.nil _) rfl (by (first | exact HSub.refl _ | (repeat' first | exact HSub.nil _ | exact HSub.refl _ | refine HSub.at 0 rfl ?_ | refine HSub.at 1 rfl ?_ | refine HSub.at 2 rfl ?_ | refine HSub.at 3 rfl ?_ | refine HSub.at 4 rfl ?_ | refine HSub.at 5 rfl ?_ | refine HSub.at 6 rfl ?_ | refine HSub.at 7 rfl ?_))) rfl rfl rfl rfl (by omega) (fun v4 N4 hO4 => ?_)
  obtain ⟨A4, c4, rfl⟩ := hO4.form
  rw [← Q9z] at hO4
  (repeat' (first | refine JC.ops ?_ | refine JO.nil ?_ | refine Q00 ?_ | (apply Q04; (iterate 3 exact rfl)) | (apply Q06; (iterate 3 exact rfl)) | (apply Q02; (iterate 3 exact rfl)) | (apply Q0r; (iterate 4 exact rfl); omega) | (apply Q28; exact rfl; (first | exact trivial | exact ⟨rfl, rfl⟩); exact rfl; exact rfl; exact at0; exact rfl; exact rfl; (first | exact Nat.le_of_ble_eq_true rfl | (simp; done) | omega)) | refine Q0b ?_))
  exact Q0c (i + 1, k + c, N4, _) ⟨by dsimp only; omega, by dsimp only; rw [hk, Nat.add_mul, Nat.one_mul], hO4⟩ (by dsimp only; omega) (by repeat first | exact trivial | refine ⟨rfl, ?_⟩) (HSub.refl _)
 ·(repeat' (first | refine JC.seq ?_ | refine JC.ops ?_ | refine JO.nil ?_ | refine Q00 ?_ | (apply Q04; (iterate 3 exact rfl)) | (apply Q02; (iterate 3 exact rfl)) | (apply Q0d; (iterate 4 exact rfl); (first | exact at0 | exact at1); exact rfl) | (apply Q1a; (iterate 4 exact rfl); omega) | (apply Q05; exact rfl; (first | exact trivial | exact ⟨rfl, rfl⟩); exact rfl; exact rfl; (first | exact at0 | exact at1); (iterate 3 exact rfl)) | (apply Q0m; (iterate 4 exact rfl); all_goals intro hc; all_goals try (exfalso; omega)) | (apply Q05; exact rfl; (first | exact trivial | exact ⟨rfl, rfl⟩); exact rfl; exact rfl; (first | exact at0 | exact at1); (iterate 3 exact rfl)) | refine Q0i ?_ | refine JC.exit ?_ | refine JC.ret ?_ | refine Q07 rfl ?_ | refine Q0f ?_))
  obtain rfl : i = r := by omega
  subst hk
  exact Q16 1 rfl rfl rfl rfl (fun a w' st => ⟨st.kp, N, _, rfl, st.newOf rfl (by (repeat' first | exact HSub.nil _ | exact HSub.hd | exact Q03 | exact HSub.refl _ | refine HSub.skip ?_ | refine Q01 ?_)), OwnM.mk' hO⟩)

set_option maxHeartbeats 4000000 in
theorem Qeq (w : World) (v : Value) (m : ZM) (i j r c : Int) (hm : RtZ m) (h : ¬ partOk m i j r c) (hv : IsM w v m)
  (h1 : -9223372036854775808 ≤ r ∧ r ≤ 9223372036854775807) (h2 : -9223372036854775808 ≤ c ∧ c ≤ 9223372036854775807) :
  Calls Tryz.prog 12 #[v, iv i, iv j, iv r, iv c] w (Ret fun v w' => Kp [] w w' ∧ v = .tuple #[zeroM, .bool false]) := by
 have hvX := hv.x
 obtain ⟨E, rfl, hE⟩ := hv
 have hle := hm.le
 have hbr := hm.r
 have hbc := hm.c
 unfold partOk at h
 refine Q0a [⟨8, 2, [], []⟩] [] (by simp) [] Tryz.func12 rfl mixed (by kernel_rfl) Tryz.ntmps12 Tryz.results12 rfl ⟨by simp, by simp⟩ (by simp) ?_
 simp only [toS, textOps, toSOp, kindAt, kindOf, odAt, sopsAt, ordOf, zipF]
 (repeat' (first | refine JC.seq ?_ | refine JC.ops ?_ | refine JO.nil ?_ | refine Q00 ?_ | (apply Q02; (iterate 3 exact rfl)) | (apply Q0d; (iterate 4 exact rfl); exact at1; exact rfl) | (apply Q0e; (iterate 3 exact rfl); intro _) | (apply Q0x; (iterate 4 exact rfl); intro _)))
 refine Q09 trivial rfl rfl rfl (fun w hk _ => Q1f w _ m.xm (hvX.mono hk) (by simp [ZM.xm]; omega)) fun w v w' _ _ _ hR => ?_
 obtain ⟨b', rfl, hb⟩ := hR
 obtain rfl := hb.2 hm.rx
 (repeat' (first | refine JC.seq ?_ | refine JC.ops ?_ | refine JO.nil ?_ | refine Q00 ?_ | (apply Q04; (iterate 3 exact rfl)) | (apply Q06; (iterate 3 exact rfl)) | (apply Q02; (iterate 3 exact rfl)) | (apply Q0g; (iterate 4 exact rfl); (first | exact at0 | exact at1); exact rfl) | (apply Q3b; (iterate 4 exact rfl); omega) | (apply Q0n; (iterate 4 exact rfl)) | (apply Q0q; (iterate 4 exact rfl)) | (apply Q1e; (iterate 3 exact rfl)) | (apply Q05; exact rfl; (first | exact trivial | exact ⟨rfl, rfl⟩); exact rfl; exact rfl; (first | exact at0 | exact at1); (iterate 3 exact rfl)) | (apply Q0m; (iterate 4 exact rfl); all_goals intro hc; all_goals try (exfalso; omega)) | (apply Q1l; (iterate 4 exact rfl); all_goals intro hc; all_goals try (exfalso; omega)) | (apply Q11; (iterate 5 exact rfl)) | (apply Q05; exact rfl; (first | exact trivial | exact ⟨rfl, rfl⟩); exact rfl; exact rfl; (first | exact at0 | exact at1); (iterate 3 exact rfl)) | refine Q0o ?_ | refine JC.ret ?_ | refine Q08 rfl ?_ | (apply Q10; exact rfl; exact rfl; (first | (intro h; cases h; done) | (intro _; rfl)))))
 all_goals first
  | exact Q16 0 rfl rfl rfl rfl (fun a w' st => ⟨st.kp, rfl⟩)
  | (exfalso; omega)

end Go.Proofs.YtdlmnloikakjpaaGreatDoor

