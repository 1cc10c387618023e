import Derived.Test.YtdoogoglfbohaaaDoorMj
import Derived.Test.YtdoogoglfbohaaaDoorMi
import Derived.Test.YtdoogoglfbohaaaDoorTie
import Derived.Test.YtdoogoglfbohaaaDoorCards
import Derived.Shelf.Lay
import Derived.Lay
import Derived.LaidOnce
import Derived.SevenTiedAt
/- The law FieldBuilds. ROWZ -/
namespace Go.Proofs.YtdoogoglfbohaaaDoor
open Go Go.RowKit
set_option linter.unusedSimpArgs false
set_option linter.unusedVariables false
set_option linter.unusedSectionVars false

theorem int_wf {x : Int} (h : (Lit.int .i64 x).wf = true) : -9223372036854775808 ≤ x ∧ x < 9223372036854775808 := i64_wf h
theorem min_iv (a b : Nat) : (if (b : Int) < (a : Int) then (b : Int) else (a : Int)) = ((min a b : Nat) : Int) := by
  split <;> omega
theorem fdofC_bd {X : List (List Int)} {b : Nat} (h : ∀ i, (X.getD i []).length ≤ b) : ∀ k, fdofC X k ≤ b
  | 0 => Nat.zero_le _
  | k + 1 => by rw [fdofC]; have := fdofC_bd h k; have := h k; omega
theorem own_four (b : Nat) (x y z t : Int) : OwnI [(b, .cells ⟨[iv x, iv y, iv z, iv t]⟩ 3)] (.slice (some ⟨b, 0, none⟩) 4 4) 4 [x, y, z, t] := by
  have h := OwnRow.mk' (e := 3) (sz := 1) (n := 4) (b := b) (cs := ⟨[iv x, iv y, iv z, iv t]⟩) (by simp) (by simp only [maxLen]; omega)
  exact h
theorem i64_four {x y z t : Int} (h1 : I64 x) (h2 : I64 y) (h3 : I64 z) (h4 : I64 t) (k : Nat) : I64 ([x, y, z, t].getD k 0) := by
  match k with
  | 0 => exact h1
  | 1 => exact h2
  | 2 => exact h3
  | 3 => exact h4
  | _ + 4 => exact ⟨by simp, by simp⟩
theorem shE_len {R C : Nat} {L : List Int} : (shMat R C L).xm.E.length < 1000000000 := by
  have h := (RtZ.shMat R C L).le
  show ((shMat R C L).e.map wz).length < _
  rw [List.length_map]; omega
theorem xm_elt {m : ZM} {K : Nat} (h : BdZ K m) (i : Nat) : (m.xm.E.getD i w0x).2.length ≤ K := by
  rcases Nat.lt_or_ge i m.e.length with hi | hi
  · have e : m.xm.E.getD i w0x = wz (m.e.getD i 0) := by
      show (m.e.map wz).getD i w0x = _
      rw [List.getD, List.getElem?_map, List.getD, List.getElem?_eq_getElem hi]
      rfl
    rw [e]
    exact magU_len (h i)
  · have e : m.xm.E.getD i w0x = w0x := by
      show (m.e.map wz).getD i w0x = _
      rw [List.getD, List.getElem?_eq_none (by rw [List.length_map]; exact hi)]; rfl
    rw [e]
    exact Nat.zero_le _
theorem fm_len {o : FM} {p : Int} {a : XM} (h : Res p a o) (hl : a.E.length < 1000000000) : o.E.length < 1000000000 := by
  by_cases q : Fits p a.R a.C ∧ (a.E.length : Int) = a.R * a.C
  · rw [h.1 q]
    show (ints (resL p.toNat a.E)).length < _
    simpa [ints, resL] using hl
  · rw [h.2 q]
    exact (by decide : (0 : Nat) < 1000000000)
theorem one_len {o : FM} {p n : Int} (h : OneG p n o) : o.E.length < 1000000000 := by
  rcases h with ⟨p', n', rfl, rfl, h1, h2, rfl⟩ | ⟨h, rfl⟩
  · have h3 := (Rt.one h1 h2).len
    show (ints (oneM p' n').e).length < _
    rw [show (ints (oneM p' n').e).length = (oneM p' n').e.length by simp [ints], h3]
    have h4 : n' * n' ≤ 400 * 400 := Nat.mul_le_mul h2 h2
    show n' * n' < _
    omega
  · exact (by decide : (0 : Nat) < 1000000000)
theorem of_len {o : FM} {p : Int} {X : List (List Int)} (h : OfG p X o) (hr : X.length ≤ 400) (hc : fdofC X X.length ≤ 400) : o.E.length < 1000000000 := by
  rcases h with ⟨p', rfl, h1, rfl⟩ | ⟨h, rfl⟩
  · have h3 := (Rt.of h1 hr hc).len
    show (ints (ofM p' X).e).length < _
    rw [show (ints (ofM p' X).e).length = (ofM p' X).e.length by simp [ints], h3]
    have h4 : X.length * fdofC X X.length ≤ 400 * 400 := Nat.mul_le_mul hr hc
    show X.length * fdofC X X.length < _
    omega
  · exact (by decide : (0 : Nat) < 1000000000)

set_option maxHeartbeats 16000000 in
theorem c_FieldBuilds (w : World) (p : Int) (vs va : Value) (X : List (List Int)) (R0 C0 : Nat) (L0 : List Int) (hp : I64 p) (hva : IsLL w va X) (hv0 : IsS w vs R0 C0 L0) :
    Calls Tryd.prog 3 #[iv p, va, vs] w (Ret fun v w' => Kp [] w w' ∧ v = .bool true) := by
  obtain ⟨wz, hwz⟩ : ∃ u, u = w := ⟨_, rfl⟩
  subst hwz
  obtain ⟨hX, ss, hss, hrow⟩ := hva
  have hsl : ss.length = X.length := by have := hss.1; omega
  have hs0 := hv0
  obtain ⟨hR0, hC0, hL0, E0, rfl, hE0⟩ := hv0
  unfold I64 at hp
  refine calls_of_S [⟨6, 1, [], []⟩, ⟨12, 0, [0, 2, 1, 3, 4, 5, 6, 7, 9, 10, 8, 11, 12, 13, 14, 15, 16, 17, 18, 20, 21, 22, 19, 23, 24, 25, 26, 27, 28, 29, 32, 33, 30, 31, 34, 35, 36, 37, 38], []⟩] [] (by simp) [] Tryd.func3 rfl mixed (by kernel_rfl) Tryd.ntmps3 Tryd.results3 rfl ⟨by simp, by simp⟩ (by simp) ?_
  simp only [toS, textOps, toSOp, kindAt, kindOf, odAt, sopsAt, ordOf, zipF]
  have hRa : Rd ⟨Tryd.prog, 95, wz, [], by simp⟩ [] 1 va X.length ss := hss.rd rfl []
  have hRr : ∀ i, i < X.length → RdI ⟨Tryd.prog, 95, wz, [], by simp⟩ [] (ss.getD i (iv 0)) (X.getD i []).length (X.getD i []) := fun i hi => (hrow i hi).2.1.rd rfl []
  have hI : ∀ i, i < X.length → ∀ j, I64 ((X.getD i []).getD j 0) := fun i hi => (hrow i hi).1
  have hll : ∀ i, i < X.length → (X.getD i []).length < 9223372036854775808 := fun i hi => (hrow i hi).2.2
  clear hrow
  (repeat' (first | refine JC.seq ?_ | refine JC.ops ?_ | refine JO.nil ?_ | (apply r_assign; (iterate 3 exact rfl)) | (apply r_boxA; (iterate 4 exact rfl); intro _)))
  rename_i b5
  refine JX.thenN ?_
  (repeat' (first | refine JC.seq ?_ | refine JC.ops ?_))
  refine r_call0 trivial rfl rfl rfl (fun w _ _ => fdc_sanity w) fun w v w' _ _ _ hR => ?_
  subst hR
  (repeat' (first | refine JO.nil ?_ | (apply r_assign; (iterate 3 exact rfl))))
  refine JX.part (F' := [(7, .bool true), (5, .pointer (some ⟨b5, 0, none⟩)), (0, iv p), (1, va)]) (H' := [(b5, .cells #[.int .u8 (R0 : Int), .int .u8 (C0 : Int), E0] 25)] ++ ([])) (by repeat first | exact trivial | refine ⟨rfl, ?_⟩) (by (repeat' first | exact HSub.refl _ | exact HSub.nil _ | refine HSub.at 0 rfl ?_ | refine HSub.at 1 rfl ?_ | refine HSub.at 2 rfl ?_ | refine HSub.at 3 rfl ?_ | refine HSub.at 4 rfl ?_ | refine HSub.at 5 rfl ?_ | refine HSub.at 6 rfl ?_ | refine HSub.at 7 rfl ?_ | refine HSub.at 8 rfl ?_ | refine HSub.at 9 rfl ?_ | refine HSub.at 10 rfl ?_ | refine HSub.at 11 rfl ?_ | refine HSub.at 12 rfl ?_ | refine HSub.at 13 rfl ?_ | refine HSub.at 14 rfl ?_ | refine HSub.at 15 rfl ?_ | refine HSub.at 16 rfl ?_ | refine HSub.at 17 rfl ?_ | refine HSub.at 18 rfl ?_ | refine HSub.at 19 rfl ?_ | refine HSub.segH ?_ | refine HSub.skip ?_ | refine HSub.skipN ?_)) ?_
  refine JX.thenN ?_
  (repeat' (first | refine JC.seq ?_ | refine JC.ops ?_ | refine JO.nil ?_ | (apply r_assign; (iterate 3 exact rfl))))
  (repeat' (first | refine JC.seq ?_ | refine JC.ops ?_ | refine JO.nil ?_ | refine JX.thenN ?_ | (apply r_assign; (iterate 3 exact rfl)) | refine JC.block ?_))
  refine JC.loopH (ι := Nat × SHeap × Value × List Value) ⟨fun z => [(9, nv z.1), (8, z.2.2.1), (7, .bool true), (5, .pointer (some ⟨b5, 0, none⟩)), (0, iv p), (1, va)], fun z => [(b5, .cells #[.int .u8 (R0 : Int), .int .u8 (C0 : Int), E0] 25)] ++ (z.2.1 ++ []),
    fun z => z.1 ≤ 6 ∧ z.1 ≤ X.length ∧ OwnRow 23 1 z.2.1 z.2.2.1 z.1 z.2.2.2 ∧ ∀ i, i < z.1 → RdI ⟨Tryd.prog, 95, wz, [], by simp⟩ [] (z.2.2.2.getD i (iv 0)) (min (X.getD i []).length 8) ((X.getD i []).take (min (X.getD i []).length 8)), fun z => 8 - z.1⟩ (0, [], .slice none 0 0, []) ⟨by dsimp only; omega, by dsimp only; omega, OwnRow.nil _ 1, fun i hi => absurd hi (Nat.not_lt_zero _)⟩ (by repeat first | exact trivial | refine ⟨rfl, ?_⟩) (by (first | exact HSub.refl _ | (repeat' first | exact HSub.nil _ | exact HSub.refl _ | refine HSub.at 0 rfl ?_ | refine HSub.at 1 rfl ?_ | refine HSub.at 2 rfl ?_ | refine HSub.at 3 rfl ?_ | refine HSub.at 4 rfl ?_ | refine HSub.at 5 rfl ?_ | refine HSub.at 6 rfl ?_ | refine HSub.at 7 rfl ?_))) (fun z hz => ?_)
  obtain ⟨k, N, vl, sl⟩ := z
  obtain ⟨hk8, hkX, hO, hsr⟩ := hz
  dsimp only at hk8 hkX hO hsr ⊢
  obtain ⟨Al, cl, rfl⟩ := hO.form'
  (repeat' (first | refine JC.seq ?_ | refine JC.ops ?_ | (apply r_move; (iterate 3 exact rfl))))
  refine r_lenR rfl rfl rfl hRa ?_
  by_cases hkk : k < X.length ∧ k < 6
  · obtain ⟨hkk, hk8b⟩ := hkk
    have hlk := hll k hkk
    have hRk := hRr k hkk
    (repeat' (first | refine JC.seq ?_ | refine JO.nil ?_ | refine JX.thenN ?_ | (apply r_move; (iterate 3 exact rfl)) | (apply r_pickT; (iterate 4 exact rfl)) | (apply r_lss; (iterate 4 exact rfl); all_goals intro hc; all_goals try (exfalso; omega)) | refine JC.skip ?_ | refine JC.condT rfl ?_ | refine JC.block ?_))
    refine JC.opsDs [(b5, .cells #[.int .u8 (R0 : Int), .int .u8 (C0 : Int), E0] 25)] (by (first | exact HSub.refl _ | (repeat' first | exact HSub.nil _ | exact HSub.refl _ | refine HSub.at 0 rfl ?_ | refine HSub.at 1 rfl ?_ | refine HSub.at 2 rfl ?_ | refine HSub.at 3 rfl ?_ | refine HSub.at 4 rfl ?_ | refine HSub.at 5 rfl ?_ | refine HSub.at 6 rfl ?_ | refine HSub.at 7 rfl ?_))) ?_
    (repeat' (first | (apply r_move; (iterate 3 exact rfl))))
    refine r_idxR1 rfl rfl rfl rfl hRa hkk ?_
    skip
    refine r_ldR rfl rfl rfl rfl hRa (HSub.nil _) (gD_lt (d := iv 0) (by omega)) ?_
    (repeat' (first | (apply r_move; (iterate 3 exact rfl))))
    refine r_idxR1 rfl rfl rfl rfl hRa hkk ?_
    skip
    refine r_ldR rfl rfl rfl rfl hRa (HSub.nil _) (gD_lt (d := iv 0) (by omega)) ?_
    (repeat' (first | (apply r_lenI; (iterate 3 exact rfl); (first | assumption | exact WI.rd (by assumption) rfl [] | exact OwnI.rd (by assumption))) | (apply r_min; (iterate 4 exact rfl))))
    refine r_sliceR (l := 0) (h' := min (X.getD k []).length 8) rfl rfl rfl hRk rfl rfl (.inr ⟨rfl, rfl⟩) rfl rfl (.inl (congrArg (fun z => some (Value.int .i64 z)) (min_iv (X.getD k []).length 8))) (Nat.zero_le _) (Nat.min_le_left _ _) (fun v36 hv36 _ => ?_)
    have hv36 : RdI ⟨Tryd.prog, 95, wz, [], by simp⟩ [] v36 (min (X.getD k []).length 8) ((X.getD k []).take (min (X.getD k []).length 8)) := by simpa [RdI, List.map_take] using hv36
    obtain ⟨A36, c36, rfl⟩ : ∃ A c, v36 = .slice A (min (X.getD k []).length 8) c := by obtain ⟨_, A, c, h, _⟩ := hv36; exact ⟨A, c, h⟩
    (repeat' (first | (apply r_build1; (iterate 5 exact rfl); (repeat first | exact trivial | refine ⟨rfl, ?_⟩); decide; decide; intro _)))
    rename_i b37
    refine r_appendTL (A := [_, _]) (B := []) hO (own_oneT b37 (Value.slice A36 (min (X.getD k []).length 8) c36)).rd rfl (by (repeat' first | exact HSub.nil _ | exact HSub.hd | exact HSub.in0 | exact HSub.refl _ | refine HSub.skip ?_ | refine HSub.skipN ?_)) rfl (by (first | exact HSub.refl _ | (repeat' first | exact HSub.nil _ | exact HSub.refl _ | refine HSub.at 0 rfl ?_ | refine HSub.at 1 rfl ?_ | refine HSub.at 2 rfl ?_ | refine HSub.at 3 rfl ?_ | refine HSub.at 4 rfl ?_ | refine HSub.at 5 rfl ?_ | refine HSub.at 6 rfl ?_ | refine HSub.at 7 rfl ?_))) rfl rfl rfl rfl (by omega) (fun v' N' hO' => ?_)
    have hsr' : ∀ i, i < k + 1 → RdI ⟨Tryd.prog, 95, wz, [], by simp⟩ [] ((sl ++ [(Value.slice A36 (min (X.getD k []).length 8) c36)]).getD i (iv 0)) (min (X.getD i []).length 8) ((X.getD i []).take (min (X.getD i []).length 8)) := fun i hi => by
      have hl0 : sl.length = k := by have := hO.1; omega
      rcases Nat.lt_or_ge i k with h | h
      · rw [List.getD, List.getElem?_append_left (by omega)]; exact hsr i h
      · obtain rfl : i = k := by omega
        rw [List.getD, List.getElem?_append_right (by omega), hl0, Nat.sub_self]; exact hv36
    (repeat' (first | refine JC.ops ?_ | refine JO.nil ?_ | refine JX.thenN ?_ | (apply r_move; (iterate 3 exact rfl)) | (apply r_assign; (iterate 3 exact rfl)) | (apply r_add1; (iterate 4 exact rfl); omega) | refine JX.blockN ?_))
    exact JX.roundH (k + 1, N', v', sl ++ [(Value.slice A36 (min (X.getD k []).length 8) c36)]) ⟨by dsimp only; omega, by dsimp only; omega, hO', hsr'⟩ (by dsimp only; omega) (by repeat first | exact trivial | refine ⟨rfl, ?_⟩) (by exact HSub.skip (HSub.refl _))
  · (repeat' (first | refine JC.seq ?_ | refine JC.ops ?_ | refine JO.nil ?_ | refine JX.thenN ?_ | (apply r_move; (iterate 3 exact rfl)) | (apply r_pickT; (iterate 4 exact rfl)) | (apply r_pickF; (iterate 4 exact rfl)) | (apply r_lss; (iterate 4 exact rfl); all_goals intro hc; all_goals try (exfalso; omega)) | refine JX.thenE ?_ | refine JC.exit ?_ | refine JC.condF rfl ?_ | refine JX.blockE ?_ | (apply r_skip; exact rfl; exact rfl; (first | (intro h; cases h; done) | (intro _; rfl)))))
    all_goals
      refine r_and1023 rfl (by first | rfl | exact ⟨rfl, rfl⟩) rfl rfl ?_
      (repeat' (first | (apply r_move; (iterate 3 exact rfl))))
      refine r_andI1 rfl (by first | rfl | exact ⟨rfl, rfl⟩) rfl rfl ?_
      (repeat' (first | refine JC.seq ?_ | refine JC.ops ?_ | refine JO.nil ?_ | refine JX.thenN ?_ | (apply r_assign; (iterate 3 exact rfl)) | (apply r_add; (iterate 4 exact rfl); omega) | (apply r_build1; (iterate 5 exact rfl); (repeat first | exact trivial | refine ⟨rfl, ?_⟩); decide; decide; intro _) | refine JC.block ?_))
      rename_i b10
      have hQ := own_four b10 p (p % 1024) (2 + p % 2) 997
      have hq4 := i64_four (x := p) (y := p % 1024) (z := 2 + p % 2) (t := 997) hp (by unfold I64; omega) (by unfold I64; omega) (by unfold I64; omega)
      have hXr : (rows8 X k).length ≤ 400 := by rw [rows8_len]; omega
      have hXc : fdofC (rows8 X k) (rows8 X k).length ≤ 400 := Nat.le_trans (fdofC_bd (rows8_le X k) _) (by omega)
      have hXe : ∀ i, ((rows8 X k).getD i []).length ≤ 400 := fun i => Nat.le_trans (rows8_le X k i) (by omega)
      refine JC.loopH (ι := Nat) ⟨fun z => [(11, nv z), (10, .slice (some ⟨b10, 0, none⟩) 4 4), (8, .slice Al k cl), (7, .bool true), (5, .pointer (some ⟨b5, 0, none⟩)), (0, iv p)], fun z => [(b10, .cells ⟨[iv p, iv (p % 1024), iv (2 + p % 2), iv 997]⟩ 3), (b5, .cells #[.int .u8 (R0 : Int), .int .u8 (C0 : Int), E0] 25)] ++ (N ++ []), fun z => z ≤ 4, fun z => 4 - z⟩ 0 (by dsimp only; omega) (by repeat first | exact trivial | refine ⟨rfl, ?_⟩) (by (first | exact HSub.refl _ | (repeat' first | exact HSub.nil _ | exact HSub.refl _ | refine HSub.at 0 rfl ?_ | refine HSub.at 1 rfl ?_ | refine HSub.at 2 rfl ?_ | refine HSub.at 3 rfl ?_ | refine HSub.at 4 rfl ?_ | refine HSub.at 5 rfl ?_ | refine HSub.at 6 rfl ?_ | refine HSub.at 7 rfl ?_))) (fun j hj => ?_)
      dsimp only at hj ⊢
      by_cases hjj : j < 4
      · have hqj := hq4 j
        (repeat' (first | refine JC.seq ?_ | refine JC.ops ?_ | refine JO.nil ?_ | refine JX.thenN ?_ | (apply r_move; (iterate 3 exact rfl)) | (apply r_assign; (iterate 3 exact rfl)) | (apply r_idxI; (iterate 4 exact rfl); (first | assumption | exact WI.rd (by assumption) rfl [] | exact OwnI.rd (by assumption)); (first | assumption | omega)) | (apply r_ldI; (iterate 4 exact rfl); (first | assumption | exact WI.rd (by assumption) rfl [] | exact OwnI.rd (by assumption)); (repeat' first | exact HSub.nil _ | exact HSub.hd | exact HSub.in0 | exact HSub.refl _ | refine HSub.skip ?_ | refine HSub.skipN ?_); (first | assumption | omega)) | (apply r_len; (iterate 3 exact rfl)) | (apply r_lss; (iterate 4 exact rfl); all_goals intro hc; all_goals try (exfalso; omega)) | refine JC.skip ?_ | refine JC.condT rfl ?_ | refine JC.block ?_))
        obtain ⟨q, hq⟩ : ∃ q, q = [p, p % 1024, 2 + p % 2, 997].getD j 0 := ⟨_, rfl⟩
        rw [← hq] at hqj ⊢
        clear hq
        obtain ⟨o1, ho1⟩ := OfG.ex q (rows8 X k)
        obtain ⟨o2, ho2⟩ := OneG.ex q (p.tmod 410)
        have hl1 := of_len ho1 hXr hXc
        have hl2 := one_len ho2
        refine JC.opsDs [(b5, .cells #[.int .u8 (R0 : Int), .int .u8 (C0 : Int), E0] 25)] (by (first | exact HSub.refl _ | (repeat' first | exact HSub.nil _ | exact HSub.refl _ | refine HSub.at 0 rfl ?_ | refine HSub.at 1 rfl ?_ | refine HSub.at 2 rfl ?_ | refine HSub.at 3 rfl ?_ | refine HSub.at 4 rfl ?_ | refine HSub.at 5 rfl ?_ | refine HSub.at 6 rfl ?_ | refine HSub.at 7 rfl ?_))) ?_
        (repeat' (first | (apply r_move; (iterate 3 exact rfl))))
        refine r_call0 (by first | trivial | exact ⟨rfl, rfl⟩) rfl (by first | rfl | exact ⟨rfl, rfl⟩) rfl (fun w hk hs => c_Prime q w) fun w v w' _ _ _ hR => ?_
        obtain ⟨t1, rfl, ht1⟩ := hR
        skip
        refine r_call0 (by first | trivial | exact ⟨rfl, rfl⟩) rfl (by first | rfl | exact ⟨rfl, rfl⟩) rfl (fun w hk hs => c_refPrime q w) fun w v w' _ _ _ hR => ?_
        obtain ⟨t2, rfl, ht2⟩ := hR
        obtain rfl : t1 = t2 := Bool.eq_iff_iff.2 (ht1.trans ht2.symm)
        clear ht1 ht2
        refine r_neB rfl (by first | rfl | exact ⟨rfl, rfl⟩) rfl rfl ?_
        rw [show (t1 != t1) = false by cases t1 <;> rfl]
        (repeat' (first | (apply r_move; (iterate 3 exact rfl))))
        refine r_callA (A := [_, _]) (B := N ++ ([])) rfl (by first | trivial | exact ⟨rfl, rfl⟩) rfl (by first | rfl | exact ⟨rfl, rfl⟩) rfl (fun w hk hs => c_OfG w _ q (rows8 X k) o1 ho1 (rows8_is (hO.rd.at hk hs (by (repeat' first | exact HSub.nil _ | exact HSub.hd | exact HSub.in0 | exact HSub.refl _ | refine HSub.skip ?_ | refine HSub.skipN ?_))) (fun i hi => (hsr i hi).at hk hs (HSub.nil _))) hXr hXc hXe) fun w v w' _ _ _ hR => ?_
        obtain ⟨N1, hN1, E1, rfl, hO1⟩ := hR
        refine ⟨N1, hN1, ?_⟩
        skip
        refine r_callA (A := [_, _]) (B := N1 ++ (N ++ ([]))) rfl (by first | trivial | exact ⟨rfl, rfl⟩) rfl (by first | rfl | exact ⟨rfl, rfl⟩) rfl (fun w hk hs => c_refOfG w _ q (rows8 X k) o1 ho1 (rows8_is (hO.rd.at hk hs (by (repeat' first | exact HSub.nil _ | exact HSub.hd | exact HSub.in0 | exact HSub.refl _ | refine HSub.skip ?_ | refine HSub.skipN ?_))) (fun i hi => (hsr i hi).at hk hs (HSub.nil _))) hXr hXc hXe) fun w v w' _ _ _ hR => ?_
        obtain ⟨N2, hN2, E2, rfl, hO2⟩ := hR
        refine ⟨N2, hN2, ?_⟩
        skip
        refine r_call0 (by first | trivial | exact ⟨rfl, rfl⟩) rfl (by first | rfl | exact ⟨rfl, rfl⟩) rfl (fun w hk hs => c_SameT w _ _ _ _ ⟨_, rfl, hO1.rd.at hk hs (by (repeat' first | exact HSub.nil _ | exact HSub.hd | exact HSub.in0 | exact HSub.refl _ | refine HSub.skip ?_ | refine HSub.skipN ?_))⟩ ⟨_, rfl, hO2.rd.at hk hs (by (repeat' first | exact HSub.nil _ | exact HSub.hd | exact HSub.in0 | exact HSub.refl _ | refine HSub.skip ?_ | refine HSub.skipN ?_))⟩ hl1 hl1 rfl) fun w v w' _ _ _ hR => ?_
        subst hR
        (repeat' (first | (apply r_move; (iterate 3 exact rfl)) | (apply r_pickF; (iterate 4 exact rfl)) | (apply r_not; (iterate 3 exact rfl)) | (apply r_mod; (iterate 4 exact rfl); omega)))
        refine r_callA (A := [_, _]) (B := N2 ++ (N1 ++ (N ++ ([])))) rfl (by first | trivial | exact ⟨rfl, rfl⟩) rfl (by first | rfl | exact ⟨rfl, rfl⟩) rfl (fun w hk hs => c_OneG w q (p.tmod 410) o2 ho2) fun w v w' _ _ _ hR => ?_
        obtain ⟨N3, hN3, E3, rfl, hO3⟩ := hR
        refine ⟨N3, hN3, ?_⟩
        skip
        refine r_callA (A := [_, _]) (B := N3 ++ (N2 ++ (N1 ++ (N ++ ([]))))) rfl (by first | trivial | exact ⟨rfl, rfl⟩) rfl (by first | rfl | exact ⟨rfl, rfl⟩) rfl (fun w hk hs => c_refOneG w q (p.tmod 410) o2 ho2) fun w v w' _ _ _ hR => ?_
        obtain ⟨N4, hN4, E4, rfl, hO4⟩ := hR
        refine ⟨N4, hN4, ?_⟩
        skip
        refine r_call0 (by first | trivial | exact ⟨rfl, rfl⟩) rfl (by first | rfl | exact ⟨rfl, rfl⟩) rfl (fun w hk hs => c_SameT w _ _ _ _ ⟨_, rfl, hO3.rd.at hk hs (by (repeat' first | exact HSub.nil _ | exact HSub.hd | exact HSub.in0 | exact HSub.refl _ | refine HSub.skip ?_ | refine HSub.skipN ?_))⟩ ⟨_, rfl, hO4.rd.at hk hs (by (repeat' first | exact HSub.nil _ | exact HSub.hd | exact HSub.in0 | exact HSub.refl _ | refine HSub.skip ?_ | refine HSub.skipN ?_))⟩ hl2 hl2 rfl) fun w v w' _ _ _ hR => ?_
        subst hR
        (repeat' (first | (apply r_move; (iterate 3 exact rfl)) | (apply r_loadN; (iterate 4 exact rfl); exact at0; exact rfl) | (apply r_pickF; (iterate 4 exact rfl)) | (apply r_not; (iterate 3 exact rfl))))
        refine r_callA (A := [_, _]) (B := N4 ++ (N3 ++ (N2 ++ (N1 ++ (N ++ ([])))))) rfl (by first | trivial | exact ⟨rfl, rfl⟩) rfl (by first | rfl | exact ⟨rfl, rfl⟩) rfl (fun w hk hs => c_Mat w _ R0 C0 L0 (hs0.mono hk)) fun w v w' _ _ _ hR => ?_
        obtain ⟨N5, hN5, E5, rfl, hO5⟩ := hR
        refine ⟨N5, hN5, ?_⟩
        skip
        refine r_callA (A := [_, _]) (B := N5 ++ (N4 ++ (N3 ++ (N2 ++ (N1 ++ (N ++ ([]))))))) rfl (by first | trivial | exact ⟨rfl, rfl⟩) rfl (by first | rfl | exact ⟨rfl, rfl⟩) rfl (fun w hk hs => c_fMod w _ q (shMat R0 C0 L0).xm 8 (IsM.x ⟨_, rfl, hO5.rd.at hk hs (by (repeat' first | exact HSub.nil _ | exact HSub.hd | exact HSub.in0 | exact HSub.refl _ | refine HSub.skip ?_ | refine HSub.skipN ?_))⟩) shE_len (by omega) (by omega) (xm_elt (BdZ.sh hL0 _ _))) fun w v w' _ _ _ hR => ?_
        obtain ⟨o6, ho6, N6, hN6, E6, rfl, hO6⟩ := hR
        refine ⟨N6, hN6, ?_⟩
        skip
        refine r_callA (A := [_, _]) (B := N6 ++ (N5 ++ (N4 ++ (N3 ++ (N2 ++ (N1 ++ (N ++ ([])))))))) rfl (by first | trivial | exact ⟨rfl, rfl⟩) rfl (by first | rfl | exact ⟨rfl, rfl⟩) rfl (fun w hk hs => c_Mat w _ R0 C0 L0 (hs0.mono hk)) fun w v w' _ _ _ hR => ?_
        obtain ⟨N7, hN7, E7, rfl, hO7⟩ := hR
        refine ⟨N7, hN7, ?_⟩
        skip
        refine r_callA (A := [_, _]) (B := N7 ++ (N6 ++ (N5 ++ (N4 ++ (N3 ++ (N2 ++ (N1 ++ (N ++ ([]))))))))) rfl (by first | trivial | exact ⟨rfl, rfl⟩) rfl (by first | rfl | exact ⟨rfl, rfl⟩) rfl (fun w hk hs => c_rMod w _ q (shMat R0 C0 L0).xm 8 (IsM.x ⟨_, rfl, hO7.rd.at hk hs (by (repeat' first | exact HSub.nil _ | exact HSub.hd | exact HSub.in0 | exact HSub.refl _ | refine HSub.skip ?_ | refine HSub.skipN ?_))⟩) shE_len (by omega) (by omega) (xm_elt (BdZ.sh hL0 _ _))) fun w v w' _ _ _ hR => ?_
        obtain ⟨o8, ho8, N8, hN8, E8, rfl, hO8⟩ := hR
        refine ⟨N8, hN8, ?_⟩
        skip
        refine r_call0 (by first | trivial | exact ⟨rfl, rfl⟩) rfl (by first | rfl | exact ⟨rfl, rfl⟩) rfl (fun w hk hs => c_SameT w _ _ _ _ ⟨_, rfl, hO6.rd.at hk hs (by (repeat' first | exact HSub.nil _ | exact HSub.hd | exact HSub.in0 | exact HSub.refl _ | refine HSub.skip ?_ | refine HSub.skipN ?_))⟩ ⟨_, rfl, hO8.rd.at hk hs (by (repeat' first | exact HSub.nil _ | exact HSub.hd | exact HSub.in0 | exact HSub.refl _ | refine HSub.skip ?_ | refine HSub.skipN ?_))⟩ (fm_len ho6 shE_len) (fm_len ho8 shE_len) (ho6.uniq ho8)) fun w v w' _ _ _ hR => ?_
        subst hR
        (repeat' (first | refine JC.ops ?_ | refine JO.nil ?_ | refine JX.thenN ?_ | (apply r_move; (iterate 3 exact rfl)) | (apply r_assign; (iterate 3 exact rfl)) | (apply r_add1; (iterate 4 exact rfl); omega) | (apply r_pickF; (iterate 4 exact rfl)) | (apply r_not; (iterate 3 exact rfl)) | refine JC.skip ?_ | refine JC.condF rfl ?_ | refine JX.blockN ?_))
        exact JX.roundH (j + 1) (by dsimp only; omega) (by dsimp only; omega) (by repeat first | exact trivial | refine ⟨rfl, ?_⟩) (by (repeat' first | exact HSub.refl _ | exact HSub.nil _ | refine HSub.at 0 rfl ?_ | refine HSub.at 1 rfl ?_ | refine HSub.at 2 rfl ?_ | refine HSub.at 3 rfl ?_ | refine HSub.at 4 rfl ?_ | refine HSub.at 5 rfl ?_ | refine HSub.at 6 rfl ?_ | refine HSub.at 7 rfl ?_ | refine HSub.at 8 rfl ?_ | refine HSub.at 9 rfl ?_ | refine HSub.at 10 rfl ?_ | refine HSub.at 11 rfl ?_ | refine HSub.at 12 rfl ?_ | refine HSub.at 13 rfl ?_ | refine HSub.at 14 rfl ?_ | refine HSub.at 15 rfl ?_ | refine HSub.at 16 rfl ?_ | refine HSub.at 17 rfl ?_ | refine HSub.at 18 rfl ?_ | refine HSub.at 19 rfl ?_ | refine HSub.segH ?_ | refine HSub.skip ?_ | refine HSub.skipN ?_))
      · (repeat' (first | refine JC.seq ?_ | refine JC.ops ?_ | refine JO.nil ?_ | refine JX.thenN ?_ | (apply r_move; (iterate 3 exact rfl)) | (apply r_assign; (iterate 3 exact rfl)) | (apply r_len; (iterate 3 exact rfl)) | (apply r_lss; (iterate 4 exact rfl); all_goals intro hc; all_goals try (exfalso; omega)) | refine JX.thenE ?_ | refine JC.exit ?_ | refine JC.ret ?_ | refine JC.condF rfl ?_ | refine JX.blockE ?_))
        exact JX.ret1 rfl (fun a w' st => ⟨st.kp, rfl⟩)

end Go.Proofs.YtdoogoglfbohaaaDoor

/-
  LawFieldBuilds: for every input the call of 'cocycle/cocyclelaw05.FieldBuilds' returns true, and every argument reads afterwards as it read before. Conditions: none. The card.
-/
namespace Go.Proofs.YtdoogoglfbohaaaDoor.fieldBuilds
open Go Go.RowKit Go.ChangeShapes Go.WideShapes Go.ChangeAt
set_option linter.unusedSimpArgs false
set_option linter.unusedVariables false
set_option linter.unusedSectionVars false

set_option maxRecDepth 100000 in
theorem lifted (os : Os) (started : os.Started) (H : Type) (enc : TypeId × Value → H) :
    ReturnsInHanded {} Tryd.checked os 3 .any (fun w args => (Rows.fieldBuildsSpec.pre enc Tryd.prog Tryd.f3 [] false w args ∧ laidMetH Tryd.prog Rows.fieldBuildsRow.laid w) ∧ sizedMet enc Tryd.prog Tryd.f3 (OpenSpec.ofChange Rows.fieldBuildsSpec) false w args)
      (Rows.fieldBuildsSpec.post enc Tryd.prog Tryd.f3 false true false false) := by
  refine returnsInHanded_of_change_and (C := Tryd.checked) (X := fun w _ => laidMetH Tryd.prog Rows.fieldBuildsRow.laid w) (fun _ _ _ hh h => h.of_heap hh) own started (by kernel_rfl) Tryd.func3
    (ChangeSpec.witness_shaped (enc := enc) (C := Tryd.checked) (os := os) (X := fun w _ => laidMetH Tryd.prog Rows.fieldBuildsRow.laid w) false (World.laidAll Tryd.prog os Rows.fieldBuildsRow.laid) #[.int .i64 0, .slice none 0 0, .agg #[.int .u8 0, .int .u8 0, .slice none 0 0]] 8 (World.laidAll_os _ _ _)
      (World.shaped_of_ZipB (by kernel_rfl) (by kernel_rfl)) (by kernel_rfl) (by kernel_rfl) (by kernel_rfl)
      (by rw [MakeChecks.laidMetH_plain _ _ _ (by kernel_rfl)]; exact laidMet_laidAll _ (by kernel_rfl) (by kernel_rfl))) ?_
  intro W base args ds gs before hval0 hW _ hwt0 hL _
  have hval : ∀ (j : Nat) t v, Tryd.f3.params[j]? = some t → args[j]? = some v → Value.okWide Tryd.prog W .any base t v := hval0
  have hW' := hW
  obtain ⟨p, q, hA0, hV, rfl, hfz, hnd⟩ := hW
  have hA : DataW.TrodAll enc Tryd.prog W 0 (fun _ => true) true Tryd.f3.params.toList args.toList ds p := hA0
  have hwt : (DataW.weightsEach Tryd.prog (Tryd.f3.params.toList ++ Rows.fieldBuildsSpec.plain.varTypes Tryd.prog) (ds ++ gs)).all (· ≤ reachBytes) = true := hwt0
  have hwt1 := fun n hn => of_decide_eq_true (List.all_eq_true.1 hwt n hn)
  rw [Tryd.params3] at hA hval hwt1
  obtain ⟨v0, vs0, d0, ds0, p0, q0, hargs, rfl, rfl, h0, r0⟩ := trodAll_cons hA
  obtain ⟨v1, vs1, d1, ds1, p1, q1, rfl, rfl, rfl, h1, r1⟩ := trodAll_cons r0
  obtain ⟨v2, vs2, d2, ds2, p2, q2, rfl, rfl, rfl, h2, r2⟩ := trodAll_cons r1
  obtain ⟨rfl, rfl, rfl⟩ := trodAll_nil r2
  obtain rfl : args = #[v0, v1, v2] := by cases args; simp_all
  obtain ⟨rfl, rfl⟩ := trodVars_none hV
  have k0 := h0
  have lt0 : ∀ x ∈ p0, x.block < W.heap.size := by obtain ⟨m, hm⟩ := k0; exact DataW.trod_lt m _ _ _ hm
  obtain ⟨x0, rfl, rfl, rfl, wx0⟩ := open_int Tryd.underlying3 (hval 0 3 v0 rfl rfl) h0
  have s0 := int_wf wx0
  have k1 := h1
  have lt1 : ∀ x ∈ p1, x.block < W.heap.size := by obtain ⟨m, hm⟩ := k1; exact DataW.trod_lt m _ _ _ hm
  obtain ⟨X1, s1⟩ := open_lists (hval 1 22 v1 rfl rfl) h1
  have k2 := h2
  have lt2 : ∀ x ∈ p2, x.block < W.heap.size := by obtain ⟨m, hm⟩ := k2; exact DataW.trod_lt m _ _ _ hm
  obtain ⟨R2, C2, L2, s2⟩ := open_shape (hval 2 25 v2 rfl rfl) h2
  clear hA0 hval0
  refine (c_FieldBuilds W x0 v2 v1 X1 R2 C2 L2 s0 s1 s2).mono fun e W' he => ?_
  cases e with
  | panicked _ => exact he.elim
  | outgrown => exact he.elim
  | returned u =>
    obtain ⟨hk, rfl⟩ := he
    have bel := hk.below
    exact ⟨_, rfl, _, _, _, [], _, [], hW', trodAll_mk1 (shut_bool Tryd.underlying4 _), (trodAll_cons_mk (Below.trod laidOut (by kernel_rfl) (of_decide_eq_true (by kernel_rfl)) k0 bel lt0) (trodAll_cons_mk (Below.trod laidOut (by kernel_rfl) (of_decide_eq_true (by kernel_rfl)) k1 bel lt1) (trodAll_cons_mk (Below.trod laidOut (by kernel_rfl) (of_decide_eq_true (by kernel_rfl)) k2 bel lt2) trodAll_mk0))), rfl, bel.frame _, fun h => by cases h⟩

theorem holds : Rows.FieldBuildsSaid :=
  OpenClaim.holds_of_wide 3 Tryd.f3 rfl rfl rfl rfl rfl rfl rfl ⟨rfl, rfl, rfl, rfl, rfl⟩ rfl rfl rfl rfl rfl (by kernel_rfl) Tryd.func3 (by kernel_rfl)
    (of_decide_eq_true (by kernel_rfl)) (by unfold Func.isWrapper; first | (rw [if_pos (by decide +kernel)]; kernel_rfl) | (rw [if_neg (by decide +kernel)]; exact ⟨rfl, rfl⟩))
    (fun os started H enc _ => lifted os started H enc)

theorem proved : Rows.FieldBuildsCardSaid :=
  Claim7.holds_tied_plain_at .later [] [.data, .pinned] true (true, "34a5bcd1dfc48e97e95dbb8ea890745645fe926b7e239f8bd65a6c4f66225770") false holds (fun _ h => by cases h) (by kernel_rfl) (fun _ h => by cases h) fieldBuilds_row_tie rfl ⟨rfl, rfl⟩ (by kernel_rfl) rfl
    (fun f fn hf hfn => by
      obtain rfl : f = 3 := Option.some.inj ((show Tryd.prog.funcNamed "cocycle/cocyclelaw05.FieldBuilds" = some 3 by kernel_rfl).symm.trans hf) |>.symm
      obtain rfl : fn = Tryd.f3 := (Option.some.inj (Tryd.func3.symm.trans hfn)).symm
      exact ⟨by kernel_rfl, fun j t ht => by
        rw [Tryd.params3] at ht
        have hm : t ∈ [3, 22, 25] := by simpa using Array.mem_of_getElem? ht
        have hall : ([3, 22, 25].all fun u => !Tryd.prog.wantsStandIn u) = true := by kernel_rfl
        exact (show Tryd.prog.wantsStandIn t = false by simpa using List.all_eq_true.1 hall t hm)⟩)
    (by kernel_rfl)

end Go.Proofs.YtdoogoglfbohaaaDoor.fieldBuilds

