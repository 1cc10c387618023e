import Derived.Test.YtdehklhdjbkneaaDoorMh
import Derived.Test.YtdehklhdjbkneaaDoorMe
/- The reference model: Parse. Written by genR8.py. -/
namespace Go.Proofs.YtdehklhdjbkneaaDoor
open Go Go.RowKit
set_option linter.unusedSimpArgs false
set_option linter.unusedVariables false
set_option linter.unusedSectionVars false

theorem pres_ok {neg : Bool} {t : List UInt8} (h : ∀ c ∈ t, digit c = true) : (if t.all digit then Value.tuple #[Wv (sgn neg (pnum t)), .bool (decide (t ≠ []))] else .tuple #[Wv 0, .bool false]) = .tuple #[Wv (sgn neg (pnum t)), .bool (decide (t ≠ []))] := if_pos (List.all_eq_true.2 h)
theorem pres_no {neg : Bool} {t : List UInt8} {i : Nat} (hi : i < t.length) (h : digit t[i] = false) : (if t.all digit then Value.tuple #[Wv (sgn neg (pnum t)), .bool (decide (t ≠ []))] else .tuple #[Wv 0, .bool false]) = .tuple #[Wv 0, .bool false] := if_neg fun e => by
  have := List.all_eq_true.1 e t[i] (List.getElem_mem hi)
  rw [h] at this
  cases this

set_option maxHeartbeats 16000000 in
theorem c_ParseR (w : World) (l : List UInt8) (hl : l.length ≤ 1000) :
    Calls Tryd.prog 24 #[sv l] w (Ret fun v w' => Kp [] w w' ∧ v = PRes l) := by
  cases l with
  | nil =>
    have h0 : ((([] : List UInt8).length : Nat) : Int) = 0 := rfl
    show Calls _ _ _ _ (Ret fun v w' => Kp [] w w' ∧ v = .tuple #[Wv 0, .bool false])
    refine calls_of_R [11] [] [] (by simp) [] Tryd.func24 rfl mixed (by kernel_rfl) Tryd.ntmps24 Tryd.results24 rfl ⟨by simp, by simp⟩ (by simp) ?_
    simp only [toR, inR, cond_true, cond_false, Nat.reduceBEq, toS, textOps, toSOp, kindAt, kindOf, odAt, sopsAt, ordOf, zipF]
    (repeat' (first | refine JC.seq ?_ | refine JC.ops ?_ | refine JO.nil ?_ | refine JX.thenN ?_ | (apply r_move; exact rfl; exact rfl; exact rfl) | (apply r_assign; exact rfl; exact rfl; exact rfl) | (apply r_pickF; exact rfl; exact rfl; exact rfl; exact rfl) | (apply r_lenS; exact rfl; exact rfl; exact rfl) | (apply r_gtr; exact rfl; exact rfl; exact rfl; exact rfl; all_goals intro hc; all_goals try (exfalso; omega)) | (apply r_allocZ; exact rfl; exact rfl; exact rfl; intro _) | refine JC.skip ?_ | refine JC.condF rfl ?_ | refine JC.block ?_ | (apply r_skip; exact rfl; exact rfl; (first | (intro h; cases h; done) | (intro _; rfl)))))
    rename_i b2
    refine JC.loopH (ι := Nat) ⟨fun z => [(7, nv z), (6, .slice none 0 0), (5, sv []), (4, .bool false), (2, .pointer (some ⟨b2, 0, none⟩))], fun _ => [(b2, .cells #[.bool false, .string ⟨#[]⟩] 27 (0, 0))], fun z => z = 0, fun z => z⟩ 0 rfl (by repeat first | exact trivial | refine ⟨rfl, ?_⟩) (by (repeat' first | exact HSub.refl _ | exact HSub.nil _ | refine HSub.at 0 rfl ?_ | refine HSub.at 1 rfl ?_ | refine HSub.at 2 rfl ?_ | refine HSub.at 3 rfl ?_ | refine HSub.at 4 rfl ?_ | refine HSub.at 5 rfl ?_ | refine HSub.at 6 rfl ?_ | refine HSub.at 7 rfl ?_ | refine HSub.at 8 rfl ?_ | refine HSub.at 9 rfl ?_ | refine HSub.at 10 rfl ?_ | refine HSub.at 11 rfl ?_ | refine HSub.at 12 rfl ?_ | refine HSub.at 13 rfl ?_ | refine HSub.at 14 rfl ?_ | refine HSub.at 15 rfl ?_ | refine HSub.at 16 rfl ?_ | refine HSub.at 17 rfl ?_ | refine HSub.at 18 rfl ?_ | refine HSub.at 19 rfl ?_ | refine HSub.segH ?_ | refine HSub.skip ?_ | refine HSub.skipN ?_)) (fun i hi => ?_)
    dsimp only at hi ⊢
    subst hi
    (repeat' (first | refine JC.seq ?_ | refine JC.ops ?_ | refine JO.nil ?_ | refine JX.thenN ?_ | (apply r_move; exact rfl; exact rfl; exact rfl) | (apply r_lenS; exact rfl; exact rfl; exact rfl) | (apply r_lss; exact rfl; exact rfl; exact rfl; exact rfl; all_goals intro hc; all_goals try (exfalso; omega)) | refine JX.thenE ?_ | refine JC.exit ?_ | refine JC.condF rfl ?_ | refine JX.blockE ?_))
    refine r_call0 trivial rfl rfl rfl (fun w hk hs => c_wideR w _ 0 [] false (OwnN.nil.rd.at hk hs (HSub.nil _)) (fun _ h => absurd h List.not_mem_nil) (by decide)) fun w v w' _ _ _ hR => ?_
    subst hR
    (repeat' (first | refine JO.nil ?_ | refine JX.thenN ?_ | (apply r_move; exact rfl; exact rfl; exact rfl) | (apply r_assign; exact rfl; exact rfl; exact rfl) | (apply r_storeN; exact rfl; (first | exact trivial | exact ⟨rfl, rfl⟩); exact rfl; exact rfl; (first | exact at0 | exact at1 | exact at2 | exact at3 | exact at4 | exact at5 | exact at6 | exact at7 | exact at8 | exact at9); exact rfl; exact rfl; exact rfl) | (apply r_neSz; exact rfl; exact rfl; exact rfl; exact rfl) | (apply r_storeN; exact rfl; (first | exact trivial | exact ⟨rfl, rfl⟩); exact rfl; exact rfl; (first | exact at0 | exact at1 | exact at2 | exact at3 | exact at4 | exact at5 | exact at6 | exact at7 | exact at8 | exact at9); exact rfl; exact rfl; exact rfl) | refine JC.ret ?_))
    exact JX.retCT 0 rfl rfl rfl rfl (fun a w' st => ⟨st.kp, rfl⟩)
  | cons b l' =>
    have h2 : (((b :: l').length : Nat) : Int) = l'.length + 1 := by simp
    by_cases hb : b = 45
    · subst hb
      have h45 : UInt8.toNat 45 = 45 := rfl
      have hlt : l'.length ≤ 1000 := by simp at hl; omega
      show Calls _ _ _ _ (Ret fun v w' => Kp [] w w' ∧ v = if l'.all digit then .tuple #[Wv (sgn true (pnum l')), .bool (decide (l' ≠ []))] else .tuple #[Wv 0, .bool false])
      refine calls_of_R [11] [] [] (by simp) [] Tryd.func24 rfl mixed (by kernel_rfl) Tryd.ntmps24 Tryd.results24 rfl ⟨by simp, by simp⟩ (by simp) ?_
      simp only [toR, inR, cond_true, cond_false, Nat.reduceBEq, toS, textOps, toSOp, kindAt, kindOf, odAt, sopsAt, ordOf, zipF]
      (repeat' (first | refine JC.seq ?_ | refine JC.ops ?_ | refine JO.nil ?_ | refine JX.thenN ?_ | (apply r_move; exact rfl; exact rfl; exact rfl) | (apply r_assign; exact rfl; exact rfl; exact rfl) | (apply r_pickT; exact rfl; exact rfl; exact rfl; exact rfl) | (apply r_lenS; exact rfl; exact rfl; exact rfl) | (apply r_idxS0; exact rfl; exact rfl; exact rfl; exact rfl) | (apply r_fromS1; exact rfl; exact rfl; exact rfl; exact rfl) | (apply r_gtr; exact rfl; exact rfl; exact rfl; exact rfl; all_goals intro hc; all_goals try (exfalso; omega)) | (apply r_eql; exact rfl; exact rfl; exact rfl; exact rfl; all_goals intro hc; all_goals try (exfalso; omega)) | (apply r_allocZ; exact rfl; exact rfl; exact rfl; intro _) | refine JC.condT rfl ?_ | refine JC.block ?_))
      rename_i b2 h9
      generalize l' = t at hlt ⊢
      refine JC.loopH (ι := Nat × Value × SHeap × List Nat) ⟨fun z => [(7, nv z.1), (6, z.2.1), (5, sv t), (4, .bool true), (2, .pointer (some ⟨b2, 0, none⟩))],
        fun z => (b2, .cells #[.bool false, .string ⟨#[]⟩] 27 (0, 0)) :: (z.2.2.1 ++ []),
        fun z => z.1 ≤ t.length ∧ OwnN z.2.2.1 z.2.1 z.2.2.2.length z.2.2.2 ∧ (∀ x ∈ z.2.2.2, x < B16) ∧ z.2.2.2.length ≤ 3 * z.1 ∧ val B16 z.2.2.2 = pnum (t.take z.1) ∧ ∀ c ∈ t.take z.1, digit c = true, fun z => t.length - z.1⟩
        (0, _, [], []) ⟨Nat.zero_le _, OwnN.nil, fun _ h => absurd h List.not_mem_nil, Nat.zero_le _, rfl, by simp⟩ (by repeat first | exact trivial | refine ⟨rfl, ?_⟩) (by (repeat' first | exact HSub.refl _ | exact HSub.nil _ | refine HSub.at 0 rfl ?_ | refine HSub.at 1 rfl ?_ | refine HSub.at 2 rfl ?_ | refine HSub.at 3 rfl ?_ | refine HSub.at 4 rfl ?_ | refine HSub.at 5 rfl ?_ | refine HSub.at 6 rfl ?_ | refine HSub.at 7 rfl ?_ | refine HSub.at 8 rfl ?_ | refine HSub.at 9 rfl ?_ | refine HSub.at 10 rfl ?_ | refine HSub.at 11 rfl ?_ | refine HSub.at 12 rfl ?_ | refine HSub.at 13 rfl ?_ | refine HSub.at 14 rfl ?_ | refine HSub.at 15 rfl ?_ | refine HSub.at 16 rfl ?_ | refine HSub.at 17 rfl ?_ | refine HSub.at 18 rfl ?_ | refine HSub.at 19 rfl ?_ | refine HSub.segH ?_ | refine HSub.skip ?_ | refine HSub.skipN ?_)) (fun z hz => ?_)
      obtain ⟨i, vx, N, zs⟩ := z
      obtain ⟨hi, hO, hz, hzl, hval, hdig⟩ := hz
      dsimp only at hi hO hz hzl hval hdig ⊢
      by_cases hin : i < t.length
      · have hb256 : (bts t).getD i 0 < 256 := bts_lt
        have hti := bts_at hin
        by_cases hd : 48 ≤ (bts t).getD i 0 ∧ (bts t).getD i 0 ≤ 57
        · have hdi : digit t[i] = true := (digit_iff _).2 (by rw [← hti]; exact hd)
          have hd0 := hd.1
          have hd9 := hd.2
          (repeat' (first | refine JC.seq ?_ | refine JC.ops ?_ | refine JO.nil ?_ | refine JX.thenN ?_ | (apply r_move; exact rfl; exact rfl; exact rfl) | (apply r_pickF; exact rfl; exact rfl; exact rfl; exact rfl) | (apply r_lenS; exact rfl; exact rfl; exact rfl) | (apply r_idxS; exact rfl; exact rfl; exact rfl; exact rfl; (first | assumption | omega)) | (apply r_lss; exact rfl; exact rfl; exact rfl; exact rfl; all_goals intro hc; all_goals try (exfalso; omega)) | (apply r_gtr; exact rfl; exact rfl; exact rfl; exact rfl; all_goals intro hc; all_goals try (exfalso; omega)) | refine JC.skip ?_ | refine JC.condT rfl ?_ | refine JC.condF rfl ?_ | refine JC.block ?_))
          refine JC.forkS [] (HSub.nil _) 1 7 (fun i op => kindAt [] i op) 11 11 [0, 2, 3, 4, 5, 6, 1, 7, 8, 9, 10] [0, 2, 3, 4, 5, 6, 7, 1, 8, 9, 10] (by decide) mixed (by kernel_rfl) (by kernel_rfl) ?_ ?_
          · (repeat' (first | (apply r_move; exact rfl; exact rfl; exact rfl) | (apply r_idxS; exact rfl; exact rfl; exact rfl; exact rfl; (first | assumption | omega))))
            refine r_sub48 rfl rfl rfl rfl (by omega) ?_
            (repeat' (first | (apply r_convN; exact rfl; exact rfl; exact rfl; omega)))
            refine r_callA (A := [_]) rfl (by first | trivial | exact ⟨rfl, rfl⟩) rfl rfl rfl (fun w hk hs => c_by w _ _ zs 10 (hO.rd.at hk hs (by (repeat' first | exact HSub.nil _ | exact HSub.hd | exact HSub.in0 | exact HSub.refl _ | refine HSub.skip ?_ | refine HSub.skipN ?_))) hz (by omega) (by decide)) fun w v w' _ _ _ hR => ?_
            obtain ⟨N1, zs1, hN1, hO1, hz1, hval1, hl1⟩ := hR
            refine ⟨N1, hN1, ?_⟩
            (repeat' (first | (apply r_build1; exact rfl; exact rfl; exact rfl; exact rfl; exact rfl; (repeat first | exact trivial | refine ⟨rfl, ?_⟩); decide; decide; intro _)))
            rename_i b7
            have hL : OwnN [(b7, .cells ⟨[nv ((bts t).getD i 0 - 48)]⟩ 3)] (.slice (some ⟨b7, 0, none⟩) 1 1) 1 [(bts t).getD i 0 - 48] := own_lit b7 1 [(bts t).getD i 0 - 48] _ rfl rfl (by decide)
            refine r_call0 (by first | trivial | exact ⟨rfl, rfl⟩) rfl rfl rfl (fun w hk hs => c_trim w _ _ _ _ (hL.rd.at hk hs (by (repeat' first | exact HSub.nil _ | exact HSub.hd | exact HSub.in0 | exact HSub.refl _ | refine HSub.skip ?_ | refine HSub.skipN ?_))) (by decide)) fun w v w' _ _ _ hR => ?_
            obtain ⟨k3, hk3, rfl, hn3⟩ := hR
            have hO3 := hL.hd hk3
            rw [← hn3] at hO3
            skip
            refine r_callA (A := [_, _]) rfl (by first | trivial | exact ⟨rfl, rfl⟩) rfl rfl rfl (fun w hk hs => c_plus w _ _ _ _ _ _ (hO1.rd.at hk hs (by (repeat' first | exact HSub.nil _ | exact HSub.hd | exact HSub.in0 | exact HSub.refl _ | refine HSub.skip ?_ | refine HSub.skipN ?_))) (hO3.rd.at hk hs (by (repeat' first | exact HSub.nil _ | exact HSub.hd | exact HSub.in0 | exact HSub.refl _ | refine HSub.skip ?_ | refine HSub.skipN ?_))) hz1.lt (fun x hx => by
              have := nrm_mem x hx
              rw [List.mem_singleton] at this
              rw [this]
              show _ < 65536
              omega) (by omega) (by omega)) fun w v w' _ _ _ hR => ?_
            obtain ⟨N2, zs2, hN2, hO2, hz2, hval2, hl2⟩ := hR
            refine ⟨N2, hN2, ?_⟩
            rw [val_nrm, hval1, hval] at hval2
            (repeat' (first | refine JC.ops ?_ | refine JO.nil ?_ | refine JX.thenN ?_ | (apply r_move; exact rfl; exact rfl; exact rfl) | (apply r_assign; exact rfl; exact rfl; exact rfl) | (apply r_add1; exact rfl; exact rfl; exact rfl; exact rfl; omega) | refine JX.blockN ?_))
            refine JX.roundH (i + 1, _, N2, zs2) ⟨by dsimp only; omega, hO2, hz2, by dsimp only; omega, ?_, ?_⟩ (by dsimp only; omega) (by repeat first | exact trivial | refine ⟨rfl, ?_⟩) (by (repeat' first | exact HSub.refl _ | exact HSub.nil _ | refine HSub.at 0 rfl ?_ | refine HSub.at 1 rfl ?_ | refine HSub.at 2 rfl ?_ | refine HSub.at 3 rfl ?_ | refine HSub.at 4 rfl ?_ | refine HSub.at 5 rfl ?_ | refine HSub.at 6 rfl ?_ | refine HSub.at 7 rfl ?_ | refine HSub.at 8 rfl ?_ | refine HSub.at 9 rfl ?_ | refine HSub.at 10 rfl ?_ | refine HSub.at 11 rfl ?_ | refine HSub.at 12 rfl ?_ | refine HSub.at 13 rfl ?_ | refine HSub.at 14 rfl ?_ | refine HSub.at 15 rfl ?_ | refine HSub.at 16 rfl ?_ | refine HSub.at 17 rfl ?_ | refine HSub.at 18 rfl ?_ | refine HSub.at 19 rfl ?_ | refine HSub.segH ?_ | refine HSub.skip ?_ | refine HSub.skipN ?_))
            · dsimp only
              rw [hval2, pnum_take hin, Nat.mul_comm, val, val, Nat.mul_zero, Nat.add_zero]
            · dsimp only
              intro c hc
              rw [take_snoc hin] at hc
              rcases List.mem_append.1 hc with h | h
              · exact hdig c h
              · rw [List.mem_singleton.1 h]; exact hdi
          · (repeat' (first | (apply r_move; exact rfl; exact rfl; exact rfl) | (apply r_idxS; exact rfl; exact rfl; exact rfl; exact rfl; (first | assumption | omega))))
            refine r_sub48 rfl rfl rfl rfl (by omega) ?_
            (repeat' (first | (apply r_convN; exact rfl; exact rfl; exact rfl; omega) | (apply r_build1; exact rfl; exact rfl; exact rfl; exact rfl; exact rfl; (repeat first | exact trivial | refine ⟨rfl, ?_⟩); decide; decide; intro _)))
            rename_i b7
            have hL : OwnN [(b7, .cells ⟨[nv ((bts t).getD i 0 - 48)]⟩ 3)] (.slice (some ⟨b7, 0, none⟩) 1 1) 1 [(bts t).getD i 0 - 48] := own_lit b7 1 [(bts t).getD i 0 - 48] _ rfl rfl (by decide)
            refine r_callA (A := [_, _]) rfl (by first | trivial | exact ⟨rfl, rfl⟩) rfl rfl rfl (fun w hk hs => c_by w _ _ zs 10 (hO.rd.at hk hs (by (repeat' first | exact HSub.nil _ | exact HSub.hd | exact HSub.in0 | exact HSub.refl _ | refine HSub.skip ?_ | refine HSub.skipN ?_))) hz (by omega) (by decide)) fun w v w' _ _ _ hR => ?_
            obtain ⟨N1, zs1, hN1, hO1, hz1, hval1, hl1⟩ := hR
            refine ⟨N1, hN1, ?_⟩
            skip
            refine r_call0 (by first | trivial | exact ⟨rfl, rfl⟩) rfl rfl rfl (fun w hk hs => c_trim w _ _ _ _ (hL.rd.at hk hs (by (repeat' first | exact HSub.nil _ | exact HSub.hd | exact HSub.in0 | exact HSub.refl _ | refine HSub.skip ?_ | refine HSub.skipN ?_))) (by decide)) fun w v w' _ _ _ hR => ?_
            obtain ⟨k3, hk3, rfl, hn3⟩ := hR
            have hO3 := hL.hd hk3
            rw [← hn3] at hO3
            skip
            refine r_callA (A := [_, _]) rfl (by first | trivial | exact ⟨rfl, rfl⟩) rfl rfl rfl (fun w hk hs => c_plus w _ _ _ _ _ _ (hO1.rd.at hk hs (by (repeat' first | exact HSub.nil _ | exact HSub.hd | exact HSub.in0 | exact HSub.refl _ | refine HSub.skip ?_ | refine HSub.skipN ?_))) (hO3.rd.at hk hs (by (repeat' first | exact HSub.nil _ | exact HSub.hd | exact HSub.in0 | exact HSub.refl _ | refine HSub.skip ?_ | refine HSub.skipN ?_))) hz1.lt (fun x hx => by
              have := nrm_mem x hx
              rw [List.mem_singleton] at this
              rw [this]
              show _ < 65536
              omega) (by omega) (by omega)) fun w v w' _ _ _ hR => ?_
            obtain ⟨N2, zs2, hN2, hO2, hz2, hval2, hl2⟩ := hR
            refine ⟨N2, hN2, ?_⟩
            rw [val_nrm, hval1, hval] at hval2
            (repeat' (first | refine JC.ops ?_ | refine JO.nil ?_ | refine JX.thenN ?_ | (apply r_move; exact rfl; exact rfl; exact rfl) | (apply r_assign; exact rfl; exact rfl; exact rfl) | (apply r_add1; exact rfl; exact rfl; exact rfl; exact rfl; omega) | refine JX.blockN ?_))
            refine JX.roundH (i + 1, _, N2, zs2) ⟨by dsimp only; omega, hO2, hz2, by dsimp only; omega, ?_, ?_⟩ (by dsimp only; omega) (by repeat first | exact trivial | refine ⟨rfl, ?_⟩) (by (repeat' first | exact HSub.refl _ | exact HSub.nil _ | refine HSub.at 0 rfl ?_ | refine HSub.at 1 rfl ?_ | refine HSub.at 2 rfl ?_ | refine HSub.at 3 rfl ?_ | refine HSub.at 4 rfl ?_ | refine HSub.at 5 rfl ?_ | refine HSub.at 6 rfl ?_ | refine HSub.at 7 rfl ?_ | refine HSub.at 8 rfl ?_ | refine HSub.at 9 rfl ?_ | refine HSub.at 10 rfl ?_ | refine HSub.at 11 rfl ?_ | refine HSub.at 12 rfl ?_ | refine HSub.at 13 rfl ?_ | refine HSub.at 14 rfl ?_ | refine HSub.at 15 rfl ?_ | refine HSub.at 16 rfl ?_ | refine HSub.at 17 rfl ?_ | refine HSub.at 18 rfl ?_ | refine HSub.at 19 rfl ?_ | refine HSub.segH ?_ | refine HSub.skip ?_ | refine HSub.skipN ?_))
            · dsimp only
              rw [hval2, pnum_take hin, Nat.mul_comm, val, val, Nat.mul_zero, Nat.add_zero]
            · dsimp only
              intro c hc
              rw [take_snoc hin] at hc
              rcases List.mem_append.1 hc with h | h
              · exact hdig c h
              · rw [List.mem_singleton.1 h]; exact hdi
        · have hdi : digit t[i] = false := by
            cases hdg : digit t[i] with
            | false => rfl
            | true => exact absurd ((digit_iff _).1 hdg) (by rw [← hti]; exact hd)
          rw [pres_no hin hdi]
          by_cases hd0 : 48 ≤ (bts t).getD i 0
          · have hd9 : ¬ (bts t).getD i 0 ≤ 57 := fun h => hd ⟨hd0, h⟩
            (repeat' (first | refine JC.seq ?_ | refine JC.ops ?_ | refine JO.nil ?_ | refine JX.thenN ?_ | (apply r_move; exact rfl; exact rfl; exact rfl) | (apply r_assign; exact rfl; exact rfl; exact rfl) | (apply r_pickF; exact rfl; exact rfl; exact rfl; exact rfl) | (apply r_storeN; exact rfl; (first | exact trivial | exact ⟨rfl, rfl⟩); exact rfl; exact rfl; (first | exact at0 | exact at1 | exact at2 | exact at3 | exact at4 | exact at5 | exact at6 | exact at7 | exact at8 | exact at9); exact rfl; exact rfl; exact rfl) | (apply r_lenS; exact rfl; exact rfl; exact rfl) | (apply r_idxS; exact rfl; exact rfl; exact rfl; exact rfl; (first | assumption | omega)) | (apply r_lss; exact rfl; exact rfl; exact rfl; exact rfl; all_goals intro hc; all_goals try (exfalso; omega)) | (apply r_gtr; exact rfl; exact rfl; exact rfl; exact rfl; all_goals intro hc; all_goals try (exfalso; omega)) | (apply r_buildL; exact rfl; exact rfl; exact rfl; exact rfl; exact rfl) | (apply r_storeN; exact rfl; (first | exact trivial | exact ⟨rfl, rfl⟩); exact rfl; exact rfl; (first | exact at0 | exact at1 | exact at2 | exact at3 | exact at4 | exact at5 | exact at6 | exact at7 | exact at8 | exact at9); exact rfl; exact rfl; exact rfl) | refine JX.thenR ?_ | refine JC.skip ?_ | refine JC.ret ?_ | refine JC.condT rfl ?_ | refine JC.block ?_ | refine JX.blockR ?_))
            exact JX.retCT 0 rfl rfl rfl rfl (fun a w' st => ⟨st.kp, rfl⟩)
          · (repeat' (first | refine JC.seq ?_ | refine JC.ops ?_ | refine JO.nil ?_ | refine JX.thenN ?_ | (apply r_move; exact rfl; exact rfl; exact rfl) | (apply r_assign; exact rfl; exact rfl; exact rfl) | (apply r_pickT; exact rfl; exact rfl; exact rfl; exact rfl) | (apply r_storeN; exact rfl; (first | exact trivial | exact ⟨rfl, rfl⟩); exact rfl; exact rfl; (first | exact at0 | exact at1 | exact at2 | exact at3 | exact at4 | exact at5 | exact at6 | exact at7 | exact at8 | exact at9); exact rfl; exact rfl; exact rfl) | (apply r_lenS; exact rfl; exact rfl; exact rfl) | (apply r_idxS; exact rfl; exact rfl; exact rfl; exact rfl; (first | assumption | omega)) | (apply r_lss; exact rfl; exact rfl; exact rfl; exact rfl; all_goals intro hc; all_goals try (exfalso; omega)) | (apply r_buildL; exact rfl; exact rfl; exact rfl; exact rfl; exact rfl) | (apply r_storeN; exact rfl; (first | exact trivial | exact ⟨rfl, rfl⟩); exact rfl; exact rfl; (first | exact at0 | exact at1 | exact at2 | exact at3 | exact at4 | exact at5 | exact at6 | exact at7 | exact at8 | exact at9); exact rfl; exact rfl; exact rfl) | refine JX.thenR ?_ | refine JC.skip ?_ | refine JC.ret ?_ | refine JC.condT rfl ?_ | refine JC.block ?_ | refine JX.blockR ?_ | (apply r_skip; exact rfl; exact rfl; (first | (intro h; cases h; done) | (intro _; rfl)))))
            exact JX.retCT 0 rfl rfl rfl rfl (fun a w' st => ⟨st.kp, rfl⟩)
      · obtain rfl : i = t.length := by omega
        rw [List.take_of_length_le (Nat.le_refl _)] at hval hdig
        rw [pres_ok hdig]
        rcases t with _ | ⟨q, t'⟩
        · (repeat' (first | refine JC.seq ?_ | refine JC.ops ?_ | refine JO.nil ?_ | refine JX.thenN ?_ | (apply r_move; exact rfl; exact rfl; exact rfl) | (apply r_lenS; exact rfl; exact rfl; exact rfl) | (apply r_lss; exact rfl; exact rfl; exact rfl; exact rfl; all_goals intro hc; all_goals try (exfalso; omega)) | refine JX.thenE ?_ | refine JC.exit ?_ | refine JC.condF rfl ?_ | refine JX.blockE ?_))
          refine r_call0 trivial rfl rfl rfl (fun w hk hs => c_wideR w _ _ zs true (hO.rd.at hk hs (by (repeat' first | exact HSub.nil _ | exact HSub.hd | exact HSub.in0 | exact HSub.refl _ | refine HSub.skip ?_ | refine HSub.skipN ?_))) hz (by omega)) fun w v w' _ _ _ hR => ?_
          rw [hval] at hR
          subst hR
          (repeat' (first | refine JO.nil ?_ | refine JX.thenN ?_ | (apply r_move; exact rfl; exact rfl; exact rfl) | (apply r_assign; exact rfl; exact rfl; exact rfl) | (apply r_storeN; exact rfl; (first | exact trivial | exact ⟨rfl, rfl⟩); exact rfl; exact rfl; (first | exact at0 | exact at1 | exact at2 | exact at3 | exact at4 | exact at5 | exact at6 | exact at7 | exact at8 | exact at9); exact rfl; exact rfl; exact rfl) | (apply r_neSz; exact rfl; exact rfl; exact rfl; exact rfl) | (apply r_storeN; exact rfl; (first | exact trivial | exact ⟨rfl, rfl⟩); exact rfl; exact rfl; (first | exact at0 | exact at1 | exact at2 | exact at3 | exact at4 | exact at5 | exact at6 | exact at7 | exact at8 | exact at9); exact rfl; exact rfl; exact rfl) | refine JC.ret ?_))
          exact JX.retCT 0 rfl rfl rfl rfl (fun a w' st => ⟨st.kp, rfl⟩)
        · (repeat' (first | refine JC.seq ?_ | refine JC.ops ?_ | refine JO.nil ?_ | refine JX.thenN ?_ | (apply r_move; exact rfl; exact rfl; exact rfl) | (apply r_lenS; exact rfl; exact rfl; exact rfl) | (apply r_lss; exact rfl; exact rfl; exact rfl; exact rfl; all_goals intro hc; all_goals try (exfalso; omega)) | refine JX.thenE ?_ | refine JC.exit ?_ | refine JC.condF rfl ?_ | refine JX.blockE ?_))
          refine r_call0 trivial rfl rfl rfl (fun w hk hs => c_wideR w _ _ zs true (hO.rd.at hk hs (by (repeat' first | exact HSub.nil _ | exact HSub.hd | exact HSub.in0 | exact HSub.refl _ | refine HSub.skip ?_ | refine HSub.skipN ?_))) hz (by omega)) fun w v w' _ _ _ hR => ?_
          rw [hval] at hR
          subst hR
          (repeat' (first | refine JO.nil ?_ | refine JX.thenN ?_ | (apply r_move; exact rfl; exact rfl; exact rfl) | (apply r_assign; exact rfl; exact rfl; exact rfl) | (apply r_storeN; exact rfl; (first | exact trivial | exact ⟨rfl, rfl⟩); exact rfl; exact rfl; (first | exact at0 | exact at1 | exact at2 | exact at3 | exact at4 | exact at5 | exact at6 | exact at7 | exact at8 | exact at9); exact rfl; exact rfl; exact rfl) | (apply r_neSn; exact rfl; exact rfl; exact rfl; exact rfl) | (apply r_storeN; exact rfl; (first | exact trivial | exact ⟨rfl, rfl⟩); exact rfl; exact rfl; (first | exact at0 | exact at1 | exact at2 | exact at3 | exact at4 | exact at5 | exact at6 | exact at7 | exact at8 | exact at9); exact rfl; exact rfl; exact rfl) | refine JC.ret ?_))
          exact JX.retCT 0 rfl rfl rfl rfl (fun a w' st => ⟨st.kp, rfl⟩)
    · have h45 : ¬ UInt8.toNat b = 45 := fun e => hb (UInt8.toNat.inj e)
      have hlt := hl
      have hpr : PRes (b :: l') = if (b :: l').all digit then .tuple #[Wv (sgn false (pnum (b :: l'))), .bool (decide (b :: l' ≠ []))] else .tuple #[Wv 0, .bool false] := by
        have hm : (b == 45) = false := by simpa using hb
        unfold PRes
        simp only [minus, body, hm, Bool.false_eq_true, if_false]
      rw [hpr]
      clear hpr
      refine calls_of_R [11] [] [] (by simp) [] Tryd.func24 rfl mixed (by kernel_rfl) Tryd.ntmps24 Tryd.results24 rfl ⟨by simp, by simp⟩ (by simp) ?_
      simp only [toR, inR, cond_true, cond_false, Nat.reduceBEq, toS, textOps, toSOp, kindAt, kindOf, odAt, sopsAt, ordOf, zipF]
      (repeat' (first | refine JC.seq ?_ | refine JC.ops ?_ | refine JO.nil ?_ | refine JX.thenN ?_ | (apply r_move; exact rfl; exact rfl; exact rfl) | (apply r_assign; exact rfl; exact rfl; exact rfl) | (apply r_pickT; exact rfl; exact rfl; exact rfl; exact rfl) | (apply r_lenS; exact rfl; exact rfl; exact rfl) | (apply r_idxS0; exact rfl; exact rfl; exact rfl; exact rfl) | (apply r_gtr; exact rfl; exact rfl; exact rfl; exact rfl; all_goals intro hc; all_goals try (exfalso; omega)) | (apply r_eql; exact rfl; exact rfl; exact rfl; exact rfl; all_goals intro hc; all_goals try (exfalso; omega)) | (apply r_allocZ; exact rfl; exact rfl; exact rfl; intro _) | refine JC.skip ?_ | refine JC.condF rfl ?_ | refine JC.block ?_))
      rename_i b2 h9
      generalize b :: l' = t at hlt ⊢
      refine JC.loopH (ι := Nat × Value × SHeap × List Nat) ⟨fun z => [(7, nv z.1), (6, z.2.1), (5, sv t), (4, .bool false), (2, .pointer (some ⟨b2, 0, none⟩))],
        fun z => (b2, .cells #[.bool false, .string ⟨#[]⟩] 27 (0, 0)) :: (z.2.2.1 ++ []),
        fun z => z.1 ≤ t.length ∧ OwnN z.2.2.1 z.2.1 z.2.2.2.length z.2.2.2 ∧ (∀ x ∈ z.2.2.2, x < B16) ∧ z.2.2.2.length ≤ 3 * z.1 ∧ val B16 z.2.2.2 = pnum (t.take z.1) ∧ ∀ c ∈ t.take z.1, digit c = true, fun z => t.length - z.1⟩
        (0, _, [], []) ⟨Nat.zero_le _, OwnN.nil, fun _ h => absurd h List.not_mem_nil, Nat.zero_le _, rfl, by simp⟩ (by repeat first | exact trivial | refine ⟨rfl, ?_⟩) (by (repeat' first | exact HSub.refl _ | exact HSub.nil _ | refine HSub.at 0 rfl ?_ | refine HSub.at 1 rfl ?_ | refine HSub.at 2 rfl ?_ | refine HSub.at 3 rfl ?_ | refine HSub.at 4 rfl ?_ | refine HSub.at 5 rfl ?_ | refine HSub.at 6 rfl ?_ | refine HSub.at 7 rfl ?_ | refine HSub.at 8 rfl ?_ | refine HSub.at 9 rfl ?_ | refine HSub.at 10 rfl ?_ | refine HSub.at 11 rfl ?_ | refine HSub.at 12 rfl ?_ | refine HSub.at 13 rfl ?_ | refine HSub.at 14 rfl ?_ | refine HSub.at 15 rfl ?_ | refine HSub.at 16 rfl ?_ | refine HSub.at 17 rfl ?_ | refine HSub.at 18 rfl ?_ | refine HSub.at 19 rfl ?_ | refine HSub.segH ?_ | refine HSub.skip ?_ | refine HSub.skipN ?_)) (fun z hz => ?_)
      obtain ⟨i, vx, N, zs⟩ := z
      obtain ⟨hi, hO, hz, hzl, hval, hdig⟩ := hz
      dsimp only at hi hO hz hzl hval hdig ⊢
      by_cases hin : i < t.length
      · have hb256 : (bts t).getD i 0 < 256 := bts_lt
        have hti := bts_at hin
        by_cases hd : 48 ≤ (bts t).getD i 0 ∧ (bts t).getD i 0 ≤ 57
        · have hdi : digit t[i] = true := (digit_iff _).2 (by rw [← hti]; exact hd)
          have hd0 := hd.1
          have hd9 := hd.2
          (repeat' (first | refine JC.seq ?_ | refine JC.ops ?_ | refine JO.nil ?_ | refine JX.thenN ?_ | (apply r_move; exact rfl; exact rfl; exact rfl) | (apply r_pickF; exact rfl; exact rfl; exact rfl; exact rfl) | (apply r_lenS; exact rfl; exact rfl; exact rfl) | (apply r_idxS; exact rfl; exact rfl; exact rfl; exact rfl; (first | assumption | omega)) | (apply r_lss; exact rfl; exact rfl; exact rfl; exact rfl; all_goals intro hc; all_goals try (exfalso; omega)) | (apply r_gtr; exact rfl; exact rfl; exact rfl; exact rfl; all_goals intro hc; all_goals try (exfalso; omega)) | refine JC.skip ?_ | refine JC.condT rfl ?_ | refine JC.condF rfl ?_ | refine JC.block ?_))
          refine JC.forkS [] (HSub.nil _) 1 7 (fun i op => kindAt [] i op) 11 11 [0, 2, 3, 4, 5, 6, 1, 7, 8, 9, 10] [0, 2, 3, 4, 5, 6, 7, 1, 8, 9, 10] (by decide) mixed (by kernel_rfl) (by kernel_rfl) ?_ ?_
          · (repeat' (first | (apply r_move; exact rfl; exact rfl; exact rfl) | (apply r_idxS; exact rfl; exact rfl; exact rfl; exact rfl; (first | assumption | omega))))
            refine r_sub48 rfl rfl rfl rfl (by omega) ?_
            (repeat' (first | (apply r_convN; exact rfl; exact rfl; exact rfl; omega)))
            refine r_callA (A := [_]) rfl (by first | trivial | exact ⟨rfl, rfl⟩) rfl rfl rfl (fun w hk hs => c_by w _ _ zs 10 (hO.rd.at hk hs (by (repeat' first | exact HSub.nil _ | exact HSub.hd | exact HSub.in0 | exact HSub.refl _ | refine HSub.skip ?_ | refine HSub.skipN ?_))) hz (by omega) (by decide)) fun w v w' _ _ _ hR => ?_
            obtain ⟨N1, zs1, hN1, hO1, hz1, hval1, hl1⟩ := hR
            refine ⟨N1, hN1, ?_⟩
            (repeat' (first | (apply r_build1; exact rfl; exact rfl; exact rfl; exact rfl; exact rfl; (repeat first | exact trivial | refine ⟨rfl, ?_⟩); decide; decide; intro _)))
            rename_i b7
            have hL : OwnN [(b7, .cells ⟨[nv ((bts t).getD i 0 - 48)]⟩ 3)] (.slice (some ⟨b7, 0, none⟩) 1 1) 1 [(bts t).getD i 0 - 48] := own_lit b7 1 [(bts t).getD i 0 - 48] _ rfl rfl (by decide)
            refine r_call0 (by first | trivial | exact ⟨rfl, rfl⟩) rfl rfl rfl (fun w hk hs => c_trim w _ _ _ _ (hL.rd.at hk hs (by (repeat' first | exact HSub.nil _ | exact HSub.hd | exact HSub.in0 | exact HSub.refl _ | refine HSub.skip ?_ | refine HSub.skipN ?_))) (by decide)) fun w v w' _ _ _ hR => ?_
            obtain ⟨k3, hk3, rfl, hn3⟩ := hR
            have hO3 := hL.hd hk3
            rw [← hn3] at hO3
            skip
            refine r_callA (A := [_, _]) rfl (by first | trivial | exact ⟨rfl, rfl⟩) rfl rfl rfl (fun w hk hs => c_plus w _ _ _ _ _ _ (hO1.rd.at hk hs (by (repeat' first | exact HSub.nil _ | exact HSub.hd | exact HSub.in0 | exact HSub.refl _ | refine HSub.skip ?_ | refine HSub.skipN ?_))) (hO3.rd.at hk hs (by (repeat' first | exact HSub.nil _ | exact HSub.hd | exact HSub.in0 | exact HSub.refl _ | refine HSub.skip ?_ | refine HSub.skipN ?_))) hz1.lt (fun x hx => by
              have := nrm_mem x hx
              rw [List.mem_singleton] at this
              rw [this]
              show _ < 65536
              omega) (by omega) (by omega)) fun w v w' _ _ _ hR => ?_
            obtain ⟨N2, zs2, hN2, hO2, hz2, hval2, hl2⟩ := hR
            refine ⟨N2, hN2, ?_⟩
            rw [val_nrm, hval1, hval] at hval2
            (repeat' (first | refine JC.ops ?_ | refine JO.nil ?_ | refine JX.thenN ?_ | (apply r_move; exact rfl; exact rfl; exact rfl) | (apply r_assign; exact rfl; exact rfl; exact rfl) | (apply r_add1; exact rfl; exact rfl; exact rfl; exact rfl; omega) | refine JX.blockN ?_))
            refine JX.roundH (i + 1, _, N2, zs2) ⟨by dsimp only; omega, hO2, hz2, by dsimp only; omega, ?_, ?_⟩ (by dsimp only; omega) (by repeat first | exact trivial | refine ⟨rfl, ?_⟩) (by (repeat' first | exact HSub.refl _ | exact HSub.nil _ | refine HSub.at 0 rfl ?_ | refine HSub.at 1 rfl ?_ | refine HSub.at 2 rfl ?_ | refine HSub.at 3 rfl ?_ | refine HSub.at 4 rfl ?_ | refine HSub.at 5 rfl ?_ | refine HSub.at 6 rfl ?_ | refine HSub.at 7 rfl ?_ | refine HSub.at 8 rfl ?_ | refine HSub.at 9 rfl ?_ | refine HSub.at 10 rfl ?_ | refine HSub.at 11 rfl ?_ | refine HSub.at 12 rfl ?_ | refine HSub.at 13 rfl ?_ | refine HSub.at 14 rfl ?_ | refine HSub.at 15 rfl ?_ | refine HSub.at 16 rfl ?_ | refine HSub.at 17 rfl ?_ | refine HSub.at 18 rfl ?_ | refine HSub.at 19 rfl ?_ | refine HSub.segH ?_ | refine HSub.skip ?_ | refine HSub.skipN ?_))
            · dsimp only
              rw [hval2, pnum_take hin, Nat.mul_comm, val, val, Nat.mul_zero, Nat.add_zero]
            · dsimp only
              intro c hc
              rw [take_snoc hin] at hc
              rcases List.mem_append.1 hc with h | h
              · exact hdig c h
              · rw [List.mem_singleton.1 h]; exact hdi
          · (repeat' (first | (apply r_move; exact rfl; exact rfl; exact rfl) | (apply r_idxS; exact rfl; exact rfl; exact rfl; exact rfl; (first | assumption | omega))))
            refine r_sub48 rfl rfl rfl rfl (by omega) ?_
            (repeat' (first | (apply r_convN; exact rfl; exact rfl; exact rfl; omega) | (apply r_build1; exact rfl; exact rfl; exact rfl; exact rfl; exact rfl; (repeat first | exact trivial | refine ⟨rfl, ?_⟩); decide; decide; intro _)))
            rename_i b7
            have hL : OwnN [(b7, .cells ⟨[nv ((bts t).getD i 0 - 48)]⟩ 3)] (.slice (some ⟨b7, 0, none⟩) 1 1) 1 [(bts t).getD i 0 - 48] := own_lit b7 1 [(bts t).getD i 0 - 48] _ rfl rfl (by decide)
            refine r_callA (A := [_, _]) rfl (by first | trivial | exact ⟨rfl, rfl⟩) rfl rfl rfl (fun w hk hs => c_by w _ _ zs 10 (hO.rd.at hk hs (by (repeat' first | exact HSub.nil _ | exact HSub.hd | exact HSub.in0 | exact HSub.refl _ | refine HSub.skip ?_ | refine HSub.skipN ?_))) hz (by omega) (by decide)) fun w v w' _ _ _ hR => ?_
            obtain ⟨N1, zs1, hN1, hO1, hz1, hval1, hl1⟩ := hR
            refine ⟨N1, hN1, ?_⟩
            skip
            refine r_call0 (by first | trivial | exact ⟨rfl, rfl⟩) rfl rfl rfl (fun w hk hs => c_trim w _ _ _ _ (hL.rd.at hk hs (by (repeat' first | exact HSub.nil _ | exact HSub.hd | exact HSub.in0 | exact HSub.refl _ | refine HSub.skip ?_ | refine HSub.skipN ?_))) (by decide)) fun w v w' _ _ _ hR => ?_
            obtain ⟨k3, hk3, rfl, hn3⟩ := hR
            have hO3 := hL.hd hk3
            rw [← hn3] at hO3
            skip
            refine r_callA (A := [_, _]) rfl (by first | trivial | exact ⟨rfl, rfl⟩) rfl rfl rfl (fun w hk hs => c_plus w _ _ _ _ _ _ (hO1.rd.at hk hs (by (repeat' first | exact HSub.nil _ | exact HSub.hd | exact HSub.in0 | exact HSub.refl _ | refine HSub.skip ?_ | refine HSub.skipN ?_))) (hO3.rd.at hk hs (by (repeat' first | exact HSub.nil _ | exact HSub.hd | exact HSub.in0 | exact HSub.refl _ | refine HSub.skip ?_ | refine HSub.skipN ?_))) hz1.lt (fun x hx => by
              have := nrm_mem x hx
              rw [List.mem_singleton] at this
              rw [this]
              show _ < 65536
              omega) (by omega) (by omega)) fun w v w' _ _ _ hR => ?_
            obtain ⟨N2, zs2, hN2, hO2, hz2, hval2, hl2⟩ := hR
            refine ⟨N2, hN2, ?_⟩
            rw [val_nrm, hval1, hval] at hval2
            (repeat' (first | refine JC.ops ?_ | refine JO.nil ?_ | refine JX.thenN ?_ | (apply r_move; exact rfl; exact rfl; exact rfl) | (apply r_assign; exact rfl; exact rfl; exact rfl) | (apply r_add1; exact rfl; exact rfl; exact rfl; exact rfl; omega) | refine JX.blockN ?_))
            refine JX.roundH (i + 1, _, N2, zs2) ⟨by dsimp only; omega, hO2, hz2, by dsimp only; omega, ?_, ?_⟩ (by dsimp only; omega) (by repeat first | exact trivial | refine ⟨rfl, ?_⟩) (by (repeat' first | exact HSub.refl _ | exact HSub.nil _ | refine HSub.at 0 rfl ?_ | refine HSub.at 1 rfl ?_ | refine HSub.at 2 rfl ?_ | refine HSub.at 3 rfl ?_ | refine HSub.at 4 rfl ?_ | refine HSub.at 5 rfl ?_ | refine HSub.at 6 rfl ?_ | refine HSub.at 7 rfl ?_ | refine HSub.at 8 rfl ?_ | refine HSub.at 9 rfl ?_ | refine HSub.at 10 rfl ?_ | refine HSub.at 11 rfl ?_ | refine HSub.at 12 rfl ?_ | refine HSub.at 13 rfl ?_ | refine HSub.at 14 rfl ?_ | refine HSub.at 15 rfl ?_ | refine HSub.at 16 rfl ?_ | refine HSub.at 17 rfl ?_ | refine HSub.at 18 rfl ?_ | refine HSub.at 19 rfl ?_ | refine HSub.segH ?_ | refine HSub.skip ?_ | refine HSub.skipN ?_))
            · dsimp only
              rw [hval2, pnum_take hin, Nat.mul_comm, val, val, Nat.mul_zero, Nat.add_zero]
            · dsimp only
              intro c hc
              rw [take_snoc hin] at hc
              rcases List.mem_append.1 hc with h | h
              · exact hdig c h
              · rw [List.mem_singleton.1 h]; exact hdi
        · have hdi : digit t[i] = false := by
            cases hdg : digit t[i] with
            | false => rfl
            | true => exact absurd ((digit_iff _).1 hdg) (by rw [← hti]; exact hd)
          rw [pres_no hin hdi]
          by_cases hd0 : 48 ≤ (bts t).getD i 0
          · have hd9 : ¬ (bts t).getD i 0 ≤ 57 := fun h => hd ⟨hd0, h⟩
            (repeat' (first | refine JC.seq ?_ | refine JC.ops ?_ | refine JO.nil ?_ | refine JX.thenN ?_ | (apply r_move; exact rfl; exact rfl; exact rfl) | (apply r_assign; exact rfl; exact rfl; exact rfl) | (apply r_pickF; exact rfl; exact rfl; exact rfl; exact rfl) | (apply r_storeN; exact rfl; (first | exact trivial | exact ⟨rfl, rfl⟩); exact rfl; exact rfl; (first | exact at0 | exact at1 | exact at2 | exact at3 | exact at4 | exact at5 | exact at6 | exact at7 | exact at8 | exact at9); exact rfl; exact rfl; exact rfl) | (apply r_lenS; exact rfl; exact rfl; exact rfl) | (apply r_idxS; exact rfl; exact rfl; exact rfl; exact rfl; (first | assumption | omega)) | (apply r_lss; exact rfl; exact rfl; exact rfl; exact rfl; all_goals intro hc; all_goals try (exfalso; omega)) | (apply r_gtr; exact rfl; exact rfl; exact rfl; exact rfl; all_goals intro hc; all_goals try (exfalso; omega)) | (apply r_buildL; exact rfl; exact rfl; exact rfl; exact rfl; exact rfl) | (apply r_storeN; exact rfl; (first | exact trivial | exact ⟨rfl, rfl⟩); exact rfl; exact rfl; (first | exact at0 | exact at1 | exact at2 | exact at3 | exact at4 | exact at5 | exact at6 | exact at7 | exact at8 | exact at9); exact rfl; exact rfl; exact rfl) | refine JX.thenR ?_ | refine JC.skip ?_ | refine JC.ret ?_ | refine JC.condT rfl ?_ | refine JC.block ?_ | refine JX.blockR ?_))
            exact JX.retCT 0 rfl rfl rfl rfl (fun a w' st => ⟨st.kp, rfl⟩)
          · (repeat' (first | refine JC.seq ?_ | refine JC.ops ?_ | refine JO.nil ?_ | refine JX.thenN ?_ | (apply r_move; exact rfl; exact rfl; exact rfl) | (apply r_assign; exact rfl; exact rfl; exact rfl) | (apply r_pickT; exact rfl; exact rfl; exact rfl; exact rfl) | (apply r_storeN; exact rfl; (first | exact trivial | exact ⟨rfl, rfl⟩); exact rfl; exact rfl; (first | exact at0 | exact at1 | exact at2 | exact at3 | exact at4 | exact at5 | exact at6 | exact at7 | exact at8 | exact at9); exact rfl; exact rfl; exact rfl) | (apply r_lenS; exact rfl; exact rfl; exact rfl) | (apply r_idxS; exact rfl; exact rfl; exact rfl; exact rfl; (first | assumption | omega)) | (apply r_lss; exact rfl; exact rfl; exact rfl; exact rfl; all_goals intro hc; all_goals try (exfalso; omega)) | (apply r_buildL; exact rfl; exact rfl; exact rfl; exact rfl; exact rfl) | (apply r_storeN; exact rfl; (first | exact trivial | exact ⟨rfl, rfl⟩); exact rfl; exact rfl; (first | exact at0 | exact at1 | exact at2 | exact at3 | exact at4 | exact at5 | exact at6 | exact at7 | exact at8 | exact at9); exact rfl; exact rfl; exact rfl) | refine JX.thenR ?_ | refine JC.skip ?_ | refine JC.ret ?_ | refine JC.condT rfl ?_ | refine JC.block ?_ | refine JX.blockR ?_ | (apply r_skip; exact rfl; exact rfl; (first | (intro h; cases h; done) | (intro _; rfl)))))
            exact JX.retCT 0 rfl rfl rfl rfl (fun a w' st => ⟨st.kp, rfl⟩)
      · obtain rfl : i = t.length := by omega
        rw [List.take_of_length_le (Nat.le_refl _)] at hval hdig
        rw [pres_ok hdig]
        rcases t with _ | ⟨q, t'⟩
        · (repeat' (first | refine JC.seq ?_ | refine JC.ops ?_ | refine JO.nil ?_ | refine JX.thenN ?_ | (apply r_move; exact rfl; exact rfl; exact rfl) | (apply r_lenS; exact rfl; exact rfl; exact rfl) | (apply r_lss; exact rfl; exact rfl; exact rfl; exact rfl; all_goals intro hc; all_goals try (exfalso; omega)) | refine JX.thenE ?_ | refine JC.exit ?_ | refine JC.condF rfl ?_ | refine JX.blockE ?_))
          refine r_call0 trivial rfl rfl rfl (fun w hk hs => c_wideR w _ _ zs false (hO.rd.at hk hs (by (repeat' first | exact HSub.nil _ | exact HSub.hd | exact HSub.in0 | exact HSub.refl _ | refine HSub.skip ?_ | refine HSub.skipN ?_))) hz (by omega)) fun w v w' _ _ _ hR => ?_
          rw [hval] at hR
          subst hR
          (repeat' (first | refine JO.nil ?_ | refine JX.thenN ?_ | (apply r_move; exact rfl; exact rfl; exact rfl) | (apply r_assign; exact rfl; exact rfl; exact rfl) | (apply r_storeN; exact rfl; (first | exact trivial | exact ⟨rfl, rfl⟩); exact rfl; exact rfl; (first | exact at0 | exact at1 | exact at2 | exact at3 | exact at4 | exact at5 | exact at6 | exact at7 | exact at8 | exact at9); exact rfl; exact rfl; exact rfl) | (apply r_neSz; exact rfl; exact rfl; exact rfl; exact rfl) | (apply r_storeN; exact rfl; (first | exact trivial | exact ⟨rfl, rfl⟩); exact rfl; exact rfl; (first | exact at0 | exact at1 | exact at2 | exact at3 | exact at4 | exact at5 | exact at6 | exact at7 | exact at8 | exact at9); exact rfl; exact rfl; exact rfl) | refine JC.ret ?_))
          exact JX.retCT 0 rfl rfl rfl rfl (fun a w' st => ⟨st.kp, rfl⟩)
        · (repeat' (first | refine JC.seq ?_ | refine JC.ops ?_ | refine JO.nil ?_ | refine JX.thenN ?_ | (apply r_move; exact rfl; exact rfl; exact rfl) | (apply r_lenS; exact rfl; exact rfl; exact rfl) | (apply r_lss; exact rfl; exact rfl; exact rfl; exact rfl; all_goals intro hc; all_goals try (exfalso; omega)) | refine JX.thenE ?_ | refine JC.exit ?_ | refine JC.condF rfl ?_ | refine JX.blockE ?_))
          refine r_call0 trivial rfl rfl rfl (fun w hk hs => c_wideR w _ _ zs false (hO.rd.at hk hs (by (repeat' first | exact HSub.nil _ | exact HSub.hd | exact HSub.in0 | exact HSub.refl _ | refine HSub.skip ?_ | refine HSub.skipN ?_))) hz (by omega)) fun w v w' _ _ _ hR => ?_
          rw [hval] at hR
          subst hR
          (repeat' (first | refine JO.nil ?_ | refine JX.thenN ?_ | (apply r_move; exact rfl; exact rfl; exact rfl) | (apply r_assign; exact rfl; exact rfl; exact rfl) | (apply r_storeN; exact rfl; (first | exact trivial | exact ⟨rfl, rfl⟩); exact rfl; exact rfl; (first | exact at0 | exact at1 | exact at2 | exact at3 | exact at4 | exact at5 | exact at6 | exact at7 | exact at8 | exact at9); exact rfl; exact rfl; exact rfl) | (apply r_neSn; exact rfl; exact rfl; exact rfl; exact rfl) | (apply r_storeN; exact rfl; (first | exact trivial | exact ⟨rfl, rfl⟩); exact rfl; exact rfl; (first | exact at0 | exact at1 | exact at2 | exact at3 | exact at4 | exact at5 | exact at6 | exact at7 | exact at8 | exact at9); exact rfl; exact rfl; exact rfl) | refine JC.ret ?_))
          exact JX.retCT 0 rfl rfl rfl rfl (fun a w' st => ⟨st.kp, rfl⟩)

end Go.Proofs.YtdehklhdjbkneaaDoor

