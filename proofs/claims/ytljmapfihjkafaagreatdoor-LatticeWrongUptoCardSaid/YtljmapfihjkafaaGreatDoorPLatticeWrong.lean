import Derived.Test.YtljmapfihjkafaaGreatDoorMm
import Derived.Test.YtljmapfihjkafaaGreatDoorTie
import Derived.Test.YtljmapfihjkafaaGreatDoorCards
import Derived.Shelf.Lay
import Derived.Lay
import Derived.LaidOnce
import Derived.SevenTiedAt
import Derived.Deep.DeepHandedRow
/- The law LatticeWrong: the walk. ROWZ -/
namespace Go.Proofs.YtljmapfihjkafaaGreatDoor
open Go Go.RowKit
set_option linter.unusedSimpArgs false
set_option linter.unusedVariables false
set_option linter.unusedSectionVars false

set_option maxHeartbeats 16000000 in
theorem Q46 (w : World) (v0 : Value) (X : List (List Int)) (s0 s1 : Int) (v3 : Value) (L3 : List Int) (hv0 : IsLL w v0 X) (h0 : -9223372036854775808 ≤ s0 ∧ s0 < 9223372036854775808) (h1 : -9223372036854775808 ≤ s1 ∧ s1 < 9223372036854775808) (hv3 : IsL w v3 L3) (n3 : L3.length ≤ 2000000) :
  Calls Tryz.prog 12 #[v0, .agg #[iv s0, iv s1], v3] w (Ret fun v w' => Kp [] w w' ∧ v = .bool true) := by
 obtain ⟨hXl, hXr⟩ := hv0.lens
 have hXR := hv0.rows
 obtain ⟨A3, c3, rfl⟩ := hv3.2.1.form
 have y3 := hv3.bd8
 refine Q9 [⟨4, 1, [], []⟩] [] spq [] Tryz.func12 rfl mixed (by kernel_rfl) Tryz.ntmps12 Tryz.results12 rfl ⟨by simp, by simp⟩ spq ?_
 simp only [toS, Qd, Qt, Qj, Qm, odAt, Qg, Qw, zipF]
 repeat' first | apply jS | apply jO | refine Q0 ?_ | refine Qx fun _ => ?_ | apply jN
 rename_i b4
 refine Qs ?_
 repeat' first | apply jS | apply jO
 refine Q5 trivial rfl rfl rfl (fun w _ _ => Q3p w) fun w v w' _ _ _ hR => ?_
 subst hR
 repeat' first | refine Q0 ?_ | apply jN
 refine JX.part (F' := [(7, .bool true), (4, .pointer (some ⟨b4, 0, none⟩)), (0, v0), (2, .slice A3 L3.length c3)]) (H' := [(b4, .cells #[iv s0, iv s1] 69)] ++ ([])) cqq QA ?_
 refine Qs ?_
 repeat' first | apply jS | refine Q1 ?_ | apply jO
 refine Qe (A := [_]) (B := []) rfl pqq rfl eqq rfl (fun w hk hs => Q69 w v0 X 0 (hXR.mono hk) hXl hXr) fun w v w' _ _ _ hR => ?_
 obtain ⟨m, hm⟩ : ∃ m, m = ofZ (smX X 0) := ⟨_, rfl⟩
 have rtm : RtZ m := hm ▸ Qiu X 0
 have bdm : BdZ 1 m := hm ▸ Qiv X 0
 have mr5 : m.r ≤ 5 := hm ▸ sm_r X 0
 have mc5 : m.c ≤ 5 := hm ▸ sm_c X 0
 rw [← hm] at hR
 obtain ⟨Na, hNa, Ea, rfl, hOa⟩ := hR
 obtain ⟨Aa, ca, rfl⟩ := hOa.form
 have bdm8 : BdZ 8 m := bdm.mono dq
 refine ⟨Na, hNa, ?_⟩
 repeat' first | refine Q2 ?_ | refine Qa fun _ => ?_ | refine Q2 ?_ | apply jN
 rename_i b8
 refine JX.part (F' := [(8, .pointer (some ⟨b8, 0, none⟩)), (7, .bool true), (4, .pointer (some ⟨b4, 0, none⟩)), (2, .slice A3 L3.length c3)]) (H' := [(b8, .cells #[nv m.r, nv m.c, .slice Aa m.e.length ca] 26), (b4, .cells #[iv s0, iv s1] 69)] ++ (Na ++ ([]))) cqq QA ?_
 refine Qs ?_
 repeat' first | apply jS | refine Q1 ?_ | apply jO
 refine Qe (A := [_, _]) (B := Na ++ ([])) rfl pqq rfl eqq rfl (fun w hk hs => Q3t w _ L3.length L3 (hv3.2.1.mono hk) n3 hv3.1) fun w v w' _ _ _ hR => ?_
 obtain ⟨N1, hN1, hO1⟩ := hR
 obtain ⟨B1, k1, rfl⟩ := hO1.form
 refine ⟨N1, hN1, ?_⟩
 repeat' first | refine Q0 ?_ | apply jN
 refine JX.part (F' := [(9, .slice B1 L3.length k1), (8, .pointer (some ⟨b8, 0, none⟩)), (7, .bool true), (4, .pointer (some ⟨b4, 0, none⟩))]) (H' := [(b8, .cells #[nv m.r, nv m.c, .slice Aa m.e.length ca] 26), (b4, .cells #[iv s0, iv s1] 69)] ++ (N1 ++ (Na ++ ([])))) cqq QA ?_
 refine Qs ?_
 repeat' first | apply jS | apply jD
 refine Zf (j := 0) rfl eqq rfl rfl dq ?_
 repeat' first | refine Qb ?_ | fail
 refine Zf (j := 1) rfl eqq rfl rfl dq ?_
 repeat' first | refine Qb ?_ | refine QD (h := fun _ => ?_) | fail
 refine Qe (A := [_, _, _]) (B := N1 ++ (Na ++ ([]))) rfl pqq rfl eqq rfl (fun w hk hs => XV [1, 2] (ZU hs 0 rfl) rfl rfl dq dq) fun w v w' _ _ _ hR => ?_
 obtain ⟨N2, hN2, hO2⟩ := hR
 obtain ⟨Ab, cb, rfl⟩ := hO2.form
 refine ⟨N2, hN2, ?_⟩
 repeat' first | refine Q2 ?_ | refine Qa fun _ => ?_ | refine QQ (h := ?_) | refine Q2 ?_ | apply jN
 rename_i b10
 obtain ⟨bad, hbad⟩ : ∃ b : XM, b = ⟨s0, s1, [1, 2].map wz⟩ := ⟨_, rfl⟩
 have hbx : ∀ {w : World} {v : Value}, WZ w v 2 [1, 2] → IsX w (.agg #[iv s0, iv s1, v]) bad := fun h => by rw [hbad]; exact ⟨_, rfl, h⟩
 have hbl : bad.E.length < 1000000000 := by rw [hbad]; exact of_decide_eq_true rfl
 refine JX.part (F' := [(10, .pointer (some ⟨b10, 0, none⟩)), (9, .slice B1 L3.length k1), (8, .pointer (some ⟨b8, 0, none⟩)), (7, .bool true)]) (H' := [(b10, .cells #[iv s0, iv s1, .slice Ab 2 cb] 26), (b8, .cells #[nv m.r, nv m.c, .slice Aa m.e.length ca] 26)] ++ (N2 ++ (N1 ++ (Na ++ ([]))))) cqq QA ?_
 refine Qs ?_
 repeat' first | apply jS | refine Q6 ?_ | apply jO
 refine Q5 pqq rfl eqq rfl (fun w hk hs => Zp w _ bad (hbx (hO2.rd.at hk hs Q4)) hbl) fun w v w' _ _ _ hR => ?_
 obtain ⟨p, rfl, hp⟩ := hR
 repeat' first | refine QB ?_ | apply jN
 cases p with
 | true =>
  refine JX.part (F' := [(44, .bool false), (9, .slice B1 L3.length k1), (8, .pointer (some ⟨b8, 0, none⟩)), (7, .bool true)]) (H' := [(b8, .cells #[nv m.r, nv m.c, .slice Aa m.e.length ca] 26)] ++ (N1 ++ (Na ++ []))) cqq QA ?_
  refine Qs ?_
  by_cases hL : L3.length = m.r
  ·repeat' first | apply jS | apply jO | apply jN | apply jT | refine Q1 ?_ | refine Q3 ?_ | refine Q0 ?_ | refine Qb ?_ | refine Ze (h := ?_) | (refine QV (h1 := ?_) (h2 := ?_) <;> intro hc <;> try (exfalso; omega)) | apply jV | apply jK | apply jR | refine Q8 rfl ?_ | refine Q7 rfl ?_
   all_goals first
    | (exfalso; omega)
    | exact Qk rfl (fun a w' st => ⟨st.kp, rfl⟩)
  ·have hx : ¬ (RX m.xm ∧ m.xm.R = (L3.length : Int)) := fun h => hL (by have h2 : (m.r : Int) = (L3.length : Int) := h.2; omega)
   repeat' first | apply jS | apply jO | apply jN | apply jT | refine Q1 ?_ | refine Q3 ?_ | refine Qb ?_ | refine Q6 ?_ | refine Ze (h := ?_) | (refine QV (h1 := ?_) (h2 := ?_) <;> intro hc <;> try (exfalso; omega)) | apply jK | refine Q7 rfl ?_
   all_goals first
    | (exfalso; omega)
    | skip
   refine Q5 pqq rfl eqq rfl (fun w hk hs => Q68 w _ _ m.xm L3.length (L3.map wz) hx (Yv rtm) n3 (IsM.x ⟨_, rfl, hOa.rd.at hk hs Q4⟩) (hO1.rd.at hk hs Q4)) fun w v w' _ _ _ hR => ?_
   subst hR
   repeat' first | refine Q1 ?_ | refine Q0 ?_ | refine Qr (h := ?_) | apply jN
   refine JX.part (F' := [(26, .bool false), (25, .slice none 0 0), (9, .slice B1 L3.length k1), (8, .pointer (some ⟨b8, 0, none⟩)), (7, .bool true)]) (H' := [(b8, .cells #[nv m.r, nv m.c, .slice Aa m.e.length ca] 26)] ++ (N1 ++ (Na ++ ([])))) cqq QA ?_
   refine Qs ?_
   repeat' first | apply jS | refine Q1 ?_ | refine Q6 ?_ | apply jO
   refine Q5 pqq rfl eqq rfl (fun w hk hs => Q3u w _ _ m.xm L3.length (L3.map wz) hx (Yv rtm) n3 (IsM.x ⟨_, rfl, hOa.rd.at hk hs Q4⟩) (hO1.rd.at hk hs Q4)) fun w v w' _ _ _ hR => ?_
   subst hR
   repeat' first | refine Q1 ?_ | refine Q0 ?_ | refine Qr (h := ?_) | refine Q2 ?_ | refine Qa fun _ => ?_ | refine Q2 ?_ | apply jN
   rename_i b28
   refine JX.part (F' := [(29, .bool false), (28, .pointer (some ⟨b28, 0, none⟩)), (27, .slice none 0 0), (26, .bool false), (25, .slice none 0 0), (9, .slice B1 L3.length k1), (8, .pointer (some ⟨b8, 0, none⟩)), (7, .bool true)]) (H' := [(b28, .cells #[.bool (decide ((0 : Int) < 0)), sv (magU (Int.natAbs 0))] 35), (b8, .cells #[nv m.r, nv m.c, .slice Aa m.e.length ca] 26)] ++ (N1 ++ (Na ++ ([])))) cqq QA ?_
   refine Qs ?_
   repeat' first | apply jS | refine Q1 ?_ | refine Q6 ?_ | refine Y2 (h := ?_) | refine Qo ?_ | refine QB ?_ | (refine QV (h1 := ?_) (h2 := ?_) <;> intro hc <;> try (exfalso; omega)) | refine QQ (h := ?_) | apply jO
   refine Qhv (a := 0) (b := 0) rfl eqq rfl rfl rfl ?_
   repeat' first | refine Q1 ?_ | refine Q6 ?_ | refine Qo ?_ | refine QQ (h := ?_) | fail
   refine Q5 pqq rfl eqq rfl (fun w hk hs => Q0l 8 8 w _ _ _ _ m L3 L3 0 rtm ⟨_, rfl, hOa.rd.at hk hs Q4⟩ (hO1.rd.at hk hs Q4) (hO1.rd.at hk hs Q4) (Qh (a := 0) dq) n3 n3 dq bdm8 y3 y3) fun w v w' _ _ _ hR => ?_
   obtain rfl := Q79 hR (fun h => hL h.1)
   repeat' first | refine Q0 ?_ | refine Qo ?_ | refine QB ?_ | apply jN
   refine Qs ?_
   repeat' first | apply jR
   exact Qk rfl (fun a w' st => ⟨st.kp, rfl⟩)
 | false =>
  have hnb : ¬ RX bad := fun h => by cases hp.2 h
  refine JX.part (F' := [(44, .bool true), (10, .pointer (some ⟨b10, 0, none⟩)), (9, .slice B1 L3.length k1), (8, .pointer (some ⟨b8, 0, none⟩)), (7, .bool true)]) (H' := [(b10, .cells #[iv s0, iv s1, .slice Ab 2 cb] 26), (b8, .cells #[nv m.r, nv m.c, .slice Aa m.e.length ca] 26)] ++ (N2 ++ (N1 ++ (Na ++ ([]))))) cqq QA ?_
  refine Qs ?_
  repeat' first | apply jS | apply jO | refine Q1 ?_ | refine Q6 ?_ | refine Q8 rfl ?_
  refine Q5 pqq rfl eqq rfl (fun w hk hs => Q68 w _ _ bad L3.length (L3.map wz) (fun h => hnb h.1) hbl n3 (hbx (hO2.rd.at hk hs Q4)) (hO1.rd.at hk hs Q4)) fun w v w' _ _ _ hR => ?_
  subst hR
  repeat' first | refine Q1 ?_ | refine Q0 ?_ | refine Qr (h := ?_) | apply jN
  refine JX.part (F' := [(12, .bool false), (10, .pointer (some ⟨b10, 0, none⟩)), (9, .slice B1 L3.length k1), (8, .pointer (some ⟨b8, 0, none⟩)), (7, .bool true)]) (H' := [(b10, .cells #[iv s0, iv s1, .slice Ab 2 cb] 26), (b8, .cells #[nv m.r, nv m.c, .slice Aa m.e.length ca] 26)] ++ (N2 ++ (N1 ++ (Na ++ ([]))))) cqq QA ?_
  refine Qs ?_
  repeat' first | apply jS | refine Q1 ?_ | refine Q6 ?_ | apply jO
  refine Q5 pqq rfl eqq rfl (fun w hk hs => Q3u w _ _ bad L3.length (L3.map wz) (fun h => hnb h.1) hbl n3 (hbx (hO2.rd.at hk hs Q4)) (hO1.rd.at hk hs Q4)) fun w v w' _ _ _ hR => ?_
  subst hR
  repeat' first | refine Q1 ?_ | refine Q0 ?_ | refine Qr (h := ?_) | refine Q2 ?_ | refine Qa fun _ => ?_ | refine Q2 ?_ | apply jN
  refine JX.part (F' := [(15, .bool false), (12, .bool false), (10, .pointer (some ⟨b10, 0, none⟩)), (9, .slice B1 L3.length k1), (8, .pointer (some ⟨b8, 0, none⟩)), (7, .bool true)]) (H' := [(b10, .cells #[iv s0, iv s1, .slice Ab 2 cb] 26), (b8, .cells #[nv m.r, nv m.c, .slice Aa m.e.length ca] 26)] ++ (N2 ++ (N1 ++ (Na ++ ([]))))) cqq QA ?_
  refine Qs ?_
  repeat' first | apply jS | refine Q6 ?_ | apply jO
  refine Q5 pqq rfl eqq rfl (fun w hk hs => Qf6 w _ _ bad m.xm (fun h => hnb h.1) hbl (Yv rtm) (hbx (hO2.rd.at hk hs Q4)) (IsM.x ⟨_, rfl, hOa.rd.at hk hs Q4⟩)) fun w v w' _ _ _ hR => ?_
  subst hR
  repeat' first | refine Q1 ?_ | refine Q0 ?_ | refine Qr (h := ?_) | refine Q2 ?_ | refine Qa fun _ => ?_ | refine Q2 ?_ | apply jN
  refine JX.part (F' := [(19, .bool false), (15, .bool false), (12, .bool false), (10, .pointer (some ⟨b10, 0, none⟩)), (9, .slice B1 L3.length k1), (8, .pointer (some ⟨b8, 0, none⟩)), (7, .bool true)]) (H' := [(b10, .cells #[iv s0, iv s1, .slice Ab 2 cb] 26), (b8, .cells #[nv m.r, nv m.c, .slice Aa m.e.length ca] 26)] ++ (N2 ++ (N1 ++ (Na ++ ([]))))) cqq QA ?_
  refine Qs ?_
  repeat' first | apply jS | refine Q6 ?_ | apply jO
  refine Q5 pqq rfl eqq rfl (fun w hk hs => Qf6 w _ _ m.xm bad (fun h => hnb h.2) (Yv rtm) hbl (IsM.x ⟨_, rfl, hOa.rd.at hk hs Q4⟩) (hbx (hO2.rd.at hk hs Q4))) fun w v w' _ _ _ hR => ?_
  subst hR
  repeat' first | refine Q1 ?_ | refine Q0 ?_ | refine Qr (h := ?_) | refine Q2 ?_ | refine Qa fun _ => ?_ | refine Q2 ?_ | apply jN
  refine JX.part (F' := [(23, .bool false), (19, .bool false), (15, .bool false), (12, .bool false), (10, .pointer (some ⟨b10, 0, none⟩)), (9, .slice B1 L3.length k1), (8, .pointer (some ⟨b8, 0, none⟩)), (7, .bool true)]) (H' := [(b10, .cells #[iv s0, iv s1, .slice Ab 2 cb] 26), (b8, .cells #[nv m.r, nv m.c, .slice Aa m.e.length ca] 26)] ++ (N2 ++ (N1 ++ (Na ++ ([]))))) cqq QA ?_
  refine Qs ?_
  repeat' first | apply jS | refine Q6 ?_ | apply jO
  refine Q5 pqq rfl eqq rfl (fun w hk hs => Qf7 w _ bad hnb hbl (hbx (hO2.rd.at hk hs Q4))) fun w v w' _ _ _ hR => ?_
  subst hR
  repeat' first | refine Q2 ?_ | refine Qa fun _ => ?_ | refine Q2 ?_ | apply jN
  rename_i b24
  refine JX.part (F' := [(24, .pointer (some ⟨b24, 0, none⟩)), (23, .bool false), (19, .bool false), (15, .bool false), (12, .bool false), (10, .pointer (some ⟨b10, 0, none⟩)), (9, .slice B1 L3.length k1), (8, .pointer (some ⟨b8, 0, none⟩)), (7, .bool true)]) (H' := [(b24, .cells #[iv 0, iv 0, .slice none 0 0] 26), (b10, .cells #[iv s0, iv s1, .slice Ab 2 cb] 26), (b8, .cells #[nv m.r, nv m.c, .slice Aa m.e.length ca] 26)] ++ (N2 ++ (N1 ++ (Na ++ ([]))))) cqq QA ?_
  refine Qs ?_
  repeat' first | apply jS | refine Q1 ?_ | refine Q3 ?_ | refine Qb ?_ | refine Q6 ?_ | refine Y2 (h := ?_) | refine Qp ?_ | (refine Z2 (h1 := ?_) (h2 := ?_) <;> intro hc <;> try (exfalso; omega)) | apply jO
  refine Q5 pqq rfl eqq rfl (fun w hk hs => Qkm 8 w _ _ _ bad L3.length L3 hnb hbl (hbx (hO2.rd.at hk hs Q4)) (hO1.rd.at hk hs Q4) n3 dq y3 ⟨_, _, _, rfl⟩) fun w v w' _ _ _ hR => ?_
  subst hR
  repeat' first | refine Q1 ?_ | refine Q6 ?_ | refine Qp ?_ | refine QQ (h := ?_) | fail
  refine Q5 pqq rfl eqq rfl (fun w hk hs => Qkn w _ _ _ _ bad hnb hbl (hbx (hO2.rd.at hk hs Q4)) ⟨_, _, _, rfl⟩ ⟨_, _, _, rfl⟩ ⟨false, [], rfl⟩) fun w v w' _ _ _ hR => ?_
  subst hR
  repeat' first | refine Qp ?_ | apply jN
  refine JX.part (F' := [(114, .bool false), (9, .slice B1 L3.length k1), (8, .pointer (some ⟨b8, 0, none⟩)), (7, .bool true)]) (H' := [(b8, .cells #[nv m.r, nv m.c, .slice Aa m.e.length ca] 26)] ++ (N1 ++ (Na ++ []))) cqq QA ?_
  refine Qs ?_
  by_cases hL : L3.length = m.r
  ·repeat' first | apply jS | apply jO | apply jN | apply jT | refine Q1 ?_ | refine Q3 ?_ | refine Q0 ?_ | refine Qb ?_ | refine Ze (h := ?_) | (refine QV (h1 := ?_) (h2 := ?_) <;> intro hc <;> try (exfalso; omega)) | apply jV | apply jK | apply jR | refine Q8 rfl ?_ | refine Q7 rfl ?_
   all_goals first
    | (exfalso; omega)
    | exact Qk rfl (fun a w' st => ⟨st.kp, rfl⟩)
  ·have hx : ¬ (RX m.xm ∧ m.xm.R = (L3.length : Int)) := fun h => hL (by have h2 : (m.r : Int) = (L3.length : Int) := h.2; omega)
   repeat' first | apply jS | apply jO | apply jN | apply jT | refine Q1 ?_ | refine Q3 ?_ | refine Qb ?_ | refine Q6 ?_ | refine Ze (h := ?_) | (refine QV (h1 := ?_) (h2 := ?_) <;> intro hc <;> try (exfalso; omega)) | apply jK | refine Q7 rfl ?_
   all_goals first
    | (exfalso; omega)
    | skip
   refine Q5 pqq rfl eqq rfl (fun w hk hs => Q68 w _ _ m.xm L3.length (L3.map wz) hx (Yv rtm) n3 (IsM.x ⟨_, rfl, hOa.rd.at hk hs Q4⟩) (hO1.rd.at hk hs Q4)) fun w v w' _ _ _ hR => ?_
   subst hR
   repeat' first | refine Q1 ?_ | refine Q0 ?_ | refine Qr (h := ?_) | apply jN
   refine JX.part (F' := [(26, .bool false), (25, .slice none 0 0), (9, .slice B1 L3.length k1), (8, .pointer (some ⟨b8, 0, none⟩)), (7, .bool true)]) (H' := [(b8, .cells #[nv m.r, nv m.c, .slice Aa m.e.length ca] 26)] ++ (N1 ++ (Na ++ ([])))) cqq QA ?_
   refine Qs ?_
   repeat' first | apply jS | refine Q1 ?_ | refine Q6 ?_ | apply jO
   refine Q5 pqq rfl eqq rfl (fun w hk hs => Q3u w _ _ m.xm L3.length (L3.map wz) hx (Yv rtm) n3 (IsM.x ⟨_, rfl, hOa.rd.at hk hs Q4⟩) (hO1.rd.at hk hs Q4)) fun w v w' _ _ _ hR => ?_
   subst hR
   repeat' first | refine Q1 ?_ | refine Q0 ?_ | refine Qr (h := ?_) | refine Q2 ?_ | refine Qa fun _ => ?_ | refine Q2 ?_ | apply jN
   rename_i b28
   refine JX.part (F' := [(29, .bool false), (28, .pointer (some ⟨b28, 0, none⟩)), (27, .slice none 0 0), (26, .bool false), (25, .slice none 0 0), (9, .slice B1 L3.length k1), (8, .pointer (some ⟨b8, 0, none⟩)), (7, .bool true)]) (H' := [(b28, .cells #[.bool (decide ((0 : Int) < 0)), sv (magU (Int.natAbs 0))] 35), (b8, .cells #[nv m.r, nv m.c, .slice Aa m.e.length ca] 26)] ++ (N1 ++ (Na ++ ([])))) cqq QA ?_
   refine Qs ?_
   repeat' first | apply jS | refine Q1 ?_ | refine Q6 ?_ | refine Y2 (h := ?_) | refine Qo ?_ | refine QB ?_ | (refine QV (h1 := ?_) (h2 := ?_) <;> intro hc <;> try (exfalso; omega)) | refine QQ (h := ?_) | apply jO
   refine Qhv (a := 0) (b := 0) rfl eqq rfl rfl rfl ?_
   repeat' first | refine Q1 ?_ | refine Q6 ?_ | refine Qo ?_ | refine QQ (h := ?_) | fail
   refine Q5 pqq rfl eqq rfl (fun w hk hs => Q0l 8 8 w _ _ _ _ m L3 L3 0 rtm ⟨_, rfl, hOa.rd.at hk hs Q4⟩ (hO1.rd.at hk hs Q4) (hO1.rd.at hk hs Q4) (Qh (a := 0) dq) n3 n3 dq bdm8 y3 y3) fun w v w' _ _ _ hR => ?_
   obtain rfl := Q79 hR (fun h => hL h.1)
   repeat' first | refine Q0 ?_ | refine Qo ?_ | refine QB ?_ | apply jN
   refine Qs ?_
   repeat' first | apply jR
   exact Qk rfl (fun a w' st => ⟨st.kp, rfl⟩)

end Go.Proofs.YtljmapfihjkafaaGreatDoor

/-
 LawLatticeWrong: for every input the call of 'cocycle/cocyclelaw04.LatticeWrong' returns true, and every argument reads afterwards as it read before. Conditions: the arguments are together of bulk at most 1048576. The card.
-/
namespace Go.Proofs.YtljmapfihjkafaaGreatDoor.latticeWrong
open Go Go.RowKit Go.ChangeShapes Go.WideShapes Go.ChangeAt
set_option linter.unusedSimpArgs false
set_option linter.unusedVariables false
set_option linter.unusedSectionVars false

theorem reads (os : Os) {H : Type} (enc : TypeId × Value → H) : ∃ places, DataW.whole enc Tryz.prog ((World.laidAll Tryz.prog os Rows.latticeWrongUptoRow.laid).forCall (fun _ _ => 0) ⟨#[], #[.slice none 0 0, .agg #[.int .i64 0, .int .i64 0], .slice none 0 0], []⟩).memory Tryz.f12.params.toList Rows.latticeWrongSpec.vars false (#[.slice none 0 0, .agg #[.int .i64 0, .int .i64 0], .slice none 0 0] : Array Value).toList 8 = some ([.nil, .agg [.lit (.int .i64 0), .lit (.int .i64 0)], .nil], [], places) :=
 ⟨[], by kernel_rfl⟩
theorem okW (os : Os) : Input.okWideB Tryz.checked.prog ((World.laidAll Tryz.prog os Rows.latticeWrongUptoRow.laid).forCall (fun _ _ => 0) ⟨#[], #[.slice none 0 0, .agg #[.int .i64 0, .int .i64 0], .slice none 0 0], []⟩) 12 ⟨#[], #[.slice none 0 0, .agg #[.int .i64 0, .int .i64 0], .slice none 0 0], []⟩ = true := by kernel_rfl
set_option maxRecDepth 100000 in
theorem lifted (os : Os) (started : os.Started) (H : Type) (enc : TypeId × Value → H) (F : Stop.Interp) :
  ReturnsInHanded {} Tryz.checked os 12 .any ((Rows.OpenSpec.upto Rows.latticeWrongSpec).preRow enc Tryz.prog Tryz.f12 Rows.latticeWrongUptoRow.domain false Rows.latticeWrongUptoRow.laid) (((Rows.OpenSpec.upto Rows.latticeWrongSpec).at F).post enc Tryz.prog Tryz.f12 false true false false) := by
 obtain ⟨places, hx⟩ := reads os enc
 refine returnsInHanded_of_row (C := Tryz.checked) (s := Rows.OpenSpec.upto Rows.latticeWrongSpec) own started (by kernel_rfl) Tryz.func12
  ⟨World.laidAll Tryz.prog os Rows.latticeWrongUptoRow.laid, fun _ _ => 0, ⟨#[], #[.slice none 0 0, .agg #[.int .i64 0, .int .i64 0], .slice none 0 0], []⟩, World.laidAll_os _ _ _, World.shaped_of_ZipB (by kernel_rfl) (by kernel_rfl), (Input.okWide_of_okWideB (base := 0) (okW os)).1, (Input.okWide_of_okWideB (okW os)).2,
   OpenSpec.preRow_of_cond 8 hx (by kernel_rfl) (fun k hk => by cases hk; kernel_rfl) (by kernel_rfl) (by rw [MakeChecks.laidMetH_plain _ _ _ (by kernel_rfl)]; exact laidMet_laidAll _ (by kernel_rfl) (by kernel_rfl)), by
   simp only [Assume.holds]
   exact ⟨by simp, by simp, fun _ => Modest.zero, by simp, by simp⟩⟩ ?_
 intro W base args ds gs before hval0 hW _ hcond hwt0 hL _ _
 have hb : Rows.uptoBulkAll (ds ++ gs) ≤ 1048576 := of_decide_eq_true (hcond _ rfl)
 have hval : ∀ (j : Nat) t v, Tryz.f12.params[j]? = some t → args[j]? = some v → Value.okWide Tryz.prog W .any base t v := hval0
 have hW' := hW
 obtain ⟨p, q, hA0, hV, rfl, hfz, hnd⟩ := hW
 have hA : DataW.TrodAll enc Tryz.prog W 0 (fun _ => true) true Tryz.f12.params.toList args.toList ds p := hA0
 have hwt : (DataW.weightsEach Tryz.prog (Tryz.f12.params.toList ++ Rows.latticeWrongSpec.plain.varTypes Tryz.prog) (ds ++ gs)).all (· ≤ reachBytes) = true := hwt0
 have hwt1 := fun n hn => of_decide_eq_true (List.all_eq_true.1 hwt n hn)
 rw [Tryz.params12] at hA hval hwt1
 obtain ⟨v0, vs0, d0, ds0, p0, q0, hargs, rfl, rfl, h0, r0⟩ := trodAll_cons hA
 obtain ⟨v1, vs1, d1, ds1, p1, q1, rfl, rfl, rfl, h1, r1⟩ := trodAll_cons r0
 obtain ⟨v2, vs2, d2, ds2, p2, q2, rfl, rfl, rfl, h2, r2⟩ := trodAll_cons r1
 obtain ⟨rfl, rfl, rfl⟩ := trodAll_nil r2
 obtain rfl : args = #[v0, v1, v2] := by cases args; simp_all
 obtain ⟨rfl, rfl⟩ := trodVars_none hV
 simp only [Rows.uptoBulkAll, List.cons_append, List.nil_append, List.append_nil] at hb
 have k0 := h0
 have lt0 : ∀ x ∈ p0, x.block < W.heap.size := by obtain ⟨m, hm⟩ := k0; exact DataW.trod_lt m _ _ _ hm
 obtain ⟨X0, s0⟩ := Q13 (hval 0 22 v0 rfl rfl) h0
 have k1 := h1
 have lt1 : ∀ x ∈ p1, x.block < W.heap.size := by obtain ⟨m, hm⟩ := k1; exact DataW.trod_lt m _ _ _ hm
 obtain ⟨x1, y1, rfl, s1, t1⟩ := Qdo (hval 1 69 v1 rfl rfl) h1
 have k2 := h2
 have lt2 : ∀ x ∈ p2, x.block < W.heap.size := by obtain ⟨m, hm⟩ := k2; exact DataW.trod_lt m _ _ _ hm
 obtain ⟨L2, s2⟩ := Qdp (hval 2 48 v2 rfl rfl) h2
 have t2 := Qgr h2 s2
 clear hA0 hval0
 refine (Q46 W v0 X0 x1 y1 v2 L2 s0 s1 t1 s2 oq).mono fun e W' he => ?_
 cases e with
 | panicked _ => exact he.elim
 | outgrown => exact he.elim
 | returned u =>
  obtain ⟨hk, rfl⟩ := he
  have bel : Below W.heap.size W W' := ⟨hk.os, hk.tape, hk.output, hk.size, fun k hk2 => hk.block k hk2 spq⟩
  exact ⟨_, rfl, _, _, _, [], _, [], hW', trodAll_mk1 (shut_bool Tryz.underlying4 _), (trodAll_cons_mk (Below.trod XJ (by kernel_rfl) (of_decide_eq_true (by kernel_rfl)) k0 bel lt0) (trodAll_cons_mk (Below.trod XJ (by kernel_rfl) (of_decide_eq_true (by kernel_rfl)) k1 bel lt1) (trodAll_cons_mk (Below.trod XJ (by kernel_rfl) (of_decide_eq_true (by kernel_rfl)) k2 bel lt2) trodAll_mk0))), rfl, bel.frame _, fun h => by cases h⟩

theorem holds : Rows.LatticeWrongUptoSaid :=
 OpenClaim.holds_of_cond 12 Tryz.f12 rfl rfl rfl rfl rfl rfl rfl ⟨rfl, rfl, rfl, rfl, rfl⟩ rfl rfl rfl rfl rfl (by kernel_rfl) Tryz.func12 (by kernel_rfl)
  (of_decide_eq_true (by kernel_rfl)) (by unfold Func.isWrapper; first | (rw [if_pos (by decide +kernel)]; kernel_rfl) | (rw [if_neg (by decide +kernel)]; exact ⟨rfl, rfl⟩))
  (fun os started H enc _ F => by rw [OpenClaim.pre_eq_preRow]; exact lifted os started H enc F)

theorem proved : Rows.LatticeWrongUptoCardSaid :=
 Claim7.holds_tied_plain_at .later [] [.data, .pinned] true (true, "2a55c8c770411d0033a71932175e8e630641c3bf870bcb95329879352daafdde") false holds (fun _ h => by cases h) (by kernel_rfl) (fun _ h => by cases h) latticeWrongUpto_row_tie rfl ⟨rfl, rfl⟩ (by kernel_rfl) rfl
  (fun f fn hf hfn => by
   obtain rfl : f = 12 := Option.some.inj ((show Tryz.prog.funcNamed "cocycle/cocyclelaw04.LatticeWrong" = some 12 by kernel_rfl).symm.trans hf) |>.symm
   obtain rfl : fn = Tryz.f12 := (Option.some.inj (Tryz.func12.symm.trans hfn)).symm
   exact ⟨by kernel_rfl, fun j t ht => by
    rw [Tryz.params12] at ht
    have hm : t ∈ [22, 69, 48] := by simpa using Array.mem_of_getElem? ht
    have hall : ([22, 69, 48].all fun u => !Tryz.prog.wantsStandIn u) = true := by kernel_rfl
    exact (show Tryz.prog.wantsStandIn t = false by simpa using List.all_eq_true.1 hall t hm)⟩)
  (by kernel_rfl)

end Go.Proofs.YtljmapfihjkafaaGreatDoor.latticeWrong

