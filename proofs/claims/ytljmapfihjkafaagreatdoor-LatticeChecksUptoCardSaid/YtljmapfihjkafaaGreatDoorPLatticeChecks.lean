import Derived.Test.YtljmapfihjkafaaGreatDoorMm
import Derived.Test.YtljmapfihjkafaaGreatDoorTie
import Derived.Test.YtljmapfihjkafaaGreatDoorCards
import Derived.Shelf.Lay
import Derived.Lay
import Derived.LaidOnce
import Derived.SevenTiedAt
import Derived.Deep.DeepHandedRow
/- The law LatticeChecks: the walk. ROWZ -/
namespace Go.Proofs.YtljmapfihjkafaaGreatDoor
open Go Go.RowKit
set_option linter.unusedSimpArgs false
set_option linter.unusedVariables false
set_option linter.unusedSectionVars false

set_option maxHeartbeats 16000000 in
theorem Q3v (w : World) (d : Int) (v0 : Value) (X : List (List Int)) (v1 v2 v3 : Value) (L1 L2 L3 : List Int) (hv0 : IsLL w v0 X) (hv1 : IsL w v1 L1) (n1 : L1.length ≤ 2000000) (hv2 : IsL w v2 L2) (n2 : L2.length ≤ 2000000) (hv3 : IsL w v3 L3) (n3 : L3.length ≤ 2000000) (hd : -9223372036854775808 ≤ d ∧ d < 9223372036854775808) :
  Calls Tryz.prog 10 #[v0, .agg #[v1, v2, v3], iv d] w (Ret fun v w' => Kp [] w w' ∧ v = .bool true) := by
 obtain ⟨hXl, hXr⟩ := hv0.lens
 have hXR := hv0.rows
 obtain ⟨A1, c1, rfl⟩ := hv1.2.1.form
 obtain ⟨A2, c2, rfl⟩ := hv2.2.1.form
 obtain ⟨A3, c3, rfl⟩ := hv3.2.1.form
 have y1 := hv1.bd8
 have y2 := hv2.bd8
 have y3 := hv3.bd8
 have hd8 : d.natAbs < 256 ^ 8 := by omega
 refine Q9 [⟨3, 1, [0, 1, 3, 4, 6, 7, 2, 5, 8, 9, 10, 11], []⟩, ⟨5, 0, [0, 1, 2, 4, 5, 6, 3, 7, 8, 9, 10, 11, 12, 13, 15, 16, 17, 18, 14, 19, 20, 21], []⟩, ⟨12, 1, [0, 1, 2, 3, 4, 5, 7, 8, 9, 10, 6, 11, 12, 13, 14, 15, 16, 17, 18, 19, 20, 21, 22, 23, 24, 25, 26, 27, 29, 30, 32, 33, 34, 35, 36, 38, 39, 28, 31, 37, 40, 41, 42, 43], []⟩] [] spq [] Tryz.func10 rfl mixed (by kernel_rfl) Tryz.ntmps10 Tryz.results10 rfl ⟨by simp, by simp⟩ spq ?_
 simp only [toS, Qd, Qt, Qj, Qm, odAt, Qg, Qw, zipF]
 repeat' first | apply jS | apply jO | refine Q0 ?_ | refine Qx fun _ => ?_ | apply jN
 rename_i b4
 refine Qs ?_
 repeat' first | apply jS | apply jO
 refine Q5 trivial rfl rfl rfl (fun w _ _ => Q3p w) fun w v w' _ _ _ hR => ?_
 subst hR
 repeat' first | refine Q0 ?_ | apply jN
 refine JX.part (F' := [(7, .bool true), (4, .pointer (some ⟨b4, 0, none⟩)), (0, v0), (2, iv d)]) (H' := [(b4, .cells #[.slice A1 L1.length c1, .slice A2 L2.length c2, .slice A3 L3.length c3] 66)] ++ ([])) cqq QA ?_
 refine Qs ?_
 repeat' first | apply jS | refine Q1 ?_ | apply jO
 refine Qe (A := [_]) (B := []) rfl pqq rfl eqq rfl (fun w hk hs => Q69 w v0 X 0 (hXR.mono hk) hXl hXr) fun w v w' _ _ _ hR => ?_
 obtain ⟨m, hm⟩ : ∃ m, m = ofZ (smX X 0) := ⟨_, rfl⟩
 have rtm : RtZ m := hm ▸ Qiu X 0
 have bdm : BdZ 1 m := hm ▸ Qiv X 0
 have mr5 : m.r ≤ 5 := hm ▸ sm_r X 0
 have mc5 : m.c ≤ 5 := hm ▸ sm_c X 0
 rw [← hm] at hR
 obtain ⟨Na, hNa, Ea, rfl, hOa⟩ := hR
 obtain ⟨Aa, ca, rfl⟩ := hOa.form
 have bdm8 : BdZ 8 m := bdm.mono dq
 have bdm17 : BdZ 17 m := bdm.mono dq
 refine ⟨Na, hNa, ?_⟩
 repeat' first | refine Q2 ?_ | refine Qa fun _ => ?_ | refine Q2 ?_ | apply jN
 rename_i b8
 refine JX.part (F' := [(8, .pointer (some ⟨b8, 0, none⟩)), (7, .bool true), (4, .pointer (some ⟨b4, 0, none⟩)), (2, iv d)]) (H' := [(b8, .cells #[nv m.r, nv m.c, .slice Aa m.e.length ca] 26), (b4, .cells #[.slice A1 L1.length c1, .slice A2 L2.length c2, .slice A3 L3.length c3] 66)] ++ (Na ++ ([]))) cqq QA ?_
 refine Qs ?_
 repeat' first | apply jS | apply jD
 refine Zf (j := 0) rfl eqq rfl rfl dq ?_
 repeat' first | refine Qb ?_ | fail
 refine Zf (j := 1) rfl eqq rfl rfl dq ?_
 repeat' first | refine Qb ?_ | fail
 refine Zf (j := 2) rfl eqq rfl rfl dq ?_
 repeat' first | refine Qb ?_ | fail
 refine Qe (A := [_, _]) (B := Na ++ ([])) rfl pqq rfl eqq rfl (fun w hk hs => Q3t w _ L1.length L1 (hv1.2.1.mono hk) n1 hv1.1) fun w v w' _ _ _ hR => ?_
 obtain ⟨N1, hN1, hO1⟩ := hR
 obtain ⟨B1, k1, rfl⟩ := hO1.form
 refine ⟨N1, hN1, ?_⟩
 skip
 refine Qe (A := [_, _]) (B := N1 ++ (Na ++ ([]))) rfl pqq rfl eqq rfl (fun w hk hs => Q3t w _ L2.length L2 (hv2.2.1.mono hk) n2 hv2.1) fun w v w' _ _ _ hR => ?_
 obtain ⟨N2, hN2, hO2⟩ := hR
 obtain ⟨B2, k2, rfl⟩ := hO2.form
 refine ⟨N2, hN2, ?_⟩
 skip
 refine Qe (A := [_, _]) (B := N2 ++ (N1 ++ (Na ++ ([])))) rfl pqq rfl eqq rfl (fun w hk hs => Q3t w _ L3.length L3 (hv3.2.1.mono hk) n3 hv3.1) fun w v w' _ _ _ hR => ?_
 obtain ⟨N3, hN3, hO3⟩ := hR
 obtain ⟨B3, k3, rfl⟩ := hO3.form
 refine ⟨N3, hN3, ?_⟩
 repeat' first | refine Q0 ?_ | apply jN
 refine JX.part (F' := [(11, .slice B3 L3.length k3), (10, .slice B2 L2.length k2), (9, .slice B1 L1.length k1), (8, .pointer (some ⟨b8, 0, none⟩)), (7, .bool true), (4, .pointer (some ⟨b4, 0, none⟩)), (2, iv d)]) (H' := [(b8, .cells #[nv m.r, nv m.c, .slice Aa m.e.length ca] 26), (b4, .cells #[.slice A1 L1.length c1, .slice A2 L2.length c2, .slice A3 L3.length c3] 66)] ++ (N3 ++ (N2 ++ (N1 ++ (Na ++ ([])))))) cqq QA ?_
 refine Qs ?_
 repeat' first | apply jS | refine Q1 ?_ | apply jO
 refine Q5 pqq rfl eqq rfl (fun w _ _ => YH w d hd.1 hd.2) fun w v w' _ _ _ hR => ?_
 subst hR
 repeat' first | refine Q2 ?_ | refine Qa fun _ => ?_ | refine Q2 ?_ | apply jN
 rename_i bw
 refine JX.part (F' := [(12, .pointer (some ⟨bw, 0, none⟩)), (11, .slice B3 L3.length k3), (10, .slice B2 L2.length k2), (9, .slice B1 L1.length k1), (8, .pointer (some ⟨b8, 0, none⟩)), (7, .bool true), (4, .pointer (some ⟨b4, 0, none⟩))]) (H' := [(bw, .cells #[.bool (decide (d < 0)), sv (magU d.natAbs)] 35), (b8, .cells #[nv m.r, nv m.c, .slice Aa m.e.length ca] 26), (b4, .cells #[.slice A1 L1.length c1, .slice A2 L2.length c2, .slice A3 L3.length c3] 66)] ++ (N3 ++ (N2 ++ (N1 ++ (Na ++ ([])))))) cqq QA ?_
 refine Qs ?_
 repeat' first | apply jS | refine Q1 ?_ | refine Q6 ?_ | apply jD
 refine Q5 pqq rfl eqq rfl (fun w hk hs => Q7q 8 8 w _ _ _ m L1 L2 rtm ⟨_, rfl, hOa.rd.at hk hs Q4⟩ (hO1.rd.at hk hs Q4) (hO2.rd.at hk hs Q4) oq oq dq bdm8 y1 y2) fun w v w' _ _ _ hR => ?_
 obtain ⟨p, rfl, hp⟩ := hR
 skip
 refine Q5 pqq rfl eqq rfl (fun w hk hs => Qi8 8 8 w _ _ _ m L1 L2 rtm ⟨_, rfl, hOa.rd.at hk hs Q4⟩ (hO1.rd.at hk hs Q4) (hO2.rd.at hk hs Q4) oq oq dq bdm8 y1 y2) fun w v w' _ _ _ hR => ?_
 obtain ⟨q, rfl, hq⟩ := hR
 obtain rfl := Qe2 ⟨_, rfl, hp⟩ ⟨_, rfl, hq⟩
 clear hp hq
 repeat' first | refine Q1 ?_ | refine Q6 ?_ | refine Qht (h := ?_) | fail
 refine Q5 pqq rfl eqq rfl (fun w hk hs => Q0l 8 8 w _ _ _ _ m L2 L3 d rtm ⟨_, rfl, hOa.rd.at hk hs Q4⟩ (hO2.rd.at hk hs Q4) (hO3.rd.at hk hs Q4) (Qh (Zj hd8 dq)) oq oq dq bdm8 y2 y3) fun w v w' _ _ _ hR => ?_
 obtain ⟨p, rfl, hp⟩ := hR
 skip
 refine Q5 pqq rfl eqq rfl (fun w hk hs => Q7p 8 8 w _ _ _ _ m L2 L3 d rtm ⟨_, rfl, hOa.rd.at hk hs Q4⟩ (hO2.rd.at hk hs Q4) (hO3.rd.at hk hs Q4) (Qh (Zj hd8 dq)) oq oq dq bdm8 y2 y3) fun w v w' _ _ _ hR => ?_
 obtain ⟨q, rfl, hq⟩ := hR
 obtain rfl := Qe2 ⟨_, rfl, hp⟩ ⟨_, rfl, hq⟩
 clear hp hq
 repeat' first | refine Qp ?_ | refine Qht (h := ?_) | apply jN
 refine JX.part (F' := [(52, .bool false), (12, .pointer (some ⟨bw, 0, none⟩)), (8, .pointer (some ⟨b8, 0, none⟩)), (7, .bool true), (4, .pointer (some ⟨b4, 0, none⟩))]) (H' := [(bw, .cells #[.bool (decide (d < 0)), sv (magU d.natAbs)] 35), (b8, .cells #[nv m.r, nv m.c, .slice Aa m.e.length ca] 26), (b4, .cells #[.slice A1 L1.length c1, .slice A2 L2.length c2, .slice A3 L3.length c3] 66)] ++ (Na ++ ([]))) cqq QA ?_
 refine Qs ?_
 repeat' first | apply jS | apply jO | apply jT | apply jK | refine Q7 rfl ?_
 refine Zf (j := 0) rfl eqq rfl rfl dq ?_
 repeat' first | refine Q3 ?_ | refine Qb ?_ | fail
 refine Qe (A := [_, _, _]) (B := Na ++ ([])) rfl pqq rfl eqq rfl (fun w hk hs => WJ w _ L1.length m.c 3 L1 (hv1.2.1.mono hk) hv1.2.2 oq dq) fun w v w' _ _ _ hR => ?_
 obtain ⟨N4, hN4, hO4⟩ := hR
 obtain ⟨B4, k4, rfl⟩ := hO4.form
 refine ⟨N4, hN4, ?_⟩
 repeat' first | refine Q0 ?_ | apply jN
 obtain ⟨fs, hfs⟩ : ∃ x, x = WD L1 L1.length 3 m.c := ⟨_, rfl⟩
 have lfs : fs.length = m.c := hfs ▸ Xt _ _ _ _
 have bfs : BdL 8 fs := hfs ▸ Wc _ _ _ _ dq
 rw [← hfs] at hO4
 refine JX.part (F' := [(13, .slice B4 m.c k4), (12, .pointer (some ⟨bw, 0, none⟩)), (8, .pointer (some ⟨b8, 0, none⟩)), (7, .bool true), (4, .pointer (some ⟨b4, 0, none⟩))]) (H' := [(bw, .cells #[.bool (decide (d < 0)), sv (magU d.natAbs)] 35), (b8, .cells #[nv m.r, nv m.c, .slice Aa m.e.length ca] 26), (b4, .cells #[.slice A1 L1.length c1, .slice A2 L2.length c2, .slice A3 L3.length c3] 66)] ++ (N4 ++ (Na ++ ([])))) cqq QA ?_
 refine Qs ?_
 repeat' first | apply jS | refine Q1 ?_ | refine Q6 ?_ | apply jO
 refine Qe (A := [_, _, _]) (B := N4 ++ (Na ++ ([]))) rfl pqq rfl eqq rfl (fun w hk hs => Q52 1 8 w _ _ m fs rtm oq lfs.symm dq bdm bfs ⟨_, rfl, hOa.rd.at hk hs Q4⟩ (by rw [lfs]; exact hO4.rd.at hk hs Q4)) fun w v w' _ _ _ hR => ?_
 obtain ⟨Nc, Ec, hNc, rfl, hOc⟩ := hR
 rw [Q3e] at hOc
 obtain ⟨cs, hcs⟩ : ∃ x, x = appL m fs := ⟨_, rfl⟩
 have lcs : cs.length = m.r := hcs ▸ YN _ _
 have bcs : BdL (8 + 8 + 1) cs := by rw [hcs]; exact Q3y rtm bdm8 bfs
 have bcs : BdL 17 cs := bcs
 have bfs17 : BdL 17 fs := fun i => Zj (bfs i) dq
 rw [← hcs, lcs] at hOc
 obtain ⟨Ac, cc, rfl⟩ := hOc.form
 refine ⟨Nc, hNc, ?_⟩
 repeat' first | refine Q1 ?_ | refine Q0 ?_ | refine Qr (h := ?_) | apply jN
 refine JX.part (F' := [(14, .slice Ac m.r cc), (13, .slice B4 m.c k4), (12, .pointer (some ⟨bw, 0, none⟩)), (8, .pointer (some ⟨b8, 0, none⟩)), (7, .bool true), (4, .pointer (some ⟨b4, 0, none⟩))]) (H' := [(bw, .cells #[.bool (decide (d < 0)), sv (magU d.natAbs)] 35), (b8, .cells #[nv m.r, nv m.c, .slice Aa m.e.length ca] 26), (b4, .cells #[.slice A1 L1.length c1, .slice A2 L2.length c2, .slice A3 L3.length c3] 66)] ++ (Nc ++ (N4 ++ (Na ++ ([]))))) cqq QA ?_
 refine Qs ?_
 repeat' first | apply jS | refine Q1 ?_ | refine Q6 ?_ | apply jO
 refine Q5 pqq rfl eqq rfl (fun w hk hs => Q7q 8 17 w _ _ _ m fs cs rtm ⟨_, rfl, hOa.rd.at hk hs Q4⟩ (by rw [lfs]; exact hO4.rd.at hk hs Q4) (by rw [lcs]; exact hOc.rd.at hk hs Q4) oq oq dq bdm8 bfs17 bcs) fun w v w' _ _ _ hR => ?_
 obtain rfl := Q44 hR (by rw [hcs]; exact Xd lfs)
 repeat' first | refine QB ?_ | apply jN
 refine JX.part (F' := [(68, .bool false), (14, .slice Ac m.r cc), (12, .pointer (some ⟨bw, 0, none⟩)), (8, .pointer (some ⟨b8, 0, none⟩)), (7, .bool true), (4, .pointer (some ⟨b4, 0, none⟩))]) (H' := [(bw, .cells #[.bool (decide (d < 0)), sv (magU d.natAbs)] 35), (b8, .cells #[nv m.r, nv m.c, .slice Aa m.e.length ca] 26), (b4, .cells #[.slice A1 L1.length c1, .slice A2 L2.length c2, .slice A3 L3.length c3] 66)] ++ (Nc ++ (Na ++ ([])))) cqq QA ?_
 refine Qs ?_
 repeat' first | apply jS | apply jO | apply jT | apply jK | refine Q7 rfl ?_
 refine Zf (j := 2) rfl eqq rfl rfl dq ?_
 repeat' first | refine Q3 ?_ | refine Qb ?_ | fail
 refine Qe (A := [_, _, _]) (B := Nc ++ (Na ++ ([]))) rfl pqq rfl eqq rfl (fun w hk hs => WJ w _ L3.length m.r 3 L3 (hv3.2.1.mono hk) hv3.2.2 oq dq) fun w v w' _ _ _ hR => ?_
 obtain ⟨N5, hN5, hO5⟩ := hR
 obtain ⟨B5, k5, rfl⟩ := hO5.form
 refine ⟨N5, hN5, ?_⟩
 repeat' first | refine Q0 ?_ | apply jN
 obtain ⟨gs, hgs⟩ : ∃ x, x = WD L3 L3.length 3 m.r := ⟨_, rfl⟩
 have lgs : gs.length = m.r := hgs ▸ Xt _ _ _ _
 have bgs : BdL 8 gs := hgs ▸ Wc _ _ _ _ dq
 rw [← hgs] at hO5
 refine JX.part (F' := [(16, .slice B5 m.r k5), (14, .slice Ac m.r cc), (12, .pointer (some ⟨bw, 0, none⟩)), (8, .pointer (some ⟨b8, 0, none⟩)), (7, .bool true), (4, .pointer (some ⟨b4, 0, none⟩))]) (H' := [(bw, .cells #[.bool (decide (d < 0)), sv (magU d.natAbs)] 35), (b8, .cells #[nv m.r, nv m.c, .slice Aa m.e.length ca] 26), (b4, .cells #[.slice A1 L1.length c1, .slice A2 L2.length c2, .slice A3 L3.length c3] 66)] ++ (N5 ++ (Nc ++ (Na ++ ([]))))) cqq QA ?_
 refine Qs ?_
 repeat' first | apply jS | refine Q1 ?_ | refine Q6 ?_ | apply jD
 refine Q5 pqq rfl eqq rfl (fun w hk hs => Q0l 17 8 w _ _ _ _ m cs gs d rtm ⟨_, rfl, hOa.rd.at hk hs Q4⟩ (by rw [lcs]; exact hOc.rd.at hk hs Q4) (by rw [lgs]; exact hO5.rd.at hk hs Q4) (Qh (Zj hd8 dq)) oq oq dq bdm17 bcs bgs) fun w v w' _ _ _ hR => ?_
 obtain rfl := Q79 hR (fun h => Q0v (xs := fs) (by rw [hcs]; exact Xd lfs) h)
 skip
 refine Q5 pqq rfl eqq rfl (fun w hk hs => Q7p 17 8 w _ _ _ _ m cs gs d rtm ⟨_, rfl, hOa.rd.at hk hs Q4⟩ (by rw [lcs]; exact hOc.rd.at hk hs Q4) (by rw [lgs]; exact hO5.rd.at hk hs Q4) (Qh (Zj hd8 dq)) oq oq dq bdm17 bcs bgs) fun w v w' _ _ _ hR => ?_
 obtain rfl := Q79 hR (fun h => Q0v (xs := fs) (by rw [hcs]; exact Xd lfs) h)
 repeat' first | refine Q1 ?_ | refine Q6 ?_ | refine Qo ?_ | refine Q9w (h := ?_) | fail
 refine Q5 pqq rfl eqq rfl (fun w hk hs => Q0l 17 8 w _ _ _ _ m cs gs d rtm ⟨_, rfl, hOa.rd.at hk hs Q4⟩ (by rw [lcs]; exact hOc.rd.at hk hs Q4) (by rw [lgs]; exact hO5.rd.at hk hs Q4) (Qh (Zj hd8 dq)) oq oq dq bdm17 bcs bgs) fun w v w' _ _ _ hR => ?_
 obtain rfl := Q79 hR (fun h => Q0v (xs := fs) (by rw [hcs]; exact Xd lfs) h)
 repeat' first | refine Q1 ?_ | refine Q6 ?_ | refine Qo ?_ | refine QB ?_ | fail
 refine Zf (j := 1) rfl eqq rfl rfl dq ?_
 repeat' first | refine Q1 ?_ | refine Q3 ?_ | refine Qb ?_ | refine Q6 ?_ | fail
 refine Zf (j := 1) rfl eqq rfl rfl dq ?_
 repeat' first | refine Q1 ?_ | refine Q3 ?_ | refine Qb ?_ | refine Q6 ?_ | fail
 refine Qe (A := [_, _, _]) (B := N5 ++ (Nc ++ (Na ++ ([])))) rfl pqq rfl eqq rfl (fun w hk hs => WJ w _ L2.length m.r 3 L2 (hv2.2.1.mono hk) hv2.2.2 oq dq) fun w v w' _ _ _ hR => ?_
 obtain ⟨N6, hN6, hO6⟩ := hR
 obtain ⟨B6, k6, rfl⟩ := hO6.form
 refine ⟨N6, hN6, ?_⟩
 skip
 obtain ⟨es, hes⟩ : ∃ x, x = WD L2 L2.length 3 m.r := ⟨_, rfl⟩
 have les : es.length = m.r := hes ▸ Xt _ _ _ _
 have bes : BdL 8 es := hes ▸ Wc _ _ _ _ dq
 rw [← hes] at hO6
 refine Q5 pqq rfl eqq rfl (fun w hk hs => Q0l 8 8 w _ _ _ _ m es gs d rtm ⟨_, rfl, hOa.rd.at hk hs Q4⟩ (by rw [les]; exact hO6.rd.at hk hs Q4) (by rw [lgs]; exact hO5.rd.at hk hs Q4) (Qh (Zj hd8 dq)) oq oq dq bdm8 bes bgs) fun w v w' _ _ _ hR => ?_
 obtain ⟨p, rfl, hp⟩ := hR
 skip
 refine Qe (A := [_, _, _]) (B := N6 ++ (N5 ++ (Nc ++ (Na ++ ([]))))) rfl pqq rfl eqq rfl (fun w hk hs => WJ w _ L2.length m.r 3 L2 (hv2.2.1.mono hk) hv2.2.2 oq dq) fun w v w' _ _ _ hR => ?_
 obtain ⟨N7, hN7, hO7⟩ := hR
 obtain ⟨B7, k7, rfl⟩ := hO7.form
 refine ⟨N7, hN7, ?_⟩
 skip
 rw [← hes] at hO7
 refine Q5 pqq rfl eqq rfl (fun w hk hs => Q7p 8 8 w _ _ _ _ m es gs d rtm ⟨_, rfl, hOa.rd.at hk hs Q4⟩ (by rw [les]; exact hO7.rd.at hk hs Q4) (by rw [lgs]; exact hO5.rd.at hk hs Q4) (Qh (Zj hd8 dq)) oq oq dq bdm8 bes bgs) fun w v w' _ _ _ hR => ?_
 obtain ⟨q, rfl, hq⟩ := hR
 obtain rfl := Qe2 ⟨_, rfl, hp⟩ ⟨_, rfl, hq⟩
 repeat' first | refine Q0 ?_ | refine Qo ?_ | refine Q9w (h := ?_) | apply jN
 refine Qs ?_
 repeat' first | apply jR
 exact Qk rfl (fun a w' st => ⟨st.kp, rfl⟩)

end Go.Proofs.YtljmapfihjkafaaGreatDoor

/-
 LawLatticeChecks: for every input the call of 'cocycle/cocyclelaw04.LatticeChecks' returns true, and every argument reads afterwards as it read before. Conditions: the arguments are together of bulk at most 1048576. The card.
-/
namespace Go.Proofs.YtljmapfihjkafaaGreatDoor.latticeChecks
open Go Go.RowKit Go.ChangeShapes Go.WideShapes Go.ChangeAt
set_option linter.unusedSimpArgs false
set_option linter.unusedVariables false
set_option linter.unusedSectionVars false

theorem reads (os : Os) {H : Type} (enc : TypeId × Value → H) : ∃ places, DataW.whole enc Tryz.prog ((World.laidAll Tryz.prog os Rows.latticeChecksUptoRow.laid).forCall (fun _ _ => 0) ⟨#[], #[.slice none 0 0, .agg #[.slice none 0 0, .slice none 0 0, .slice none 0 0], .int .i64 0], []⟩).memory Tryz.f10.params.toList Rows.latticeChecksSpec.vars false (#[.slice none 0 0, .agg #[.slice none 0 0, .slice none 0 0, .slice none 0 0], .int .i64 0] : Array Value).toList 8 = some ([.nil, .agg [.nil, .nil, .nil], .lit (.int .i64 0)], [], places) :=
 ⟨[], by kernel_rfl⟩
theorem okW (os : Os) : Input.okWideB Tryz.checked.prog ((World.laidAll Tryz.prog os Rows.latticeChecksUptoRow.laid).forCall (fun _ _ => 0) ⟨#[], #[.slice none 0 0, .agg #[.slice none 0 0, .slice none 0 0, .slice none 0 0], .int .i64 0], []⟩) 10 ⟨#[], #[.slice none 0 0, .agg #[.slice none 0 0, .slice none 0 0, .slice none 0 0], .int .i64 0], []⟩ = true := by kernel_rfl
set_option maxRecDepth 100000 in
theorem lifted (os : Os) (started : os.Started) (H : Type) (enc : TypeId × Value → H) (F : Stop.Interp) :
  ReturnsInHanded {} Tryz.checked os 10 .any ((Rows.OpenSpec.upto Rows.latticeChecksSpec).preRow enc Tryz.prog Tryz.f10 Rows.latticeChecksUptoRow.domain false Rows.latticeChecksUptoRow.laid) (((Rows.OpenSpec.upto Rows.latticeChecksSpec).at F).post enc Tryz.prog Tryz.f10 false true false false) := by
 obtain ⟨places, hx⟩ := reads os enc
 refine returnsInHanded_of_row (C := Tryz.checked) (s := Rows.OpenSpec.upto Rows.latticeChecksSpec) own started (by kernel_rfl) Tryz.func10
  ⟨World.laidAll Tryz.prog os Rows.latticeChecksUptoRow.laid, fun _ _ => 0, ⟨#[], #[.slice none 0 0, .agg #[.slice none 0 0, .slice none 0 0, .slice none 0 0], .int .i64 0], []⟩, World.laidAll_os _ _ _, World.shaped_of_ZipB (by kernel_rfl) (by kernel_rfl), (Input.okWide_of_okWideB (base := 0) (okW os)).1, (Input.okWide_of_okWideB (okW os)).2,
   OpenSpec.preRow_of_cond 8 hx (by kernel_rfl) (fun k hk => by cases hk; kernel_rfl) (by kernel_rfl) (by rw [MakeChecks.laidMetH_plain _ _ _ (by kernel_rfl)]; exact laidMet_laidAll _ (by kernel_rfl) (by kernel_rfl)), by
   simp only [Assume.holds]
   exact ⟨by simp, by simp, fun _ => Modest.zero, by simp, by simp⟩⟩ ?_
 intro W base args ds gs before hval0 hW _ hcond hwt0 hL _ _
 have hb : Rows.uptoBulkAll (ds ++ gs) ≤ 1048576 := of_decide_eq_true (hcond _ rfl)
 have hval : ∀ (j : Nat) t v, Tryz.f10.params[j]? = some t → args[j]? = some v → Value.okWide Tryz.prog W .any base t v := hval0
 have hW' := hW
 obtain ⟨p, q, hA0, hV, rfl, hfz, hnd⟩ := hW
 have hA : DataW.TrodAll enc Tryz.prog W 0 (fun _ => true) true Tryz.f10.params.toList args.toList ds p := hA0
 have hwt : (DataW.weightsEach Tryz.prog (Tryz.f10.params.toList ++ Rows.latticeChecksSpec.plain.varTypes Tryz.prog) (ds ++ gs)).all (· ≤ reachBytes) = true := hwt0
 have hwt1 := fun n hn => of_decide_eq_true (List.all_eq_true.1 hwt n hn)
 rw [Tryz.params10] at hA hval hwt1
 obtain ⟨v0, vs0, d0, ds0, p0, q0, hargs, rfl, rfl, h0, r0⟩ := trodAll_cons hA
 obtain ⟨v1, vs1, d1, ds1, p1, q1, rfl, rfl, rfl, h1, r1⟩ := trodAll_cons r0
 obtain ⟨v2, vs2, d2, ds2, p2, q2, rfl, rfl, rfl, h2, r2⟩ := trodAll_cons r1
 obtain ⟨rfl, rfl, rfl⟩ := trodAll_nil r2
 obtain rfl : args = #[v0, v1, v2] := by cases args; simp_all
 obtain ⟨rfl, rfl⟩ := trodVars_none hV
 simp only [Rows.uptoBulkAll, List.cons_append, List.nil_append, List.append_nil] at hb
 have k0 := h0
 have lt0 : ∀ x ∈ p0, x.block < W.heap.size := by obtain ⟨m, hm⟩ := k0; exact DataW.trod_lt m _ _ _ hm
 obtain ⟨X0, s0⟩ := Q13 (hval 0 22 v0 rfl rfl) h0
 have k1 := h1
 have lt1 : ∀ x ∈ p1, x.block < W.heap.size := by obtain ⟨m, hm⟩ := k1; exact DataW.trod_lt m _ _ _ hm
 obtain ⟨a1, b1, c1, L1, M1, K1, rfl, s1, t1, u1⟩ := Q8h (hval 1 66 v1 rfl rfl) h1
 have k2 := h2
 have lt2 : ∀ x ∈ p2, x.block < W.heap.size := by obtain ⟨m, hm⟩ := k2; exact DataW.trod_lt m _ _ _ hm
 obtain ⟨x2, rfl, rfl, rfl, wx2⟩ := open_int Tryz.underlying3 (hval 2 3 v2 rfl rfl) h2
 have s2 := Qi0 wx2
 clear hA0 hval0
 refine (Q3v W x2 v0 X0 a1 b1 c1 L1 M1 K1 s0 s1.1 (by have := s1.2; omega) t1.1 (by have := t1.2; omega) u1.1 (by have := u1.2; omega) s2).mono fun e W' he => ?_
 cases e with
 | panicked _ => exact he.elim
 | outgrown => exact he.elim
 | returned u =>
  obtain ⟨hk, rfl⟩ := he
  have bel : Below W.heap.size W W' := ⟨hk.os, hk.tape, hk.output, hk.size, fun k hk2 => hk.block k hk2 spq⟩
  exact ⟨_, rfl, _, _, _, [], _, [], hW', trodAll_mk1 (shut_bool Tryz.underlying4 _), (trodAll_cons_mk (Below.trod XJ (by kernel_rfl) (of_decide_eq_true (by kernel_rfl)) k0 bel lt0) (trodAll_cons_mk (Below.trod XJ (by kernel_rfl) (of_decide_eq_true (by kernel_rfl)) k1 bel lt1) (trodAll_cons_mk (Below.trod XJ (by kernel_rfl) (of_decide_eq_true (by kernel_rfl)) k2 bel lt2) trodAll_mk0))), rfl, bel.frame _, fun h => by cases h⟩

theorem holds : Rows.LatticeChecksUptoSaid :=
 OpenClaim.holds_of_cond 10 Tryz.f10 rfl rfl rfl rfl rfl rfl rfl ⟨rfl, rfl, rfl, rfl, rfl⟩ rfl rfl rfl rfl rfl (by kernel_rfl) Tryz.func10 (by kernel_rfl)
  (of_decide_eq_true (by kernel_rfl)) (by unfold Func.isWrapper; first | (rw [if_pos (by decide +kernel)]; kernel_rfl) | (rw [if_neg (by decide +kernel)]; exact ⟨rfl, rfl⟩))
  (fun os started H enc _ F => by rw [OpenClaim.pre_eq_preRow]; exact lifted os started H enc F)

theorem proved : Rows.LatticeChecksUptoCardSaid :=
 Claim7.holds_tied_plain_at .later [] [.data, .pinned] true (true, "2a55c8c770411d0033a71932175e8e630641c3bf870bcb95329879352daafdde") false holds (fun _ h => by cases h) (by kernel_rfl) (fun _ h => by cases h) latticeChecksUpto_row_tie rfl ⟨rfl, rfl⟩ (by kernel_rfl) rfl
  (fun f fn hf hfn => by
   obtain rfl : f = 10 := Option.some.inj ((show Tryz.prog.funcNamed "cocycle/cocyclelaw04.LatticeChecks" = some 10 by kernel_rfl).symm.trans hf) |>.symm
   obtain rfl : fn = Tryz.f10 := (Option.some.inj (Tryz.func10.symm.trans hfn)).symm
   exact ⟨by kernel_rfl, fun j t ht => by
    rw [Tryz.params10] at ht
    have hm : t ∈ [22, 66, 3] := by simpa using Array.mem_of_getElem? ht
    have hall : ([22, 66, 3].all fun u => !Tryz.prog.wantsStandIn u) = true := by kernel_rfl
    exact (show Tryz.prog.wantsStandIn t = false by simpa using List.all_eq_true.1 hall t hm)⟩)
  (by kernel_rfl)

end Go.Proofs.YtljmapfihjkafaaGreatDoor.latticeChecks

