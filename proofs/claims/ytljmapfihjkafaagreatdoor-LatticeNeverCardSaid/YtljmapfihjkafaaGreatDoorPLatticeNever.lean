import Derived.Test.YtljmapfihjkafaaGreatDoorMm
import Derived.Test.YtljmapfihjkafaaGreatDoorTie
import Derived.Test.YtljmapfihjkafaaGreatDoorCards
import Derived.Shelf.Lay
import Derived.Lay
import Derived.LaidOnce
import Derived.SevenTiedAt
/- The law LatticeNever: the walk. ROWZ -/
namespace Go.Proofs.YtljmapfihjkafaaGreatDoor
open Go Go.RowKit
set_option linter.unusedSimpArgs false
set_option linter.unusedVariables false
set_option linter.unusedSectionVars false

set_option maxHeartbeats 16000000 in
theorem Q47 (w : World) (d : Int) (v0 : Value) (X : List (List Int)) (v1 v2 v3 : Value) (L1 L2 L3 : List Int) (hv0 : IsLL w v0 X) (hv1 : IsL w v1 L1) (hv2 : IsL w v2 L2) (hv3 : IsL w v3 L3) (hd : -9223372036854775808 ≤ d ∧ d < 9223372036854775808) :
  Calls Tryz.prog 11 #[v0, .agg #[v1, v2, v3], iv d] w (Ret fun v w' => Kp [] w w' ∧ v = .bool true) := by
 obtain ⟨hXl, hXr⟩ := hv0.lens
 have hXR := hv0.rows
 obtain ⟨A1, c1, rfl⟩ := hv1.2.1.form
 obtain ⟨A2, c2, rfl⟩ := hv2.2.1.form
 obtain ⟨A3, c3, rfl⟩ := hv3.2.1.form
 refine Q9 [⟨3, 1, [0, 1, 2, 3, 5, 6, 7, 8, 10, 11, 12, 13, 4, 9, 14, 15, 16, 17], []⟩] [] spq [] Tryz.func11 rfl mixed (by kernel_rfl) Tryz.ntmps11 Tryz.results11 rfl ⟨by simp, by simp⟩ spq ?_
 simp only [toS, Qd, Qt, Qj, Qm, odAt, Qg, Qw, zipF]
 repeat' first | apply jS | apply jO | refine Q0 ?_ | refine Qx fun _ => ?_ | apply jN
 rename_i b4
 refine Qs ?_
 repeat' first | apply jS | apply jO
 refine Q5 trivial rfl rfl rfl (fun w _ _ => Q3p w) fun w v w' _ _ _ hR => ?_
 subst hR
 repeat' first | refine Q0 ?_ | apply jN
 refine JX.part (F' := [(7, .bool true), (4, .pointer (some ⟨b4, 0, none⟩)), (0, v0), (2, iv d)]) (H' := [(b4, .cells #[.slice A1 L1.length c1, .slice A2 L2.length c2, .slice A3 L3.length c3] 66)]) cqq QA ?_
 refine Qs ?_
 repeat' first | apply jS | refine Q1 ?_ | apply jO
 refine Qe (A := [_]) (B := []) rfl pqq rfl eqq rfl (fun w hk hs => Q69 w v0 X 0 (hXR.mono hk) hXl hXr) fun w v w' _ _ _ hR => ?_
 obtain ⟨m, hm⟩ : ∃ m, m = ofZ (smX X 0) := ⟨_, rfl⟩
 have rtm : RtZ m := hm ▸ Qiu X 0
 have bdm : BdZ 1 m := hm ▸ Qiv X 0
 have mr5 : m.r ≤ 5 := hm ▸ sm_r X 0
 have mc5 : m.c ≤ 5 := hm ▸ sm_c X 0
 rw [← hm] at hR
 obtain ⟨Na, hNa, Ea, rfl, hOa⟩ := hR
 obtain ⟨Aa, ca, rfl⟩ := hOa.form
 refine ⟨Na, hNa, ?_⟩
 repeat' first | refine Q2 ?_ | refine Qa fun _ => ?_ | refine Q2 ?_ | apply jN
 rename_i b8
 refine JX.part (F' := [(8, .pointer (some ⟨b8, 0, none⟩)), (7, .bool true), (4, .pointer (some ⟨b4, 0, none⟩)), (2, iv d)]) (H' := [(b8, .cells #[nv m.r, nv m.c, .slice Aa m.e.length ca] 26), (b4, .cells #[.slice A1 L1.length c1, .slice A2 L2.length c2, .slice A3 L3.length c3] 66)] ++ (Na ++ [])) cqq QA ?_
 refine Qs ?_
 repeat' first | apply jS | apply jD
 refine Zf (j := 0) rfl eqq rfl rfl dq ?_
 repeat' first | refine Q3 ?_ | refine Qb ?_ | fail
 refine Zf (j := 1) rfl eqq rfl rfl dq ?_
 repeat' first | refine Q3 ?_ | refine Qb ?_ | fail
 refine Zf (j := 2) rfl eqq rfl rfl dq ?_
 repeat' first | refine Q3 ?_ | refine Qb ?_ | fail
 refine Qe (A := [_, _]) (B := Na ++ []) rfl pqq rfl eqq rfl (fun w hk hs => WJ w _ L1.length m.c 4 L1 (hv1.2.1.mono hk) hv1.2.2 oq dq) fun w v w' _ _ _ hR => ?_
 obtain ⟨N1, hN1, hO1⟩ := hR
 obtain ⟨B1, k1, rfl⟩ := hO1.form
 refine ⟨N1, hN1, ?_⟩
 skip
 refine Qe (A := [_, _]) (B := N1 ++ (Na ++ [])) rfl pqq rfl eqq rfl (fun w hk hs => WJ w _ L2.length m.r 4 L2 (hv2.2.1.mono hk) hv2.2.2 oq dq) fun w v w' _ _ _ hR => ?_
 obtain ⟨N2, hN2, hO2⟩ := hR
 obtain ⟨B2, k2, rfl⟩ := hO2.form
 refine ⟨N2, hN2, ?_⟩
 skip
 refine Qe (A := [_, _]) (B := N2 ++ (N1 ++ (Na ++ []))) rfl pqq rfl eqq rfl (fun w hk hs => WJ w _ L3.length m.r 4 L3 (hv3.2.1.mono hk) hv3.2.2 oq dq) fun w v w' _ _ _ hR => ?_
 obtain ⟨N3, hN3, hO3⟩ := hR
 obtain ⟨B3, k3, rfl⟩ := hO3.form
 refine ⟨N3, hN3, ?_⟩
 repeat' first | refine Q0 ?_ | apply jN
 obtain ⟨xs, hxs⟩ : ∃ x, x = WD L1 L1.length 4 m.c := ⟨_, rfl⟩
 have lx : xs.length = m.c := hxs ▸ Xt _ _ _ _
 have bx : BdL 8 xs := hxs ▸ Wc _ _ _ _ dq
 rw [← hxs] at hO1
 obtain ⟨ys, hys⟩ : ∃ x, x = WD L2 L2.length 4 m.r := ⟨_, rfl⟩
 have ly : ys.length = m.r := hys ▸ Xt _ _ _ _
 have by' : BdL 8 ys := hys ▸ Wc _ _ _ _ dq
 rw [← hys] at hO2
 obtain ⟨bs, hbs⟩ : ∃ x, x = WD L3 L3.length 4 m.r := ⟨_, rfl⟩
 have lb : bs.length = m.r := hbs ▸ Xt _ _ _ _
 have bb : BdL 8 bs := hbs ▸ Wc _ _ _ _ dq
 rw [← hbs] at hO3
 have bdm3 : BdZ 8 m := bdm.mono dq
 refine JX.part (F' := [(11, .slice B3 m.r k3), (10, .slice B2 m.r k2), (9, .slice B1 m.c k1), (8, .pointer (some ⟨b8, 0, none⟩)), (7, .bool true), (2, iv d)]) (H' := [(b8, .cells #[nv m.r, nv m.c, .slice Aa m.e.length ca] 26)] ++ (N3 ++ (N2 ++ (N1 ++ (Na ++ []))))) cqq QA ?_
 refine Qs ?_
 repeat' first | apply jS | refine Q1 ?_ | refine Q6 ?_ | apply jO
 refine Qe (A := [_]) (B := N3 ++ (N2 ++ (N1 ++ (Na ++ [])))) rfl pqq rfl eqq rfl (fun w hk hs => Q52 1 8 w _ _ m xs rtm oq lx.symm dq bdm bx ⟨_, rfl, hOa.rd.at hk hs Q4⟩ (by rw [lx]; exact hO1.rd.at hk hs Q4)) fun w v w' _ _ _ hR => ?_
 obtain ⟨Nc, Ec, hNc, rfl, hOc⟩ := hR
 rw [Q3e] at hOc
 obtain ⟨cs, hcs⟩ : ∃ x, x = appL m xs := ⟨_, rfl⟩
 have lc : cs.length = m.r := hcs ▸ YN _ _
 have bc : BdL (8 + 8 + 1) cs := by rw [hcs]; exact Q3y rtm bdm3 bx
 rw [← hcs, lc] at hOc
 obtain ⟨Ac, cc, rfl⟩ := hOc.form
 refine ⟨Nc, hNc, ?_⟩
 repeat' first | refine Q1 ?_ | refine Q0 ?_ | refine Qr (h := ?_) | apply jN
 refine JX.part (F' := [(12, .slice Ac m.r cc), (11, .slice B3 m.r k3), (10, .slice B2 m.r k2), (9, .slice B1 m.c k1), (8, .pointer (some ⟨b8, 0, none⟩)), (7, .bool true), (2, iv d)]) (H' := [(b8, .cells #[nv m.r, nv m.c, .slice Aa m.e.length ca] 26)] ++ (Nc ++ (N3 ++ (N2 ++ (N1 ++ (Na ++ [])))))) cqq QA ?_
 refine Qs ?_
 repeat' first | apply jS | refine Q1 ?_ | apply jO
 refine Q5 pqq rfl eqq rfl (fun w _ _ => YH w d hd.1 hd.2) fun w v w' _ _ _ hR => ?_
 subst hR
 repeat' first | refine Q2 ?_ | refine Qa fun _ => ?_ | refine Q2 ?_ | apply jN
 rename_i bw
 refine JX.part (F' := [(14, .pointer (some ⟨bw, 0, none⟩)), (12, .slice Ac m.r cc), (11, .slice B3 m.r k3), (10, .slice B2 m.r k2), (9, .slice B1 m.c k1), (8, .pointer (some ⟨b8, 0, none⟩)), (7, .bool true)]) (H' := [(bw, .cells #[.bool (decide (d < 0)), sv (magU d.natAbs)] 35), (b8, .cells #[nv m.r, nv m.c, .slice Aa m.e.length ca] 26)] ++ (Nc ++ (N3 ++ (N2 ++ (N1 ++ (Na ++ [])))))) cqq QA ?_
 refine Qs ?_
 have hd8 : d.natAbs < 256 ^ 8 := by omega
 have bc17 : BdL 17 cs := bc
 have bx17 : BdL 17 xs := fun i => Zj (bx i) dq
 have bdm17 : BdZ 17 m := bdm.mono dq
 repeat' first | apply jS | refine Q1 ?_ | refine Q6 ?_ | apply jO
 refine Q5 pqq rfl eqq rfl (fun w hk hs => Q7q 8 8 w _ _ _ m xs bs rtm ⟨_, rfl, hOa.rd.at hk hs Q4⟩ (by rw [lx]; exact hO1.rd.at hk hs Q4) (by rw [lb]; exact hO3.rd.at hk hs Q4) oq oq dq bdm3 bx bb) fun w v w' _ _ _ hR => ?_
 obtain ⟨p1, rfl, hp1⟩ := hR
 cases p1 with
 | true =>
  repeat' first | refine Q1 ?_ | refine Q6 ?_ | fail
  refine Q5 pqq rfl eqq rfl (fun w hk hs => Q0l 8 8 w _ _ _ _ m bs ys d rtm ⟨_, rfl, hOa.rd.at hk hs Q4⟩ (by rw [lb]; exact hO3.rd.at hk hs Q4) (by rw [ly]; exact hO2.rd.at hk hs Q4) (Qh (Zj hd8 dq)) oq oq dq bdm3 bb by') fun w v w' _ _ _ hR => ?_
  obtain rfl := Q79 hR (fun h => Q0v (hp1.1 rfl) h)
  repeat' first | refine Q1 ?_ | refine Q6 ?_ | refine Qo ?_ | refine QB ?_ | fail
  refine Q5 pqq rfl eqq rfl (fun w hk hs => Q7q 8 17 w _ _ _ m xs cs rtm ⟨_, rfl, hOa.rd.at hk hs Q4⟩ (by rw [lx]; exact hO1.rd.at hk hs Q4) (by rw [lc]; exact hOc.rd.at hk hs Q4) oq oq dq bdm3 bx17 bc17) fun w v w' _ _ _ hR => ?_
  obtain rfl := Q44 hR (by rw [hcs]; exact Xd lx)
  repeat' first | refine Q1 ?_ | refine Q6 ?_ | refine Qo ?_ | fail
  refine Q5 pqq rfl eqq rfl (fun w hk hs => Q0l 17 8 w _ _ _ _ m cs ys d rtm ⟨_, rfl, hOa.rd.at hk hs Q4⟩ (by rw [lc]; exact hOc.rd.at hk hs Q4) (by rw [ly]; exact hO2.rd.at hk hs Q4) (Qh (Zj hd8 dq)) oq oq dq bdm17 bc17 by') fun w v w' _ _ _ hR => ?_
  obtain rfl := Q79 hR (fun h => Q0v (xs := xs) (by rw [hcs]; exact Xd lx) h)
  repeat' first | refine Q0 ?_ | refine Qo ?_ | refine QB ?_ | apply jN
  refine Qs ?_
  repeat' first | apply jR
  exact Qk rfl (fun a w' st => ⟨st.kp, rfl⟩)
 | false =>
  repeat' first | refine Q1 ?_ | refine Q6 ?_ | refine Qo ?_ | refine Qp ?_ | refine QB ?_ | refine QM (h := ?_) | fail
  refine Q5 pqq rfl eqq rfl (fun w hk hs => Q7q 8 17 w _ _ _ m xs cs rtm ⟨_, rfl, hOa.rd.at hk hs Q4⟩ (by rw [lx]; exact hO1.rd.at hk hs Q4) (by rw [lc]; exact hOc.rd.at hk hs Q4) oq oq dq bdm3 bx17 bc17) fun w v w' _ _ _ hR => ?_
  obtain rfl := Q44 hR (by rw [hcs]; exact Xd lx)
  repeat' first | refine Q1 ?_ | refine Q6 ?_ | refine Qo ?_ | fail
  refine Q5 pqq rfl eqq rfl (fun w hk hs => Q0l 17 8 w _ _ _ _ m cs ys d rtm ⟨_, rfl, hOa.rd.at hk hs Q4⟩ (by rw [lc]; exact hOc.rd.at hk hs Q4) (by rw [ly]; exact hO2.rd.at hk hs Q4) (Qh (Zj hd8 dq)) oq oq dq bdm17 bc17 by') fun w v w' _ _ _ hR => ?_
  obtain rfl := Q79 hR (fun h => Q0v (xs := xs) (by rw [hcs]; exact Xd lx) h)
  repeat' first | refine Q0 ?_ | refine Qo ?_ | refine QB ?_ | apply jN
  refine Qs ?_
  repeat' first | apply jR
  exact Qk rfl (fun a w' st => ⟨st.kp, rfl⟩)

end Go.Proofs.YtljmapfihjkafaaGreatDoor

/-
 LawLatticeNever: for every input the call of 'cocycle/cocyclelaw04.LatticeNever' returns true, and every argument reads afterwards as it read before. Conditions: none. The card.
-/
namespace Go.Proofs.YtljmapfihjkafaaGreatDoor.latticeNever
open Go Go.RowKit Go.ChangeShapes Go.WideShapes Go.ChangeAt
set_option linter.unusedSimpArgs false
set_option linter.unusedVariables false
set_option linter.unusedSectionVars false

set_option maxRecDepth 100000 in
theorem lifted (os : Os) (started : os.Started) (H : Type) (enc : TypeId × Value → H) :
  ReturnsInHanded {} Tryz.checked os 11 .any (fun w args => (Rows.latticeNeverSpec.pre enc Tryz.prog Tryz.f11 [] false w args ∧ laidMetH Tryz.prog Rows.latticeNeverRow.laid w) ∧ sizedMet enc Tryz.prog Tryz.f11 (OpenSpec.ofChange Rows.latticeNeverSpec) false w args)
   (Rows.latticeNeverSpec.post enc Tryz.prog Tryz.f11 false true false false) := by
 refine returnsInHanded_of_change_and (C := Tryz.checked) (X := fun w _ => laidMetH Tryz.prog Rows.latticeNeverRow.laid w) (fun _ _ _ hh h => h.of_heap hh) own started (by kernel_rfl) Tryz.func11
  (ChangeSpec.witness_shaped (enc := enc) (C := Tryz.checked) (os := os) (X := fun w _ => laidMetH Tryz.prog Rows.latticeNeverRow.laid w) false (World.laidAll Tryz.prog os Rows.latticeNeverRow.laid) #[.slice none 0 0, .agg #[.slice none 0 0, .slice none 0 0, .slice none 0 0], .int .i64 0] 8 (World.laidAll_os _ _ _)
   (World.shaped_of_ZipB (by kernel_rfl) (by kernel_rfl)) (by kernel_rfl) (by kernel_rfl) (by kernel_rfl)
   (by rw [MakeChecks.laidMetH_plain _ _ _ (by kernel_rfl)]; exact laidMet_laidAll _ (by kernel_rfl) (by kernel_rfl))) ?_
 intro W base args ds gs before hval0 hW _ hwt0 hL _
 have hval : ∀ (j : Nat) t v, Tryz.f11.params[j]? = some t → args[j]? = some v → Value.okWide Tryz.prog W .any base t v := hval0
 have hW' := hW
 obtain ⟨p, q, hA0, hV, rfl, hfz, hnd⟩ := hW
 have hA : DataW.TrodAll enc Tryz.prog W 0 (fun _ => true) true Tryz.f11.params.toList args.toList ds p := hA0
 have hwt : (DataW.weightsEach Tryz.prog (Tryz.f11.params.toList ++ Rows.latticeNeverSpec.plain.varTypes Tryz.prog) (ds ++ gs)).all (· ≤ reachBytes) = true := hwt0
 have hwt1 := fun n hn => of_decide_eq_true (List.all_eq_true.1 hwt n hn)
 rw [Tryz.params11] at hA hval hwt1
 obtain ⟨v0, vs0, d0, ds0, p0, q0, hargs, rfl, rfl, h0, r0⟩ := trodAll_cons hA
 obtain ⟨v1, vs1, d1, ds1, p1, q1, rfl, rfl, rfl, h1, r1⟩ := trodAll_cons r0
 obtain ⟨v2, vs2, d2, ds2, p2, q2, rfl, rfl, rfl, h2, r2⟩ := trodAll_cons r1
 obtain ⟨rfl, rfl, rfl⟩ := trodAll_nil r2
 obtain rfl : args = #[v0, v1, v2] := by cases args; simp_all
 obtain ⟨rfl, rfl⟩ := trodVars_none hV
 have k0 := h0
 have lt0 : ∀ x ∈ p0, x.block < W.heap.size := by obtain ⟨m, hm⟩ := k0; exact DataW.trod_lt m _ _ _ hm
 obtain ⟨X0, s0⟩ := Q13 (hval 0 22 v0 rfl rfl) h0
 have k1 := h1
 have lt1 : ∀ x ∈ p1, x.block < W.heap.size := by obtain ⟨m, hm⟩ := k1; exact DataW.trod_lt m _ _ _ hm
 obtain ⟨a1, b1, c1, L1, M1, K1, rfl, s1, t1, u1⟩ := Qbg (hval 1 66 v1 rfl rfl) h1
 have k2 := h2
 have lt2 : ∀ x ∈ p2, x.block < W.heap.size := by obtain ⟨m, hm⟩ := k2; exact DataW.trod_lt m _ _ _ hm
 obtain ⟨x2, rfl, rfl, rfl, wx2⟩ := open_int Tryz.underlying3 (hval 2 3 v2 rfl rfl) h2
 have s2 := Qi0 wx2
 clear hA0 hval0
 refine (Q47 W x2 v0 X0 a1 b1 c1 L1 M1 K1 s0 s1 t1 u1 s2).mono fun e W' he => ?_
 cases e with
 | panicked _ => exact he.elim
 | outgrown => exact he.elim
 | returned u =>
  obtain ⟨hk, rfl⟩ := he
  have bel : Below W.heap.size W W' := ⟨hk.os, hk.tape, hk.output, hk.size, fun k hk2 => hk.block k hk2 spq⟩
  exact ⟨_, rfl, _, _, _, [], _, [], hW', trodAll_mk1 (shut_bool Tryz.underlying4 _), (trodAll_cons_mk (Below.trod XJ (by kernel_rfl) (of_decide_eq_true (by kernel_rfl)) k0 bel lt0) (trodAll_cons_mk (Below.trod XJ (by kernel_rfl) (of_decide_eq_true (by kernel_rfl)) k1 bel lt1) (trodAll_cons_mk (Below.trod XJ (by kernel_rfl) (of_decide_eq_true (by kernel_rfl)) k2 bel lt2) trodAll_mk0))), rfl, bel.frame _, fun h => by cases h⟩

theorem holds : Rows.LatticeNeverSaid :=
 OpenClaim.holds_of_wide 11 Tryz.f11 rfl rfl rfl rfl rfl rfl rfl ⟨rfl, rfl, rfl, rfl, rfl⟩ rfl rfl rfl rfl rfl (by kernel_rfl) Tryz.func11 (by kernel_rfl)
  (of_decide_eq_true (by kernel_rfl)) (by unfold Func.isWrapper; first | (rw [if_pos (by decide +kernel)]; kernel_rfl) | (rw [if_neg (by decide +kernel)]; exact ⟨rfl, rfl⟩))
  (fun os started H enc _ => lifted os started H enc)

theorem proved : Rows.LatticeNeverCardSaid :=
 Claim7.holds_tied_plain_at .later [] [.data, .pinned] true (true, "2a55c8c770411d0033a71932175e8e630641c3bf870bcb95329879352daafdde") false holds (fun _ h => by cases h) (by kernel_rfl) (fun _ h => by cases h) latticeNever_row_tie rfl ⟨rfl, rfl⟩ (by kernel_rfl) rfl
  (fun f fn hf hfn => by
   obtain rfl : f = 11 := Option.some.inj ((show Tryz.prog.funcNamed "cocycle/cocyclelaw04.LatticeNever" = some 11 by kernel_rfl).symm.trans hf) |>.symm
   obtain rfl : fn = Tryz.f11 := (Option.some.inj (Tryz.func11.symm.trans hfn)).symm
   exact ⟨by kernel_rfl, fun j t ht => by
    rw [Tryz.params11] at ht
    have hm : t ∈ [22, 66, 3] := by simpa using Array.mem_of_getElem? ht
    have hall : ([22, 66, 3].all fun u => !Tryz.prog.wantsStandIn u) = true := by kernel_rfl
    exact (show Tryz.prog.wantsStandIn t = false by simpa using List.all_eq_true.1 hall t hm)⟩)
  (by kernel_rfl)

end Go.Proofs.YtljmapfihjkafaaGreatDoor.latticeNever

