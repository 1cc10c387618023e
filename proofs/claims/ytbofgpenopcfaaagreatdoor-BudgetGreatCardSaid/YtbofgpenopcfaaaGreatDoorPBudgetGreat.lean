import Derived.Test.YtbofgpenopcfaaaGreatDoorMn
import Derived.Test.YtbofgpenopcfaaaGreatDoorTie
import Derived.Test.YtbofgpenopcfaaaGreatDoorCards
import Derived.Shelf.Lay
import Derived.Lay
import Derived.LaidOnce
import Derived.SevenTiedAt
import Derived.Deep.DeepHandedRow
/- The law BudgetGreat. ROWZ ROWT SMITH -/
namespace Go.Proofs.YtbofgpenopcfaaaGreatDoor
open Go Go.RowKit
set_option linter.unusedSimpArgs false
set_option linter.unusedVariables false
set_option linter.unusedSectionVars false

set_option maxHeartbeats 16000000 in
theorem Q4w (w : World) (hmax : MaxL w) (v0 : Value) (R0 C0 : Nat) (L0 : List Int) (q : Nat) (hv0 : IsS w v0 R0 C0 L0) (hq : q < 256) :
  Calls Tryz.prog 7 #[v0, .int .u8 (q : Int)] w (Ret fun v w' => Kp [] w w' ∧ v = .bool true) := by
 have hmax0 := hmax
 have hs0 := hv0
 have hL0 := hv0.2.2.1
 obtain ⟨_, _, _, E0, rfl, _⟩ := hv0
 refine Q8 [] [] spq [] Tryz.func7 rfl mixed (by kernel_rfl) Tryz.ntmps7 Tryz.results7 rfl ⟨by simp, by simp⟩ spq ?_
 simp only [toS, Qc, Qt, Qk, Qo, odAt, Qf, Qv, zipF]
 repeat' first | apply jS | apply jO | refine Q0 ?_ | refine QJ (h := fun _ => ?_) | apply jN
 rename_i bs0
 refine Z7 ?_
 repeat' first | apply jS | apply jO
 refine Qb trivial rfl rfl rfl (fun w hk _ => Q9d w (hmax0.mono hk)) fun w v w' _ _ _ hR => ?_
 subst hR
 repeat' first | refine Q0 ?_ | apply jN
 refine JX.part (F' := [(5, .bool true), (2, .pointer (some ⟨bs0, 0, none⟩)), (1, .int .u8 (q : Int))]) (H' := [(bs0, .cells #[.int .u8 (R0 : Int), .int .u8 (C0 : Int), E0] 24)]) cqq (HSub.refl _) ?_
 refine Z7 ?_
 have hr4 : R0 % 4 < 4 := Nat.mod_lt _ dq
 have hc4 : C0 % 4 < 4 := Nat.mod_lt _ dq
 have hq4 : q % 40 < 40 := Nat.mod_lt _ dq
 repeat' first | apply jS | refine Q2 ?_ | refine Q7 ?_ | refine Ql ?_ | apply jO
 refine Q7l (i := R0) 4 rfl rfl rfl rfl oq ?_
 repeat' first | refine Q2 ?_ | refine Q7 ?_ | refine Wg (h := ?_) | fail
 refine Q7l (i := C0) 4 rfl rfl rfl rfl oq ?_
 repeat' first | refine Wg (h := ?_) | fail
 refine Qn (A := [_]) (B := []) rfl pqq rfl eqq rfl (fun w hk hs => Qkw w _ R0 C0 (R0 % 4) (C0 % 4) L0 (hs0.mono hk) oq oq) fun w v w' _ _ _ hR => ?_
 obtain ⟨ma, hma⟩ : ∃ m, m = shZ L0 (R0 % 4) (C0 % 4) := ⟨_, rfl⟩
 have rta : RtZ ma := by rw [hma]; exact Qgd _ oq oq
 have her : ma.r < 4 := by rw [hma]; exact hr4
 have hec : ma.c < 4 := by rw [hma]; exact hc4
 have hbd : ∀ i j, i < ma.r → j < ma.c → (gE (Y3 ma) i j).natAbs < 256 ^ 8 := by
  rw [hma]
  exact fun i j hi hj => Qdf hL0 i j hi hj oq oq
 have hrec := Q0g rta
 have hD0 := Q79 hrec
 have hOk := Qdb (k := 39) dq hrec hbd Qi4 Qi5
 rw [← hma] at hR
 clear hma hr4 hc4
 obtain ⟨Na, hNa, Ea, rfl, hOa⟩ := hR
 obtain ⟨Aa, ca, rfl⟩ := hOa.form
 refine ⟨Na, hNa, ?_⟩
 repeat' first | refine Q3 ?_ | refine Qg fun _ => ?_ | refine Q3 ?_ | apply jN
 rename_i ba
 refine JX.part (F' := [(6, .pointer (some ⟨ba, 0, none⟩)), (5, .bool true), (1, .int .u8 (q : Int))]) (H' := [(ba, .cells #[nv ma.r, nv ma.c, .slice Aa ma.e.length ca] 28)] ++ (Na ++ ([]))) cqq QG ?_
 refine Z7 ?_
 repeat' first | apply jS | refine Ql ?_ | apply jO
 refine Qn (A := [_]) (B := Na ++ []) rfl pqq rfl eqq rfl (fun w hk hs => Qg7 w _ ma rta ⟨_, rfl, hOa.rd.at hk hs Q9⟩) fun w v w' _ _ _ hR => ?_
 obtain ⟨b, W0, T0, rfl, hN, hW0⟩ := hR
 refine ⟨_, hN, ?_⟩
 clear hN hNa
 repeat' first | refine Q0 ?_ | apply jN
 refine JX.part (F' := [(7, .pointer (some ⟨b, 0, none⟩)), (6, .pointer (some ⟨ba, 0, none⟩)), (5, .bool true), (1, .int .u8 (q : Int))]) (H' := [(ba, .cells #[nv ma.r, nv ma.c, .slice Aa ma.e.length ca] 28)] ++ (jgH b W0 ma.r ma.c (0 : Nat) (0 : Nat) T0 ++ (Na ++ []))) cqq (HSub.refl _) ?_
 refine Z7 ?_
 repeat' first | apply jS | refine Ql ?_ | apply jO
 refine Qn (A := [_]) (B := jgH b W0 ma.r ma.c (0 : Nat) (0 : Nat) T0 ++ (Na ++ [])) rfl pqq rfl eqq rfl (fun w hk hs => Qiz w _ ma (Y3 ma) rta ⟨_, rfl, hOa.rd.at hk hs Q9⟩ (Qdk rta)) fun w v w' _ _ _ hR => ?_
 obtain ⟨b', J0, rfl, hN, hJ0⟩ := hR
 refine ⟨_, hN, ?_⟩
 clear hN
 repeat' first | refine Q0 ?_ | apply jN
 refine JX.part (F' := [(8, .pointer (some ⟨b', 0, none⟩)), (7, .pointer (some ⟨b, 0, none⟩)), (5, .bool true), (1, .int .u8 (q : Int))]) (H' := jbH b' J0 ma.r ma.c (0 : Nat) (0 : Nat) ++ (jgH b W0 ma.r ma.c (0 : Nat) (0 : Nat) T0 ++ [])) cqq (by rw [List.append_nil]; exact HSub.skip (Q6c HSub.in0)) ?_
 refine Z7 ?_
 clear hOa
 generalize XP ma.r ma.c (Y3 ma) = S0 at *
 generalize ma.r = m0 at *
 generalize ma.c = n0 at *
 obtain ⟨S1, t1, k1, hrun⟩ : ∃ S1 t1 k1, runB m0 n0 (q % 40) 0 S0 = (S1, t1, k1) := ⟨_, _, _, rfl⟩
 obtain ⟨hD1, htm, htn⟩ := Qfm (q % 40) 0 S0 hD0 (Nat.zero_le _) (Nat.zero_le _)
 have hk1 := Q6k (m := m0) (n := n0) (q % 40) 0 S0
 have hOk1 := hOk (q % 40) oq
 have hOkr : ∀ j, j ≤ (runB m0 n0 (q % 40) 0 S0).2.2 → Ok 21000000 (runB m0 n0 j 0 S0).1 := fun j hj => hOk j oq
 rw [hrun] at hD1 htm htn hk1 hOk1
 dsimp only at hD1 htm htn hk1 hOk1
 repeat' first | apply jS | refine Q1 ?_ | apply jO
 refine Qk6 (by kernel_rfl) rfl rfl rfl rfl ?_
 repeat' first | refine Q1 ?_ | refine Qw (h := ?_) | fail
 refine Q7l (i := q) 40 rfl rfl rfl rfl oq ?_
 repeat' first | refine Wg (h := ?_) | fail
 refine YS (A := jbH b' J0 m0 n0 (0 : Nat) (0 : Nat)) (N := jgH b W0 m0 n0 (0 : Nat) (0 : Nat) T0) (B := []) (R := fun w v w' => JgR b W0 m0 n0 (0 : Nat) (0 : Nat) T0 (t1 : Nat) (k1 : Nat) S1 w w' ∧ v = iv (if (Qu S1 t1 m0 n0).2.2 = true then 60 else 0)) rfl pqq rfl eqq rfl (fun w _ hs => by
  have h := Qg6 21000000 w b W0 m0 n0 0 0 (q % 40) T0 S0 hW0 hD0 (HSub.hsat (Qj HSub.in0) hs) oq oq oq oq dq dq oq hOkr
  rw [hrun, Nat.zero_add] at h
  exact Za h fun v w' h => ⟨h.1.1, h⟩) (fun w1 v1 w2 _ _ _ hR => ?_)
 obtain ⟨⟨_, W1, T1, hk, hin, hW1, _⟩, rfl⟩ := hR
 refine ⟨jgH b W1 m0 n0 (t1 : Nat) (k1 : Nat) T1, hk, hin, ?_⟩
 clear hk hin
 repeat' first | refine Q1 ?_ | fail
 refine Q7l (i := q) 40 rfl rfl rfl rfl oq ?_
 repeat' first | refine Wg (h := ?_) | fail
 refine YS (A := []) (N := jbH b' J0 m0 n0 (0 : Nat) (0 : Nat)) (B := jgH b W1 m0 n0 (t1 : Nat) (k1 : Nat) T1 ++ []) (R := fun w v w' => JbR b' J0 m0 n0 (0 : Nat) (0 : Nat) (t1 : Nat) (k1 : Nat) S1 w w' ∧ v = iv (if (Qu S1 t1 m0 n0).2.2 = true then 60 else 0)) rfl pqq rfl eqq rfl (fun w _ hs => by
  have h := Qiw 21000000 w b' J0 m0 n0 0 0 (q % 40) S0 hJ0 hD0 (HSub.hsat HSub.in0 hs) oq oq oq oq dq oq hOkr
  rw [hrun, Nat.zero_add] at h
  exact Za h fun v w' h => ⟨h.1.1, h⟩) (fun w1 v1 w2 _ _ _ hR => ?_)
 obtain ⟨⟨_, J1, hk, hin, hJ1, _⟩, rfl⟩ := hR
 refine ⟨jbH b' J1 m0 n0 (t1 : Nat) (k1 : Nat), by rw [hk], hin, ?_⟩
 clear hk hin
 generalize (if (Qu S1 t1 m0 n0).2.2 = true then (60 : Int) else 0) = e
 repeat' first | refine Q1 ?_ | refine Qw (h := ?_) | (refine Zk (h1 := ?_) (h2 := ?_) <;> intro hc <;> try (exfalso; omega)) | fail
 refine Qb pqq rfl eqq rfl (fun w _ hs => Qey 21000000 w b b' W1 T1 J1 m0 n0 t1 k1 S1 hW1 hJ1 hD1 hs oq oq htm htn oq dq dq hOk1) fun w v w' _ _ _ hR => ?_
 subst hR
 repeat' first | refine Q0 ?_ | refine Qw (h := ?_) | apply jN
 refine JX.part (F' := [(4, .bool true)]) (H' := []) cqq (HSub.nil _) ?_
 refine Z7 ?_
 repeat' first | apply jR
 exact Qi rfl (fun a w' st => ⟨st.kp, rfl⟩)
end Go.Proofs.YtbofgpenopcfaaaGreatDoor

/-
 LawBudgetGreat: for every input the call of 'cocycle/cocyclelaw26.BudgetGreat' returns true, and every argument reads afterwards as it read before. Conditions: none. The card.
-/
namespace Go.Proofs.YtbofgpenopcfaaaGreatDoor.budgetGreat
open Go Go.RowKit Go.ChangeShapes Go.WideShapes Go.ChangeAt
set_option linter.unusedSimpArgs false
set_option linter.unusedVariables false
set_option linter.unusedSectionVars false

theorem reads (os : Os) {H : Type} (enc : TypeId × Value → H) : ∃ places, DataW.whole enc Tryz.prog ((World.laidAll Tryz.prog os Rows.budgetGreatRow.laid).forCall (fun _ _ => 0) ⟨#[], #[.agg #[.int .u8 0, .int .u8 0, .slice none 0 0], .int .u8 0], []⟩).memory Tryz.f7.params.toList Rows.budgetGreatSpec.vars false (#[.agg #[.int .u8 0, .int .u8 0, .slice none 0 0], .int .u8 0] : Array Value).toList 8 = some ([.agg [.lit (.int .u8 0), .lit (.int .u8 0), .nil], .lit (.int .u8 0)], [], places) :=
 ⟨[], by kernel_rfl⟩
theorem okW (os : Os) : Input.okWideB Tryz.checked.prog ((World.laidAll Tryz.prog os Rows.budgetGreatRow.laid).forCall (fun _ _ => 0) ⟨#[], #[.agg #[.int .u8 0, .int .u8 0, .slice none 0 0], .int .u8 0], []⟩) 7 ⟨#[], #[.agg #[.int .u8 0, .int .u8 0, .slice none 0 0], .int .u8 0], []⟩ = true := by kernel_rfl
set_option maxRecDepth 100000 in
theorem lifted (os : Os) (started : os.Started) (H : Type) (enc : TypeId × Value → H) (F : Stop.Interp) :
  ReturnsInHanded {} Tryz.checked os 7 .any ((OpenSpec.ofChange Rows.budgetGreatSpec).preRow enc Tryz.prog Tryz.f7 Rows.budgetGreatRow.domain false Rows.budgetGreatRow.laid) (((OpenSpec.ofChange Rows.budgetGreatSpec).at F).post enc Tryz.prog Tryz.f7 false true false false) := by
 obtain ⟨places, hx⟩ := reads os enc
 refine returnsInHanded_of_row (C := Tryz.checked) (s := OpenSpec.ofChange Rows.budgetGreatSpec) own started (by kernel_rfl) Tryz.func7
  ⟨World.laidAll Tryz.prog os Rows.budgetGreatRow.laid, fun _ _ => 0, ⟨#[], #[.agg #[.int .u8 0, .int .u8 0, .slice none 0 0], .int .u8 0], []⟩, World.laidAll_os _ _ _, World.shaped_of_ZipB (by kernel_rfl) (by kernel_rfl), (Input.okWide_of_okWideB (base := 0) (okW os)).1, (Input.okWide_of_okWideB (okW os)).2,
   OpenSpec.preRow_of_cond 8 hx (by kernel_rfl) (fun k hk => by cases hk) (by kernel_rfl) (by rw [MakeChecks.laidMetH_plain _ _ _ (by kernel_rfl)]; exact laidMet_laidAll _ (by kernel_rfl) (by kernel_rfl)), by
   simp only [Assume.holds]
   exact ⟨by simp, by simp, fun _ => Modest.zero, by simp, by simp⟩⟩ ?_
 intro W base args ds gs before hval0 hW _ hcond hwt0 hL hsh _
 have hval : ∀ (j : Nat) t v, Tryz.f7.params[j]? = some t → args[j]? = some v → Value.okWide Tryz.prog W .any base t v := hval0
 have hW' := hW
 obtain ⟨p, q, hA0, hV, rfl, hfz, hnd⟩ := hW
 have hA : DataW.TrodAll enc Tryz.prog W 0 (fun _ => true) true Tryz.f7.params.toList args.toList ds p := hA0
 have hwt : (DataW.weightsEach Tryz.prog (Tryz.f7.params.toList ++ Rows.budgetGreatSpec.plain.varTypes Tryz.prog) (ds ++ gs)).all (· ≤ reachBytes) = true := hwt0
 have hwt1 := fun n hn => of_decide_eq_true (List.all_eq_true.1 hwt n hn)
 rw [Tryz.params7] at hA hval hwt1
 obtain ⟨v0, vs0, d0, ds0, p0, q0, hargs, rfl, rfl, h0, r0⟩ := trodAll_cons hA
 obtain ⟨v1, vs1, d1, ds1, p1, q1, rfl, rfl, rfl, h1, r1⟩ := trodAll_cons r0
 obtain ⟨rfl, rfl, rfl⟩ := trodAll_nil r1
 obtain rfl : args = #[v0, v1] := by cases args; simp_all
 obtain ⟨rfl, rfl⟩ := trodVars_none hV
 have k0 := h0
 have lt0 : ∀ x ∈ p0, x.block < W.heap.size := by obtain ⟨m, hm⟩ := k0; exact DataW.trod_lt m _ _ _ hm
 obtain ⟨R0, C0, L0, s0⟩ := Q95 (hval 0 24 v0 rfl rfl) h0
 have k1 := h1
 have lt1 : ∀ x ∈ p1, x.block < W.heap.size := by obtain ⟨m, hm⟩ := k1; exact DataW.trod_lt m _ _ _ hm
 obtain ⟨q1, rfl, s1⟩ := Qhh (hval 1 5 v1 rfl rfl) h1
 clear hA0 hval0
 refine (Q4w W (Qhr hsh) v0 R0 C0 L0 q1 s0 s1).mono fun e W' he => ?_
 cases e with
 | panicked _ => exact he.elim
 | outgrown => exact he.elim
 | returned u =>
  obtain ⟨hk, rfl⟩ := he
  have bel : Below W.heap.size W W' := ⟨hk.os, hk.tape, hk.output, hk.size, fun k hk2 => hk.block k hk2 spq⟩
  exact ⟨_, rfl, _, _, _, [], _, [], hW', trodAll_mk1 (shut_bool Tryz.underlying4 _), (trodAll_cons_mk (Below.trod Qbh (by kernel_rfl) (of_decide_eq_true (by kernel_rfl)) k0 bel lt0) (trodAll_cons_mk (Below.trod Qbh (by kernel_rfl) (of_decide_eq_true (by kernel_rfl)) k1 bel lt1) trodAll_mk0)), rfl, bel.frame _, fun h => by cases h⟩

theorem holds : Rows.BudgetGreatSaid :=
 OpenClaim.holds_of_cond 7 Tryz.f7 rfl rfl rfl rfl rfl rfl rfl ⟨rfl, rfl, rfl, rfl, rfl⟩ rfl rfl rfl rfl rfl (by kernel_rfl) Tryz.func7 (by kernel_rfl)
  (of_decide_eq_true (by kernel_rfl)) (by unfold Func.isWrapper; first | (rw [if_pos (by decide +kernel)]; kernel_rfl) | (rw [if_neg (by decide +kernel)]; exact ⟨rfl, rfl⟩))
  (fun os started H enc _ F => by rw [OpenClaim.pre_eq_preRow]; exact lifted os started H enc F)

theorem proved : Rows.BudgetGreatCardSaid :=
 Claim7.holds_tied_plain_at .later [] [.data, .data, .data, .data, .pinned] true (true, "4eee24e68e9da2f3535c5523be67926112959e5e11c21b25d64df063dc7a57d9") false holds (fun _ h => by cases h) (by kernel_rfl) (fun _ h => by cases h) budgetGreat_row_tie rfl ⟨rfl, rfl⟩ (by kernel_rfl) rfl
  (fun f fn hf hfn => by
   obtain rfl : f = 7 := Option.some.inj ((show Tryz.prog.funcNamed "cocycle/cocyclelaw26.BudgetGreat" = some 7 by kernel_rfl).symm.trans hf) |>.symm
   obtain rfl : fn = Tryz.f7 := (Option.some.inj (Tryz.func7.symm.trans hfn)).symm
   exact ⟨by kernel_rfl, fun j t ht => by
    rw [Tryz.params7] at ht
    have hm : t ∈ [24, 5] := by simpa using Array.mem_of_getElem? ht
    have hall : ([24, 5].all fun u => !Tryz.prog.wantsStandIn u) = true := by kernel_rfl
    exact (show Tryz.prog.wantsStandIn t = false by simpa using List.all_eq_true.1 hall t hm)⟩)
  (by kernel_rfl)

end Go.Proofs.YtbofgpenopcfaaaGreatDoor.budgetGreat

