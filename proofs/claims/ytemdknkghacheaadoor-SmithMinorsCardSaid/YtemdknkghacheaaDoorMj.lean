import Derived.Test.YtemdknkghacheaaDoorMi
import Derived.Test.YtemdknkghacheaaDoorMf
import Derived.Test.YtemdknkghacheaaDoorRows
import Derived.WalkKit
import Derived.ProofKit
import Derived.OpenShut
import Derived.ShutString
import Derived.ChangeOld
import Derived.Below
import Derived.Lib.SmallJoins
import Derived.SizedLaws
import Derived.Test.YtemdknkghacheaaDoorMg
import Derived.Test.YtemdknkghacheaaDoorMh
namespace Go.Proofs.YtemdknkghacheaaDoor
open Go Go.RowKit
set_option linter.unusedSimpArgs false
set_option linter.unusedVariables false
set_option linter.unusedSectionVars false


theorem WI.lit {w : World} {b n : Nat} {vs : List Value} (xs : List Int) (hb : w.heap[b]? = some (.cells ⟨vs⟩ 3)) (hv : vs = xs.map iv) (hn : xs.length = n) : WI w (.slice (some ⟨b, 0, none⟩) n n) n xs := by
  subst hv
  refine ⟨by simp [hn], _, _, rfl, Nat.le_refl _, fun _ => ⟨⟨b, 0, rfl⟩, fun j u hu => ?_⟩⟩
  simp only [vAt, Nat.zero_add]
  exact cell_of_blk hb (by simpa using hu)
theorem IsRows.lit {w : World} {b n : Nat} {ss : List Value} (xss : List (List Int)) (hb : w.heap[b]? = some (.cells ⟨ss⟩ 22)) (hl : ss.length = n) (hx : xss.length = n) (h : ∀ i, i < n → WI w (ss.getD i (iv 0)) (xss.getD i []).length (xss.getD i [])) : IsRows w (.slice (some ⟨b, 0, none⟩) n n) xss := by
  subst hx
  refine ⟨ss, ⟨by omega, _, _, rfl, Nat.le_refl _, fun _ => ⟨⟨b, 0, rfl⟩, fun j u hu => ?_⟩⟩, h⟩
  simp only [vAt, Nat.zero_add]
  exact cell_of_blk hb (by simpa using hu)
theorem IsRows.lit2 {w : World} {b : Nat} {s s' : Value} (xs xs' : List Int) (hb : w.heap[b]? = some (.cells ⟨[s, s']⟩ 22)) (h : WI w s xs.length xs) (h' : WI w s' xs'.length xs') : IsRows w (.slice (some ⟨b, 0, none⟩) 2 2) [xs, xs'] :=
  IsRows.lit [xs, xs'] hb rfl rfl fun i hi => by
    rcases (show i = 0 ∨ i = 1 by omega) with rfl | rfl
    · exact h
    · exact h'
theorem IsRows.lit3 {w : World} {b : Nat} {s s' s'' : Value} (xs xs' xs'' : List Int) (hb : w.heap[b]? = some (.cells ⟨[s, s', s'']⟩ 22)) (h : WI w s xs.length xs) (h' : WI w s' xs'.length xs') (h'' : WI w s'' xs''.length xs'') : IsRows w (.slice (some ⟨b, 0, none⟩) 3 3) [xs, xs', xs''] :=
  IsRows.lit [xs, xs', xs''] hb rfl rfl fun i hi => by
    rcases (show i = 0 ∨ i = 1 ∨ i = 2 by omega) with rfl | rfl | rfl
    · exact h
    · exact h'
    · exact h''

theorem i64_lit {xss : List (List Int)} (h : ∀ l ∈ xss, ∀ x ∈ l, I64 x) : ∀ i j, I64 ((xss.getD i []).getD j 0) := fun i j => by
  have h0 : I64 0 := ⟨by decide, by decide⟩
  rw [List.getD]
  cases hj : (xss.getD i [])[j]? with
  | none => exact h0
  | some x =>
    have hx := List.mem_of_getElem? hj
    rw [List.getD] at hx
    cases hi : xss[i]? with
    | none => rw [hi] at hx; cases hx
    | some l => rw [hi] at hx; exact h l (List.mem_of_getElem? hi) x hx
instance (n : Int) : Decidable (I64 n) := by unfold I64; infer_instance
theorem BdL.lit {K : Nat} {m : ZM} (h : ∀ x ∈ m.e, x.natAbs < 256 ^ K) : BdZ K m := fun i => by
  rw [List.getD]
  cases hi : m.e[i]? with
  | none => exact Nat.pow_pos (by decide)
  | some x => exact h x (List.mem_of_getElem? hi)

theorem isRows_none (w : World) : IsRows w (.slice none 0 0) [] := ⟨[], ⟨by simp, none, 0, rfl, Nat.le_refl _, fun h => absurd h (Nat.lt_irrefl 0)⟩, fun i hi => by cases hi⟩
theorem wI_none (w : World) : WI w (.slice none 0 0) 0 [] := ⟨by simp, none, 0, rfl, Nat.le_refl _, fun h => absurd h (Nat.lt_irrefl 0)⟩

set_option maxHeartbeats 4000000 in
theorem c_factors (K fc f : Nat) (w : World) (v u : Value) (xss : List (List Int)) (want : List Int) (S' : Sm) (hv : IsRows w v xss) (hu : WI w u want.length want) (hr : xss.length ≤ 200) (hcc : ofC xss xss.length ≤ 200) (hI : ∀ i j, I64 ((xss.getD i []).getD j 0)) (hK : K + 1 ≤ 9000000) (hb : BdZ (K + 1) (ofZ xss))
    (hf : formF (K + 1) fc f (ofZ xss).r (ofZ xss).c (min (ofZ xss).r (ofZ xss).c) 0 (startS (ofZ xss).r (ofZ xss).c (rowsOf (ofZ xss))) = some S') (hw : facP S'.d (min (ofZ xss).r (ofZ xss).c) = want) (hwI : ∀ i, I64 (want.getD i 0)) :
    Calls Tryd.prog 23 #[v, u] w (Ret fun v w' => Kp [] w w' ∧ v = .bool true) := by
  have hR : RtZ (ofZ xss) := zof_rt hr hcc
  have hwl : want.length ≤ 200 := by
    rw [← hw]
    have h1 := facP_le S'.d (min (ofZ xss).r (ofZ xss).c)
    have h2 := hR.r
    omega
  refine calls_of_S [] [] (by simp) [] Tryd.func23 rfl mixed (by kernel_rfl) Tryd.ntmps23 Tryd.results23 rfl ⟨by simp, by simp⟩ (by simp) ?_
  simp only [toS, textOps, toSOp, kindAt, kindOf, odAt, sopsAt, ordOf, zipF]
  have hRU : RdI ⟨Tryd.prog, 31, w, [], by simp⟩ [] u want.length want := hu.rd rfl []
  (repeat' (first | refine JC.seq ?_ | refine JC.ops ?_ | refine JO.nil ?_ | refine JX.thenN ?_ | (apply r_move; (iterate 3 exact rfl)) | (apply r_assign; (iterate 3 exact rfl))))
  refine r_callA (A := []) (B := []) rfl (by first | trivial | exact ⟨rfl, rfl⟩) rfl (by first | rfl | exact ⟨rfl, rfl⟩) rfl (fun w hk hs => c_Of w v xss (hv.mono hk) hr hcc hI) fun w v1 w' _ _ _ hR1 => ?_
  obtain ⟨N1, hN1, E1, rfl, hO1⟩ := hR1
  obtain ⟨A1, c1, rfl⟩ := hO1.form
  refine ⟨N1, hN1, ?_⟩
  skip
  refine r_callA (A := []) (B := N1 ++ []) rfl (by first | trivial | exact ⟨rfl, rfl⟩) rfl (by first | rfl | exact ⟨rfl, rfl⟩) rfl (fun w hk hs => c_Factors K fc f w _ (ofZ xss) S' hR ⟨_, rfl, hO1.rd.at hk hs (by (repeat' first | exact HSub.nil _ | exact HSub.hd | exact HSub.in0 | exact HSub.refl _ | refine HSub.skip ?_ | refine HSub.skipN ?_))⟩ hK hb hf) fun w v1 w' _ _ _ hR1 => ?_
  rw [hw] at hR1
  obtain ⟨N2, hN2, hO2⟩ := hR1
  obtain ⟨A2, c2, rfl⟩ := hO2.form
  refine ⟨N2, hN2, ?_⟩
  clear hf hb hv
  (repeat' (first | refine JC.seq ?_ | refine JC.ops ?_ | refine JO.nil ?_ | refine JX.thenN ?_ | (apply r_move; (iterate 3 exact rfl)) | (apply r_assign; (iterate 3 exact rfl)) | (apply r_lenZ; (iterate 3 exact rfl); (first | assumption | exact WZ.rd (by assumption) rfl [] | exact OwnZ.rd (by assumption))) | (apply r_lenI; (iterate 3 exact rfl); (first | assumption | exact WI.rd (by assumption) rfl [] | exact OwnI.rd (by assumption))) | (apply r_neq; (iterate 4 exact rfl); all_goals intro hc; all_goals try (exfalso; omega)) | refine JC.skip ?_ | refine JC.condF rfl ?_ | refine JC.block ?_))
  refine JC.loopH (ι := Nat) ⟨fun z => [(6, nv z), (5, .slice A2 want.length c2), (1, u)], fun _ => [] ++ (N2 ++ (N1 ++ [])), fun z => z ≤ want.length, fun z => want.length - z⟩ 0 (Nat.zero_le _) (by repeat first | exact trivial | refine ⟨rfl, ?_⟩) (HSub.refl _) (fun k hk => ?_)
  dsimp only at hk ⊢
  by_cases hlt : k < want.length
  · have hwk := hwI k
    (repeat' (first | refine JC.seq ?_ | refine JC.ops ?_ | refine JC.opsD ?_ | refine JO.nil ?_ | refine JX.thenN ?_ | (apply r_move; (iterate 3 exact rfl)) | (apply r_idxZ; (iterate 4 exact rfl); (first | assumption | exact WZ.rd (by assumption) rfl [] | exact OwnZ.rd (by assumption)); (first | assumption | omega)) | (apply r_ldZ; (iterate 4 exact rfl); (first | assumption | exact WZ.rd (by assumption) rfl [] | exact OwnZ.rd (by assumption)); (repeat' first | exact HSub.nil _ | exact HSub.hd | exact HSub.in0 | exact HSub.refl _ | refine HSub.skip ?_ | refine HSub.skipN ?_); (first | assumption | omega)) | (apply r_idxI; (iterate 4 exact rfl); (first | assumption | exact WI.rd (by assumption) rfl [] | exact OwnI.rd (by assumption)); (first | assumption | omega)) | (apply r_ldI; (iterate 4 exact rfl); (first | assumption | exact WI.rd (by assumption) rfl [] | exact OwnI.rd (by assumption)); (repeat' first | exact HSub.nil _ | exact HSub.hd | exact HSub.in0 | exact HSub.refl _ | refine HSub.skip ?_ | refine HSub.skipN ?_); (first | assumption | omega)) | (apply r_lenI; (iterate 3 exact rfl); (first | assumption | exact WI.rd (by assumption) rfl [] | exact OwnI.rd (by assumption))) | (apply r_lss; (iterate 4 exact rfl); all_goals intro hc; all_goals try (exfalso; omega)) | refine JC.skip ?_ | refine JC.condT rfl ?_ | refine JC.block ?_))
    refine r_call0 (by first | trivial | exact ⟨rfl, rfl⟩) rfl (by first | rfl | exact ⟨rfl, rfl⟩) rfl (fun w _ _ => c_From w (want.getD k 0) hwk.1 hwk.2) fun w v w' _ _ _ hR => ?_
    subst hR
    refine r_neWF (a := want.getD k 0) (b := want.getD k 0) rfl (by first | rfl | exact ⟨rfl, rfl⟩) rfl rfl rfl ?_
    (repeat' (first | refine JC.ops ?_ | refine JO.nil ?_ | refine JX.thenN ?_ | (apply r_move; (iterate 3 exact rfl)) | (apply r_assign; (iterate 3 exact rfl)) | (apply r_add1; (iterate 4 exact rfl); omega) | refine JC.skip ?_ | refine JC.condF rfl ?_ | refine JX.blockN ?_))
    exact JX.roundH (k + 1) (by dsimp only; omega) (by dsimp only; omega) (by repeat first | exact trivial | refine ⟨rfl, ?_⟩) (HSub.refl _)
  · (repeat' (first | refine JC.seq ?_ | refine JC.ops ?_ | refine JO.nil ?_ | refine JX.thenN ?_ | (apply r_move; (iterate 3 exact rfl)) | (apply r_assign; (iterate 3 exact rfl)) | (apply r_lenI; (iterate 3 exact rfl); (first | assumption | exact WI.rd (by assumption) rfl [] | exact OwnI.rd (by assumption))) | (apply r_lss; (iterate 4 exact rfl); all_goals intro hc; all_goals try (exfalso; omega)) | refine JX.thenE ?_ | refine JC.exit ?_ | refine JC.ret ?_ | refine JC.condF rfl ?_ | refine JX.blockE ?_))
    exact JX.ret1 rfl (fun a w' st => ⟨st.kp, rfl⟩)

theorem i64_at {xs : List Int} (h : ∀ x ∈ xs, I64 x) (i : Nat) : I64 (xs.getD i 0) := by
  rw [List.getD]
  cases hi : xs[i]? with
  | none => exact ⟨by decide, by decide⟩
  | some x => exact h x (List.mem_of_getElem? hi)
def saX : List (List Int) := [[2, 4], [6, 8]]
def saS : Sm := ⟨[[1, 0], [3, -1]], [[1, 0], [3, -1]], [[2, 0], [0, 4]], [[1, -2], [0, 1]], [[1, 2], [0, 1]]⟩
theorem sa_f : formF (0 + 1) 9 9 (ofZ saX).r (ofZ saX).c (min (ofZ saX).r (ofZ saX).c) 0 (startS (ofZ saX).r (ofZ saX).c (rowsOf (ofZ saX))) = some saS := by kernel_rfl
theorem sa_w : facP saS.d (min (ofZ saX).r (ofZ saX).c) = [2, 4] := by kernel_rfl
theorem sa_b : BdZ (0 + 1) (ofZ saX) := BdL.lit (by decide)
theorem sa_1 : mulZ (gM (ofZ saX).r (ofZ saX).r saS.u) (gM (ofZ saX).r (ofZ saX).r saS.ui) = oneZ (ofZ saX).r := by kernel_rfl
theorem sa_2 : mulZ (gM (ofZ saX).c (ofZ saX).c saS.v) (gM (ofZ saX).c (ofZ saX).c saS.vi) = oneZ (ofZ saX).c := by kernel_rfl
theorem sa_3 : mulZ (mulZ (gM (ofZ saX).r (ofZ saX).r saS.u) (ofZ saX)) (gM (ofZ saX).c (ofZ saX).c saS.v) = gM (ofZ saX).r (ofZ saX).c saS.d := by kernel_rfl
theorem sa_4 : NormalP (gM (ofZ saX).r (ofZ saX).c saS.d) := fun i j hi hj => by
  have hi : i < 2 := hi
  have hj : j < 2 := hj
  rcases (show i = 0 ∨ i = 1 by omega) with rfl | rfl <;> rcases (show j = 0 ∨ j = 1 by omega) with rfl | rfl <;> decide
theorem sa_B1 : BdZ 1 (gM (ofZ saX).r (ofZ saX).r saS.u) := BdL.lit (by decide)
theorem sa_B2 : BdZ 1 (gM (ofZ saX).r (ofZ saX).r saS.ui) := BdL.lit (by decide)
theorem sa_B3 : BdZ 1 (gM (ofZ saX).r (ofZ saX).c saS.d) := BdL.lit (by decide)
theorem sa_B4 : BdZ 1 (gM (ofZ saX).c (ofZ saX).c saS.v) := BdL.lit (by decide)
theorem sa_B5 : BdZ 1 (gM (ofZ saX).c (ofZ saX).c saS.vi) := BdL.lit (by decide)
theorem sa_B6 : BdZ 1 (mulZ (gM (ofZ saX).r (ofZ saX).r saS.u) (ofZ saX)) := BdL.lit (by decide)
def sbX : List (List Int) := [[2, 0], [0, 3]]
def sbS : Sm := ⟨[[1, 1], [3, 4]], [[4, -1], [-3, 1]], [[1, 0], [0, 6]], [[2, -3], [-1, 2]], [[2, 3], [1, 2]]⟩
theorem sb_f : formF (0 + 1) 9 9 (ofZ sbX).r (ofZ sbX).c (min (ofZ sbX).r (ofZ sbX).c) 0 (startS (ofZ sbX).r (ofZ sbX).c (rowsOf (ofZ sbX))) = some sbS := by kernel_rfl
theorem sb_w : facP sbS.d (min (ofZ sbX).r (ofZ sbX).c) = [1, 6] := by kernel_rfl
theorem sb_b : BdZ (0 + 1) (ofZ sbX) := BdL.lit (by decide)
def scX : List (List Int) := [[0, 0], [0, 5]]
def scS : Sm := ⟨[[0, 1], [-1, 0]], [[0, -1], [1, 0]], [[5, 0], [0, 0]], [[0, -1], [1, 0]], [[0, 1], [-1, 0]]⟩
theorem sc_f : formF (0 + 1) 9 9 (ofZ scX).r (ofZ scX).c (min (ofZ scX).r (ofZ scX).c) 0 (startS (ofZ scX).r (ofZ scX).c (rowsOf (ofZ scX))) = some scS := by kernel_rfl
theorem sc_w : facP scS.d (min (ofZ scX).r (ofZ scX).c) = [5] := by kernel_rfl
theorem sc_b : BdZ (0 + 1) (ofZ scX) := BdL.lit (by decide)
def sdX : List (List Int) := [[1, 2, 3], [4, 5, 6], [7, 8, 9]]
def sdS : Sm := ⟨[[1, 0, 0], [4, -1, 0], [1, -2, 1]], [[1, 0, 0], [4, -1, 0], [7, -2, 1]], [[1, 0, 0], [0, 3, 0], [0, 0, 0]], [[1, -2, 1], [0, 1, -2], [0, 0, 1]], [[1, 2, 3], [0, 1, 2], [0, 0, 1]]⟩
theorem sd_f : formF (0 + 1) 9 9 (ofZ sdX).r (ofZ sdX).c (min (ofZ sdX).r (ofZ sdX).c) 0 (startS (ofZ sdX).r (ofZ sdX).c (rowsOf (ofZ sdX))) = some sdS := by kernel_rfl
theorem sd_w : facP sdS.d (min (ofZ sdX).r (ofZ sdX).c) = [1, 3] := by kernel_rfl
theorem sd_b : BdZ (0 + 1) (ofZ sdX) := BdL.lit (by decide)
def seX : List (List Int) := []
def seS : Sm := ⟨[], [], [], [], []⟩
theorem se_f : formF (0 + 1) 9 9 (ofZ seX).r (ofZ seX).c (min (ofZ seX).r (ofZ seX).c) 0 (startS (ofZ seX).r (ofZ seX).c (rowsOf (ofZ seX))) = some seS := by kernel_rfl
theorem se_w : facP seS.d (min (ofZ seX).r (ofZ seX).c) = [] := by kernel_rfl
theorem se_b : BdZ (0 + 1) (ofZ seX) := BdL.lit (by decide)
set_option maxHeartbeats 16000000 in
theorem c_sanity (w : World) : Calls Tryd.prog 7 #[] w (Ret fun v w' => Kp [] w w' ∧ v = .bool true) := by
  refine calls_of_S [⟨4, 1, [], []⟩] [] (by simp) [] Tryd.func7 rfl mixed (by kernel_rfl) Tryd.ntmps7 Tryd.results7 rfl ⟨by simp, by simp⟩ (by simp) ?_
  simp only [toS, textOps, toSOp, kindAt, kindOf, odAt, sopsAt, ordOf, zipF]
  (repeat' (first | refine JC.seq ?_ | refine JC.ops ?_ | refine JO.nil ?_ | refine JX.thenN ?_ | (apply r_assign; (iterate 3 exact rfl)) | (apply r_build1; (iterate 5 exact rfl); (repeat first | exact trivial | refine ⟨rfl, ?_⟩); decide; decide; intro _)))
  refine r_call0 (by first | trivial | exact ⟨rfl, rfl⟩) rfl (by first | rfl | exact ⟨rfl, rfl⟩) rfl (fun w hk hs => c_factors 0 9 9 w _ _ saX [2, 4] saS (IsRows.lit2 _ _ (hs_at hs 1 rfl) (WI.lit [2, 4] (hs_at hs 3 rfl) rfl rfl) (WI.lit [6, 8] (hs_at hs 2 rfl) rfl rfl)) (WI.lit [2, 4] (hs_at hs 0 rfl) rfl rfl) (by decide) (by decide) (i64_lit (by decide)) (by decide) sa_b sa_f sa_w (i64_at (by decide))) fun w v w' _ _ _ hR => ?_
  subst hR
  (repeat' (first | (apply r_move; (iterate 3 exact rfl)) | (apply r_build1; (iterate 5 exact rfl); (repeat first | exact trivial | refine ⟨rfl, ?_⟩); decide; decide; intro _)))
  refine r_call0 (by first | trivial | exact ⟨rfl, rfl⟩) rfl (by first | rfl | exact ⟨rfl, rfl⟩) rfl (fun w hk hs => c_factors 0 9 9 w _ _ sbX [1, 6] sbS (IsRows.lit2 _ _ (hs_at hs 1 rfl) (WI.lit [2, 0] (hs_at hs 3 rfl) rfl rfl) (WI.lit [0, 3] (hs_at hs 2 rfl) rfl rfl)) (WI.lit [1, 6] (hs_at hs 0 rfl) rfl rfl) (by decide) (by decide) (i64_lit (by decide)) (by decide) sb_b sb_f sb_w (i64_at (by decide))) fun w v w' _ _ _ hR => ?_
  subst hR
  (repeat' (first | (apply r_move; (iterate 3 exact rfl)) | (apply r_pickT; (iterate 4 exact rfl)) | (apply r_build1; (iterate 5 exact rfl); (repeat first | exact trivial | refine ⟨rfl, ?_⟩); decide; decide; intro _)))
  refine r_call0 (by first | trivial | exact ⟨rfl, rfl⟩) rfl (by first | rfl | exact ⟨rfl, rfl⟩) rfl (fun w hk hs => c_factors 0 9 9 w _ _ scX [5] scS (IsRows.lit2 _ _ (hs_at hs 1 rfl) (WI.lit [0, 0] (hs_at hs 3 rfl) rfl rfl) (WI.lit [0, 5] (hs_at hs 2 rfl) rfl rfl)) (WI.lit [5] (hs_at hs 0 rfl) rfl rfl) (by decide) (by decide) (i64_lit (by decide)) (by decide) sc_b sc_f sc_w (i64_at (by decide))) fun w v w' _ _ _ hR => ?_
  subst hR
  (repeat' (first | refine JO.nil ?_ | (apply r_assign; (iterate 3 exact rfl)) | (apply r_pickT; (iterate 4 exact rfl))))
  refine JX.part (F' := [(1, .bool true)]) (H' := []) (by repeat first | exact trivial | refine ⟨rfl, ?_⟩) (HSub.nil _) ?_
  refine JX.thenN ?_
  (repeat' (first | refine JC.seq ?_ | refine JC.ops ?_ | (apply r_build1; (iterate 5 exact rfl); (repeat first | exact trivial | refine ⟨rfl, ?_⟩); decide; decide; intro _)))
  refine r_call0 (by first | trivial | exact ⟨rfl, rfl⟩) rfl (by first | rfl | exact ⟨rfl, rfl⟩) rfl (fun w hk hs => c_factors 0 9 9 w _ _ sdX [1, 3] sdS (IsRows.lit3 _ _ _ (hs_at hs 1 rfl) (WI.lit [1, 2, 3] (hs_at hs 4 rfl) rfl rfl) (WI.lit [4, 5, 6] (hs_at hs 3 rfl) rfl rfl) (WI.lit [7, 8, 9] (hs_at hs 2 rfl) rfl rfl)) (WI.lit [1, 3] (hs_at hs 0 rfl) rfl rfl) (by decide) (by decide) (i64_lit (by decide)) (by decide) sd_b sd_f sd_w (i64_at (by decide))) fun w v w' _ _ _ hR => ?_
  subst hR
  (repeat' (first | (apply r_move; (iterate 3 exact rfl))))
  refine r_call0 (by first | trivial | exact ⟨rfl, rfl⟩) rfl (by first | rfl | exact ⟨rfl, rfl⟩) rfl (fun w hk hs => c_factors 0 9 9 w _ _ seX [] seS (isRows_none w) (wI_none w) (by decide) (by decide) (i64_lit (by decide)) (by decide) se_b se_f se_w (i64_at (by decide))) fun w v w' _ _ _ hR => ?_
  subst hR
  (repeat' (first | refine JO.nil ?_ | (apply r_assign; (iterate 3 exact rfl)) | (apply r_pickT; (iterate 4 exact rfl))))
  refine JX.part (F' := [(2, .bool true), (1, .bool true)]) (H' := []) (by repeat first | exact trivial | refine ⟨rfl, ?_⟩) (HSub.nil _) ?_
  refine JX.thenN ?_
  (repeat' (first | refine JC.seq ?_ | refine JC.ops ?_ | (apply r_build1; (iterate 5 exact rfl); (repeat first | exact trivial | refine ⟨rfl, ?_⟩); decide; decide; intro _)))
  refine r_callA (A := [_, _, _]) (B := []) rfl (by first | trivial | exact ⟨rfl, rfl⟩) rfl (by first | rfl | exact ⟨rfl, rfl⟩) rfl (fun w hk hs => c_Of w _ saX (IsRows.lit2 _ _ (hs_at hs 0 rfl) (WI.lit [2, 4] (hs_at hs 2 rfl) rfl rfl) (WI.lit [6, 8] (hs_at hs 1 rfl) rfl rfl)) (by decide) (by decide) (i64_lit (by decide))) fun w v w' _ _ _ hR => ?_
  obtain ⟨N1, hN1, E1, rfl, hO1⟩ := hR
  obtain ⟨A1, c1, rfl⟩ := hO1.form
  refine ⟨N1, hN1, ?_⟩
  (repeat' (first | refine JO.nil ?_ | (apply r_storeN; exact rfl; (first | exact trivial | exact ⟨rfl, rfl⟩); exact rfl; exact rfl; exact at0; (iterate 3 exact rfl)) | (apply r_allocZ; (iterate 3 exact rfl); intro _) | (apply r_storeN; exact rfl; (first | exact trivial | exact ⟨rfl, rfl⟩); exact rfl; exact rfl; exact at0; (iterate 3 exact rfl))))
  rename_i b3
  obtain ⟨a, had⟩ : ∃ a, a = ofZ saX := ⟨_, rfl⟩
  rw [← had] at hO1 ⊢
  have hR : RtZ a := by rw [had]; exact zof_rt (by decide) (by decide)
  have hb : BdZ (0 + 1) a := by rw [had]; exact sa_b
  have hf : formF (0 + 1) 9 9 a.r a.c (min a.r a.c) 0 (startS a.r a.c (rowsOf a)) = some saS := by rw [had]; exact sa_f
  have hw : facP saS.d (min a.r a.c) = [2, 4] := by rw [had]; exact sa_w
  refine JX.part (F' := [(3, .pointer (some ⟨b3, 0, none⟩)), (2, .bool true), (1, .bool true)]) (H' := [(b3, .cells #[nv a.r, nv a.c, .slice A1 a.e.length c1] 28)] ++ (N1 ++ [])) (by repeat first | exact trivial | refine ⟨rfl, ?_⟩) (by (repeat' first | exact HSub.refl _ | exact HSub.nil _ | refine HSub.at 0 rfl ?_ | refine HSub.at 1 rfl ?_ | refine HSub.at 2 rfl ?_ | refine HSub.at 3 rfl ?_ | refine HSub.at 4 rfl ?_ | refine HSub.at 5 rfl ?_ | refine HSub.at 6 rfl ?_ | refine HSub.at 7 rfl ?_ | refine HSub.at 8 rfl ?_ | refine HSub.at 9 rfl ?_ | refine HSub.at 10 rfl ?_ | refine HSub.at 11 rfl ?_ | refine HSub.at 12 rfl ?_ | refine HSub.at 13 rfl ?_ | refine HSub.at 14 rfl ?_ | refine HSub.at 15 rfl ?_ | refine HSub.at 16 rfl ?_ | refine HSub.at 17 rfl ?_ | refine HSub.at 18 rfl ?_ | refine HSub.at 19 rfl ?_ | refine HSub.segH ?_ | refine HSub.skip ?_ | refine HSub.skipN ?_)) ?_
  refine JX.thenN ?_
  (repeat' (first | refine JC.seq ?_ | refine JC.opsD ?_ | (apply r_move; (iterate 3 exact rfl)) | (apply r_loadN; (iterate 4 exact rfl); exact at0; exact rfl) | (apply r_pickT; (iterate 4 exact rfl))))
  refine r_call0 (by first | trivial | exact ⟨rfl, rfl⟩) rfl (by first | rfl | exact ⟨rfl, rfl⟩) rfl (fun w hk hs => c_Rank 0 9 9 w _ a saS hR ⟨_, rfl, hO1.rd.at hk hs (by (repeat' first | exact HSub.nil _ | exact HSub.hd | exact HSub.in0 | exact HSub.refl _ | refine HSub.skip ?_ | refine HSub.skipN ?_))⟩ (by decide) hb hf) fun w v w' _ _ _ hR' => ?_
  rw [hw] at hR'
  subst hR'
  rw [show ([2, 4] : List Int).length = 2 from rfl]
  (repeat' (first | (apply r_move; (iterate 3 exact rfl)) | (apply r_loadN; (iterate 4 exact rfl); exact at0; exact rfl) | (apply r_pickT; (iterate 4 exact rfl)) | (apply r_eql; (iterate 4 exact rfl); all_goals intro hc; all_goals try (exfalso; omega))))
  refine r_callA (A := [_]) (B := N1 ++ []) rfl (by first | trivial | exact ⟨rfl, rfl⟩) rfl (by first | rfl | exact ⟨rfl, rfl⟩) rfl (fun w hk hs => c_Form 0 9 9 w _ a saS hR ⟨_, rfl, hO1.rd.at hk hs (by (repeat' first | exact HSub.nil _ | exact HSub.hd | exact HSub.in0 | exact HSub.refl _ | refine HSub.skip ?_ | refine HSub.skipN ?_))⟩ (by decide) hb hf) fun w v w' _ _ _ hR' => ?_
  obtain ⟨M1, M2, M3, M4, M5, E1, E2, E3, E4, E5, rfl, hD, hN, hP1, hP2, hP3, hP4, hP5⟩ := hR'
  refine ⟨_, hN, ?_⟩
  skip
  have hQ1 : OwnZ M1 E1 (gM a.r a.r saS.u).e.length (gM a.r a.r saS.u).e := by rw [show (gM a.r a.r saS.u).e.length = a.r * a.r from flat_len hD.u]; exact hP1
  have hQ2 : OwnZ M2 E2 (gM a.r a.r saS.ui).e.length (gM a.r a.r saS.ui).e := by rw [show (gM a.r a.r saS.ui).e.length = a.r * a.r from flat_len hD.ui]; exact hP2
  have hQ3 : OwnZ M3 E3 (gM a.r a.c saS.d).e.length (gM a.r a.c saS.d).e := by rw [show (gM a.r a.c saS.d).e.length = a.r * a.c from flat_len hD.d]; exact hP3
  have hQ4 : OwnZ M4 E4 (gM a.c a.c saS.v).e.length (gM a.c a.c saS.v).e := by rw [show (gM a.c a.c saS.v).e.length = a.c * a.c from flat_len hD.v]; exact hP4
  have hQ5 : OwnZ M5 E5 (gM a.c a.c saS.vi).e.length (gM a.c a.c saS.vi).e := by rw [show (gM a.c a.c saS.vi).e.length = a.c * a.c from flat_len hD.vi]; exact hP5
  have hr := hR.r
  have hac := hR.c
  refine r_call0 (by first | trivial | exact ⟨rfl, rfl⟩) rfl (by first | rfl | exact ⟨rfl, rfl⟩) rfl (fun w hk hs => c_CheckT 1 w _ [] [] [] [] [] E1 E2 E3 E4 E5 a (gM a.r a.r saS.u) (gM a.c a.c saS.v) (gM a.r a.r saS.ui) (gM a.c a.c saS.vi) (gM a.r a.c saS.d) hR ⟨_, rfl, hO1.rd.at hk hs (by simp only [List.cons_append, List.nil_append, List.append_assoc]; exact HSub.skip (HSub.skipN (HSub.skipN (HSub.skipN (HSub.skipN (HSub.skipN (HSub.in0)))))))⟩ (gM_rt hD.u hr hr) (gM_rt hD.ui hr hr) (gM_rt hD.d hr hac) (gM_rt hD.v hac hac) (gM_rt hD.vi hac hac) ⟨_, rfl, hQ1.rd.at hk hs (by simp only [List.cons_append, List.nil_append, List.append_assoc]; exact HSub.skip (HSub.in0))⟩ ⟨_, rfl, hQ2.rd.at hk hs (by simp only [List.cons_append, List.nil_append, List.append_assoc]; exact HSub.skip (HSub.skipN (HSub.in0)))⟩ ⟨_, rfl, hQ3.rd.at hk hs (by simp only [List.cons_append, List.nil_append, List.append_assoc]; exact HSub.skip (HSub.skipN (HSub.skipN (HSub.in0))))⟩ ⟨_, rfl, hQ4.rd.at hk hs (by simp only [List.cons_append, List.nil_append, List.append_assoc]; exact HSub.skip (HSub.skipN (HSub.skipN (HSub.skipN (HSub.in0)))))⟩ ⟨_, rfl, hQ5.rd.at hk hs (by simp only [List.cons_append, List.nil_append, List.append_assoc]; exact HSub.skip (HSub.skipN (HSub.skipN (HSub.skipN (HSub.skipN (HSub.in0))))))⟩ (by rw [had]; exact sa_1) (by rw [had]; exact sa_2) (by rw [had]; exact sa_3) (by rw [had]; exact sa_4) rfl rfl rfl rfl rfl rfl rfl rfl hb (by rw [had]; exact sa_B1) (by rw [had]; exact sa_B2) (by rw [had]; exact sa_B3) (by rw [had]; exact sa_B4) (by rw [had]; exact sa_B5) (by rw [had]; exact sa_B6) (by decide)) fun w v w' _ _ _ hR' => ?_
  subst hR'
  (repeat' (first | (apply r_move; (iterate 3 exact rfl)) | (apply r_loadN; (iterate 4 exact rfl); exact at0; exact rfl) | (apply r_pickT; (iterate 4 exact rfl)) | (apply r_build0; exact rfl; exact rfl)))
  refine r_call0 (by first | trivial | exact ⟨rfl, rfl⟩) rfl (by first | rfl | exact ⟨rfl, rfl⟩) rfl (fun w hk hs => c_CheckF w _ a hR ⟨_, rfl, hO1.rd.at hk hs (by simp only [List.cons_append, List.nil_append, List.append_assoc]; exact HSub.skip (HSub.skipN (HSub.skipN (HSub.skipN (HSub.skipN (HSub.skipN (HSub.in0)))))))⟩ (by rw [had]; decide)) fun w v w' _ _ _ hR' => ?_
  subst hR'
  (repeat' (first | refine JO.nil ?_ | (apply r_assign; (iterate 3 exact rfl)) | (apply r_pickT; (iterate 4 exact rfl)) | (apply r_not; (iterate 3 exact rfl))))
  refine JX.thenN ?_
  (repeat' (first | refine JC.ret ?_))
  exact JX.ret1 rfl (fun a w' st => ⟨st.kp, rfl⟩)


def Sz (B r c : Nat) (g : List (List Int)) : Prop := ∀ i j, i < r → j < c → (gE g i j).natAbs ≤ B
structure CB (C : Nat) (t : Tn) : Prop where
  a : t.a.natAbs ≤ C
  b : t.b.natAbs ≤ C
  c : t.c.natAbs ≤ C
  d : t.d.natAbs ≤ C
theorem CB.flip {C : Nat} {t : Tn} (h : CB C t) : CB C t.flip := ⟨h.d, by show (-t.c).natAbs ≤ C; rw [Int.natAbs_neg]; exact h.c, by show (-t.b).natAbs ≤ C; rw [Int.natAbs_neg]; exact h.b, h.a⟩
theorem lin_le {C B : Nat} {a b x y : Int} (ha : a.natAbs ≤ C) (hb : b.natAbs ≤ C) (hx : x.natAbs ≤ B) (hy : y.natAbs ≤ B) : (a * x + b * y).natAbs ≤ 2 * C * B := by
  have h1 : (a * x).natAbs ≤ C * B := by rw [Int.natAbs_mul]; exact Nat.mul_le_mul ha hx
  have h2 : (b * y).natAbs ≤ C * B := by rw [Int.natAbs_mul]; exact Nat.mul_le_mul hb hy
  have h3 := Int.natAbs_add_le (a * x) (b * y)
  rw [Nat.mul_assoc, Nat.two_mul]
  omega
theorem Sz.mono {B B' r c : Nat} {g : List (List Int)} (h : Sz B r c g) (hB : B ≤ B') : Sz B' r c g := fun i j hi hj => Nat.le_trans (h i j hi hj) hB
theorem le_twoC {C B : Nat} (hC : 1 ≤ C) : B ≤ 2 * C * B := Nat.le_mul_of_pos_left B (by omega)
theorem Sz.rows {C B r c i k : Nat} {t : Tn} {g : List (List Int)} (h : Sz B r c g) (hR : Rec r c g) (hi : i < r) (hk : k < r) (ht : CB C t) (hC : 1 ≤ C) : Sz (2 * C * B) r c (rowsL i k t g) := fun a b ha hb => by
  rw [gE_rows hR hi hk hb]
  split
  · exact lin_le ht.c ht.d (h _ _ hi hb) (h _ _ hk hb)
  · split
    · exact lin_le ht.a ht.b (h _ _ hi hb) (h _ _ hk hb)
    · exact Nat.le_trans (h _ _ ha hb) (le_twoC hC)
theorem Sz.cols {C B r c i k : Nat} {t : Tn} {g : List (List Int)} (h : Sz B r c g) (hR : Rec r c g) (hi : i < c) (hk : k < c) (ht : CB C t) (hC : 1 ≤ C) : Sz (2 * C * B) r c (colsL i k t g) := fun a b ha hb => by
  rw [gE_cols hR hi hk ha]
  split
  · exact lin_le ht.c ht.d (h _ _ ha hi) (h _ _ ha hk)
  · split
    · exact lin_le ht.a ht.b (h _ _ ha hi) (h _ _ ha hk)
    · exact Nat.le_trans (h _ _ ha hb) (le_twoC hC)
structure SzU (B m n : Nat) (S : Sm) : Prop where
  u : Sz B m m S.u
  ui : Sz B m m S.ui
  v : Sz B n n S.v
  vi : Sz B n n S.vi
theorem SzU.mono {B B' m n : Nat} {S : Sm} (h : SzU B m n S) (hB : B ≤ B') : SzU B' m n S := ⟨h.u.mono hB, h.ui.mono hB, h.v.mono hB, h.vi.mono hB⟩
theorem SzU.rows {C B m n i k : Nat} {t : Tn} {S : Sm} (h : SzU B m n S) (hD : Dm m n S) (hi : i < m) (hk : k < m) (ht : CB C t) (hC : 1 ≤ C) : SzU (2 * C * B) m n (S.rows i k t) :=
  ⟨h.u.rows hD.u hi hk ht hC, h.ui.cols hD.ui hi hk ht.flip hC, h.v.mono (le_twoC hC), h.vi.mono (le_twoC hC)⟩
theorem SzU.cols {C B m n i k : Nat} {t : Tn} {S : Sm} (h : SzU B m n S) (hD : Dm m n S) (hi : i < n) (hk : k < n) (ht : CB C t) (hC : 1 ≤ C) : SzU (2 * C * B) m n (S.cols i k t) :=
  ⟨h.u.mono (le_twoC hC), h.ui.mono (le_twoC hC), h.v.cols hD.v hi hk ht hC, h.vi.rows hD.vi hi hk ht.flip hC⟩
theorem okG_of {K r c B : Nat} {g : List (List Int)} (hR : Rec r c g) (h : Sz B r c g) (hB : B < 256 ^ K) : okG K g = true := by
  refine List.all_eq_true.2 fun x hx => List.all_eq_true.2 fun y hy => decide_eq_true ?_
  obtain ⟨i, hi, rfl⟩ := List.getElem_of_mem hx
  obtain ⟨j, hj, rfl⟩ := List.getElem_of_mem hy
  have h1 := hR.row _ hx
  have h2 := h i j (by have := hR.len; omega) (by omega)
  unfold gE at h2
  rw [show g.getD i [] = g[i] by rw [List.getD, List.getElem?_eq_getElem hi]; rfl, show g[i].getD j 0 = g[i][j] by rw [List.getD, List.getElem?_eq_getElem hj]; rfl] at h2
  omega
theorem ck_of {K m n B B' : Nat} {S : Sm} (hD : Dm m n S) (h : SzU B m n S) (h' : Sz B' m n S.d) (hB : B < 256 ^ K) (hB' : B' < 256 ^ K) : ck K S = some S := by
  unfold ck
  rw [if_pos (Ok.ok ⟨okG_of hD.u h.u hB, okG_of hD.ui h.ui hB, okG_of hD.d h' hB', okG_of hD.v h.v hB, okG_of hD.vi h.vi hB⟩)]

theorem rowP_skip {K t : Nat} : ∀ {k i : Nat} {S : Sm}, (∀ a, i ≤ a → a < i + k → gE S.d a t = 0) → rowP K t k i S = some S
  | 0, _, _, _ => rfl
  | k + 1, i, S, h => by
    rw [rowP]
    have h0 : clrR K t i S = some (S, false) := by
      unfold clrR clearT
      rw [h i (Nat.le_refl _) (by omega), if_pos rfl]
    rw [h0]
    exact rowP_skip fun a h1 h2 => h a (by omega) (by omega)
theorem colP_skip {K t : Nat} : ∀ {k j : Nat} {ch : Bool} {S : Sm}, (∀ a, j ≤ a → a < j + k → gE S.d t a = 0) → colP K t k j ch S = some (S, ch)
  | 0, _, _, _, _ => rfl
  | k + 1, j, ch, S, h => by
    rw [colP]
    have h0 : clrC K t j S = some (S, false) := by
      unfold clrC clearT
      rw [h j (Nat.le_refl _) (by omega), if_pos rfl]
    rw [h0]
    dsimp only
    rw [Bool.or_false]
    exact colP_skip fun a h1 h2 => h a (by omega) (by omega)
theorem rowP_app {K t : Nat} : ∀ (a b : Nat) {i : Nat} {S : Sm}, rowP K t (a + b) i S = match rowP K t a i S with | none => none | some S' => rowP K t b (i + a) S'
  | 0, b, i, S => by rw [Nat.zero_add]; rfl
  | a + 1, b, i, S => by
    rw [show a + 1 + b = a + b + 1 by omega, rowP, rowP]
    cases clrR K t i S with
    | none => rfl
    | some r => dsimp only; rw [rowP_app a b, show i + 1 + a = i + (a + 1) by omega]
theorem colP_app {K t : Nat} : ∀ (a b : Nat) {j : Nat} {ch : Bool} {S : Sm}, colP K t (a + b) j ch S = match colP K t a j ch S with | none => none | some r => colP K t b (j + a) r.2 r.1
  | 0, b, j, ch, S => by rw [Nat.zero_add]; rfl
  | a + 1, b, j, ch, S => by
    rw [show a + 1 + b = a + b + 1 by omega, colP, colP]
    cases clrC K t j S with
    | none => rfl
    | some r => dsimp only; rw [colP_app a b, show j + 1 + a = j + (a + 1) by omega]
theorem rowP_one {K t i : Nat} {S : Sm} {r : Sm × Bool} (h : clrR K t i S = some r) : rowP K t 1 i S = some r.1 := by
  rw [rowP, h]; rfl
theorem colP_one {K t j : Nat} {ch : Bool} {S : Sm} {r : Sm × Bool} (h : clrC K t j S = some r) : colP K t 1 j ch S = some (r.1, ch || r.2) := by
  rw [colP, h]; rfl

structure GcdN (x y g s t : Int) : Prop where
  e : g = Int.gcd x y
  p : 0 < g
  dx : g ∣ x
  dy : g ∣ y
  hs : s.natAbs * g.natAbs ≤ y.natAbs
  ht : t.natAbs * g.natAbs ≤ x.natAbs
  b : s * x + t * y = g
theorem gcdN {x y : Int} (hx : x ≠ 0) (hy : y ≠ 0) : GcdN x y (gcdF x y).1 (gcdF x y).2.1 (gcdF x y).2.2 := by
  have h := gcdF_ok x y
  generalize (gcdF x y).1 = g at *
  generalize (gcdF x y).2.1 = s at *
  generalize (gcdF x y).2.2 = t at *
  obtain ⟨h0, h1, h2⟩ := h.n hy
  have he := h.e
  have hp : 0 < g := by
    have : 0 < Int.gcd x y := Int.gcd_pos_of_ne_zero_right _ hy
    omega
  have dx : g ∣ x := by rw [he]; exact Int.gcd_dvd_left ..
  have dy : g ∣ y := by rw [he]; exact Int.gcd_dvd_right ..
  have hsg : s.natAbs * g.natAbs < y.natAbs := by
    rw [← Int.natAbs_mul]
    have := Int.mul_nonneg h0 (by omega : 0 ≤ g)
    omega
  refine ⟨he, hp, dx, dy, by omega, ?_, h2⟩
  obtain ⟨x', rfl⟩ := dx
  obtain ⟨y', rfl⟩ := dy
  have hg0 : g ≠ 0 := by omega
  have e1 : s * x' + t * y' = 1 := by
    have : g * (s * x' + t * y') = g * 1 := by rw [Int.mul_one]; rw [Int.mul_add]; have e := h2; grind
    exact Int.eq_of_mul_eq_mul_left hg0 this
  have hgn : 0 < g.natAbs := by omega
  rw [Int.natAbs_mul] at hsg
  have hs' : s.natAbs < y'.natAbs := by
    rw [Nat.mul_comm] at hsg
    exact Nat.lt_of_mul_lt_mul_left hsg
  rw [Int.natAbs_mul, Nat.mul_comm]
  refine Nat.mul_le_mul_left _ ?_
  refine Decidable.byContradiction fun hn => ?_
  have hn : x'.natAbs + 1 ≤ t.natAbs := by omega
  have h3 : (t * y').natAbs ≤ 1 + (s * x').natAbs := by
    have : t * y' = 1 - s * x' := by omega
    rw [this]; omega
  rw [Int.natAbs_mul, Int.natAbs_mul] at h3
  have h4 := Nat.mul_le_mul_right y'.natAbs hn
  have h5 : s.natAbs * x'.natAbs ≤ (y'.natAbs - 1) * x'.natAbs := Nat.mul_le_mul_right _ (by omega)
  have h6 : (y'.natAbs - 1) * x'.natAbs + x'.natAbs = x'.natAbs * y'.natAbs := by
    rw [← Nat.succ_mul, Nat.mul_comm]; congr 1; omega
  rw [Nat.add_mul] at h4
  have : x'.natAbs = 0 := by omega
  have hx0 : x' = 0 := by omega
  exact hx (by rw [hx0, Int.mul_zero])

structure Dg (n : Nat) (S : Sm) (d : Nat → Int) : Prop where
  dm : Dm n n S
  eq : ∀ i j, i < n → j < n → gE S.d i j = if i = j then d i else 0
def cnt : Nat → (Nat → Int) → Nat
  | 0, _ => 0
  | n + 1, d => cnt n d + if d n = 0 then 0 else 1
def upd (d : Nat → Int) (k : Nat) (v : Int) : Nat → Int := fun i => if i = k then v else d i
theorem cnt_congr : ∀ {n : Nat} {d d' : Nat → Int}, (∀ i, i < n → (d i = 0 ↔ d' i = 0)) → cnt n d = cnt n d'
  | 0, _, _, _ => rfl
  | n + 1, d, d', h => by
    rw [cnt, cnt, cnt_congr (n := n) (fun i hi => h i (by omega))]
    have h1 := h n (by omega)
    by_cases h0 : d n = 0
    · rw [if_pos h0, if_pos (h1.1 h0)]
    · rw [if_neg h0, if_neg (fun e => h0 (h1.2 e))]
theorem cnt_upd : ∀ {n k : Nat} {d : Nat → Int} {v : Int}, k < n → cnt n (upd d k v) + (if d k = 0 then 0 else 1) = cnt n d + (if v = 0 then 0 else 1)
  | 0, _, _, _, h => by omega
  | n + 1, k, d, v, h => by
    rw [cnt, cnt]
    by_cases hk : k = n
    · subst hk
      have e : cnt k (upd d k v) = cnt k d := cnt_congr fun i hi => by unfold upd; rw [if_neg (by omega)]
      have e2 : upd d k v k = v := if_pos rfl
      rw [e, e2]; omega
    · have ih := cnt_upd (n := n) (k := k) (d := d) (v := v) (by omega)
      have e2 : upd d k v n = d n := if_neg (by omega)
      rw [e2]; omega

structure Eqv (t n : Nat) (d d' : Nat → Int) : Prop where
  lo : ∀ i, i < t → d' i = d i
  g : ∀ c : Int, (∀ i, t ≤ i → i < n → c ∣ d i) ↔ (∀ i, t ≤ i → i < n → c ∣ d' i)
  l : ∀ c : Int, (∀ i, t ≤ i → i < n → d i ≠ 0 → d i ∣ c) ↔ (∀ i, t ≤ i → i < n → d' i ≠ 0 → d' i ∣ c)
  k : cnt n d' = cnt n d
theorem Eqv.refl (t n : Nat) (d : Nat → Int) : Eqv t n d d := ⟨fun _ _ => rfl, fun _ => Iff.rfl, fun _ => Iff.rfl, rfl⟩
theorem Eqv.trans {t n : Nat} {d d' d'' : Nat → Int} (h : Eqv t n d d') (h' : Eqv t n d' d'') : Eqv t n d d'' :=
  ⟨fun i hi => (h'.lo i hi).trans (h.lo i hi), fun c => (h.g c).trans (h'.g c), fun c => (h.l c).trans (h'.l c), h'.k.trans h.k⟩
theorem Eqv.down {t n : Nat} {d d' : Nat → Int} (h : Eqv (t + 1) n d d') : Eqv t n d d' := by
  have h0 := h.lo t (by omega)
  refine ⟨fun i hi => h.lo i (by omega), fun c => ⟨fun H i h1 h2 => ?_, fun H i h1 h2 => ?_⟩, fun c => ⟨fun H i h1 h2 => ?_, fun H i h1 h2 => ?_⟩, h.k⟩
  · by_cases e : i = t
    · subst e; rw [h0]; exact H i h1 h2
    · exact (h.g c).1 (fun i h1 h2 => H i (by omega) h2) i (by omega) h2
  · by_cases e : i = t
    · subst e; rw [← h0]; exact H i h1 h2
    · exact (h.g c).2 (fun i h1 h2 => H i (by omega) h2) i (by omega) h2
  · by_cases e : i = t
    · subst e; rw [h0]; exact H i h1 h2
    · exact (h.l c).1 (fun i h1 h2 => H i (by omega) h2) i (by omega) h2
  · by_cases e : i = t
    · subst e; rw [← h0]; exact H i h1 h2
    · exact (h.l c).2 (fun i h1 h2 => H i (by omega) h2) i (by omega) h2
theorem lcm_dvd {x y g s t c : Int} (h : GcdN x y g s t) (h1 : x ∣ c) (h2 : y ∣ c) : x / g * y ∣ c := by
  obtain ⟨x', hx⟩ := h.dx
  obtain ⟨y', hy⟩ := h.dy
  have hg := h.p
  have hb := h.b
  obtain ⟨p, hp⟩ := h1
  obtain ⟨q, hq⟩ := h2
  have e : x / g = x' := by rw [hx, Int.mul_ediv_cancel_left _ (by omega)]
  rw [e]
  have e1 : s * x' + t * y' = 1 := Int.eq_of_mul_eq_mul_left (a := g) (by omega) (by grind)
  refine ⟨s * q + t * p, ?_⟩
  have e2 : c = c * (s * x' + t * y') := by rw [e1, Int.mul_one]
  grind
theorem Eqv.pair {t i n : Nat} {d : Nat → Int} {g s u : Int} (hti : t < i) (hi : i < n) (h : GcdN (d t) (d i) g s u) (hx : d t ≠ 0) (hy : d i ≠ 0) : Eqv t n d (upd (upd d t g) i (d t / g * d i)) := by
  obtain ⟨x', hx'⟩ := h.dx
  obtain ⟨y', hy'⟩ := h.dy
  have hg := h.p
  have e : d t / g = x' := by rw [hx', Int.mul_ediv_cancel_left _ (by omega)]
  have hx0 : x' ≠ 0 := fun h0 => hx (by rw [hx', h0, Int.mul_zero])
  have et : upd (upd d t g) i (d t / g * d i) t = g := by unfold upd; rw [if_neg (by omega), if_pos rfl]
  have ei : upd (upd d t g) i (d t / g * d i) i = d t / g * d i := by unfold upd; rw [if_pos rfl]
  have eo : ∀ j, j ≠ t → j ≠ i → upd (upd d t g) i (d t / g * d i) j = d j := fun j h1 h2 => by unfold upd; rw [if_neg h2, if_neg h1]
  have hm0 : d t / g * d i ≠ 0 := by rw [e]; exact Int.mul_ne_zero hx0 hy
  refine ⟨fun j hj => eo j (by omega) (by omega), fun c => ⟨fun H j h1 h2 => ?_, fun H j h1 h2 => ?_⟩, fun c => ⟨fun H j h1 h2 h3 => ?_, fun H j h1 h2 h3 => ?_⟩, ?_⟩
  · by_cases h3 : j = i
    · subst h3; rw [ei]; exact Int.dvd_trans (H j h1 h2) (Int.dvd_mul_left ..)
    · by_cases h4 : j = t
      · subst h4; rw [et, ← h.b]
        exact Int.dvd_add (Int.dvd_trans (H j h1 h2) (Int.dvd_mul_left ..)) (Int.dvd_trans (H i (by omega) hi) (Int.dvd_mul_left ..))
      · rw [eo j h4 h3]; exact H j h1 h2
  · have hgt := H t (Nat.le_refl _) (by omega)
    rw [et] at hgt
    by_cases h3 : j = i
    · subst h3; exact Int.dvd_trans hgt h.dy
    · by_cases h4 : j = t
      · subst h4; exact Int.dvd_trans hgt h.dx
      · have := H j h1 h2; rw [eo j h4 h3] at this; exact this
  · have hdx := H t (Nat.le_refl _) (by omega) hx
    have hdy := H i (by omega) hi hy
    by_cases h4 : j = i
    · subst h4; rw [ei]; exact lcm_dvd h hdx hdy
    · by_cases h5 : j = t
      · subst h5; rw [et]; exact Int.dvd_trans h.dx hdx
      · rw [eo j h5 h4] at h3 ⊢; exact H j h1 h2 h3
  · have hm := H i (by omega) hi (by rw [ei]; exact hm0)
    rw [ei] at hm
    by_cases h4 : j = i
    · subst h4; exact Int.dvd_trans (Int.dvd_mul_left ..) hm
    · by_cases h5 : j = t
      · subst h5
        refine Int.dvd_trans ?_ hm
        rw [e, hy']
        exact ⟨y', by rw [hx']; grind⟩
      · have := H j h1 h2 (by rw [eo j h5 h4]; exact h3); rw [eo j h5 h4] at this; exact this
  · refine cnt_congr fun j hj => ?_
    by_cases h4 : j = i
    · subst h4; rw [ei]; exact ⟨fun h0 => absurd h0 hm0, fun h0 => absurd h0 hy⟩
    · by_cases h5 : j = t
      · subst h5; rw [et]; exact ⟨fun h0 => by omega, fun h0 => absurd h0 hx⟩
      · rw [eo j h5 h4]
theorem Eqv.swap {t j n : Nat} {d : Nat → Int} (htj : t < j) (hj : j < n) : Eqv t n d (upd (upd d t (d j)) j (d t)) := by
  have et : upd (upd d t (d j)) j (d t) t = d j := by unfold upd; rw [if_neg (by omega), if_pos rfl]
  have ej : upd (upd d t (d j)) j (d t) j = d t := by unfold upd; rw [if_pos rfl]
  have eo : ∀ i, i ≠ t → i ≠ j → upd (upd d t (d j)) j (d t) i = d i := fun i h1 h2 => by unfold upd; rw [if_neg h2, if_neg h1]
  have key : ∀ p : Int → Prop, (∀ i, t ≤ i → i < n → p (d i)) ↔ (∀ i, t ≤ i → i < n → p (upd (upd d t (d j)) j (d t) i)) := fun p => ⟨fun H i h1 h2 => by
    by_cases h3 : i = t
    · subst h3; rw [et]; exact H j (by omega) hj
    · by_cases h4 : i = j
      · subst h4; rw [ej]; exact H t (by omega) (by omega)
      · rw [eo i h3 h4]; exact H i h1 h2, fun H i h1 h2 => by
    by_cases h3 : i = t
    · subst h3; have := H j (by omega) hj; rw [ej] at this; exact this
    · by_cases h4 : i = j
      · subst h4; have := H t (by omega) (by omega); rw [et] at this; exact this
      · have := H i h1 h2; rw [eo i h3 h4] at this; exact this⟩
  refine ⟨fun i hi => eo i (by omega) (by omega), fun c => key (fun x => c ∣ x), fun c => key (fun x => x ≠ 0 → x ∣ c), ?_⟩
  have h1 := cnt_upd (n := n) (k := j) (d := upd d t (d j)) (v := d t) hj
  have h2 := cnt_upd (n := n) (k := t) (d := d) (v := d j) (by omega)
  have e : upd d t (d j) j = d j := by unfold upd; rw [if_neg (by omega)]
  rw [e] at h1
  omega
theorem Eqv.neg {t n : Nat} {d : Nat → Int} : Eqv t n d (upd d t (-(d t))) := by
  have et : upd d t (-(d t)) t = -(d t) := if_pos rfl
  have eo : ∀ i, i ≠ t → upd d t (-(d t)) i = d i := fun i h => if_neg h
  refine ⟨fun i hi => eo i (by omega), fun c => ⟨fun H i h1 h2 => ?_, fun H i h1 h2 => ?_⟩, fun c => ⟨fun H i h1 h2 h3 => ?_, fun H i h1 h2 h3 => ?_⟩, ?_⟩
  · by_cases e : i = t
    · subst e; rw [et]; exact Int.dvd_neg.2 (H i h1 h2)
    · rw [eo i e]; exact H i h1 h2
  · have := H i h1 h2
    by_cases e : i = t
    · subst e; rw [et] at this; exact Int.dvd_neg.1 this
    · rw [eo i e] at this; exact this
  · by_cases e : i = t
    · subst e; rw [et] at h3 ⊢; exact Int.neg_dvd.2 (H i h1 h2 (by omega))
    · rw [eo i e] at h3 ⊢; exact H i h1 h2 h3
  · by_cases e : i = t
    · subst e; have := H i h1 h2 (by rw [et]; omega); rw [et] at this; exact Int.neg_dvd.1 this
    · have := H i h1 h2 (by rw [eo i e]; exact h3); rw [eo i e] at this; exact this
  · refine cnt_congr fun i _ => ?_
    by_cases e : i = t
    · subst e; rw [et]; omega
    · rw [eo i e]

theorem clearT_zero (x : Int) : clearT x 0 = none := by unfold clearT; rw [if_pos rfl]
theorem clearT_div {x y : Int} (hy : y ≠ 0) (hx : x ≠ 0) (h : x ∣ y) : clearT x y = some (⟨1, 0, -(y / x), 1⟩, false) := by
  unfold clearT; rw [if_neg hy, if_pos ⟨hx, Int.emod_eq_zero_of_dvd h⟩]
theorem clearT_gcd {x y : Int} (hy : y ≠ 0) (h : ¬ x ∣ y) : clearT x y = some (⟨(gcdF x y).2.1, (gcdF x y).2.2, -(y / (gcdF x y).1), x / (gcdF x y).1⟩, true) := by
  unfold clearT; rw [if_neg hy, if_neg (fun h' => h (Int.dvd_of_emod_eq_zero h'.2))]

def DivM (n : Nat) (d : Nat → Int) (M : Int) : Prop := ∀ i, i < n → d i ≠ 0 → d i ∣ M
theorem DivM.le {n : Nat} {d : Nat → Int} {M : Int} (h : DivM n d M) (hM : M ≠ 0) {i : Nat} (hi : i < n) : (d i).natAbs ≤ M.natAbs := by
  by_cases h0 : d i = 0
  · rw [h0]; simp
  · exact Nat.le_of_dvd (by omega) (Int.natAbs_dvd_natAbs.2 (h i hi h0))
theorem DivM.eqv {t n : Nat} {d d' : Nat → Int} {M : Int} (h : DivM n d M) (e : Eqv t n d d') : DivM n d' M := fun i hi h0 => by
  by_cases hit : i < t
  · rw [e.lo i hit] at h0 ⊢; exact h i hi h0
  · exact (e.l M).1 (fun i _ hi h0 => h i hi h0) i (by omega) hi h0
theorem Dg.sz {n : Nat} {S : Sm} {d : Nat → Int} {M : Int} (h : Dg n S d) (hd : DivM n d M) (hM : M ≠ 0) : Sz M.natAbs n n S.d := fun i j hi hj => by
  rw [h.eq i j hi hj]
  split
  · exact hd.le hM hi
  · simp

theorem dspoil {K n t i B C : Nat} {S : Sm} {d : Nat → Int} {M : Int} (h : Dg n S d) (hM : M ≠ 0) (hd : DivM n d M) (hC : M.natAbs ≤ C) (hti : t < i) (hi : i < n) (hx : d t ≠ 0) (hb : ¬ d t ∣ d i)
    (hU : SzU B n n S) (hK : 2 * C * (2 * C * (2 * C * B)) < 256 ^ K) (hK' : C < 256 ^ K) :
    ∃ S1 S' d', ck K (S.rows t i ⟨1, 1, 0, 1⟩) = some S1 ∧ crossF K t n n 2 S1 = some S' ∧ Dg n S' d' ∧ Eqv t n d d' ∧ d' t ≠ 0 ∧ 2 * (d' t).natAbs ≤ (d t).natAbs ∧ SzU (2 * C * (2 * C * (2 * C * B))) n n S' := by
  have hC1 : 1 ≤ C := by omega
  have hy : d i ≠ 0 := fun e => hb (by rw [e]; exact Int.dvd_zero _)
  have hg := gcdN hx hy
  have htn : t < n := by omega
  have hle : B ≤ 2 * C * B := le_twoC hC1
  have hle2 : 2 * C * B ≤ 2 * C * (2 * C * B) := le_twoC hC1
  have hle3 : 2 * C * (2 * C * B) ≤ 2 * C * (2 * C * (2 * C * B)) := le_twoC hC1
  have cb1 : CB C ⟨1, 1, 0, 1⟩ := ⟨by simpa using hC1, by simpa using hC1, by simp, by simpa using hC1⟩
  have D1 : Dm n n (S.rows t i ⟨1, 1, 0, 1⟩) := h.dm.rows htn hi
  have U1 : SzU (2 * C * B) n n (S.rows t i ⟨1, 1, 0, 1⟩) := hU.rows h.dm htn hi cb1 hC1
  have E1 : ∀ a b, a < n → b < n → gE (S.rows t i ⟨1, 1, 0, 1⟩).d a b = if a = t ∧ b = i then d i else if a = b then d a else 0 := fun a b ha hb => by
    show gE (rowsL t i _ S.d) a b = _
    rw [gE_rows h.dm.d htn hi hb]
    unfold Tn.p Tn.q
    dsimp only
    rw [h.eq t b htn hb, h.eq i b hi hb, h.eq a b ha hb]
    grind
  have Z1 : Sz C n n (S.rows t i ⟨1, 1, 0, 1⟩).d := fun a b ha hb => by
    rw [E1 a b ha hb]
    have q1 := hd.le hM ha
    have q2 := hd.le hM hi
    split
    · omega
    · split
      · omega
      · simp
  have C1 := ck_of D1 U1 Z1 (by omega) hK'
  refine ⟨S.rows t i ⟨1, 1, 0, 1⟩, ?_⟩
  generalize S.rows t i ⟨1, 1, 0, 1⟩ = S1 at *
  obtain ⟨g, hgd⟩ : ∃ g, g = (gcdF (d t) (d i)).1 := ⟨_, rfl⟩
  obtain ⟨s, hsd⟩ : ∃ s, s = (gcdF (d t) (d i)).2.1 := ⟨_, rfl⟩
  obtain ⟨u, hud⟩ : ∃ u, u = (gcdF (d t) (d i)).2.2 := ⟨_, rfl⟩
  have hcl := clearT_gcd (x := d t) (y := d i) hy hb
  rw [← hgd, ← hsd, ← hud] at hg hcl
  have hgp := hg.p
  obtain ⟨x', hx'⟩ := hg.dx
  obtain ⟨y', hy'⟩ := hg.dy
  have exg : d t / g = x' := by rw [hx', Int.mul_ediv_cancel_left _ (by omega)]
  have eyg : d i / g = y' := by rw [hy', Int.mul_ediv_cancel_left _ (by omega)]
  rw [exg, eyg] at hcl
  have hx0 : x' ≠ 0 := fun h0 => hx (by rw [hx', h0, Int.mul_zero])
  have hy0 : y' ≠ 0 := fun h0 => hy (by rw [hy', h0, Int.mul_zero])
  have hbz : s * x' + u * y' = 1 := Int.eq_of_mul_eq_mul_left (a := g) (by omega) (by have := hg.b; grind)
  have hgn : 0 < g.natAbs := by omega
  have hMx := hd.le hM htn
  have hMy := hd.le hM hi
  have bs : s.natAbs ≤ C := by have := Nat.le_mul_of_pos_right s.natAbs hgn; have := hg.hs; omega
  have bu : u.natAbs ≤ C := by have := Nat.le_mul_of_pos_right u.natAbs hgn; have := hg.ht; omega
  have nx : (d t).natAbs = g.natAbs * x'.natAbs := by rw [← Int.natAbs_mul, ← hx']
  have ny : (d i).natAbs = g.natAbs * y'.natAbs := by rw [← Int.natAbs_mul, ← hy']
  have bx : x'.natAbs ≤ C := by have := Nat.le_mul_of_pos_left x'.natAbs hgn; omega
  have by' : y'.natAbs ≤ C := by have := Nat.le_mul_of_pos_left y'.natAbs hgn; omega
  have hlm : x' * d i ∣ M := by have := lcm_dvd hg (hd t htn hx) (hd i hi hy); rw [exg] at this; exact this
  have hlc : (x' * d i).natAbs ≤ C := Nat.le_trans (Nat.le_of_dvd (by omega) (Int.natAbs_dvd_natAbs.2 hlm)) hC
  have hux : u.natAbs ≤ x'.natAbs := by
    have h1 := hg.ht
    rw [nx, Nat.mul_comm] at h1
    exact Nat.le_of_mul_le_mul_left h1 hgn
  have hud' : (u * d i).natAbs ≤ C := by
    rw [Int.natAbs_mul] at hlc ⊢
    exact Nat.le_trans (Nat.mul_le_mul_right _ hux) hlc
  have huy : (u * y').natAbs ≤ C := by
    rw [Int.natAbs_mul] at hud' ⊢
    have := Nat.mul_le_mul_left u.natAbs (show y'.natAbs ≤ (d i).natAbs by rw [ny]; exact Nat.le_mul_of_pos_left _ hgn)
    omega
  have cb2 : CB C ⟨s, u, -y', x'⟩ := ⟨bs, bu, by show (-y').natAbs ≤ C; rw [Int.natAbs_neg]; exact by', bx⟩
  have D2 : Dm n n (S1.cols t i ⟨s, u, -y', x'⟩) := D1.cols htn hi
  have U2 : SzU (2 * C * (2 * C * B)) n n (S1.cols t i ⟨s, u, -y', x'⟩) := U1.cols D1 htn hi cb2 hC1
  have E2 : ∀ a b, a < n → b < n → gE (S1.cols t i ⟨s, u, -y', x'⟩).d a b = if a = t ∧ b = t then g else if a = i ∧ b = t then u * d i else if a = i ∧ b = i then x' * d i else if a = b then d a else 0 := fun a b ha hb => by
    show gE (colsL t i _ S1.d) a b = _
    rw [gE_cols D1.d htn hi ha]
    unfold Tn.p Tn.q
    dsimp only
    rw [E1 a t ha htn, E1 a i ha hi, E1 a b ha hb]
    have hgb := hg.b
    have e0 : -y' * d t + x' * d i = 0 := by rw [hx', hy']; grind
    grind
  have Z2 : Sz C n n (S1.cols t i ⟨s, u, -y', x'⟩).d := fun a b ha hb => by
    rw [E2 a b ha hb]
    have q1 := hd.le hM ha
    have q2 : g.natAbs ≤ C := by have := Nat.le_mul_of_pos_right g.natAbs (show 0 < x'.natAbs by omega); omega
    split
    · omega
    · split
      · exact hud'
      · split
        · exact hlc
        · split
          · omega
          · simp
  have C2 := ck_of D2 U2 Z2 (by omega) hK'
  have hne : gE S1.d t t = d t := by rw [E1 t t htn htn, if_neg (by omega), if_pos rfl]
  have hne2 : gE S1.d t i = d i := by rw [E1 t i htn hi, if_pos ⟨rfl, rfl⟩]
  have hc2 : clrC K t i S1 = some (S1.cols t i ⟨s, u, -y', x'⟩, true) := by
    unfold clrC
    rw [hne, hne2, hcl]
    dsimp only
    rw [C2]
  have hr1 : rowP K t (n - (t + 1)) (t + 1) S1 = some S1 := rowP_skip fun a h1 h2 => by rw [E1 a t (by omega) htn, if_neg (by omega), if_neg (by omega)]
  have hco1 : colP K t (n - (t + 1)) (t + 1) false S1 = some (S1.cols t i ⟨s, u, -y', x'⟩, true) := by
    rw [show n - (t + 1) = (i - (t + 1)) + (1 + (n - (i + 1))) by omega, colP_app, colP_skip fun a h1 h2 => by rw [E1 t a htn (by omega), if_neg (by omega), if_neg (by omega)]]
    dsimp only
    rw [colP_app, show t + 1 + (i - (t + 1)) = i by omega, colP_one hc2]
    dsimp only
    rw [colP_skip fun a h1 h2 => by rw [E2 t a htn (by omega), if_neg (by omega), if_neg (by omega), if_neg (by omega), if_neg (by omega)]]
    rfl
  generalize S1.cols t i ⟨s, u, -y', x'⟩ = S2 at *
  have f1 : gE S2.d t t = g := by rw [E2 t t htn htn, if_pos ⟨rfl, rfl⟩]
  have f2 : gE S2.d i t = u * d i := by rw [E2 i t hi htn, if_neg (by omega), if_pos ⟨rfl, rfl⟩]
  have hlast : ∃ S3, clrR K t i S2 = some (S3, false) ∧ Dg n S3 (upd (upd d t g) i (x' * d i)) ∧ SzU (2 * C * (2 * C * (2 * C * B))) n n S3 := by
    by_cases h0 : u * d i = 0
    · refine ⟨S2, ?_, ⟨D2, fun a b ha hb => ?_⟩, U2.mono hle3⟩
      · unfold clrR
        rw [f1, f2, h0, clearT_zero]
      · rw [E2 a b ha hb]
        unfold upd
        grind
    · have cb3 : CB C ⟨1, 0, -(u * y'), 1⟩ := ⟨by simpa using hC1, by simp, by show (-(u * y')).natAbs ≤ C; rw [Int.natAbs_neg]; exact huy, by simpa using hC1⟩
      have hdv : g ∣ u * d i := Int.dvd_trans hg.dy (Int.dvd_mul_left ..)
      have eq : u * d i / g = u * y' := by rw [hy', show u * (g * y') = g * (u * y') by grind, Int.mul_ediv_cancel_left _ (by omega)]
      have hcl3 := clearT_div h0 (show g ≠ 0 by omega) hdv
      rw [eq] at hcl3
      have D3 : Dm n n (S2.rows t i ⟨1, 0, -(u * y'), 1⟩) := D2.rows htn hi
      have U3 : SzU (2 * C * (2 * C * (2 * C * B))) n n (S2.rows t i ⟨1, 0, -(u * y'), 1⟩) := U2.rows D2 htn hi cb3 hC1
      have E3 : ∀ a b, a < n → b < n → gE (S2.rows t i ⟨1, 0, -(u * y'), 1⟩).d a b = if a = b then upd (upd d t g) i (x' * d i) a else 0 := fun a b ha hb => by
        show gE (rowsL t i _ S2.d) a b = _
        rw [gE_rows D2.d htn hi hb]
        unfold Tn.p Tn.q
        dsimp only
        rw [E2 t b htn hb, E2 i b hi hb, E2 a b ha hb]
        have e0 : -(u * y') * g + 1 * (u * d i) = 0 := by rw [hy']; grind
        unfold upd
        grind
      have G3 : Dg n (S2.rows t i ⟨1, 0, -(u * y'), 1⟩) (upd (upd d t g) i (x' * d i)) := ⟨D3, E3⟩
      have ev := Eqv.pair (n := n) hti hi hg hx hy
      rw [exg] at ev
      have Z3 := G3.sz (hd.eqv ev) hM
      have C3 := ck_of D3 U3 (Z3.mono hC) (by omega) hK'
      refine ⟨_, ?_, G3, U3⟩
      unfold clrR
      rw [f1, f2, hcl3]
      dsimp only
      rw [C3]
  obtain ⟨S3, hc3, G3, U3⟩ := hlast
  have ev := Eqv.pair (n := n) hti hi hg hx hy
  rw [exg] at ev
  have et : upd (upd d t g) i (x' * d i) t = g := by unfold upd; rw [if_neg (by omega), if_pos rfl]
  refine ⟨S3, _, C1, ?_, G3, ev, by rw [et]; omega, ?_, U3⟩
  · have hr2 : rowP K t (n - (t + 1)) (t + 1) S2 = some S3 := by
      rw [show n - (t + 1) = (i - (t + 1)) + (1 + (n - (i + 1))) by omega, rowP_app, rowP_skip fun a h1 h2 => by rw [E2 a t (by omega) htn, if_neg (by omega), if_neg (by omega), if_neg (by omega), if_neg (by omega)]]
      dsimp only
      rw [rowP_app, show t + 1 + (i - (t + 1)) = i by omega, rowP_one hc3]
      dsimp only
      exact rowP_skip fun a h1 h2 => by rw [G3.eq a t (by omega) htn, if_neg (by omega)]
    have hco2 : colP K t (n - (t + 1)) (t + 1) false S3 = some (S3, false) := colP_skip fun a h1 h2 => by rw [G3.eq t a htn (by omega), if_neg (by omega)]
    rw [crossF, hr1]
    dsimp only
    rw [hco1]
    dsimp only
    rw [if_pos rfl, crossF, hr2]
    dsimp only
    rw [hco2]
    rfl
  · rw [et, nx]
    have hx1 : x'.natAbs ≠ 1 := fun h1 => hb (by
      rw [hx', hy']
      exact Int.mul_dvd_mul_left g (Int.natAbs_dvd.1 (by rw [h1]; exact Int.one_dvd _)))
    have := Nat.mul_le_mul_left g.natAbs (show 2 ≤ x'.natAbs by omega)
    omega

theorem dcross {K t n f : Nat} {S : Sm} {d : Nat → Int} (h : Dg n S d) (ht : t < n) : crossF K t n n (f + 1) S = some S := by
  rw [crossF, rowP_skip fun a h1 h2 => by rw [h.eq a t (by omega) ht, if_neg (by omega)]]
  dsimp only
  rw [colP_skip fun a h1 h2 => by rw [h.eq t a ht (by omega), if_neg (by omega)]]
  rfl
theorem dspoiled {n t : Nat} {S : Sm} {d : Nat → Int} (h : Dg n S d) (ht : t < n) (hx : d t ≠ 0) :
    (spoiledF S t n n = none ∧ ∀ i, t < i → i < n → d t ∣ d i) ∨ ∃ i, spoiledF S t n n = some i ∧ t < i ∧ i < n ∧ ¬ d t ∣ d i := by
  have key : ∀ i, t < i → i < n → (badRow S t n i = true ↔ ¬ d t ∣ d i) := fun i h1 h2 => by
    unfold badRow
    rw [List.any_eq_true]
    have ett : gE S.d t t = d t := by rw [h.eq t t ht ht, if_pos rfl]
    constructor
    · rintro ⟨j, hj, hr⟩ hd
      rw [List.mem_range'_1] at hj
      have hr := of_decide_eq_true hr
      rw [ett, h.eq i j h2 (by omega)] at hr
      unfold remZ at hr
      rw [if_neg hx] at hr
      split at hr
      · exact hr (Int.emod_eq_zero_of_dvd hd)
      · exact hr (Int.zero_emod _)
    · intro hd
      refine ⟨i, List.mem_range'_1.2 (by omega), decide_eq_true ?_⟩
      rw [ett, h.eq i i h2 h2, if_pos rfl]
      unfold remZ
      rw [if_neg hx]
      exact fun e => hd (Int.dvd_of_emod_eq_zero e)
  cases hs : spoiledF S t n n with
  | none =>
    refine .inl ⟨rfl, fun i h1 h2 => ?_⟩
    have := List.find?_eq_none.1 hs i (List.mem_range'_1.2 (by omega))
    exact Decidable.byContradiction fun hn => this ((key i h1 h2).2 hn)
  | some i =>
    have h1 := List.mem_of_find?_eq_some hs
    rw [List.mem_range'_1] at h1
    have h2 := List.find?_some hs
    exact .inr ⟨i, rfl, by omega, by omega, (key i (by omega) (by omega)).1 h2⟩

theorem dstage {K n t C : Nat} {M : Int} (ht : t < n) (hM : M ≠ 0) (hC : M.natAbs ≤ C) (hK' : C < 256 ^ K) : ∀ (f k : Nat) (S0 S : Sm) (d : Nat → Int), crossF K t n n 2 S0 = some S → Dg n S d → d t ≠ 0 → (d t).natAbs < 2 ^ f → DivM n d M →
    SzU ((2 * C) ^ k) n n S → (2 * C) ^ (k + 3 * f) < 256 ^ K →
    ∃ S' d', stageF K 2 t n n (f + 1) S0 = some S' ∧ Dg n S' d' ∧ Eqv t n d d' ∧ d' t ≠ 0 ∧ (∀ i, t < i → i < n → d' t ∣ d' i) ∧ SzU ((2 * C) ^ (k + 3 * f)) n n S'
  | 0, k, S0, S, d, _, _, hx, hf, _, _, _ => by
    have : (d t).natAbs < 1 := hf
    omega
  | f + 1, k, S0, S, d, hc, h, hx, hf, hd, hU, hK => by
    have hC1 : 1 ≤ C := by omega
    have hp1 : ∀ a b, a ≤ b → (2 * C) ^ a ≤ (2 * C) ^ b := fun a b hab => Nat.pow_le_pow_right (by omega) hab
    rw [stageF, hc]
    dsimp only
    rcases dspoiled h ht hx with ⟨hs, hdv⟩ | ⟨i, hs, hti, hi, hb⟩
    · rw [hs]
      exact ⟨S, d, rfl, h, Eqv.refl _ _ _, hx, hdv, hU.mono (hp1 _ _ (by omega))⟩
    · rw [hs]
      dsimp only
      have e3 : 2 * C * (2 * C * (2 * C * (2 * C) ^ k)) = (2 * C) ^ (k + 3) := by
        rw [show k + 3 = k + 1 + 1 + 1 from rfl, Nat.pow_succ, Nat.pow_succ, Nat.pow_succ]
        generalize 2 * C = w
        generalize w ^ k = z
        simp only [Nat.mul_comm, Nat.mul_left_comm, Nat.mul_assoc]
      have hK3 : (2 * C) ^ (k + 3) < 256 ^ K := Nat.lt_of_le_of_lt (hp1 _ _ (by omega)) hK
      obtain ⟨S1, S2, d2, c1, c2, G2, ev, hx2, h2, U2⟩ := dspoil h hM hd hC hti hi hx hb hU (by rw [e3]; exact hK3) hK'
      rw [c1]
      dsimp only
      rw [e3] at U2
      have hf2 : (d2 t).natAbs < 2 ^ f := by rw [Nat.pow_succ] at hf; omega
      obtain ⟨S', d', s1, s2, s3, s4, s5, s6⟩ := dstage ht hM hC hK' f (k + 3) S1 S2 d2 c2 G2 hx2 hf2 (hd.eqv ev) U2 (by rw [show k + 3 + 3 * f = k + 3 * (f + 1) by omega]; exact hK)
      rw [show k + 3 + 3 * f = k + 3 * (f + 1) by omega] at s6
      exact ⟨S', d', s1, s2, ev.trans s3, s4, s5, s6⟩

theorem dfind {n t : Nat} {S : Sm} {d : Nat → Int} (h : Dg n S d) :
    (findP S t n n = none ∧ ∀ i, t ≤ i → i < n → d i = 0) ∨ ∃ j, findP S t n n = some (j, j) ∧ t ≤ j ∧ j < n ∧ d j ≠ 0 := by
  cases hs : findP S t n n with
  | none =>
    refine .inl ⟨rfl, fun i h1 h2 => ?_⟩
    have := List.findSome?_eq_none_iff.1 hs i (List.mem_range'_1.2 (by omega))
    rw [Option.map_eq_none_iff] at this
    have := List.find?_eq_none.1 this i (List.mem_range'_1.2 (by omega))
    rw [h.eq i i h2 h2, if_pos rfl] at this
    exact Decidable.byContradiction fun hn => this (decide_eq_true hn)
  | some q =>
    obtain ⟨j, hj, hq⟩ := List.exists_of_findSome?_eq_some hs
    rw [List.mem_range'_1] at hj
    obtain ⟨i, hi, rfl⟩ := Option.map_eq_some_iff.1 hq
    have h1 := List.mem_of_find?_eq_some hi
    rw [List.mem_range'_1] at h1
    have h2 : gE S.d i j ≠ 0 := by simpa using List.find?_some hi
    rw [h.eq i j (by omega) (by omega)] at h2
    by_cases e : i = j
    · subst e
      rw [if_pos rfl] at h2
      exact .inr ⟨i, rfl, by omega, by omega, h2⟩
    · rw [if_neg e] at h2; exact absurd rfl h2

theorem dpivot {K n t C k : Nat} {S : Sm} {d : Nat → Int} {M : Int} (h : Dg n S d) (hM : M ≠ 0) (hd : DivM n d M) (hC : M.natAbs ≤ C) (hK' : C < 256 ^ K) (hU : SzU ((2 * C) ^ k) n n S) (hK : (2 * C) ^ (k + 2) < 256 ^ K) (ht : t < n) :
    (pivotF K t n n S = some (S, false) ∧ ∀ i, t ≤ i → i < n → d i = 0) ∨ ∃ S' d', pivotF K t n n S = some (S', true) ∧ Dg n S' d' ∧ Eqv t n d d' ∧ d' t ≠ 0 ∧ SzU ((2 * C) ^ (k + 2)) n n S' := by
  have hC1 : 1 ≤ C := by omega
  have hp1 : ∀ a b, a ≤ b → (2 * C) ^ a ≤ (2 * C) ^ b := fun a b hab => Nat.pow_le_pow_right (by omega) hab
  unfold pivotF
  rcases dfind (t := t) h with ⟨hf, hz⟩ | ⟨j, hf, htj, hj, hx⟩
  · rw [hf]; exact .inl ⟨rfl, hz⟩
  · rw [hf]
    dsimp only
    by_cases e : j = t
    · subst e
      rw [if_pos rfl]
      dsimp only
      rw [if_pos rfl]
      exact .inr ⟨S, d, rfl, h, Eqv.refl _ _ _, hx, hU.mono (hp1 _ _ (by omega))⟩
    · rw [if_neg e]
      have cb : CB C ⟨0, 1, -1, 0⟩ := ⟨by simp, by simpa using hC1, by simpa using hC1, by simp⟩
      have D1 : Dm n n (S.rows t j ⟨0, 1, -1, 0⟩) := h.dm.rows ht hj
      have U1 := hU.rows h.dm ht hj cb hC1
      have D2 : Dm n n ((S.rows t j ⟨0, 1, -1, 0⟩).cols t j ⟨0, 1, -1, 0⟩) := D1.cols ht hj
      have U2 := U1.cols D1 ht hj cb hC1
      have e2 : 2 * C * (2 * C * (2 * C) ^ k) = (2 * C) ^ (k + 2) := by
        rw [show k + 2 = k + 1 + 1 from rfl, Nat.pow_succ, Nat.pow_succ]
        generalize 2 * C = w
        generalize w ^ k = z
        simp only [Nat.mul_comm, Nat.mul_left_comm]
      have hle : 2 * C * (2 * C) ^ k ≤ 2 * C * (2 * C * (2 * C) ^ k) := le_twoC hC1
      rw [e2] at U2 hle
      have E1 : ∀ a b, a < n → b < n → gE (S.rows t j ⟨0, 1, -1, 0⟩).d a b = if a = t ∧ b = j then d j else if a = j ∧ b = t then -(d t) else if a = t ∨ a = j then 0 else if a = b then d a else 0 := fun a b ha hb => by
        show gE (rowsL t j _ S.d) a b = _
        rw [gE_rows h.dm.d ht hj hb]
        unfold Tn.p Tn.q
        dsimp only
        rw [h.eq t b ht hb, h.eq j b hj hb, h.eq a b ha hb]
        grind
      have E2 : ∀ a b, a < n → b < n → gE ((S.rows t j ⟨0, 1, -1, 0⟩).cols t j ⟨0, 1, -1, 0⟩).d a b = if a = b then upd (upd d t (d j)) j (d t) a else 0 := fun a b ha hb => by
        show gE (colsL t j _ (S.rows t j ⟨0, 1, -1, 0⟩).d) a b = _
        rw [gE_cols D1.d ht hj ha]
        unfold Tn.p Tn.q
        dsimp only
        rw [E1 a t ha ht, E1 a j ha hj, E1 a b ha hb]
        unfold upd
        grind
      have G2 : Dg n ((S.rows t j ⟨0, 1, -1, 0⟩).cols t j ⟨0, 1, -1, 0⟩) (upd (upd d t (d j)) j (d t)) := ⟨D2, E2⟩
      have ev := Eqv.swap (n := n) (d := d) (show t < j by omega) hj
      have Z1 : Sz C n n (S.rows t j ⟨0, 1, -1, 0⟩).d := fun a b ha hb => by
        rw [E1 a b ha hb]
        have q1 := hd.le hM ha
        have q2 := hd.le hM hj
        have q3 := hd.le hM ht
        split
        · omega
        · split
          · rw [Int.natAbs_neg]; omega
          · split
            · simp
            · split
              · omega
              · simp
      have C1 := ck_of D1 U1 Z1 (by omega) hK'
      have C2 := ck_of D2 U2 ((G2.sz (hd.eqv ev) hM).mono hC) hK hK'
      rw [C1]
      dsimp only
      rw [if_neg e, C2]
      refine .inr ⟨_, _, rfl, G2, ev, ?_, U2⟩
      have et : upd (upd d t (d j)) j (d t) t = d j := by unfold upd; rw [if_neg (by omega), if_pos rfl]
      rw [et]; exact hx

theorem neg_getD {l : List Int} {b : Nat} : (l.map fun x => -x).getD b 0 = -(l.getD b 0) := by
  rw [List.getD, List.getElem?_map, List.getD]
  cases l[b]? <;> rfl
theorem rec_negR {r c t : Nat} {g : List (List Int)} (h : Rec r c g) (ht : t < r) : Rec r c (negR t g) := h.set (by rw [List.length_map, h.at ht])
theorem rec_negC {r c t : Nat} {g : List (List Int)} (h : Rec r c g) : Rec r c (negC t g) :=
  ⟨by unfold negC; rw [List.length_map, h.len], fun x hx => by
    unfold negC at hx
    obtain ⟨y, hy, rfl⟩ := List.mem_map.1 hx
    rw [List.length_set]; exact h.row y hy⟩
theorem Dm.neg' {m n t : Nat} {S : Sm} (h : Dm m n S) (ht : t < m) : Dm m n (S.neg t) := ⟨rec_negR h.u ht, rec_negC h.ui, rec_negR h.d ht, h.v, h.vi⟩
theorem gE_nR {r c t a b : Nat} {g : List (List Int)} (h : Rec r c g) (ht : t < r) : gE (negR t g) a b = if a = t then -(gE g t b) else gE g a b := by
  have hl := h.len
  unfold gE negR
  rw [gD_setL (by omega)]
  by_cases e : a = t
  · rw [if_pos e, if_pos e, neg_getD]
  · rw [if_neg e, if_neg e]
theorem gE_nC {r c t a b : Nat} {g : List (List Int)} (h : Rec r c g) (ht : t < c) (ha : a < r) : gE (negC t g) a b = if b = t then -(gE g a t) else gE g a b := by
  have h1 := h.at ha
  have hl := h.len
  have e : (negC t g).getD a [] = (g.getD a []).set t (-((g.getD a []).getD t 0)) := by
    unfold negC
    rw [List.getD, List.getElem?_map, List.getD, List.getElem?_eq_getElem (show a < g.length by omega)]
    rfl
  unfold gE
  rw [e, gD_setL (by omega)]
theorem sz_negR {B r c t : Nat} {g : List (List Int)} (h : Sz B r c g) (hR : Rec r c g) (ht : t < r) : Sz B r c (negR t g) := fun a b ha hb => by
  rw [gE_nR hR ht]
  split
  · rw [Int.natAbs_neg]; exact h t b ht hb
  · exact h a b ha hb
theorem sz_negC {B r c t : Nat} {g : List (List Int)} (h : Sz B r c g) (hR : Rec r c g) (ht : t < c) : Sz B r c (negC t g) := fun a b ha hb => by
  rw [gE_nC hR ht ha]
  split
  · rw [Int.natAbs_neg]; exact h a t ha ht
  · exact h a b ha hb
theorem SzU.neg {B m n t : Nat} {S : Sm} (h : SzU B m n S) (hD : Dm m n S) (ht : t < m) : SzU B m n (S.neg t) := ⟨sz_negR h.u hD.u ht, sz_negC h.ui hD.ui ht, h.v, h.vi⟩
theorem Dg.neg {n t : Nat} {S : Sm} {d : Nat → Int} (h : Dg n S d) (ht : t < n) : Dg n (S.neg t) (upd d t (-(d t))) :=
  ⟨h.dm.neg' ht, fun i j hi hj => by
    show gE (negR t S.d) i j = _
    rw [gE_nR h.dm.d ht, h.eq t j ht hj, h.eq i j hi hj]
    unfold upd
    grind⟩

structure Shown (n : Nat) (d' : Nat → Int) (r : Nat) : Prop where
  le : r ≤ n
  p : ∀ i, i < r → 0 < d' i
  z : ∀ i, r ≤ i → i < n → d' i = 0
  dv : ∀ i j, i < j → j < r → d' i ∣ d' j
theorem dform {K n C f : Nat} {M : Int} (hM : M ≠ 0) (hC : M.natAbs ≤ C) (hf : M.natAbs < 2 ^ f) (hK' : C < 256 ^ K) : ∀ (k t e : Nat) (S : Sm) (d : Nat → Int), t + k = n → Dg n S d → DivM n d M →
    SzU ((2 * C) ^ e) n n S → (2 * C) ^ (e + (3 * f + 2) * k) < 256 ^ K → (∀ i, i < t → 0 < d i) → (∀ i j, i < t → i < j → j < n → d i ∣ d j) →
    ∃ S' d' r, formF K 2 (f + 1) n n k t S = some S' ∧ Dg n S' d' ∧ Eqv t n d d' ∧ Shown n d' r
  | 0, t, e, S, d, hk, h, hd, hU, hK, h0, h1 => by
    refine ⟨S, d, n, rfl, h, Eqv.refl _ _ _, Nat.le_refl _, fun i hi => h0 i (by omega), fun i h1 h2 => by omega, fun i j hij hj => h1 i j (by omega) hij hj⟩
  | k + 1, t, e, S, d, hk, h, hd, hU, hK, h0, h1 => by
    have hC1 : 1 ≤ C := by omega
    have hp1 : ∀ a b, a ≤ b → (2 * C) ^ a ≤ (2 * C) ^ b := fun a b hab => Nat.pow_le_pow_right (by omega) hab
    have hks : (3 * f + 2) * (k + 1) = (3 * f + 2) * k + (3 * f + 2) := Nat.mul_succ _ _
    rw [hks] at hK
    have ht : t < n := by omega
    rw [formF]
    rcases dpivot (t := t) h hM hd hC hK' hU (Nat.lt_of_le_of_lt (hp1 _ _ (by omega)) hK) ht with ⟨hp, hz⟩ | ⟨S1, d1, hp, G1, ev1, hx1, U1⟩
    · rw [hp]
      exact ⟨S, d, t, rfl, h, Eqv.refl _ _ _, by omega, h0, hz, fun i j hij hj => h1 i j (by omega) hij (by omega)⟩
    · rw [hp]
      dsimp only
      rw [if_pos rfl]
      have hd1 := hd.eqv ev1
      obtain ⟨S2, d2, hs, G2, ev2, hx2, hdv, U2⟩ := dstage ht hM hC hK' f (e + 2) S1 S1 d1 (dcross G1 ht) G1 hx1 (Nat.lt_of_le_of_lt (hd1.le hM ht) hf) hd1 U1 (Nat.lt_of_le_of_lt (hp1 _ _ (by omega)) hK)
      rw [hs]
      dsimp only
      have ev12 := ev1.trans ev2
      have ett : gE S2.d t t = d2 t := by rw [G2.eq t t ht ht, if_pos rfl]
      obtain ⟨S3, d3, hS3, G3, ev3, hp3, hdv3, U3⟩ : ∃ S3 d3, (if gE S2.d t t < 0 then S2.neg t else S2) = S3 ∧ Dg n S3 d3 ∧ Eqv t n d d3 ∧ 0 < d3 t ∧ (∀ i, t < i → i < n → d3 t ∣ d3 i) ∧ SzU ((2 * C) ^ (e + 2 + 3 * f)) n n S3 := by
        by_cases hn : d2 t < 0
        · refine ⟨S2.neg t, _, if_pos (by rw [ett]; exact hn), G2.neg ht, ev12.trans Eqv.neg, ?_, fun i h1 h2 => ?_, U2.neg G2.dm ht⟩
          · unfold upd; rw [if_pos rfl]; omega
          · unfold upd; rw [if_pos rfl, if_neg (by omega)]; exact Int.neg_dvd.2 (hdv i h1 h2)
        · exact ⟨S2, d2, if_neg (by rw [ett]; exact hn), G2, ev12, by omega, hdv, U2⟩
      rw [hS3]
      obtain ⟨S', d', r, f1, f2, f3, f4⟩ := dform hM hC hf hK' k (t + 1) (e + 2 + 3 * f) S3 d3 (by omega) G3 (hd.eqv ev3) U3 (Nat.lt_of_le_of_lt (hp1 _ _ (by omega)) hK)
        (fun i hi => by
          by_cases e : i = t
          · subst e; exact hp3
          · rw [ev3.lo i (by omega)]; exact h0 i (by omega))
        (fun i j hi hij hj => by
          by_cases e : i = t
          · subst e; exact hdv3 j hij hj
          · rw [ev3.lo i (by omega)]
            by_cases e' : j < t
            · rw [ev3.lo j e']; exact h1 i j (by omega) hij hj
            · exact (ev3.g (d i)).1 (fun a _ h4 => h1 i a (by omega) (by omega) h4) j (by omega) hj)
      exact ⟨S', d', r, f1, f2, ev3.trans f3.down, f4⟩

theorem cnt_shown : ∀ {n r : Nat} {d : Nat → Int}, Shown n d r → cnt n d = r
  | 0, r, d, h => by have := h.le; rw [cnt]; omega
  | n + 1, r, d, h => by
    rw [cnt]
    have hl := h.le
    by_cases e : r = n + 1
    · subst e
      have := h.p n (by omega)
      rw [if_neg (by omega), cnt_shown (n := n) (r := n) ⟨Nat.le_refl _, fun i hi => h.p i (by omega), fun i _ _ => by omega, fun i j hij hj => h.dv i j hij (by omega)⟩]
    · rw [if_pos (h.z n (by omega) (by omega)), cnt_shown (n := n) (r := r) ⟨by omega, h.p, fun i h1 h2 => h.z i h1 (by omega), h.dv⟩]
      rfl
theorem fac_shown {n r : Nat} {g : List (List Int)} {d : Nat → Int} (hg : ∀ i, i < n → gE g i i = d i) (h : Shown n d r) : ∀ k, k ≤ n → facP g k = (List.range (min k r)).map d
  | 0, _ => by rw [Nat.zero_min]; rfl
  | k + 1, hk => by
    have ih := fac_shown hg h k (by omega)
    by_cases e : k < r
    · have := h.p k e
      rw [facP_succ (by rw [hg k (by omega)]; omega), ih, hg k (by omega), Nat.min_eq_left (by omega), Nat.min_eq_left (by omega), List.range_succ, List.map_append]
      rfl
    · rw [facP_zero (by rw [hg k (by omega)]; exact h.z k (by omega) (by omega)), ih, Nat.min_eq_right (by omega), Nat.min_eq_right (by omega)]

theorem diag_law {n C K f : Nat} {x : Nat → Int} {a : List (List Int)} {G M : Int} (ha : Rec n n a) (he : ∀ i j, i < n → j < n → gE a i j = if i = j then x i else 0)
    (hG0 : 0 ≤ G) (hG : ∀ c : Int, (∀ i, i < n → c ∣ x i) ↔ c ∣ G) (hM0 : 0 < M) (hM : ∀ c : Int, (∀ i, i < n → x i ≠ 0 → x i ∣ c) ↔ M ∣ c)
    (hC : M.natAbs ≤ C) (hf : M.natAbs < 2 ^ f) (hK : (2 * C) ^ ((3 * f + 2) * n) < 256 ^ K) (hK' : C < 256 ^ K) (hs : Dm n n (startS n n a)) (hu : SzU 1 n n (startS n n a)) :
    ∃ S', formF K 2 (f + 1) n n n 0 (startS n n a) = some S' ∧ (facP S'.d n).length = cnt n x ∧ (0 < cnt n x → (facP S'.d n).getD 0 0 = G ∧ (facP S'.d n).getD (cnt n x - 1) 0 = M) := by
  obtain ⟨S', d', r, h1, h2, h3, h4⟩ := dform (K := K) (n := n) (M := M) (by omega) hC hf hK' n 0 0 (startS n n a) x (by omega) ⟨hs, he⟩ (fun i hi h0 => (hM M).2 (Int.dvd_refl _) i hi h0) (by rw [Nat.pow_zero]; exact hu) (by rw [Nat.zero_add]; exact hK) (fun i hi => by omega) (fun i j hi => by omega)
  have hc := cnt_shown h4
  rw [h3.k] at hc
  have hfa := fac_shown (g := S'.d) (fun i hi => by rw [h2.eq i i hi hi, if_pos rfl]) h4 n (Nat.le_refl _)
  rw [Nat.min_eq_right h4.le] at hfa
  have hat : ∀ i, i < r → (facP S'.d n).getD i 0 = d' i := fun i hi => by
    rw [hfa, List.getD, List.getElem?_map, List.getElem?_range hi]; rfl
  refine ⟨S', h1, by rw [hfa, List.length_map, List.length_range, hc], fun hp => ?_⟩
  rw [hc] at hp ⊢
  rw [hat 0 hp, hat (r - 1) (by omega)]
  have hpos := h4.p
  have hle := h4.le
  constructor
  · refine Int.dvd_antisymm (by have := hpos 0 hp; omega) hG0 ?_ ?_
    · refine (hG _).1 fun i hi => (h3.g (d' 0)).2 (fun j _ hj => ?_) i (Nat.zero_le _) hi
      by_cases e : j < r
      · by_cases e0 : j = 0
        · subst e0; exact Int.dvd_refl _
        · exact h4.dv 0 j (by omega) e
      · rw [h4.z j (by omega) hj]; exact Int.dvd_zero _
    · exact (h3.g G).1 (fun i _ hi => (hG G).2 (Int.dvd_refl _) i hi) 0 (Nat.le_refl _) (by omega)
  · refine Int.dvd_antisymm (by have := hpos (r - 1) (by omega); omega) (by omega) ?_ ?_
    · exact (h3.l M).1 (fun i _ hi h0 => (hM M).2 (Int.dvd_refl _) i hi h0) (r - 1) (Nat.zero_le _) (by omega) (by have := hpos (r - 1) (by omega); omega)
    · refine (hM _).1 fun i hi h0 => (h3.l (d' (r - 1))).2 (fun j _ hj hj0 => ?_) i (Nat.zero_le _) hi h0
      by_cases e : j < r
      · by_cases e0 : j = r - 1
        · subst e0; exact Int.dvd_refl _
        · exact h4.dv j (r - 1) (by omega) (by omega)
      · exact absurd (h4.z j (by omega) hj) hj0

def dX (L : List Int) (i : Nat) : Int := (L.getD i 0).tmod 100
theorem dX_le (L : List Int) (i : Nat) : (dX L i).natAbs ≤ 99 := by
  unfold dX
  have h1 := Int.tmod_lt_of_pos (L.getD i 0) (show (0 : Int) < 100 by decide)
  have h2 := Int.lt_tmod_of_pos (L.getD i 0) (show (0 : Int) < 100 by decide)
  omega
def dG (L : List Int) : Nat → Int
  | 0 => 0
  | k + 1 => if dX L k = 0 then dG L k else Int.gcd (dG L k) (dX L k)
def dM (L : List Int) : Nat → Int
  | 0 => 1
  | k + 1 => if dX L k = 0 then dM L k else ((dM L k * dX L k / Int.gcd (dM L k) (dX L k)).natAbs : Int)
theorem dG_nn (L : List Int) : ∀ k, 0 ≤ dG L k
  | 0 => Int.le_refl _
  | k + 1 => by
    rw [dG]
    split
    · exact dG_nn L k
    · exact Int.natCast_nonneg _
theorem dG_le (L : List Int) : ∀ k, (dG L k).natAbs ≤ 99
  | 0 => by rw [dG]; decide
  | k + 1 => by
    rw [dG]
    split
    · exact dG_le L k
    · rename_i h
      have h1 := dX_le L k
      have h2 : Int.gcd (dG L k) (dX L k) ≤ (dX L k).natAbs := Nat.le_of_dvd (by omega) (Int.natAbs_dvd_natAbs.2 (Int.gcd_dvd_right (a := dG L k) (b := dX L k)))
      omega
theorem dG_dv (L : List Int) : ∀ (k : Nat) (c : Int), (∀ i, i < k → c ∣ dX L i) ↔ c ∣ dG L k
  | 0, c => ⟨fun _ => Int.dvd_zero _, fun _ i hi => by omega⟩
  | k + 1, c => by
    have ih := dG_dv L k c
    have hs : (∀ i, i < k + 1 → c ∣ dX L i) ↔ (∀ i, i < k → c ∣ dX L i) ∧ c ∣ dX L k := ⟨fun h => ⟨fun i hi => h i (by omega), h k (by omega)⟩, fun h i hi => by
      by_cases e : i = k
      · subst e; exact h.2
      · exact h.1 i (by omega)⟩
    rw [hs, ih, dG]
    split
    · rename_i h0
      rw [h0]
      exact ⟨fun h => h.1, fun h => ⟨h, Int.dvd_zero _⟩⟩
    · exact ⟨fun h => Int.dvd_coe_gcd h.1 h.2, fun h => ⟨Int.dvd_trans h (Int.gcd_dvd_left ..), Int.dvd_trans h (Int.gcd_dvd_right ..)⟩⟩
theorem dM_step {m x c : Int} (hm : 0 < m) (hx : x ≠ 0) : 0 < (m * x / Int.gcd m x).natAbs ∧ (m * x / Int.gcd m x).natAbs ≤ m.natAbs * x.natAbs ∧ ((m ∣ c ∧ x ∣ c) ↔ ((m * x / Int.gcd m x).natAbs : Int) ∣ c) := by
  have h := gcdN (x := m) (y := x) (by omega) hx
  generalize (gcdF m x).1 = g at *
  generalize (gcdF m x).2.1 = s at *
  generalize (gcdF m x).2.2 = t at *
  obtain ⟨m', hm'⟩ := h.dx
  obtain ⟨x', hx'⟩ := h.dy
  have hg := h.p
  rw [← h.e]
  have e1 : m / g = m' := by rw [hm', Int.mul_ediv_cancel_left _ (by omega)]
  have e2 : m * x / g = m' * x := by rw [hm', Int.mul_assoc, Int.mul_ediv_cancel_left _ (by omega)]
  have h0 : m' ≠ 0 := fun e => by rw [e, Int.mul_zero] at hm'; omega
  rw [e2]
  have h1 : m' * x ≠ 0 := Int.mul_ne_zero h0 hx
  refine ⟨by omega, ?_, ⟨fun hc => ?_, fun hc => ?_⟩⟩
  · rw [Int.natAbs_mul]
    refine Nat.mul_le_mul_right _ ?_
    have := congrArg Int.natAbs hm'
    rw [Int.natAbs_mul] at this
    have := Nat.le_mul_of_pos_left m'.natAbs (show 0 < g.natAbs by omega)
    omega
  · have := lcm_dvd h hc.1 hc.2
    rw [e1] at this
    exact Int.natAbs_dvd.2 this
  · have hc := Int.natAbs_dvd.1 hc
    refine ⟨Int.dvd_trans ⟨x', ?_⟩ hc, Int.dvd_trans (Int.dvd_mul_left ..) hc⟩
    rw [hx', hm']; grind
theorem dM_pos (L : List Int) : ∀ k, 0 < dM L k
  | 0 => show (0 : Int) < 1 by decide
  | k + 1 => by
    rw [dM]
    split
    · exact dM_pos L k
    · rename_i h
      have := (dM_step (c := 0) (dM_pos L k) h).1
      omega
theorem dM_le (L : List Int) : ∀ k, (dM L k).natAbs ≤ 99 ^ k
  | 0 => Nat.le_refl _
  | k + 1 => by
    have ih := dM_le L k
    rw [dM, Nat.pow_succ]
    split
    · omega
    · rename_i h
      have h1 := (dM_step (c := 0) (dM_pos L k) h).2.1
      rw [Int.natAbs_natCast]
      exact Nat.le_trans h1 (Nat.mul_le_mul ih (dX_le L k))
theorem dM_dv (L : List Int) : ∀ (k : Nat) (c : Int), (∀ i, i < k → dX L i ≠ 0 → dX L i ∣ c) ↔ dM L k ∣ c
  | 0, c => ⟨fun _ => Int.one_dvd _, fun _ i hi => by omega⟩
  | k + 1, c => by
    have ih := dM_dv L k c
    have hs : (∀ i, i < k + 1 → dX L i ≠ 0 → dX L i ∣ c) ↔ (∀ i, i < k → dX L i ≠ 0 → dX L i ∣ c) ∧ (dX L k ≠ 0 → dX L k ∣ c) := ⟨fun h => ⟨fun i hi => h i (by omega), h k (by omega)⟩, fun h i hi => by
      by_cases e : i = k
      · subst e; exact h.2
      · exact h.1 i (by omega)⟩
    rw [hs, ih, dM]
    split
    · rename_i h0
      exact ⟨fun h => h.1, fun h => ⟨h, fun h1 => absurd h0 h1⟩⟩
    · rename_i h0
      rw [← (dM_step (c := c) (dM_pos L k) h0).2.2]
      exact ⟨fun h => ⟨h.1, h.2 h0⟩, fun h => ⟨h.1, fun _ => h.2⟩⟩

theorem cnt_le (d : Nat → Int) : ∀ n, cnt n d ≤ n
  | 0 => Nat.le_refl _
  | n + 1 => by
    have := cnt_le d n
    rw [cnt]
    split <;> omega
def dR (L : List Int) (n i : Nat) : List Int := (List.replicate n 0).set i (dX L i)
theorem dR_len (L : List Int) (n i : Nat) : (dR L n i).length = n := by unfold dR; rw [List.length_set, List.length_replicate]
theorem dR_at (L : List Int) {n i j : Nat} (hi : i < n) : (dR L n i).getD j 0 = if j = i then dX L i else 0 := by
  unfold dR
  rw [gD_setL (by rw [List.length_replicate]; exact hi)]
  split
  · rfl
  · rw [List.getD]
    by_cases hj : j < n
    · rw [List.getElem?_replicate, if_pos hj]; rfl
    · rw [List.getElem?_eq_none (by rw [List.length_replicate]; omega)]; rfl
def dRows (L : List Int) (n : Nat) : List (List Int) := (List.range n).map (dR L n)
theorem dRows_len (L : List Int) (n : Nat) : (dRows L n).length = n := by unfold dRows; rw [List.length_map, List.length_range]
theorem dRows_at (L : List Int) {n i : Nat} (hi : i < n) : (dRows L n).getD i [] = dR L n i := by
  unfold dRows
  rw [List.getD, List.getElem?_map, List.getElem?_range hi]; rfl
theorem dRows_rec (L : List Int) (n : Nat) : Rec n n (dRows L n) := ⟨dRows_len L n, fun x hx => by
  unfold dRows at hx
  obtain ⟨i, _, rfl⟩ := List.mem_map.1 hx
  exact dR_len L n i⟩
theorem ofC_rec {xss : List (List Int)} {c : Nat} (h : ∀ i, i < xss.length → (xss.getD i []).length = c) : ∀ k, 0 < k → k ≤ xss.length → ofC xss k = c
  | 0, h0, _ => by omega
  | 1, _, h1 => by rw [ofC, ofC, h 0 (by omega)]; omega
  | k + 2, _, h1 => by rw [ofC, ofC_rec h (k + 1) (by omega) (by omega), h (k + 1) (by omega)]; omega
theorem ofC_dRows (L : List Int) (n : Nat) : ofC (dRows L n) (dRows L n).length = n := by
  rw [dRows_len]
  rcases Nat.eq_zero_or_pos n with h | h
  · subst h; rfl
  · exact ofC_rec (fun i hi => by rw [dRows_len] at hi; rw [dRows_at L hi, dR_len]) n h (by rw [dRows_len]; exact Nat.le_refl _)
theorem rowsOf_ofZ {xss : List (List Int)} {c : Nat} (hc : ofC xss xss.length = c) (hr : xss.length ≤ 200) (hcc : c ≤ 200) (h : ∀ x ∈ xss, x.length = c) : rowsOf (ofZ xss) = xss := by
  have hR : RtZ (ofZ xss) := zof_rt hr (by rw [hc]; exact hcc)
  refine Rec.ext (r := xss.length) (c := c) ⟨?_, fun x hx => ?_⟩ ⟨rfl, h⟩ fun i j hi hj => ?_
  · unfold rowsOf; rw [List.length_map, List.length_range]; rfl
  · unfold rowsOf at hx
    obtain ⟨i, hi, rfl⟩ := List.mem_map.1 hx
    rw [rowI_tab hR (List.mem_range.1 hi)]
    unfold tab
    rw [List.length_map, List.length_range]; exact hc
  · have e1 : (rowsOf (ofZ xss)).getD i [] = rowI (ofZ xss) i := by
      unfold rowsOf
      rw [List.getD, List.getElem?_map, List.getElem?_range (show i < (ofZ xss).r from hi)]; rfl
    have e2 : (ofZ xss).at i j = ofE xss i j := zof_at hi (by rw [hc]; exact hj)
    show gE _ i j = gE _ i j
    unfold gE
    rw [e1, rowI_tab hR hi]
    show (tab (ofC xss xss.length) ((ofZ xss).at i)).getD j 0 = _
    unfold tab
    rw [List.getD, List.getElem?_map, List.getElem?_range (by omega)]
    show (ofZ xss).at i j = _
    rw [e2]; rfl
theorem one_sz (n : Nat) : Sz 1 n n (oneL n) := fun i j hi hj => by
  unfold gE oneL
  rw [List.getD, List.getD, List.getElem?_map, List.getElem?_range hi]
  simp only [Option.map_some, Option.getD_some]
  rw [List.getElem?_map, List.getElem?_range hj]
  simp only [Option.map_some, Option.getD_some]
  split
  · decide
  · decide
theorem one_rec (n : Nat) : Rec n n (oneL n) := by
  refine ⟨?_, fun x hx => ?_⟩
  · unfold oneL; rw [List.length_map, List.length_range]
  · unfold oneL at hx
    obtain ⟨i, _, rfl⟩ := List.mem_map.1 hx
    rw [List.length_map, List.length_range]
theorem start_dm {m n : Nat} {a : List (List Int)} (h : Rec m n a) : Dm m n (startS m n a) := ⟨one_rec m, one_rec m, h, one_rec n, one_rec n⟩
theorem start_szU (m n : Nat) (a : List (List Int)) : SzU 1 m n (startS m n a) := ⟨one_sz m, one_sz m, one_sz n, one_sz n⟩
theorem pow_step (k j K : Nat) (h : 6 * (143 * k) < K) : (2 * (256 ^ 5 * 128)) ^ ((3 * 47 + 2) * k) < 256 ^ K := by
  rw [show 2 * (256 ^ 5 * 128) = 256 ^ 6 by decide, show 3 * 47 + 2 = 143 from rfl, ← Nat.pow_mul]
  exact Nat.pow_lt_pow_right (by decide) h
theorem diag_form (L : List Int) {n K : Nat} (hn : n ≤ 7) (hK : 6006 < K) : ∃ S', formF K 2 (47 + 1) (ofZ (dRows L n)).r (ofZ (dRows L n)).c (min (ofZ (dRows L n)).r (ofZ (dRows L n)).c) 0 (startS (ofZ (dRows L n)).r (ofZ (dRows L n)).c (rowsOf (ofZ (dRows L n)))) = some S' ∧ (facP S'.d (min (ofZ (dRows L n)).r (ofZ (dRows L n)).c)).length = cnt n (dX L) ∧ (0 < cnt n (dX L) → (facP S'.d (min (ofZ (dRows L n)).r (ofZ (dRows L n)).c)).getD 0 0 = dG L n ∧ (facP S'.d (min (ofZ (dRows L n)).r (ofZ (dRows L n)).c)).getD (cnt n (dX L) - 1) 0 = dM L n) := by
  have er : (ofZ (dRows L n)).r = n := dRows_len L n
  have ec : (ofZ (dRows L n)).c = n := ofC_dRows L n
  have eR : rowsOf (ofZ (dRows L n)) = dRows L n := rowsOf_ofZ (c := n) (ofC_dRows L n) (by rw [dRows_len]; omega) (by omega) (dRows_rec L n).row
  rw [er, ec, eR, Nat.min_self]
  have hM := dM_le L n
  have h99 : 99 ^ n ≤ 99 ^ 7 := Nat.pow_le_pow_right (by decide) hn
  have h7 : (99 : Nat) ^ 7 < 2 ^ 47 := by decide
  have h8 : (99 : Nat) ^ 7 ≤ 256 ^ 5 * 128 := by decide
  have h9 : (256 : Nat) ^ 5 * 128 < 256 ^ 6 := by decide
  refine diag_law (C := 256 ^ 5 * 128) (f := 47) (dRows_rec L n) (fun i j hi hj => ?_) (dG_nn L n) (dG_dv L n) (dM_pos L n) (dM_dv L n) (by omega) (by omega) (pow_step n 0 K (by omega)) (Nat.lt_trans h9 (Nat.pow_lt_pow_right (by decide) (by omega))) (start_dm (dRows_rec L n)) (start_szU n n _)
  unfold gE
  rw [dRows_at L hi, dR_at L hi]
  by_cases h : i = j
  · subst h; rw [if_pos rfl]
  · rw [if_neg h, if_neg (fun e => h e.symm)]

end Go.Proofs.YtemdknkghacheaaDoor

namespace Go.Proofs.YtemdknkghacheaaDoor
open Go Go.RowKit Go.ChangeShapes Go.WideShapes Go.ChangeAt
set_option linter.unusedSimpArgs false
set_option linter.unusedVariables false
set_option linter.unusedSectionVars false

theorem own : ownKnob Tryd.prog.godebug = none := by kernel_rfl
theorem laidOut : laidOutB Tryd.prog = true := by kernel_rfl

theorem i64_wf {n : Int} (h : (Lit.int .i64 n).wf = true) : I64 n := by
  have hmin : IntKind.i64.min = -9223372036854775808 := by decide
  have hmax : IntKind.i64.max = 9223372036854775807 := by decide
  simp only [Lit.wf, Bool.and_eq_true, decide_eq_true_eq, hmin, hmax] at h
  unfold I64
  omega
theorem i64_getD {l : List Int} (h : ∀ n ∈ l, I64 n) (i : Nat) : I64 (l.getD i 0) := by
  rw [List.getD]
  cases hi : l[i]? with
  | none => exact ⟨by decide, by decide⟩
  | some x => exact h x (List.mem_of_getElem? hi)


def IsL (w : World) (v : Value) (L : List Int) : Prop := (∀ i, I64 (L.getD i 0)) ∧ WI w v L.length L ∧ L.length < 9223372036854775808
theorem IsL.mono {w w' : World} {v : Value} {L : List Int} (h : IsL w v L) (hk : Kp [] w w') : IsL w' v L := ⟨h.1, h.2.1.mono hk, h.2.2⟩

theorem IsL.of_trod {H : Type} {enc : TypeId × Value → H} {w : World} {held : Bool} {v : Value} {n base : Nat} {sp : Nat → Bool} {y : DataW H × List MemPlace}
    (hf : DataW.trod enc Tryd.prog w base sp held n 22 [v] = some y) : ∃ L, IsL w v L := by
  rcases open_ints Tryd.underlying22 Tryd.underlying3 (by kernel_rfl) hf with ⟨hcs, _⟩ | ⟨x, l, c, zs, hcs, _, hl, hm, hz, _, hcell, hwz⟩
  · simp only [List.cons.injEq, and_true] at hcs
    subst hcs
    exact ⟨[], fun i => ⟨by simp, by simp⟩, ⟨rfl, none, 0, rfl, Nat.le_refl _, fun h => absurd h (Nat.lt_irrefl _)⟩, by simp⟩
  · simp only [List.cons.injEq, and_true] at hcs
    subst hcs
    unfold maxLen at hm
    have hlz : l ≤ zs.length := by rw [hz]; split <;> omega
    have hz2 : zs.length ≤ c := by rw [hz]; split <;> omega
    have hlen : (zs.take l).length = l := by simp; omega
    refine ⟨zs.take l, i64_getD fun n hn => i64_wf (hwz n (List.mem_of_mem_take hn)), ?_, by omega⟩
    rw [hlen]
    refine ⟨by simp; omega, some x, c, rfl, hl, fun h0 => ?_⟩
    obtain ⟨b, o, sp⟩ := x
    have hsp : sp = none := by
      have := hcell 0 (by omega)
      cases sp with
      | none => rfl
      | some s =>
        simp only [Addr.add, if_true, World.cell?] at this
        split at this <;> simp at this
    subst hsp
    refine ⟨⟨b, o, rfl⟩, fun j u hu => ?_⟩
    simp only [vAt]
    rw [List.getElem?_map, List.getElem?_take] at hu
    split at hu
    · rename_i hj
      have hjz : j < zs.length := by omega
      rw [gD_lt (d := 0) hjz] at hu
      cases hu
      rw [← add_none]
      exact hcell j hjz
    · cases hu

set_option maxRecDepth 100000 in
theorem open_list {H : Type} {enc : TypeId × Value → H} {w : World} {r : Reach} {b0 : Nat} {held : Bool} {v : Value} {d : DataW H} {ps : List MemPlace} (hv : Value.okWide Tryd.prog w r b0 22 v)
    (h : DataW.Trod enc Tryd.prog w 0 (fun _ => true) held 22 v d ps) : ∃ L, IsL w v L := by
  obtain ⟨a1, len, cap, rfl⟩ := okWide_slice Tryd.underlying22 hv
  obtain ⟨fuel, hf⟩ := h
  exact IsL.of_trod (show DataW.trod enc Tryd.prog w 0 (fun _ => true) held fuel 22 [.slice a1 len cap] = some _ from hf)

def IsLL (w : World) (v : Value) (X : List (List Int)) : Prop := X.length < 9223372036854775808 ∧ ∃ ss : List Value, RdW w 1 v X.length ss ∧ ∀ i, i < X.length → IsL w (ss.getD i (iv 0)) (X.getD i [])
theorem IsLL.mono {w w' : World} {v : Value} {X : List (List Int)} (h : IsLL w v X) (hk : Kp [] w w') : IsLL w' v X := by
  obtain ⟨h0, ss, h1, h2⟩ := h
  exact ⟨h0, ss, h1.mono hk, fun i hi => (h2 i hi).mono hk⟩
end Go.Proofs.YtemdknkghacheaaDoor

namespace Go.Proofs.YtemdknkghacheaaDoor
open Go Go.RowKit
set_option linter.unusedSimpArgs false
set_option linter.unusedVariables false
set_option linter.unusedSectionVars false

abbrev ME := Nat → Nat → Int
def trE (E : ME) : ME := fun a b => E b a
def m2 (E : ME) (a a' b b' : Nat) : Int := E a b * E a' b' - E a b' * E a' b
def D3 (E : ME) : Int := E 0 0 * (E 1 1 * E 2 2 - E 1 2 * E 2 1) - E 0 1 * (E 1 0 * E 2 2 - E 1 2 * E 2 0) + E 0 2 * (E 1 0 * E 2 1 - E 1 1 * E 2 0)
def DvA (c : Int) (E : ME) : Prop := ∀ a b, a < 3 → b < 3 → c ∣ E a b
def DvB (c : Int) (E : ME) : Prop := ∀ a a' b b', a < 3 → a' < 3 → b < 3 → b' < 3 → c ∣ m2 E a a' b b'
structure Pres (E E' : ME) : Prop where
  a : ∀ c, DvA c E → DvA c E'
  b : ∀ c, DvB c E → DvB c E'
structure Rel3 (E E' : ME) : Prop where
  f : Pres E E'
  g : Pres E' E
  d : (D3 E').natAbs = (D3 E).natAbs
theorem Pres.refl (E : ME) : Pres E E := ⟨fun _ h => h, fun _ h => h⟩
theorem Pres.trans {E F G : ME} (h : Pres E F) (k : Pres F G) : Pres E G := ⟨fun c x => k.a c (h.a c x), fun c x => k.b c (h.b c x)⟩
theorem Rel3.refl (E : ME) : Rel3 E E := ⟨Pres.refl E, Pres.refl E, rfl⟩
theorem Rel3.trans {E F G : ME} (h : Rel3 E F) (k : Rel3 F G) : Rel3 E G := ⟨h.f.trans k.f, k.g.trans h.g, k.d.trans h.d⟩
theorem dvA_tr {c : Int} {E : ME} : DvA c (trE E) ↔ DvA c E := ⟨fun h a b ha hb => h b a hb ha, fun h a b ha hb => h b a hb ha⟩
theorem m2_tr (E : ME) (a a' b b' : Nat) : m2 (trE E) a a' b b' = m2 E b b' a a' := by
  unfold m2 trE
  rw [Int.mul_comm (E b' a)]
theorem dvB_tr {c : Int} {E : ME} : DvB c (trE E) ↔ DvB c E := ⟨fun h a a' b b' ha ha' hb hb' => by
  have := h b b' a a' hb hb' ha ha'
  rwa [m2_tr] at this, fun h a a' b b' ha ha' hb hb' => by rw [m2_tr]; exact h b b' a a' hb hb' ha ha'⟩
theorem D3_tr (E : ME) : D3 (trE E) = D3 E := by
  unfold D3 trE
  grind
theorem Rel3.tr {E E' : ME} (h : Rel3 (trE E) (trE E')) : Rel3 E E' :=
  ⟨⟨fun c x => dvA_tr.1 (h.f.a c (dvA_tr.2 x)), fun c x => dvB_tr.1 (h.f.b c (dvB_tr.2 x))⟩, ⟨fun c x => dvA_tr.1 (h.g.a c (dvA_tr.2 x)), fun c x => dvB_tr.1 (h.g.b c (dvB_tr.2 x))⟩, by have := h.d; rwa [D3_tr, D3_tr] at this⟩
theorem Pres.of {E E' : ME} (h : ∀ a, a < 3 → ∃ p q x y, p < 3 ∧ q < 3 ∧ ∀ b, b < 3 → E' a b = x * E p b + y * E q b) : Pres E E' := by
  refine ⟨fun c H a b ha hb => ?_, fun c H a a' b b' ha ha' hb hb' => ?_⟩
  · obtain ⟨p, q, x, y, hp, hq, e⟩ := h a ha
    rw [e b hb]
    exact Int.dvd_add (Int.dvd_trans (H p b hp hb) (Int.dvd_mul_left ..)) (Int.dvd_trans (H q b hq hb) (Int.dvd_mul_left ..))
  · obtain ⟨p, q, x, y, hp, hq, e⟩ := h a ha
    obtain ⟨r, s, z, w, hr, hs, e'⟩ := h a' ha'
    have k1 := H p r b b' hp hr hb hb'
    have k2 := H p s b b' hp hs hb hb'
    have k3 := H q r b b' hq hr hb hb'
    have k4 := H q s b b' hq hs hb hb'
    have eq : m2 E' a a' b b' = x * z * m2 E p r b b' + x * w * m2 E p s b b' + (y * z * m2 E q r b b' + y * w * m2 E q s b b') := by
      unfold m2
      rw [e b hb, e b' hb', e' b hb, e' b' hb']
      grind
    rw [eq]
    exact Int.dvd_add (Int.dvd_add (Int.dvd_trans k1 (Int.dvd_mul_left ..)) (Int.dvd_trans k2 (Int.dvd_mul_left ..))) (Int.dvd_add (Int.dvd_trans k3 (Int.dvd_mul_left ..)) (Int.dvd_trans k4 (Int.dvd_mul_left ..)))
def RowOp (t i : Nat) (tn : Tn) (E E' : ME) : Prop := ∀ a b, a < 3 → b < 3 → E' a b = if a = i then tn.q (E t b) (E i b) else if a = t then tn.p (E t b) (E i b) else E a b
theorem RowOp.rel {t i : Nat} {tn : Tn} {E E' : ME} (h : RowOp t i tn E E') (ht : t < 3) (hi : i < 3) (hti : t < i) (dt : tn.a * tn.d - tn.b * tn.c = 1) : Rel3 E E' := by
  refine ⟨Pres.of fun a ha => ?_, Pres.of fun a ha => ?_, ?_⟩
  · by_cases e : a = i
    · exact ⟨t, i, tn.c, tn.d, ht, hi, fun b hb => by rw [h a b ha hb, if_pos e]; rfl⟩
    · by_cases e' : a = t
      · exact ⟨t, i, tn.a, tn.b, ht, hi, fun b hb => by rw [h a b ha hb, if_neg e, if_pos e']; rfl⟩
      · exact ⟨a, a, 1, 0, ha, ha, fun b hb => by rw [h a b ha hb, if_neg e, if_neg e']; omega⟩
  · by_cases e : a = i
    · refine ⟨t, i, -tn.c, tn.a, ht, hi, fun b hb => ?_⟩
      rw [h t b ht hb, h i b hi hb, if_pos rfl, if_neg (by omega), if_pos rfl, e]
      unfold Tn.p Tn.q
      grind
    · by_cases e' : a = t
      · refine ⟨t, i, tn.d, -tn.b, ht, hi, fun b hb => ?_⟩
        rw [h t b ht hb, h i b hi hb, if_pos rfl, if_neg (by omega), if_pos rfl, e']
        unfold Tn.p Tn.q
        grind
      · exact ⟨a, a, 1, 0, ha, ha, fun b hb => by rw [h a b ha hb, if_neg e, if_neg e']; omega⟩
  · have h' : ∀ a b, a < 3 → b < 3 → E' a b = if a = i then tn.c * E t b + tn.d * E i b else if a = t then tn.a * E t b + tn.b * E i b else E a b := h
    have e : D3 E' = D3 E := by
      unfold D3
      rw [h' 0 0 (by decide) (by decide), h' 0 1 (by decide) (by decide), h' 0 2 (by decide) (by decide), h' 1 0 (by decide) (by decide), h' 1 1 (by decide) (by decide), h' 1 2 (by decide) (by decide), h' 2 0 (by decide) (by decide), h' 2 1 (by decide) (by decide), h' 2 2 (by decide) (by decide)]
      have : (t = 0 ∧ i = 1) ∨ (t = 0 ∧ i = 2) ∨ (t = 1 ∧ i = 2) := by omega
      rcases this with ⟨rfl, rfl⟩ | ⟨rfl, rfl⟩ | ⟨rfl, rfl⟩
      · simp only [if_pos, if_neg, Nat.zero_ne_one, Nat.one_ne_zero, reduceIte, show (2 : Nat) ≠ 1 by decide, show (2 : Nat) ≠ 0 by decide]
        generalize E 0 0 = a1; generalize E 0 1 = a2; generalize E 0 2 = a3; generalize E 1 0 = b1; generalize E 1 1 = b2; generalize E 1 2 = b3; generalize E 2 0 = c1; generalize E 2 1 = c2; generalize E 2 2 = c3
        grind
      · simp only [Nat.zero_ne_one, Nat.one_ne_zero, reduceIte, show (2 : Nat) ≠ 1 by decide, show (2 : Nat) ≠ 0 by decide, show (0 : Nat) ≠ 2 by decide, show (1 : Nat) ≠ 2 by decide]
        generalize E 0 0 = a1; generalize E 0 1 = a2; generalize E 0 2 = a3; generalize E 1 0 = b1; generalize E 1 1 = b2; generalize E 1 2 = b3; generalize E 2 0 = c1; generalize E 2 1 = c2; generalize E 2 2 = c3
        grind
      · simp only [Nat.zero_ne_one, Nat.one_ne_zero, reduceIte, show (2 : Nat) ≠ 1 by decide, show (2 : Nat) ≠ 0 by decide, show (0 : Nat) ≠ 2 by decide, show (1 : Nat) ≠ 2 by decide]
        generalize E 0 0 = a1; generalize E 0 1 = a2; generalize E 0 2 = a3; generalize E 1 0 = b1; generalize E 1 1 = b2; generalize E 1 2 = b3; generalize E 2 0 = c1; generalize E 2 1 = c2; generalize E 2 2 = c3
        grind
    rw [e]
theorem neg_rel {t : Nat} {E E' : ME} (ht : t < 3) (h : ∀ a b, a < 3 → b < 3 → E' a b = if a = t then -(E t b) else E a b) : Rel3 E E' := by
  refine ⟨Pres.of fun a ha => ?_, Pres.of fun a ha => ?_, ?_⟩
  · by_cases e : a = t
    · exact ⟨t, t, -1, 0, ht, ht, fun b hb => by rw [h a b ha hb, if_pos e]; omega⟩
    · exact ⟨a, a, 1, 0, ha, ha, fun b hb => by rw [h a b ha hb, if_neg e]; omega⟩
  · by_cases e : a = t
    · exact ⟨t, t, -1, 0, ht, ht, fun b hb => by rw [h t b ht hb, if_pos rfl, e]; omega⟩
    · exact ⟨a, a, 1, 0, ha, ha, fun b hb => by rw [h a b ha hb, if_neg e]; omega⟩
  · have e : D3 E' = -(D3 E) := by
      unfold D3
      rw [h 0 0 (by decide) (by decide), h 0 1 (by decide) (by decide), h 0 2 (by decide) (by decide), h 1 0 (by decide) (by decide), h 1 1 (by decide) (by decide), h 1 2 (by decide) (by decide), h 2 0 (by decide) (by decide), h 2 1 (by decide) (by decide), h 2 2 (by decide) (by decide)]
      have : t = 0 ∨ t = 1 ∨ t = 2 := by omega
      rcases this with rfl | rfl | rfl
      · simp only [Nat.zero_ne_one, Nat.one_ne_zero, reduceIte, show (2 : Nat) ≠ 1 by decide, show (2 : Nat) ≠ 0 by decide, show (0 : Nat) ≠ 2 by decide, show (1 : Nat) ≠ 2 by decide]
        grind
      · simp only [Nat.zero_ne_one, Nat.one_ne_zero, reduceIte, show (2 : Nat) ≠ 1 by decide, show (2 : Nat) ≠ 0 by decide, show (0 : Nat) ≠ 2 by decide, show (1 : Nat) ≠ 2 by decide]
        grind
      · simp only [Nat.zero_ne_one, Nat.one_ne_zero, reduceIte, show (2 : Nat) ≠ 1 by decide, show (2 : Nat) ≠ 0 by decide, show (0 : Nat) ≠ 2 by decide, show (1 : Nat) ≠ 2 by decide]
        grind
    rw [e, Int.natAbs_neg]

structure TurnP (x y : Int) (t : Tn) (ch : Bool) : Prop where
  z : t.q x y = 0
  nz : t.p x y ≠ 0
  le : (t.p x y).natAbs ≤ x.natAbs
  ba : t.a.natAbs ≤ max 1 y.natAbs
  bb : t.b.natAbs ≤ x.natAbs
  bc : t.c.natAbs ≤ y.natAbs
  bd : t.d.natAbs ≤ x.natAbs
  f : ch = false → t.a = 1 ∧ t.b = 0 ∧ t.d = 1 ∧ x ∣ y
  h : ch = true → 2 * (t.p x y).natAbs ≤ x.natAbs
  dt : t.a * t.d - t.b * t.c = 1
theorem turn_none {x : Int} (hx : x ≠ 0) : TurnP x 0 ⟨1, 0, 0, 1⟩ false := by
  refine ⟨by unfold Tn.q; dsimp only; omega, by unfold Tn.p; dsimp only; omega, by unfold Tn.p; dsimp only; omega, by dsimp only; omega, by dsimp only; omega, by dsimp only; omega, by dsimp only; omega, fun _ => ⟨rfl, rfl, rfl, Int.dvd_zero _⟩, fun h => (by cases h), by decide⟩
theorem clear_cases {x y : Int} (hx : x ≠ 0) : (clearT x y = none ∧ y = 0) ∨ ∃ t ch, clearT x y = some (t, ch) ∧ TurnP x y t ch := by
  by_cases hy : y = 0
  · subst hy; exact .inl ⟨clearT_zero x, rfl⟩
  · refine .inr ?_
    by_cases hd : x ∣ y
    · refine ⟨_, _, clearT_div hy hx hd, ?_⟩
      obtain ⟨q, rfl⟩ := hd
      have hq : q ≠ 0 := fun e => hy (by rw [e, Int.mul_zero])
      rw [Int.mul_ediv_cancel_left _ hx]
      have hn : q.natAbs ≤ (x * q).natAbs := by rw [Int.natAbs_mul]; exact Nat.le_mul_of_pos_left _ (by omega)
      refine ⟨by unfold Tn.q; dsimp only; grind, by unfold Tn.p; dsimp only; omega, by unfold Tn.p; dsimp only; omega, by dsimp only; omega, by dsimp only; omega, by dsimp only; omega, by dsimp only; omega, fun _ => ⟨rfl, rfl, rfl, q, rfl⟩, fun h => (by cases h), by dsimp only; omega⟩
    · refine ⟨_, _, clearT_gcd hy hd, ?_⟩
      have h := gcdN hx hy
      generalize (gcdF x y).1 = g at *
      generalize (gcdF x y).2.1 = s at *
      generalize (gcdF x y).2.2 = t at *
      have hg := h.p
      have hb := h.b
      obtain ⟨x', rfl⟩ := h.dx
      obtain ⟨y', rfl⟩ := h.dy
      have hs := h.hs
      have ht := h.ht
      rw [Int.mul_ediv_cancel_left _ (by omega), Int.mul_ediv_cancel_left _ (by omega)]
      have hb1 : s * x' + t * y' = 1 := Int.eq_of_mul_eq_mul_left (a := g) (by omega) (by grind)
      have hgn : 0 < g.natAbs := by omega
      have n1 := Nat.le_mul_of_pos_right s.natAbs hgn
      have n2 := Nat.le_mul_of_pos_right t.natAbs hgn
      have n3 : y'.natAbs ≤ (g * y').natAbs := by rw [Int.natAbs_mul]; exact Nat.le_mul_of_pos_left _ hgn
      have n4 : x'.natAbs ≤ (g * x').natAbs := by rw [Int.natAbs_mul]; exact Nat.le_mul_of_pos_left _ hgn
      have hx2 : 2 * g.natAbs ≤ (g * x').natAbs := by
        have h0 : x' ≠ 0 := fun e => hx (by rw [e, Int.mul_zero])
        have hx1 : x'.natAbs ≠ 1 := fun h1 => hd (Int.mul_dvd_mul_left g (Int.natAbs_dvd.1 (by rw [h1]; exact Int.one_dvd _)))
        rw [Int.natAbs_mul, Nat.mul_comm 2]
        exact Nat.mul_le_mul_left _ (by omega)
      have e1 : s * (g * x') + t * (g * y') = g := hb
      refine ⟨by unfold Tn.q; dsimp only; grind, by unfold Tn.p; dsimp only; rw [e1]; omega, by unfold Tn.p; dsimp only; rw [e1]; omega, by dsimp only; omega, by dsimp only; omega, by dsimp only; rw [Int.natAbs_neg]; omega, by dsimp only; omega, fun h => (by cases h), fun _ => by unfold Tn.p; dsimp only; rw [e1]; omega, by dsimp only; grind⟩
structure OpA (t i : Nat) (E E' : ME) (tn : Tn) (ch : Bool) : Prop where
  tp : TurnP (E t t) (E i t) tn ch
  op : RowOp t i tn E E'
def SzE (B : Nat) (E : ME) : Prop := ∀ a b, a < 3 → b < 3 → (E a b).natAbs ≤ B
theorem SzE.mono {B B' : Nat} {E : ME} (h : SzE B E) (hB : B ≤ B') : SzE B' E := fun a b ha hb => Nat.le_trans (h a b ha hb) hB
theorem SzE.tr {B : Nat} {E : ME} (h : SzE B E) : SzE B (trE E) := fun a b ha hb => h b a hb ha

structure AnyP (t i : Nat) (E E' : ME) : Prop where
  rel : Rel3 E E'
  nz : E' t t ≠ 0
  le : (E' t t).natAbs ≤ (E t t).natAbs
  z : ∀ a, i ≤ a → a < 3 → E' a t = 0
  o : ∀ a b, a < i → a ≠ t → a < 3 → b < 3 → E' a b = E a b
  cz : ∀ b, b < 3 → (∀ a, t ≤ a → a < 3 → E a b = 0) → ∀ a, t ≤ a → a < 3 → E' a b = 0
theorem AnyP.done {t : Nat} {E : ME} (h : E t t ≠ 0) : AnyP t 3 E E := ⟨Rel3.refl E, h, Nat.le_refl _, fun a h1 h2 => by omega, fun _ _ _ _ _ _ => rfl, fun _ _ h => h⟩
theorem RowOp.cz {t i : Nat} {tn : Tn} {E E' : ME} (h : RowOp t i tn E E') (hti : t ≤ i) (hi : i < 3) {b : Nat} (hb : b < 3) (h0 : ∀ a, t ≤ a → a < 3 → E a b = 0) (a : Nat) (h1 : t ≤ a) (h2 : a < 3) : E' a b = 0 := by
  rw [h a b h2 hb, h0 t (Nat.le_refl _) (by omega), h0 i hti hi, h0 a h1 h2]
  unfold Tn.p Tn.q
  simp
theorem AnyP.step {t i : Nat} {E E1 E' : ME} {tn : Tn} {ch : Bool} (h : OpA t i E E1 tn ch) (k : AnyP t (i + 1) E1 E') (hti : t < i) (hi : i < 3) : AnyP t i E E' := by
  have ht : t < 3 := by omega
  have e1 : E1 t t = tn.p (E t t) (E i t) := by rw [h.op t t ht ht, if_neg (by omega), if_pos rfl]
  have e2 : E1 i t = 0 := by rw [h.op i t hi ht, if_pos rfl]; exact h.tp.z
  have e3 : ∀ a b, a ≠ i → a ≠ t → a < 3 → b < 3 → E1 a b = E a b := fun a b h1 h2 ha hb => by rw [h.op a b ha hb, if_neg h1, if_neg h2]
  refine ⟨(h.op.rel ht hi hti h.tp.dt).trans k.rel, k.nz, Nat.le_trans k.le (by rw [e1]; exact h.tp.le), fun a h1 h2 => ?_, fun a b h1 h2 ha hb => ?_, fun b hb h0 => k.cz b hb (h.op.cz (by omega) hi hb h0)⟩
  · by_cases e : a = i
    · subst e; rw [k.o a t (by omega) (by omega) h2 ht, e2]
    · exact k.z a (by omega) h2
  · rw [k.o a b (by omega) h2 ha hb, e3 a b (by omega) h2 ha hb]
def Rq (t : Nat) (E : ME) : Prop := ∀ b, b < 3 → b ≠ t → E t b = 0
structure SameP (t i : Nat) (E E' : ME) : Prop where
  p : E' t t = E t t
  o : ∀ a b, a < 3 → b < 3 → b ≠ t → E' a b = E a b
  dv : ∀ a, i ≤ a → a < 3 → E t t ∣ E a t
theorem SameP.step {t i : Nat} {E E1 E' : ME} {tn : Tn} (h : OpA t i E E1 tn false) (hq : Rq t E) (k : SameP t (i + 1) E1 E') (hti : t < i) (hi : i < 3) : SameP t i E E' := by
  have ht : t < 3 := by omega
  obtain ⟨fa, fb, fd, fx⟩ := h.tp.f rfl
  have e1 : E1 t t = E t t := by
    rw [h.op t t ht ht, if_neg (by omega), if_pos rfl]
    unfold Tn.p
    rw [fa, fb]; omega
  have eo : ∀ a b, a < 3 → b < 3 → b ≠ t → E1 a b = E a b := fun a b ha hb hbt => by
    rw [h.op a b ha hb, hq b hb hbt]
    unfold Tn.p Tn.q
    rw [fa, fb, fd]
    by_cases e : a = i
    · rw [if_pos e, e]; omega
    · rw [if_neg e]
      by_cases e' : a = t
      · rw [if_pos e', e', hq b hb hbt]; omega
      · rw [if_neg e']
  refine ⟨k.p.trans e1, fun a b ha hb hbt => (k.o a b ha hb hbt).trans (eo a b ha hb hbt), fun a h1 h2 => ?_⟩
  by_cases e : a = i
  · subst e; exact fx
  · have := k.dv a (by omega) h2
    rw [e1, h.op a t h2 ht, if_neg e, if_neg (by omega)] at this
    exact this
theorem OpA.sz {t i c e : Nat} {E E' : ME} {tn : Tn} {ch : Bool} (h : OpA t i E E' tn ch) (ht : t < 3) (hi : i < 3) (hx : (E t t).natAbs ≤ 2 ^ c) (hy : (E i t).natAbs ≤ 2 ^ c) (hE : SzE (2 ^ e) E) : SzE (2 ^ (e + (c + 1))) E' := fun a b ha hb => by
  have h1 : 1 ≤ 2 ^ c := Nat.one_le_two_pow
  have hq : 2 * 2 ^ c * 2 ^ e = 2 ^ (e + (c + 1)) := by rw [Nat.pow_add, Nat.pow_succ]; grind
  have tp := h.tp
  have ba := tp.ba
  have bb := tp.bb
  have bc := tp.bc
  have bd := tp.bd
  rw [h.op a b ha hb, ← hq]
  split
  · exact lin_le (by omega) (by omega) (hE t b ht hb) (hE i b hi hb)
  · split
    · exact lin_le (by omega) (by omega) (hE t b ht hb) (hE i b hi hb)
    · exact Nat.le_trans (hE a b ha hb) (le_twoC h1)
theorem OpA.szQ {t i h e : Nat} {E E' : ME} {tn : Tn} {ch : Bool} (k : OpA t i E E' tn ch) (hq : Rq t E) (ht : t < 3) (hi : i < 3) (hx : (E t t).natAbs ≤ 2 ^ h) (hE : SzE (2 ^ e) E) : SzE (2 ^ (e + h)) E' := fun a b ha hb => by
  have hh : 2 ^ e ≤ 2 ^ (e + h) := Nat.pow_le_pow_right (by decide) (by omega)
  have hm : ∀ {u v : Int}, u.natAbs ≤ 2 ^ h → v.natAbs ≤ 2 ^ e → (u * v).natAbs ≤ 2 ^ (e + h) := fun hu hv => by
    rw [Int.natAbs_mul, Nat.pow_add, Nat.mul_comm (2 ^ e)]
    exact Nat.mul_le_mul hu hv
  have tp := k.tp
  have bb := tp.bb
  have bd := tp.bd
  have hil := hE i b hi hb
  rw [k.op a b ha hb]
  by_cases hbt : b = t
  · subst hbt
    split
    · rw [tp.z]; exact Nat.zero_le _
    · split
      · exact Nat.le_trans tp.le (Nat.le_trans (hE b b hb hb) hh)
      · exact Nat.le_trans (hE a b ha hb) hh
  · rw [hq b hb hbt]
    split
    · unfold Tn.q; rw [Int.mul_zero, Int.zero_add]; exact hm (by omega) hil
    · split
      · unfold Tn.p; rw [Int.mul_zero, Int.zero_add]; exact hm (by omega) hil
      · exact Nat.le_trans (hE a b ha hb) hh
theorem OpA.szF {t i e : Nat} {E E' : ME} {tn : Tn} (k : OpA t i E E' tn false) (hq : Rq t E) (ht : t < 3) (hi : i < 3) (hti : t < i) (hE : SzE (2 ^ e) E) : SzE (2 ^ e) E' := fun a b ha hb => by
  obtain ⟨fa, fb, fd, fx⟩ := k.tp.f rfl
  rw [k.op a b ha hb]
  by_cases hbt : b = t
  · subst hbt
    split
    · rw [k.tp.z]; exact Nat.zero_le _
    · split
      · exact Nat.le_trans k.tp.le (hE b b hb hb)
      · exact hE a b ha hb
  · rw [hq b hb hbt]
    unfold Tn.p Tn.q
    rw [fa, fb, fd]
    split
    · have := hE i b hi hb; simpa using this
    · split
      · simp
      · exact hE a b ha hb

structure Sx (e b : Nat) (S : Sm) : Prop where
  dm : Dm 3 3 S
  d : SzE (2 ^ e) (gE S.d)
  u : SzU (2 ^ b) 3 3 S
theorem Sx.mono {e b e' b' : Nat} {S : Sm} (h : Sx e b S) (he : e ≤ e') (hb : b ≤ b') : Sx e' b' S := ⟨h.dm, h.d.mono (Nat.pow_le_pow_right (by decide) he), h.u.mono (Nat.pow_le_pow_right (by decide) hb)⟩
theorem lt256 {e K : Nat} (h : e < 8 * K) : 2 ^ e < 256 ^ K := by
  rw [show (256 : Nat) = 2 ^ 8 by decide, ← Nat.pow_mul]
  exact Nat.pow_lt_pow_right (by decide) h
theorem twoC (c b : Nat) : 2 * 2 ^ c * 2 ^ b = 2 ^ (b + (c + 1)) := by rw [Nat.pow_add, Nat.pow_succ]; grind
theorem turn_cb {x y : Int} {t : Tn} {ch : Bool} {c : Nat} (h : TurnP x y t ch) (hx : x.natAbs ≤ 2 ^ c) (hy : y.natAbs ≤ 2 ^ c) : CB (2 ^ c) t := by
  have h1 : 1 ≤ 2 ^ c := Nat.one_le_two_pow
  have h2 := h.ba
  have h3 := h.bb
  have h4 := h.bc
  have h5 := h.bd
  exact ⟨by omega, by omega, by omega, by omega⟩
theorem clrR_go {K t i e b c : Nat} {S : Sm} (hS : Sx e b S) (hti : t < i) (hi : i < 3) (hx : gE S.d t t ≠ 0) (hcx : (gE S.d t t).natAbs ≤ 2 ^ c) (hcy : (gE S.d i t).natAbs ≤ 2 ^ c) (hb : b + (c + 1) < 8 * K) (he : e + (c + 1) < 8 * K) :
    ∃ S' tn ch, clrR K t i S = some (S', ch) ∧ OpA t i (gE S.d) (gE S'.d) tn ch ∧ Sx (e + (c + 1)) (b + (c + 1)) S' := by
  have ht : t < 3 := by omega
  rcases clear_cases (y := gE S.d i t) hx with ⟨h0, hy⟩ | ⟨tn, ch, h0, hT⟩
  · refine ⟨S, ⟨1, 0, 0, 1⟩, false, by unfold clrR; rw [h0], ⟨by rw [hy]; exact turn_none hx, fun a b' ha hb' => ?_⟩, hS.mono (by omega) (by omega)⟩
    unfold Tn.p Tn.q
    dsimp only
    by_cases e1 : a = i
    · rw [if_pos e1, e1]; omega
    · rw [if_neg e1]
      by_cases e2 : a = t
      · rw [if_pos e2, e2]; omega
      · rw [if_neg e2]
  · have hop : OpA t i (gE S.d) (gE (S.rows t i tn).d) tn ch := ⟨hT, fun a b' ha hb' => gE_rows hS.dm.d ht hi hb'⟩
    have hz := hop.sz ht hi hcx hcy hS.d
    have hD : Dm 3 3 (S.rows t i tn) := hS.dm.rows ht hi
    have hU := hS.u.rows hS.dm ht hi (turn_cb hT hcx hcy) Nat.one_le_two_pow
    rw [twoC] at hU
    have hck := ck_of (K := K) hD hU hz (lt256 hb) (lt256 he)
    exact ⟨_, tn, ch, by unfold clrR; rw [h0]; dsimp only; rw [hck], hop, hD, hz, hU⟩
theorem clrC_go {K t i e b c : Nat} {S : Sm} (hS : Sx e b S) (hti : t < i) (hi : i < 3) (hx : gE S.d t t ≠ 0) (hcx : (gE S.d t t).natAbs ≤ 2 ^ c) (hcy : (gE S.d t i).natAbs ≤ 2 ^ c) (hb : b + (c + 1) < 8 * K) (he : e + (c + 1) < 8 * K) :
    ∃ S' tn ch, clrC K t i S = some (S', ch) ∧ OpA t i (trE (gE S.d)) (trE (gE S'.d)) tn ch ∧ Sx (e + (c + 1)) (b + (c + 1)) S' := by
  have ht : t < 3 := by omega
  rcases clear_cases (y := gE S.d t i) hx with ⟨h0, hy⟩ | ⟨tn, ch, h0, hT⟩
  · refine ⟨S, ⟨1, 0, 0, 1⟩, false, by unfold clrC; rw [h0], ⟨by show TurnP (gE S.d t t) (gE S.d t i) _ _; rw [hy]; exact turn_none hx, fun a b' ha hb' => ?_⟩, hS.mono (by omega) (by omega)⟩
    unfold Tn.p Tn.q
    dsimp only
    by_cases e1 : a = i
    · rw [if_pos e1, e1]; omega
    · rw [if_neg e1]
      by_cases e2 : a = t
      · rw [if_pos e2, e2]; omega
      · rw [if_neg e2]
  · have hop : OpA t i (trE (gE S.d)) (trE (gE (S.cols t i tn).d)) tn ch := ⟨hT, fun a b' ha hb' => gE_cols hS.dm.d ht hi hb'⟩
    have hz : SzE (2 ^ (e + (c + 1))) (gE (S.cols t i tn).d) := (hop.sz ht hi hcx hcy hS.d.tr).tr
    have hD : Dm 3 3 (S.cols t i tn) := hS.dm.cols ht hi
    have hU := hS.u.cols hS.dm ht hi (turn_cb hT hcx hcy) Nat.one_le_two_pow
    rw [twoC] at hU
    have hck := ck_of (K := K) hD hU hz (lt256 hb) (lt256 he)
    exact ⟨_, tn, ch, by unfold clrC; rw [h0]; dsimp only; rw [hck], hop, hD, hz, hU⟩

theorem rowP_any {K t c : Nat} : ∀ (k i e b : Nat) (S : Sm), i + k = 3 → t < i → Sx e b S → gE S.d t t ≠ 0 → (gE S.d t t).natAbs ≤ 2 ^ c → (∀ a, i ≤ a → a < 3 → (gE S.d a t).natAbs ≤ 2 ^ c) → b + k * (c + 1) < 8 * K → e + k * (c + 1) < 8 * K →
    ∃ S', rowP K t k i S = some S' ∧ AnyP t i (gE S.d) (gE S'.d) ∧ Sx (e + k * (c + 1)) (b + k * (c + 1)) S'
  | 0, i, e, b, S, hik, hti, hS, hx, _, _, _, _ => by
    obtain rfl : i = 3 := by omega
    exact ⟨S, rfl, AnyP.done hx, hS.mono (by omega) (by omega)⟩
  | k + 1, i, e, b, S, hik, hti, hS, hx, hcx, hcy, hb, he => by
    rw [Nat.succ_mul] at hb he
    obtain ⟨S1, tn, ch, h1, hop, hS1⟩ := clrR_go (K := K) (i := i) hS hti (show i < 3 by omega) hx hcx (hcy i (Nat.le_refl _) (show i < 3 by omega)) (by omega) (by omega)
    have ht : t < 3 := by omega
    have e1 : gE S1.d t t = tn.p (gE S.d t t) (gE S.d i t) := by rw [hop.op t t ht ht, if_neg (by omega), if_pos rfl]
    obtain ⟨S', h2, hA, hS'⟩ := rowP_any (K := K) (c := c) k (i + 1) (e + (c + 1)) (b + (c + 1)) S1 (show i + 1 + k = 3 by omega) (show t < i + 1 by omega) hS1 (by rw [e1]; exact hop.tp.nz) (by rw [e1]; exact Nat.le_trans hop.tp.le hcx) (fun a h1 h2 => by rw [hop.op a t h2 ht, if_neg (by omega), if_neg (by omega)]; exact hcy a (by omega) h2) (by omega) (by omega)
    refine ⟨S', by rw [rowP, h1]; exact h2, hA.step hop hti (by omega), hS'.mono (by rw [Nat.succ_mul]; omega) (by rw [Nat.succ_mul]; omega)⟩
theorem colP_any {K t c : Nat} : ∀ (k i e b : Nat) (ch0 : Bool) (S : Sm), i + k = 3 → t < i → Sx e b S → gE S.d t t ≠ 0 → (gE S.d t t).natAbs ≤ 2 ^ c → (∀ a, i ≤ a → a < 3 → (gE S.d t a).natAbs ≤ 2 ^ c) → b + k * (c + 1) < 8 * K → e + k * (c + 1) < 8 * K →
    ∃ S' ch, colP K t k i ch0 S = some (S', ch0 || ch) ∧ AnyP t i (trE (gE S.d)) (trE (gE S'.d)) ∧ Sx (e + k * (c + 1)) (b + k * (c + 1)) S'
  | 0, i, e, b, ch0, S, hik, hti, hS, hx, _, _, _, _ => by
    obtain rfl : i = 3 := by omega
    exact ⟨S, false, by rw [Bool.or_false]; rfl, AnyP.done hx, hS.mono (by omega) (by omega)⟩
  | k + 1, i, e, b, ch0, S, hik, hti, hS, hx, hcx, hcy, hb, he => by
    rw [Nat.succ_mul] at hb he
    obtain ⟨S1, tn, ch, h1, hop, hS1⟩ := clrC_go (K := K) (i := i) hS hti (show i < 3 by omega) hx hcx (hcy i (Nat.le_refl _) (show i < 3 by omega)) (by omega) (by omega)
    have ht : t < 3 := by omega
    have e1 : gE S1.d t t = tn.p (gE S.d t t) (gE S.d t i) := by have := hop.op t t ht ht; rw [if_neg (by omega), if_pos rfl] at this; exact this
    obtain ⟨S', ch', h2, hA, hS'⟩ := colP_any (K := K) (c := c) k (i + 1) (e + (c + 1)) (b + (c + 1)) (ch0 || ch) S1 (show i + 1 + k = 3 by omega) (show t < i + 1 by omega) hS1 (by rw [e1]; exact hop.tp.nz) (by rw [e1]; exact Nat.le_trans hop.tp.le hcx) (fun a h1 h2 => by have := hop.op a t h2 ht; rw [if_neg (by omega), if_neg (by omega)] at this; rw [show gE S1.d t a = gE S.d t a from this]; exact hcy a (by omega) h2) (by omega) (by omega)
    refine ⟨S', ch || ch', by rw [colP, h1]; dsimp only; rw [h2, Bool.or_assoc], hA.step hop hti (by omega), hS'.mono (by rw [Nat.succ_mul]; omega) (by rw [Nat.succ_mul]; omega)⟩

def QP (t i e e' : Nat) (E E' : ME) : Prop := (SameP t i E E' ∧ SzE (2 ^ e) E') ∨ (2 * (E' t t).natAbs ≤ (E t t).natAbs ∧ SzE (2 ^ e') E')
theorem rowP_q {K t h e : Nat} : ∀ (k i b : Nat) (S : Sm), i + k = 3 → t < i → Sx e b S → Rq t (gE S.d) → gE S.d t t ≠ 0 → (gE S.d t t).natAbs ≤ 2 ^ h → b + k * (e + 1) < 8 * K → e + h + k * (e + 1) < 8 * K →
    ∃ S', rowP K t k i S = some S' ∧ AnyP t i (gE S.d) (gE S'.d) ∧ QP t i e (e + h + (k - 1) * (e + 1)) (gE S.d) (gE S'.d) ∧ Dm 3 3 S' ∧ SzU (2 ^ (b + k * (e + 1))) 3 3 S'
  | 0, i, b, S, hik, hti, hS, hq, hx, _, _, _ => by
    obtain rfl : i = 3 := by omega
    exact ⟨S, rfl, AnyP.done hx, .inl ⟨⟨rfl, fun _ _ _ _ _ => rfl, fun a h1 h2 => by omega⟩, hS.d⟩, hS.dm, by rw [Nat.zero_mul]; exact hS.u⟩
  | k + 1, i, b, S, hik, hti, hS, hq, hx, hcx, hb, he => by
    have ht : t < 3 := by omega
    have hi : i < 3 := by omega
    rw [Nat.succ_mul] at hb he
    have hxe := hS.d t t ht ht
    obtain ⟨S1, tn, ch, h1, hop, hS1⟩ := clrR_go (K := K) (c := e) hS hti hi hx hxe (hS.d i t hi ht) (by omega) (by omega)
    have e1 : gE S1.d t t = tn.p (gE S.d t t) (gE S.d i t) := by rw [hop.op t t ht ht, if_neg (by omega), if_pos rfl]
    cases ch with
    | false =>
      have hd1 := hop.szF hq ht hi hti hS.d
      obtain ⟨fa, fb, fd, fx⟩ := hop.tp.f rfl
      have e2 : gE S1.d t t = gE S.d t t := by rw [e1]; unfold Tn.p; rw [fa, fb]; omega
      have hq1 : Rq t (gE S1.d) := fun b' hb' hbt => by
        rw [hop.op t b' ht hb', if_neg (by omega), if_pos rfl, hq b' hb' hbt]
        unfold Tn.p; rw [fa, fb]; omega
      obtain ⟨S', h2, hA, hQ, hD, hU⟩ := rowP_q (K := K) (h := h) (e := e) k (i + 1) (b + (e + 1)) S1 (by omega) (by omega) ⟨hS1.dm, hd1, hS1.u⟩ hq1 (by rw [e2]; exact hx) (by rw [e2]; exact hcx) (by omega) (by omega)
      refine ⟨S', by rw [rowP, h1]; exact h2, hA.step hop hti hi, ?_, hD, hU.mono (Nat.pow_le_pow_right (by decide) (by rw [Nat.succ_mul]; omega))⟩
      rcases hQ with ⟨hs, hz⟩ | ⟨hh, hz⟩
      · exact .inl ⟨hs.step hop hq hti hi, hz⟩
      · refine .inr ⟨by rw [e2] at hh; exact hh, hz.mono (Nat.pow_le_pow_right (by decide) ?_)⟩
        have : (k - 1) * (e + 1) ≤ (k + 1 - 1) * (e + 1) := Nat.mul_le_mul_right _ (by omega)
        omega
    | true =>
      have hd1 := hop.szQ hq ht hi hcx hS.d
      have hle : (gE S1.d t t).natAbs ≤ 2 ^ e := by rw [e1]; exact Nat.le_trans hop.tp.le hxe
      obtain ⟨S', h2, hA, hS'⟩ := rowP_any (K := K) (c := e) k (i + 1) (e + h) (b + (e + 1)) S1 (by omega) (by omega) ⟨hS1.dm, hd1, hS1.u⟩ (by rw [e1]; exact hop.tp.nz) hle (fun a h1 h2 => by rw [hop.op a t h2 ht, if_neg (by omega), if_neg (by omega)]; exact hS.d a t h2 ht) (by omega) (by omega)
      refine ⟨S', by rw [rowP, h1]; exact h2, hA.step hop hti hi, .inr ⟨?_, by rw [Nat.add_sub_cancel]; exact hS'.d⟩, hS'.dm, hS'.u.mono (Nat.pow_le_pow_right (by decide) (by rw [Nat.succ_mul]; omega))⟩
      have := hA.le
      have := hop.tp.h rfl
      rw [← e1] at this
      omega
theorem colP_q {K t h e : Nat} : ∀ (k i b : Nat) (ch0 : Bool) (S : Sm), i + k = 3 → t < i → Sx e b S → Rq t (trE (gE S.d)) → gE S.d t t ≠ 0 → (gE S.d t t).natAbs ≤ 2 ^ h → b + k * (e + 1) < 8 * K → e + h + k * (e + 1) < 8 * K →
    ∃ S' ch, colP K t k i ch0 S = some (S', ch0 || ch) ∧ AnyP t i (trE (gE S.d)) (trE (gE S'.d)) ∧ ((ch = false ∧ SameP t i (trE (gE S.d)) (trE (gE S'.d)) ∧ SzE (2 ^ e) (gE S'.d)) ∨ (ch = true ∧ 2 * (gE S'.d t t).natAbs ≤ (gE S.d t t).natAbs ∧ SzE (2 ^ (e + h + (k - 1) * (e + 1))) (gE S'.d))) ∧ Dm 3 3 S' ∧ SzU (2 ^ (b + k * (e + 1))) 3 3 S'
  | 0, i, b, ch0, S, hik, hti, hS, hq, hx, _, _, _ => by
    obtain rfl : i = 3 := by omega
    exact ⟨S, false, by rw [Bool.or_false]; rfl, AnyP.done hx, .inl ⟨rfl, ⟨rfl, fun _ _ _ _ _ => rfl, fun a h1 h2 => by omega⟩, hS.d⟩, hS.dm, by rw [Nat.zero_mul]; exact hS.u⟩
  | k + 1, i, b, ch0, S, hik, hti, hS, hq, hx, hcx, hb, he => by
    have ht : t < 3 := by omega
    have hi : i < 3 := by omega
    rw [Nat.succ_mul] at hb he
    have hxe := hS.d t t ht ht
    obtain ⟨S1, tn, ch, h1, hop, hS1⟩ := clrC_go (K := K) (c := e) hS hti hi hx hxe (hS.d t i ht hi) (by omega) (by omega)
    have e1 : gE S1.d t t = tn.p (gE S.d t t) (gE S.d t i) := by have := hop.op t t ht ht; rw [if_neg (by omega), if_pos rfl] at this; exact this
    cases ch with
    | false =>
      have hd1 : SzE (2 ^ e) (gE S1.d) := (hop.szF hq ht hi hti hS.d.tr).tr
      obtain ⟨fa, fb, fd, fx⟩ := hop.tp.f rfl
      have e2 : gE S1.d t t = gE S.d t t := by rw [e1]; unfold Tn.p; rw [fa, fb]; omega
      have hq1 : Rq t (trE (gE S1.d)) := fun b' hb' hbt => by
        rw [hop.op t b' ht hb', if_neg (by omega), if_pos rfl, hq b' hb' hbt]
        unfold Tn.p; rw [fa, fb]; omega
      obtain ⟨S', ch', h2, hA, hQ, hD, hU⟩ := colP_q (K := K) (h := h) (e := e) k (i + 1) (b + (e + 1)) (ch0 || false) S1 (by omega) (by omega) ⟨hS1.dm, hd1, hS1.u⟩ hq1 (by rw [e2]; exact hx) (by rw [e2]; exact hcx) (by omega) (by omega)
      refine ⟨S', ch', by rw [colP, h1]; dsimp only; rw [h2, Bool.or_false], hA.step hop hti hi, ?_, hD, hU.mono (Nat.pow_le_pow_right (by decide) (by rw [Nat.succ_mul]; omega))⟩
      rcases hQ with ⟨hc, hs, hz⟩ | ⟨hc, hh, hz⟩
      · exact .inl ⟨hc, hs.step hop hq hti hi, hz⟩
      · refine .inr ⟨hc, by rw [e2] at hh; exact hh, hz.mono (Nat.pow_le_pow_right (by decide) ?_)⟩
        have : (k - 1) * (e + 1) ≤ (k + 1 - 1) * (e + 1) := Nat.mul_le_mul_right _ (by omega)
        omega
    | true =>
      have hd1 : SzE (2 ^ (e + h)) (gE S1.d) := (hop.szQ hq ht hi hcx hS.d.tr).tr
      have hle : (gE S1.d t t).natAbs ≤ 2 ^ e := by rw [e1]; exact Nat.le_trans hop.tp.le hxe
      obtain ⟨S', ch', h2, hA, hS'⟩ := colP_any (K := K) (c := e) k (i + 1) (e + h) (b + (e + 1)) (ch0 || true) S1 (by omega) (by omega) ⟨hS1.dm, hd1, hS1.u⟩ (by rw [e1]; exact hop.tp.nz) hle (fun a h1 h2 => by have := hop.op a t h2 ht; rw [if_neg (by omega), if_neg (by omega)] at this; rw [show gE S1.d t a = gE S.d t a from this]; exact hS.d t a ht h2) (by omega) (by omega)
      refine ⟨S', true, by rw [colP, h1]; dsimp only; rw [h2, Bool.or_true, Bool.true_or], hA.step hop hti hi, .inr ⟨rfl, ?_, by rw [Nat.add_sub_cancel]; exact hS'.d⟩, hS'.dm, hS'.u.mono (Nat.pow_le_pow_right (by decide) (by rw [Nat.succ_mul]; omega))⟩
      have := hA.le
      have h3 := hop.tp.h rfl
      have h4 : (gE S'.d t t).natAbs ≤ (gE S1.d t t).natAbs := this
      have h5 : 2 * (tn.p (gE S.d t t) (gE S.d t i)).natAbs ≤ (gE S.d t t).natAbs := h3
      rw [← e1] at h5
      omega

def Cl (t : Nat) (E : ME) : Prop := ∀ a b, a < 3 → b < 3 → a ≠ b → (a < t ∨ b < t) → E a b = 0
theorem Cl.tr {t : Nat} {E : ME} (h : Cl t E) : Cl t (trE E) := fun a b ha hb hab h1 => h b a hb ha (fun e => hab e.symm) (h1.elim .inr .inl)
structure Inv (t : Nat) (E0 E : ME) : Prop where
  rel : Rel3 E0 E
  cl : Cl t E
  nz : E t t ≠ 0
  dg : ∀ a, a < t → E a a = E0 a a
theorem RowOp.cl {t i : Nat} {tn : Tn} {E E' : ME} (h : RowOp t i tn E E') (hti : t < i) (hi : i < 3) (hc : Cl t E) : Cl t E' := fun a b ha hb hab h1 => by
  have ht : t < 3 := by omega
  rw [h a b ha hb]
  by_cases e : a = i
  · rw [if_pos e, hc t b ht hb (by omega) (by omega), hc i b hi hb (by omega) (by omega)]
    unfold Tn.q; simp
  · rw [if_neg e]
    by_cases e' : a = t
    · rw [if_pos e', hc t b ht hb (by omega) (by omega), hc i b hi hb (by omega) (by omega)]
      unfold Tn.p; simp
    · rw [if_neg e']; exact hc a b ha hb hab h1
theorem RowOp.dg {t i : Nat} {tn : Tn} {E E' : ME} (h : RowOp t i tn E E') (hti : t < i) (hi : i < 3) (a : Nat) (ha : a < t) : E' a a = E a a := by
  rw [h a a (by omega) (by omega), if_neg (by omega), if_neg (by omega)]
theorem AnyP.cl {t : Nat} {E E' : ME} (h : AnyP t (t + 1) E E') (ht : t < 3) (hc : Cl t E) : Cl t E' := fun a b ha hb hab h1 => by
  by_cases e : a < t
  · rw [h.o a b (by omega) (by omega) ha hb]; exact hc a b ha hb hab h1
  · exact h.cz b hb (fun x h2 h3 => hc x b h3 hb (by omega) (by omega)) a (by omega) ha
theorem AnyP.dg {t : Nat} {E E' : ME} (h : AnyP t (t + 1) E E') (ht : t < 3) (a : Nat) (ha : a < t) : E' a a = E a a := h.o a a (by omega) (by omega) (by omega) (by omega)
theorem AnyP.cq {t : Nat} {E E' : ME} (h : AnyP t (t + 1) E E') (ht : t < 3) (hc : Cl t E) : Rq t (trE E') := fun b hb hbt => by
  show E' b t = 0
  by_cases e : b < t
  · exact h.cl ht hc b t hb ht hbt (.inl e)
  · exact h.z b (by omega) hb
theorem Inv.any {t : Nat} {E0 E E' : ME} (h : Inv t E0 E) (k : AnyP t (t + 1) E E') (ht : t < 3) : Inv t E0 E' :=
  ⟨h.rel.trans k.rel, k.cl ht h.cl, k.nz, fun a ha => (k.dg ht a ha).trans (h.dg a ha)⟩
theorem Inv.anyC {t : Nat} {E0 E E' : ME} (h : Inv t E0 E) (k : AnyP t (t + 1) (trE E) (trE E')) (ht : t < 3) : Inv t E0 E' :=
  ⟨h.rel.trans k.rel.tr, (k.cl ht h.cl.tr).tr, k.nz, fun a ha => (k.dg ht a ha : E' a a = E a a).trans (h.dg a ha)⟩

def crossC (K t F : Nat) (S : Sm) : Option Sm := match colP K t (3 - (t + 1)) (t + 1) false S with
  | none => none
  | some r => if r.2 then crossF K t 3 3 F r.1 else some r.1
theorem crossF_eq {K t F : Nat} {S S1 : Sm} (h : rowP K t (3 - (t + 1)) (t + 1) S = some S1) : crossF K t 3 3 (F + 1) S = crossC K t F S1 := by
  rw [crossF, h]; rfl
theorem crossC_f {K t F : Nat} {S S1 : Sm} (h : colP K t (3 - (t + 1)) (t + 1) false S = some (S1, false)) : crossC K t F S = some S1 := by
  unfold crossC; rw [h]; rfl
theorem crossC_t {K t F : Nat} {S S1 : Sm} (h : colP K t (3 - (t + 1)) (t + 1) false S = some (S1, true)) : crossC K t F S = crossF K t 3 3 F S1 := by
  unfold crossC; rw [h]; rfl

structure Seq (K k H : Nat) (e b : Nat → Nat) : Prop where
  st : ∀ h, h < H → e (h + 1) + 1 + (h + 1) + (k - 1) * (e (h + 1) + 2) ≤ e h
  sb : ∀ h, h < H → b (h + 1) + k * (e (h + 1) + 1) + 1 + k * (e (h + 1) + 2) ≤ b h
  kb : ∀ h, h ≤ H → b h + k * (e h + 1) + 1 + k * (e h + 2) < 8 * K
  ke : ∀ h, h ≤ H → e h + 1 + h + k * (e h + 2) < 8 * K
structure Post (t k : Nat) (e b : Nat → Nat) (E0 : ME) (h : Nat) (S : Sm) : Prop where
  inv : Inv t E0 (gE S.d)
  rq : Rq t (gE S.d)
  cq : Rq t (trE (gE S.d))
  p : (gE S.d t t).natAbs ≤ 2 ^ h
  d : SzE (2 ^ e h) (gE S.d)
  u : SzU (2 ^ (b h + k * (e h + 1))) 3 3 S
  dm : Dm 3 3 S
theorem half {x y h : Nat} (h1 : 2 * x ≤ y) (h2 : y ≤ 2 ^ (h + 1)) : x ≤ 2 ^ h := by rw [Nat.pow_succ] at h2; omega
theorem cross_go {K t k H : Nat} {e b : Nat → Nat} {E0 : ME} (ht : t < 3) (hk : k = 3 - (t + 1)) (q : Seq K k H e b) : ∀ h, h ≤ H →
    (∀ (S : Sm) (F : Nat), h < F → Inv t E0 (gE S.d) → Rq t (gE S.d) → (gE S.d t t).natAbs ≤ 2 ^ h → Sx (e h) (b h) S → ∃ S' h', h' ≤ h ∧ crossF K t 3 3 F S = some S' ∧ Post t k e b E0 h' S') ∧
    (∀ (S : Sm) (F : Nat), h ≤ F → Inv t E0 (gE S.d) → Rq t (trE (gE S.d)) → (gE S.d t t).natAbs ≤ 2 ^ h → Sx (e h) (b h) S → ∃ S' h', h' ≤ h ∧ crossC K t F S = some S' ∧ Post t k e b E0 h' S') := by
  intro h
  induction h with
  | zero =>
    intro hH
    have kb := q.kb 0 hH
    have ke := q.ke 0 hH
    have m1 : k * (e 0 + 1) ≤ k * (e 0 + 2) := Nat.mul_le_mul_left _ (by omega)
    refine ⟨fun S F hF hI hr hp hS => ?_, fun S F hF hI hr hp hS => ?_⟩
    · obtain ⟨F', rfl⟩ : ∃ F', F = F' + 1 := ⟨F - 1, by omega⟩
      obtain ⟨S1, h1, hA, hQ, hD, hU⟩ := rowP_q (K := K) (h := 0) (e := e 0) k (t + 1) (b 0) S (by omega) (by omega) hS hr hI.nz hp (by omega) (by omega)
      rw [hk] at h1
      rw [crossF_eq h1]
      rcases hQ with ⟨hs, hz⟩ | ⟨hh, _⟩
      · have hr1 : Rq t (gE S1.d) := fun b' hb' hbt => by rw [hs.o t b' ht hb' hbt]; exact hr b' hb' hbt
        refine ⟨S1, 0, Nat.le_refl _, crossC_f (colP_skip fun a h1 h2 => hr1 a (by omega) (by omega)), hI.any hA ht, hr1, hA.cq ht hI.cl, by rw [hs.p]; exact hp, hz, hU, hD⟩
      · have := hA.nz
        have h2 : (gE S.d t t).natAbs ≤ 1 := hp
        omega
    · obtain ⟨S1, ch, h1, hA, hQ, hD, hU⟩ := colP_q (K := K) (h := 0) (e := e 0) k (t + 1) (b 0) false S (by omega) (by omega) hS hr hI.nz hp (by omega) (by omega)
      rw [hk, Bool.false_or] at h1
      rcases hQ with ⟨rfl, hs, hz⟩ | ⟨rfl, hh, _⟩
      · have hc1 : Rq t (trE (gE S1.d)) := fun b' hb' hbt => by rw [hs.o t b' ht hb' hbt]; exact hr b' hb' hbt
        exact ⟨S1, 0, Nat.le_refl _, crossC_f h1, hI.anyC hA ht, hA.cq ht hI.cl.tr, hc1, by rw [show gE S1.d t t = gE S.d t t from hs.p]; exact hp, hz, hU, hD⟩
      · have h3 : gE S1.d t t ≠ 0 := hA.nz
        have h2 : (gE S.d t t).natAbs ≤ 1 := hp
        omega
  | succ h ih =>
    intro hH
    obtain ⟨ihA, ihB⟩ := ih (by omega)
    have kb := q.kb (h + 1) hH
    have ke := q.ke (h + 1) hH
    have st := q.st h (by omega)
    have sb := q.sb h (by omega)
    have m1 : k * (e (h + 1) + 1) ≤ k * (e (h + 1) + 2) := Nat.mul_le_mul_left _ (by omega)
    have m2 : (k - 1) * (e (h + 1) + 1) ≤ (k - 1) * (e (h + 1) + 2) := Nat.mul_le_mul_left _ (by omega)
    have hpw : ∀ {x y : Nat}, x ≤ y → 2 ^ x ≤ 2 ^ y := fun hxy => Nat.pow_le_pow_right (by decide) hxy
    refine ⟨fun S F hF hI hr hp hS => ?_, fun S F hF hI hr hp hS => ?_⟩
    · obtain ⟨F', rfl⟩ : ∃ F', F = F' + 1 := ⟨F - 1, by omega⟩
      obtain ⟨S1, h1, hA, hQ, hD, hU⟩ := rowP_q (K := K) (h := h + 1) (e := e (h + 1)) k (t + 1) (b (h + 1)) S (by omega) (by omega) hS hr hI.nz hp (by omega) (by omega)
      rw [hk] at h1
      rw [crossF_eq h1]
      rcases hQ with ⟨hs, hz⟩ | ⟨hh, hz⟩
      · have hr1 : Rq t (gE S1.d) := fun b' hb' hbt => by rw [hs.o t b' ht hb' hbt]; exact hr b' hb' hbt
        refine ⟨S1, h + 1, Nat.le_refl _, crossC_f (colP_skip fun a h1 h2 => hr1 a (by omega) (by omega)), hI.any hA ht, hr1, hA.cq ht hI.cl, by rw [hs.p]; exact hp, hz, hU, hD⟩
      · obtain ⟨S', h', hle, hc, hP⟩ := ihB S1 F' (by omega) (hI.any hA ht) (hA.cq ht hI.cl) (half hh hp) ⟨hD, hz.mono (hpw (by omega)), hU.mono (hpw (by omega))⟩
        exact ⟨S', h', by omega, hc, hP⟩
    · obtain ⟨S1, ch, h1, hA, hQ, hD, hU⟩ := colP_q (K := K) (h := h + 1) (e := e (h + 1)) k (t + 1) (b (h + 1)) false S (by omega) (by omega) hS hr hI.nz hp (by omega) (by omega)
      rw [hk, Bool.false_or] at h1
      rcases hQ with ⟨rfl, hs, hz⟩ | ⟨rfl, hh, hz⟩
      · have hc1 : Rq t (trE (gE S1.d)) := fun b' hb' hbt => by rw [hs.o t b' ht hb' hbt]; exact hr b' hb' hbt
        exact ⟨S1, h + 1, Nat.le_refl _, crossC_f h1, hI.anyC hA ht, hA.cq ht hI.cl.tr, hc1, by rw [show gE S1.d t t = gE S.d t t from hs.p]; exact hp, hz, hU, hD⟩
      · obtain ⟨S', h', hle, hc, hP⟩ := ihA S1 F (by omega) (hI.anyC hA ht) (hA.cq ht hI.cl.tr) (half hh hp) ⟨hD, hz.mono (hpw (by omega)), hU.mono (hpw (by omega))⟩
        exact ⟨S', h', by omega, by rw [crossC_t h1]; exact hc, hP⟩

theorem spoil3 {t : Nat} {S : Sm} (ht : t < 3) (hx : gE S.d t t ≠ 0) :
    (spoiledF S t 3 3 = none ∧ ∀ i j, t < i → i < 3 → t < j → j < 3 → gE S.d t t ∣ gE S.d i j) ∨ ∃ i j, spoiledF S t 3 3 = some i ∧ t < i ∧ i < 3 ∧ t < j ∧ j < 3 ∧ ¬ gE S.d t t ∣ gE S.d i j := by
  have key : ∀ i, (badRow S t 3 i = true ↔ ∃ j, t < j ∧ j < 3 ∧ ¬ gE S.d t t ∣ gE S.d i j) := fun i => by
    unfold badRow
    rw [List.any_eq_true]
    constructor
    · rintro ⟨j, hj, hr⟩
      rw [List.mem_range'_1] at hj
      have hr := of_decide_eq_true hr
      unfold remZ at hr
      rw [if_neg hx] at hr
      exact ⟨j, by omega, by omega, fun hd => hr (Int.emod_eq_zero_of_dvd hd)⟩
    · rintro ⟨j, h1, h2, hd⟩
      refine ⟨j, List.mem_range'_1.2 (by omega), decide_eq_true ?_⟩
      unfold remZ
      rw [if_neg hx]
      exact fun e => hd (Int.dvd_of_emod_eq_zero e)
  cases hs : spoiledF S t 3 3 with
  | none =>
    refine .inl ⟨rfl, fun i j h1 h2 h3 h4 => ?_⟩
    have := List.find?_eq_none.1 hs i (List.mem_range'_1.2 (by omega))
    exact Decidable.byContradiction fun hn => this ((key i).2 ⟨j, h3, h4, hn⟩)
  | some i =>
    have h1 := List.mem_of_find?_eq_some hs
    rw [List.mem_range'_1] at h1
    obtain ⟨j, h2, h3, h4⟩ := (key i).1 (List.find?_some hs)
    exact .inr ⟨i, j, rfl, by omega, by omega, h2, h3, h4⟩
structure Fin (t : Nat) (E0 : ME) (S : Sm) : Prop where
  inv : Inv t E0 (gE S.d)
  rq : Rq t (gE S.d)
  cq : Rq t (trE (gE S.d))
  dv : ∀ i j, t < i → i < 3 → t < j → j < 3 → gE S.d t t ∣ gE S.d i j
theorem stage_go {K t k H fc : Nat} {e b : Nat → Nat} {E0 : ME} (ht : t < 3) (hk : k = 3 - (t + 1)) (q : Seq K k H e b) (hfc : H < fc) : ∀ (F h : Nat) (S0 S : Sm), h < F → h ≤ H → crossF K t 3 3 fc S0 = some S → Post t k e b E0 h S →
    ∃ S', stageF K fc t 3 3 F S0 = some S' ∧ Fin t E0 S' ∧ Sx (e 0) (b 0 + k * (e 0 + 1)) S'
  | 0, h, _, _, hF, _, _, _ => by omega
  | F + 1, h, S0, S, hF, hH, hc, P => by
    have hpw : ∀ {x y : Nat}, x ≤ y → 2 ^ x ≤ 2 ^ y := fun hxy => Nat.pow_le_pow_right (by decide) hxy
    have mono : ∀ h, h ≤ H → e h ≤ e 0 ∧ b h ≤ b 0 := by
      intro h
      induction h with
      | zero => intro _; exact ⟨Nat.le_refl _, Nat.le_refl _⟩
      | succ h ih =>
        intro hH
        have h1 := ih (by omega)
        have st := q.st h (by omega)
        have sb := q.sb h (by omega)
        omega
    rw [stageF, hc]
    dsimp only
    rcases spoil3 ht P.inv.nz with ⟨hs, hdv⟩ | ⟨i, j, hs, h1, h2, h3, h4, hb⟩
    · rw [hs]
      obtain ⟨m1, m2⟩ := mono h hH
      have m3 : k * (e h + 1) ≤ k * (e 0 + 1) := Nat.mul_le_mul_left _ (by omega)
      exact ⟨S, rfl, ⟨P.inv, P.rq, P.cq, hdv⟩, P.dm, P.d.mono (hpw m1), P.u.mono (hpw (by omega))⟩
    · rw [hs]
      dsimp only
      have kb := q.kb h hH
      have ke := q.ke h hH
      have hop : RowOp t i ⟨1, 1, 0, 1⟩ (gE S.d) (gE (S.rows t i ⟨1, 1, 0, 1⟩).d) := fun a b' ha hb' => gE_rows P.dm.d ht h2 hb'
      have cb1 : CB (2 ^ 0) ⟨1, 1, 0, 1⟩ := ⟨by decide, by decide, by decide, by decide⟩
      have D1 : Dm 3 3 (S.rows t i ⟨1, 1, 0, 1⟩) := P.dm.rows ht h2
      have U1 := P.u.rows P.dm ht h2 cb1 (by decide)
      rw [twoC] at U1
      have Z1 : SzE (2 ^ (e h + 1)) (gE (S.rows t i ⟨1, 1, 0, 1⟩).d) := fun a b' ha hb' => by
        have hq : 2 * 1 * 2 ^ e h = 2 ^ (e h + 1) := by rw [Nat.pow_succ]; omega
        rw [hop a b' ha hb', ← hq]
        split
        · exact lin_le (C := 1) (by decide) (by decide) (P.d t b' ht hb') (P.d i b' h2 hb')
        · split
          · exact lin_le (C := 1) (by decide) (by decide) (P.d t b' ht hb') (P.d i b' h2 hb')
          · exact Nat.le_trans (P.d a b' ha hb') (by omega)
      have mm : k * (e h + 1) ≤ k * (e h + 2) := Nat.mul_le_mul_left _ (by omega)
      have C1 := ck_of (K := K) D1 U1 Z1 (lt256 (by omega)) (lt256 (by omega))
      rw [C1]
      dsimp only
      have hit : gE S.d i t = 0 := P.cq i h2 (by omega)
      have e1 : gE (S.rows t i ⟨1, 1, 0, 1⟩).d t t = gE S.d t t := by
        rw [hop t t ht ht, if_neg (by omega), if_pos rfl]
        unfold Tn.p; dsimp only; rw [hit]; omega
      have I1 : Inv t E0 (gE (S.rows t i ⟨1, 1, 0, 1⟩).d) := ⟨P.inv.rel.trans (hop.rel ht h2 h1 (by decide)), hop.cl h1 h2 P.inv.cl, by rw [e1]; exact P.inv.nz, fun a ha => (hop.dg h1 h2 a ha).trans (P.inv.dg a ha)⟩
      have Q1 : Rq t (trE (gE (S.rows t i ⟨1, 1, 0, 1⟩).d)) := fun b' hb' hbt => by
        show gE (S.rows t i ⟨1, 1, 0, 1⟩).d b' t = 0
        have hb0 : gE S.d b' t = 0 := P.cq b' hb' hbt
        rw [hop b' t hb' ht, if_neg hbt]
        split
        · unfold Tn.q; dsimp only; rw [hit]; omega
        · exact hb0
      have ej : gE (S.rows t i ⟨1, 1, 0, 1⟩).d t j = gE S.d i j := by
        have h0 : gE S.d t j = 0 := P.rq j h4 (by omega)
        rw [hop t j ht h4, if_neg (by omega), if_pos rfl]
        unfold Tn.p; dsimp only; rw [h0]; omega
      generalize S.rows t i ⟨1, 1, 0, 1⟩ = S1 at *
      obtain ⟨fc', rfl⟩ : ∃ f', fc = f' + 1 := ⟨fc - 1, by omega⟩
      have hsk : rowP K t (3 - (t + 1)) (t + 1) S1 = some S1 := rowP_skip fun a h1 h2 => Q1 a (by omega) (by omega)
      obtain ⟨S2, ch, hcp, hA, hQ, hD, hU⟩ := colP_q (K := K) (h := h) (e := e h + 1) k (t + 1) (b h + k * (e h + 1) + (0 + 1)) false S1 (by omega) (by omega) ⟨D1, Z1, U1⟩ Q1 I1.nz (by rw [e1]; exact P.p) (by omega) (by omega)
      rw [hk, Bool.false_or] at hcp
      rcases hQ with ⟨rfl, hs', hz⟩ | ⟨rfl, hh, hz⟩
      · have := hs'.dv j (by omega) h4
        have h5 : gE S1.d t t ∣ gE S1.d t j := this
        rw [e1, ej] at h5
        exact absurd h5 hb
      · rw [e1] at hh
        cases h with
        | zero =>
          have h3 : gE S2.d t t ≠ 0 := hA.nz
          have hp := P.p
          rw [Nat.pow_zero] at hp
          omega
        | succ h =>
          have st := q.st h (by omega)
          have sb := q.sb h (by omega)
          obtain ⟨S3, h', hle, hc3, P3⟩ := (cross_go ht hk q h (by omega)).1 S2 fc' (by omega) (I1.anyC hA ht) (hA.cq ht I1.cl.tr) (half hh P.p) ⟨hD, hz.mono (hpw (by omega)), hU.mono (hpw (by omega))⟩
          have hc' : crossF K t 3 3 (fc' + 1) S1 = some S3 := by rw [crossF_eq hsk, crossC_t hcp]; exact hc3
          exact stage_go ht hk q hfc F h' S1 S3 (by omega) (by omega) hc' P3

theorem find3 {t : Nat} {S : Sm} :
    (findP S t 3 3 = none ∧ ∀ i j, t ≤ i → i < 3 → t ≤ j → j < 3 → gE S.d i j = 0) ∨ ∃ i j, findP S t 3 3 = some (i, j) ∧ t ≤ i ∧ i < 3 ∧ t ≤ j ∧ j < 3 ∧ gE S.d i j ≠ 0 := by
  cases hs : findP S t 3 3 with
  | none =>
    refine .inl ⟨rfl, fun i j h1 h2 h3 h4 => ?_⟩
    have := List.findSome?_eq_none_iff.1 hs j (List.mem_range'_1.2 (by omega))
    rw [Option.map_eq_none_iff] at this
    have := List.find?_eq_none.1 this i (List.mem_range'_1.2 (by omega))
    exact Decidable.byContradiction fun hn => this (decide_eq_true hn)
  | some q =>
    obtain ⟨j, hj, hq⟩ := List.exists_of_findSome?_eq_some hs
    rw [List.mem_range'_1] at hj
    obtain ⟨i, hi, rfl⟩ := Option.map_eq_some_iff.1 hq
    have h1 := List.mem_of_find?_eq_some hi
    rw [List.mem_range'_1] at h1
    have h2 : gE S.d i j ≠ 0 := by simpa using List.find?_some hi
    exact .inr ⟨i, j, rfl, by omega, by omega, by omega, by omega, h2⟩

theorem swap_cb : CB (2 ^ 0) ⟨0, 1, -1, 0⟩ := ⟨by decide, by decide, by decide, by decide⟩
theorem swap_sz {e t i : Nat} {E E' : ME} (h : RowOp t i ⟨0, 1, -1, 0⟩ E E') (ht : t < 3) (hi : i < 3) (hE : SzE (2 ^ e) E) : SzE (2 ^ e) E' := fun a b ha hb => by
  rw [h a b ha hb]
  unfold Tn.p Tn.q
  dsimp only
  have h1 := hE t b ht hb
  have h2 := hE i b hi hb
  have h3 := hE a b ha hb
  split
  · rw [show -1 * E t b + 0 * E i b = -(E t b) by omega, Int.natAbs_neg]; exact h1
  · split
    · rw [show 0 * E t b + 1 * E i b = E i b by omega]; exact h2
    · exact h3
theorem pivot3 {K t e b : Nat} {S : Sm} {E0 : ME} (hS : Sx e b S) (ht : t < 3) (hr : Rel3 E0 (gE S.d)) (hc : Cl t (gE S.d)) (hd : ∀ a, a < t → gE S.d a a = E0 a a) (he : e < 8 * K) (hb : b + 2 < 8 * K) :
    (pivotF K t 3 3 S = some (S, false) ∧ ∀ i j, t ≤ i → i < 3 → t ≤ j → j < 3 → gE S.d i j = 0) ∨ ∃ S', pivotF K t 3 3 S = some (S', true) ∧ Inv t E0 (gE S'.d) ∧ Sx e (b + 2) S' := by
  have hpw : ∀ {x y : Nat}, x ≤ y → 2 ^ x ≤ 2 ^ y := fun hxy => Nat.pow_le_pow_right (by decide) hxy
  unfold pivotF
  rcases find3 (t := t) (S := S) with ⟨hf, hz⟩ | ⟨i, j, hf, hti, hi, htj, hj, hx⟩
  · rw [hf]; exact .inl ⟨rfl, hz⟩
  · rw [hf]
    dsimp only
    refine .inr ?_
    obtain ⟨S1, h1, r1, c1, d1, s1, x1⟩ : ∃ S1, (if i = t then some S else ck K (S.rows t i ⟨0, 1, -1, 0⟩)) = some S1 ∧ Rel3 E0 (gE S1.d) ∧ Cl t (gE S1.d) ∧ (∀ a, a < t → gE S1.d a a = E0 a a) ∧ Sx e (b + 1) S1 ∧ gE S1.d t j ≠ 0 := by
      by_cases ei : i = t
      · subst ei
        exact ⟨S, if_pos rfl, hr, hc, hd, hS.mono (Nat.le_refl _) (by omega), hx⟩
      · have hop : RowOp t i ⟨0, 1, -1, 0⟩ (gE S.d) (gE (S.rows t i ⟨0, 1, -1, 0⟩).d) := fun a b' ha hb' => gE_rows hS.dm.d ht hi hb'
        have D1 : Dm 3 3 (S.rows t i ⟨0, 1, -1, 0⟩) := hS.dm.rows ht hi
        have U1 := hS.u.rows hS.dm ht hi swap_cb (by decide)
        rw [twoC] at U1
        have Z1 := swap_sz hop ht hi hS.d
        have C1 := ck_of (K := K) D1 U1 Z1 (lt256 (by omega)) (lt256 (by omega))
        refine ⟨_, by rw [if_neg ei]; exact C1, hr.trans (hop.rel ht hi (by omega) (by decide)), hop.cl (by omega) hi hc, fun a ha => (hop.dg (by omega) hi a ha).trans (hd a ha), ⟨D1, Z1, U1⟩, ?_⟩
        rw [hop t j ht hj, if_neg (by omega), if_pos rfl]
        unfold Tn.p; dsimp only
        rw [show 0 * gE S.d t j + 1 * gE S.d i j = gE S.d i j by omega]; exact hx
    rw [h1]
    dsimp only
    obtain ⟨S2, h2, r2, c2, d2, s2, x2⟩ : ∃ S2, (if j = t then some S1 else ck K (S1.cols t j ⟨0, 1, -1, 0⟩)) = some S2 ∧ Rel3 E0 (gE S2.d) ∧ Cl t (gE S2.d) ∧ (∀ a, a < t → gE S2.d a a = E0 a a) ∧ Sx e (b + 2) S2 ∧ gE S2.d t t ≠ 0 := by
      by_cases ej : j = t
      · subst ej
        exact ⟨S1, if_pos rfl, r1, c1, d1, s1.mono (Nat.le_refl _) (by omega), x1⟩
      · have hop : RowOp t j ⟨0, 1, -1, 0⟩ (trE (gE S1.d)) (trE (gE (S1.cols t j ⟨0, 1, -1, 0⟩).d)) := fun a b' ha hb' => gE_cols s1.dm.d ht hj hb'
        have D1 : Dm 3 3 (S1.cols t j ⟨0, 1, -1, 0⟩) := s1.dm.cols ht hj
        have U1 := s1.u.cols s1.dm ht hj swap_cb (by decide)
        rw [twoC] at U1
        have Z1 : SzE (2 ^ e) (gE (S1.cols t j ⟨0, 1, -1, 0⟩).d) := (swap_sz hop ht hj s1.d.tr).tr
        have C1 := ck_of (K := K) D1 U1 Z1 (lt256 (by omega)) (lt256 (by omega))
        refine ⟨_, by rw [if_neg ej]; exact C1, r1.trans (hop.rel ht hj (by omega) (by decide)).tr, (hop.cl (by omega) hj c1.tr).tr, fun a ha => (hop.dg (by omega) hj a ha : gE (S1.cols t j ⟨0, 1, -1, 0⟩).d a a = gE S1.d a a).trans (d1 a ha), ⟨D1, Z1, U1⟩, ?_⟩
        have e1 : gE (S1.cols t j ⟨0, 1, -1, 0⟩).d t t = _ := hop t t ht ht
        rw [e1, if_neg (by omega), if_pos rfl]
        unfold Tn.p; dsimp only
        show 0 * gE S1.d t t + 1 * gE S1.d t j ≠ 0
        rw [show 0 * gE S1.d t t + 1 * gE S1.d t j = gE S1.d t j by omega]; exact x1
    rw [h2]
    exact ⟨S2, rfl, ⟨r2, c2, x2, d2⟩, s2⟩

theorem stage_from {K t k H fc F : Nat} {e b : Nat → Nat} {E0 : ME} {S S1 : Sm} (ht : t < 3) (hk : k = 3 - (t + 1)) (q : Seq K k H e b) (hfc : H + 1 < fc) (hF : H < F) (hI : Inv t E0 (gE S.d)) (h1 : rowP K t (3 - (t + 1)) (t + 1) S = some S1) (hA : AnyP t (t + 1) (gE S.d) (gE S1.d)) (hS1 : Sx (e H) (b H) S1) (hp : (gE S1.d t t).natAbs ≤ 2 ^ H) :
    ∃ S', stageF K fc t 3 3 F S = some S' ∧ Fin t E0 S' ∧ Sx (e 0) (b 0 + k * (e 0 + 1)) S' := by
  obtain ⟨f', rfl⟩ : ∃ f', fc = f' + 1 := ⟨fc - 1, by omega⟩
  obtain ⟨S2, h', hle, hc, P⟩ := (cross_go ht hk q H (Nat.le_refl _)).2 S1 f' (by omega) (hI.any hA ht) (hA.cq ht hI.cl) hp hS1
  exact stage_go ht hk q (by omega) F h' S S2 (by omega) hle (by rw [crossF_eq h1]; exact hc) P

theorem stage_end {K t fc F : Nat} {S0 S : Sm} (ht : t < 3) (hc : crossF K t 3 3 fc S0 = some S) (hx : gE S.d t t ≠ 0) (hd : ∀ i j, t < i → i < 3 → t < j → j < 3 → gE S.d t t ∣ gE S.d i j) : stageF K fc t 3 3 (F + 1) S0 = some S := by
  rw [stageF, hc]
  dsimp only
  rcases spoil3 ht hx with ⟨hs, _⟩ | ⟨i, j, _, h1, h2, h3, h4, hb⟩
  · rw [hs]
  · exact absurd (hd i j h1 h2 h3 h4) hb
theorem stage_flat {K fc F e0 b0 : Nat} {E0 : ME} {S S1 : Sm} (hfc : 1 < fc) (h1 : rowP K 1 1 2 S = some S1) (hI : Inv 1 E0 (gE S1.d)) (hc : Rq 1 (trE (gE S1.d))) (h0 : gE S1.d 2 2 = 0) (hS : Sx e0 b0 S1) (hb : b0 + (e0 + 1) < 8 * K) (he : e0 + (e0 + 1) < 8 * K) :
    ∃ S', stageF K fc 1 3 3 (F + 1) S = some S' ∧ Fin 1 E0 S' ∧ Sx (e0 + (e0 + 1)) (b0 + (e0 + 1)) S' := by
  obtain ⟨S2, ch, h2, hA, hS2⟩ := colP_any (K := K) (t := 1) (c := e0) 1 2 e0 b0 false S1 (by decide) (by decide) hS hI.nz (hS.d 1 1 (by decide) (by decide)) (fun a _ h => hS.d 1 a (by decide) h) (by omega) (by omega)
  rw [Nat.one_mul] at hS2
  rw [Bool.false_or] at h2
  have hI2 := hI.anyC hA (by decide)
  have hr2 : Rq 1 (gE S2.d) := hA.cq (by decide) hI.cl.tr
  have hz : ∀ a, 1 ≤ a → a < 3 → gE S2.d 2 a = 0 := hA.cz 2 (by decide) (fun a h3 h4 => by
    show gE S1.d 2 a = 0
    have : a = 1 ∨ a = 2 := by omega
    rcases this with rfl | rfl
    · exact hc 2 (by decide) (by decide)
    · exact h0)
  have hc2 : Rq 1 (trE (gE S2.d)) := fun b hb hbt => by
    show gE S2.d b 1 = 0
    have : b = 0 ∨ b = 2 := by omega
    rcases this with rfl | rfl
    · exact hI2.cl 0 1 (by decide) (by decide) (by decide) (.inl (by decide))
    · exact hz 1 (by decide) (by decide)
  obtain ⟨f', rfl⟩ : ∃ f', fc = f' + 1 := ⟨fc - 1, by omega⟩
  obtain ⟨f'', rfl⟩ : ∃ f'', f' = f'' + 1 := ⟨f' - 1, by omega⟩
  have hcross : crossF K 1 3 3 (f'' + 1 + 1) S = some S2 := by
    rw [crossF_eq (t := 1) h1]
    cases ch with
    | false => exact crossC_f (t := 1) h2
    | true =>
      rw [crossC_t (t := 1) h2, crossF_eq (t := 1) (rowP_skip fun a h3 h4 => hc2 a (by omega) (by omega))]
      exact crossC_f (colP_skip fun a h3 h4 => hr2 a (by omega) (by omega))
  have hdv : ∀ i j, 1 < i → i < 3 → 1 < j → j < 3 → gE S2.d 1 1 ∣ gE S2.d i j := fun i j h3 h4 h5 h6 => by
    obtain rfl : i = 2 := by omega
    rw [hz j (by omega) h6]; exact Int.dvd_zero _
  exact ⟨S2, stage_end (by decide) hcross hI2.nz hdv, ⟨hI2, hr2, hc2, hdv⟩, hS2⟩

structure Done (t : Nat) (E0 E : ME) : Prop where
  rel : Rel3 E0 E
  cl : Cl (t + 1) E
  p : 0 < E t t
  dg : ∀ a, a < t → E a a = E0 a a
  dv : ∀ i j, t < i → i < 3 → t < j → j < 3 → E t t ∣ E i j
theorem Fin.cl {t : Nat} {E0 : ME} {S : Sm} (h : Fin t E0 S) : Cl (t + 1) (gE S.d) := fun a b ha hb hab h1 => by
  by_cases e : a < t
  · exact h.inv.cl a b ha hb hab (.inl e)
  · by_cases e2 : b < t
    · exact h.inv.cl a b ha hb hab (.inr e2)
    · by_cases e3 : a = t
      · subst e3; exact h.rq b hb (fun e => hab e.symm)
      · have : b = t := by omega
        subst this; exact h.cq a ha hab
theorem Fin.done {t e b : Nat} {E0 : ME} {S : Sm} (h : Fin t E0 S) (ht : t < 3) (hS : Sx e b S) : ∃ S', (if gE S.d t t < 0 then S.neg t else S) = S' ∧ Done t E0 (gE S'.d) ∧ Sx e b S' := by
  have hn := h.inv.nz
  by_cases hlt : gE S.d t t < 0
  · have e1 : ∀ a b, a < 3 → b < 3 → gE (S.neg t).d a b = if a = t then -(gE S.d t b) else gE S.d a b := fun a b _ _ => gE_nR hS.dm.d ht
    refine ⟨S.neg t, if_pos hlt, ⟨h.inv.rel.trans (neg_rel ht e1), fun a b ha hb hab h1 => ?_, by rw [e1 t t ht ht, if_pos rfl]; omega, fun a ha => ?_, fun i j h1 h2 h3 h4 => ?_⟩, ⟨hS.dm.neg' ht, fun a b ha hb => ?_, hS.u.neg hS.dm ht⟩⟩
    · have h2 := h.cl a b ha hb hab h1
      rw [e1 a b ha hb]
      split
      · rename_i e; rw [← e, h2]; rfl
      · exact h2
    · rw [e1 a a (by omega) (by omega), if_neg (by omega)]; exact h.inv.dg a ha
    · rw [e1 t t ht ht, if_pos rfl, e1 i j h2 h4, if_neg (by omega)]; exact Int.neg_dvd.2 (h.dv i j h1 h2 h3 h4)
    · rw [e1 a b ha hb]
      split
      · rw [Int.natAbs_neg]; exact hS.d t b ht hb
      · exact hS.d a b ha hb
  · exact ⟨S, if_neg hlt, ⟨h.inv.rel, h.cl, by omega, h.inv.dg, h.dv⟩, hS⟩

def seqE : Nat → Nat := fun h => [53246, 26621, 13308, 6651, 3322, 1657, 824, 407, 198, 93, 40].getD h 0
def seqB : Nat → Nat := fun h => [212578, 106087, 52848, 26237, 12942, 6307, 3004, 1369, 570, 191, 24].getD h 0
theorem seq0 : Seq 1000000 2 10 seqE seqB := ⟨by decide, by decide, by decide, by decide⟩
theorem seq1 : Seq 1000000 1 33 (fun h => 106493 + 34 * (33 - h)) (fun h => 372321 + 215300 * (33 - h)) := ⟨fun h hh => by omega, fun h hh => by omega, fun h hh => by omega, fun h hh => by omega⟩
theorem D3_le {E : ME} {B : Nat} (h : SzE B E) : (D3 E).natAbs ≤ 6 * (B * (B * B)) := by
  have hm : ∀ {x y z : Int}, x.natAbs ≤ B → y.natAbs ≤ B → z.natAbs ≤ B → (x * (y * z)).natAbs ≤ B * (B * B) := fun hx hy hz => by
    rw [Int.natAbs_mul, Int.natAbs_mul]
    exact Nat.mul_le_mul hx (Nat.mul_le_mul hy hz)
  have g : ∀ a b, a < 3 → b < 3 → (E a b).natAbs ≤ B := h
  unfold D3
  have a1 := hm (g 0 0 (by decide) (by decide)) (g 1 1 (by decide) (by decide)) (g 2 2 (by decide) (by decide))
  have a2 := hm (g 0 0 (by decide) (by decide)) (g 1 2 (by decide) (by decide)) (g 2 1 (by decide) (by decide))
  have a3 := hm (g 0 1 (by decide) (by decide)) (g 1 0 (by decide) (by decide)) (g 2 2 (by decide) (by decide))
  have a4 := hm (g 0 1 (by decide) (by decide)) (g 1 2 (by decide) (by decide)) (g 2 0 (by decide) (by decide))
  have a5 := hm (g 0 2 (by decide) (by decide)) (g 1 0 (by decide) (by decide)) (g 2 1 (by decide) (by decide))
  have a6 := hm (g 0 2 (by decide) (by decide)) (g 1 1 (by decide) (by decide)) (g 2 0 (by decide) (by decide))
  rw [Int.mul_sub, Int.mul_sub, Int.mul_sub]
  omega
structure Dia (E0 E : ME) : Prop where
  rel : Rel3 E0 E
  cl : Cl 3 E
  n0 : 0 ≤ E 0 0
  n1 : 0 ≤ E 1 1
  n2 : 0 ≤ E 2 2
  d1 : E 0 0 ∣ E 1 1
  d2 : E 1 1 ∣ E 2 2
theorem dvA_rest {E0 E : ME} {c : Int} {t : Nat} (h : Rel3 E0 E) (hc : DvA c E0) {a : Nat} (ha : a < 3) : c ∣ E a a := h.f.a c hc a a ha ha
theorem form3 {S : Sm} (hD : Dm 3 3 S) (hd : SzE 999 (gE S.d)) (hU : SzU 1 3 3 S) : ∃ S', formF 1000000 40 40 3 3 3 0 S = some S' ∧ Dia (gE S.d) (gE S'.d) := by
  have hpw : ∀ {x y : Nat}, x ≤ y → 2 ^ x ≤ 2 ^ y := fun hxy => Nat.pow_le_pow_right (by decide) hxy
  have hS : Sx 10 0 S := ⟨hD, hd.mono (by decide), hU⟩
  obtain ⟨E0, hE0⟩ : ∃ E0, E0 = gE S.d := ⟨_, rfl⟩
  have hdet : (D3 E0).natAbs ≤ 2 ^ 33 := by rw [hE0]; exact Nat.le_trans (D3_le hd) (by decide)
  rw [← hE0]
  rw [formF]
  rcases pivot3 (K := 1000000) (t := 0) (E0 := E0) hS (by decide) (by rw [hE0]; exact Rel3.refl _) (fun a b _ _ _ h => by omega) (fun a ha => by omega) (by decide) (by decide) with ⟨hp, hz⟩ | ⟨S1, hp, hI, hS1⟩
  · rw [hp]
    refine ⟨S, rfl, by rw [hE0]; exact Rel3.refl _, fun a b ha hb _ _ => hz a b (by omega) ha (by omega) hb, ?_, ?_, ?_, ?_, ?_⟩
    · rw [hz 0 0 (by decide) (by decide) (by decide) (by decide)]; exact Int.le_refl _
    · rw [hz 1 1 (by decide) (by decide) (by decide) (by decide)]; exact Int.le_refl _
    · rw [hz 2 2 (by decide) (by decide) (by decide) (by decide)]; exact Int.le_refl _
    · rw [hz 1 1 (by decide) (by decide) (by decide) (by decide)]; exact Int.dvd_zero _
    · rw [hz 2 2 (by decide) (by decide) (by decide) (by decide)]; exact Int.dvd_zero _
  rw [hp]
  dsimp only
  rw [if_pos rfl]
  obtain ⟨T0, h1, hA, hT0⟩ := rowP_any (K := 1000000) (t := 0) (c := 10) 2 1 10 (0 + 2) S1 (by decide) (by decide) hS1 hI.nz (hS1.d 0 0 (by decide) (by decide)) (fun a _ h2 => hS1.d a 0 h2 (by decide)) (by decide) (by decide)
  obtain ⟨S2, hst, hF, hS2⟩ := stage_from (t := 0) (F := 40) (fc := 40) (by decide) rfl seq0 (by decide) (by decide) hI h1 hA (hT0.mono (by decide) (by decide)) (Nat.le_trans hA.le (hS1.d 0 0 (by decide) (by decide)))
  rw [hst]
  dsimp only
  obtain ⟨S3, hn, hF3, hS3⟩ := hF.done (by decide) hS2
  rw [hn]
  have hS3 : Sx 53246 319072 S3 := hS3
  have p0 := hF3.p
  clear hst hn hF hS2 h1 hA hT0 hp hI hS1 S1 S2 T0
  obtain ⟨d0, hd0⟩ : ∃ d0, d0 = gE S3.d 0 0 := ⟨_, rfl⟩
  have hdv0 : ∀ i j, 0 < i → i < 3 → 0 < j → j < 3 → d0 ∣ gE S3.d i j := by rw [hd0]; exact hF3.dv
  have hdvA : DvA d0 E0 := hF3.rel.g.a d0 fun a b ha hb => by
    by_cases e : a = b
    · subst e
      by_cases e0 : a = 0
      · subst e0; rw [hd0]; exact Int.dvd_refl _
      · exact hdv0 a a (by omega) ha (by omega) hb
    · by_cases e0 : a < 1 ∨ b < 1
      · rw [hF3.cl a b ha hb e e0]; exact Int.dvd_zero _
      · exact hdv0 a b (by omega) ha (by omega) hb
  rw [formF]
  rcases pivot3 (K := 1000000) (t := 1) (E0 := gE S3.d) hS3 (by decide) (Rel3.refl _) hF3.cl (fun _ _ => rfl) (by decide) (by decide) with ⟨hp, hz⟩ | ⟨S4, hp, hI, hS4⟩
  · rw [hp]
    refine ⟨S3, rfl, hF3.rel, fun a b ha hb hab _ => ?_, by omega, ?_, ?_, ?_, ?_⟩
    · by_cases e0 : a < 1 ∨ b < 1
      · exact hF3.cl a b ha hb hab e0
      · exact hz a b (by omega) ha (by omega) hb
    · rw [hz 1 1 (by decide) (by decide) (by decide) (by decide)]; exact Int.le_refl _
    · rw [hz 2 2 (by decide) (by decide) (by decide) (by decide)]; exact Int.le_refl _
    · rw [hz 1 1 (by decide) (by decide) (by decide) (by decide)]; exact Int.dvd_zero _
    · rw [hz 2 2 (by decide) (by decide) (by decide) (by decide)]; exact Int.dvd_zero _
  rw [hp]
  dsimp only
  rw [if_pos rfl]
  obtain ⟨T1, h1, hA, hT1⟩ := rowP_any (K := 1000000) (t := 1) (c := 53246) 1 2 53246 (319072 + 2) S4 (by decide) (by decide) hS4 hI.nz (hS4.d 1 1 (by decide) (by decide)) (fun a _ h2 => hS4.d a 1 h2 (by decide)) (by decide) (by decide)
  have hIT := hI.any hA (by decide)
  have hcT := hA.cq (by decide) hI.cl
  obtain ⟨S5, hst, hF5, hS5⟩ : ∃ S', stageF 1000000 40 1 3 3 40 S4 = some S' ∧ Fin 1 (gE S3.d) S' ∧ Sx 212987 7584837 S' := by
    by_cases h0 : gE T1.d 2 2 = 0
    · obtain ⟨S', g1, g2, g3⟩ := stage_flat (K := 1000000) (F := 39) (fc := 40) (by decide) h1 hIT hcT h0 hT1 (by decide) (by decide)
      exact ⟨S', g1, g2, g3.mono (by decide) (by decide)⟩
    · have hp33 : (gE T1.d 1 1).natAbs ≤ 2 ^ 33 := by
        have r1 := (hF3.rel.trans hIT.rel).d
        have z01 := hIT.cl 0 1 (by decide) (by decide) (by decide) (.inl (by decide))
        have z02 := hIT.cl 0 2 (by decide) (by decide) (by decide) (.inl (by decide))
        have z10 := hIT.cl 1 0 (by decide) (by decide) (by decide) (.inr (by decide))
        have z20 := hIT.cl 2 0 (by decide) (by decide) (by decide) (.inr (by decide))
        have z21 : gE T1.d 2 1 = 0 := hcT 2 (by decide) (by decide)
        have hd00 : gE T1.d 0 0 ≠ 0 := by rw [hIT.dg 0 (by decide)]; omega
        unfold D3 at r1
        rw [z01, z02, z10, z20, z21] at r1
        have e1 : gE T1.d 0 0 * (gE T1.d 1 1 * gE T1.d 2 2 - gE T1.d 1 2 * 0) - 0 * (0 * gE T1.d 2 2 - gE T1.d 1 2 * 0) + 0 * (0 * 0 - gE T1.d 1 1 * 0) = gE T1.d 0 0 * (gE T1.d 1 1 * gE T1.d 2 2) := by grind
        rw [e1, Int.natAbs_mul, Int.natAbs_mul] at r1
        have e2 : (gE T1.d 1 1).natAbs ≤ (gE T1.d 1 1).natAbs * (gE T1.d 2 2).natAbs := Nat.le_mul_of_pos_right _ (by omega)
        have e3 : (gE T1.d 1 1).natAbs * (gE T1.d 2 2).natAbs ≤ (gE T1.d 0 0).natAbs * ((gE T1.d 1 1).natAbs * (gE T1.d 2 2).natAbs) := Nat.le_mul_of_pos_left _ (by omega)
        unfold D3 at hdet
        omega
      obtain ⟨S', g1, g2, g3⟩ := stage_from (t := 1) (F := 40) (fc := 40) (by decide) rfl seq1 (by decide) (by decide) hI h1 hA (hT1.mono (by decide) (by decide)) hp33
      exact ⟨S', g1, g2, g3.mono (by decide) (by decide)⟩
  rw [hst]
  dsimp only
  obtain ⟨S6, hn, hF6, hS6⟩ := hF5.done (by decide) hS5
  rw [hn]
  have p1 := hF6.p
  have g0 : gE S6.d 0 0 = d0 := (hF6.dg 0 (by decide)).trans hd0.symm
  have hr6 := hF3.rel.trans hF6.rel
  clear hst hn hF5 hS5 h1 hA hT1 hp hI hS4 hIT hcT S4 S5 T1
  rw [formF]
  rcases pivot3 (K := 1000000) (t := 2) (E0 := gE S6.d) hS6 (by decide) (Rel3.refl _) hF6.cl (fun _ _ => rfl) (by decide) (by decide) with ⟨hp, hz⟩ | ⟨S7, hp, hI, hS7⟩
  · rw [hp]
    have z2 := hz 2 2 (by decide) (by decide) (by decide) (by decide)
    refine ⟨S6, rfl, hr6, fun a b ha hb hab _ => hF6.cl a b ha hb hab (by omega), by omega, by omega, by omega, ?_, ?_⟩
    · rw [g0]; exact dvA_rest (t := 0) hr6 hdvA (by decide)
    · rw [z2]; exact Int.dvd_zero _
  rw [hp]
  dsimp only
  rw [if_pos rfl]
  have hcr : crossF 1000000 2 3 3 40 S7 = some S7 := by
    rw [crossF_eq (S1 := S7) rfl]
    exact crossC_f rfl
  have hF7 : Fin 2 (gE S6.d) S7 := ⟨hI, fun b hb hbt => hI.cl 2 b (by decide) hb (fun e => hbt e.symm) (.inr (by omega)), fun b hb hbt => hI.cl b 2 hb (by decide) hbt (.inl (by omega)), fun i j h1 h2 => by omega⟩
  rw [stage_end (by decide) hcr hI.nz (fun i j h1 h2 => by omega)]
  dsimp only
  obtain ⟨S8, hn, hF8, hS8⟩ := hF7.done (by decide) hS7
  rw [hn, formF]
  have p2 := hF8.p
  have r8 := hr6.trans hF8.rel
  have q0 : gE S8.d 0 0 = d0 := (hF8.dg 0 (by decide)).trans g0
  have q1 : gE S8.d 1 1 = gE S6.d 1 1 := hF8.dg 1 (by decide)
  refine ⟨S8, rfl, r8, fun a b ha hb hab h => hF8.cl a b ha hb hab h, by omega, by omega, by omega, ?_, ?_⟩
  · rw [q0]; exact dvA_rest (t := 0) r8 hdvA (by decide)
  · rw [q1]
    have hdv1 : ∀ i j, 1 < i → i < 3 → 1 < j → j < 3 → gE S6.d 1 1 ∣ gE S6.d i j := hF6.dv
    obtain ⟨x, hx⟩ := hdv1 2 2 (by decide) (by decide) (by decide) (by decide)
    have r := hF8.rel.d
    have z6 := hF6.cl
    have z8 := hF8.cl
    unfold D3 at r
    rw [z6 0 1 (by decide) (by decide) (by decide) (.inl (by decide)), z6 0 2 (by decide) (by decide) (by decide) (.inl (by decide)), z6 1 2 (by decide) (by decide) (by decide) (.inl (by decide)), z8 0 1 (by decide) (by decide) (by decide) (.inl (by decide)), z8 0 2 (by decide) (by decide) (by decide) (.inl (by decide)), z8 1 2 (by decide) (by decide) (by decide) (.inl (by decide)), q0, q1, g0] at r
    have e1 : ∀ u v c d e f : Int, u * (v * c - 0 * d) - 0 * e + 0 * f = u * v * c := fun u v c d e f => by grind
    rw [e1, e1, Int.natAbs_mul (d0 * _), Int.natAbs_mul (d0 * _)] at r
    have hpos : 0 < (d0 * gE S6.d 1 1).natAbs := Int.natAbs_pos.2 (Int.mul_ne_zero (by omega) (by omega))
    have e2 := Nat.eq_of_mul_eq_mul_left hpos r
    have e3 := hdv1 2 2 (by decide) (by decide) (by decide) (by decide)
    exact Int.natAbs_dvd_natAbs.1 (by rw [e2]; exact Int.natAbs_dvd_natAbs.2 e3)

theorem dia_m2 {E : ME} (h : Cl 3 E) {a a' b b' : Nat} (ha : a < 3) (ha' : a' < 3) (hb : b < 3) (hb' : b' < 3) : m2 E a a' b b' = 0 ∨ (a ≠ a' ∧ (m2 E a a' b b' = E a a * E a' a' ∨ m2 E a a' b b' = -(E a a * E a' a'))) := by
  have z : ∀ x y, x < 3 → y < 3 → x ≠ y → E x y = 0 := fun x y hx hy hxy => h x y hx hy hxy (.inl hx)
  unfold m2
  by_cases e1 : a = b
  · subst e1
    by_cases e2 : a' = b'
    · subst e2
      by_cases e3 : a = a'
      · subst e3; exact .inl (by omega)
      · refine .inr ⟨e3, .inl ?_⟩
        rw [z a a' ha ha' e3, Int.zero_mul, Int.sub_zero]
    · rw [z a' b' ha' hb' e2, Int.mul_zero]
      by_cases e3 : a = b'
      · subst e3
        rw [z a' a ha' ha e2]; exact .inl (by omega)
      · rw [z a b' ha hb' e3]; exact .inl (by omega)
  · rw [z a b ha hb e1, Int.zero_mul]
    by_cases e2 : a = b'
    · subst e2
      by_cases e3 : a' = b
      · subst e3; exact .inr ⟨e1, .inr (by omega)⟩
      · rw [z a' b ha' hb e3]; exact .inl (by omega)
    · rw [z a b' ha hb' e2]; exact .inl (by omega)
theorem dia_law {E0 E : ME} (h : Dia E0 E) : (∀ c, DvA c E0 ↔ c ∣ E 0 0) ∧ (∀ c, DvB c E0 ↔ c ∣ E 0 0 * E 1 1) ∧ ((D3 E0).natAbs : Int) = E 0 0 * E 1 1 * E 2 2 := by
  have d12 := Int.dvd_trans h.d1 h.d2
  refine ⟨fun c => ⟨fun H => h.rel.f.a c H 0 0 (by decide) (by decide), fun H => h.rel.g.a c fun a b ha hb => ?_⟩, fun c => ⟨fun H => ?_, fun H => h.rel.g.b c fun a a' b b' ha ha' hb hb' => ?_⟩, ?_⟩
  · by_cases e : a = b
    · subst e
      have : a = 0 ∨ a = 1 ∨ a = 2 := by omega
      rcases this with rfl | rfl | rfl
      · exact H
      · exact Int.dvd_trans H h.d1
      · exact Int.dvd_trans H d12
    · rw [h.cl a b ha hb e (.inl ha)]; exact Int.dvd_zero _
  · have := h.rel.f.b c H 0 1 0 1 (by decide) (by decide) (by decide) (by decide)
    unfold m2 at this
    rw [h.cl 0 1 (by decide) (by decide) (by decide) (.inl (by decide)), Int.zero_mul, Int.sub_zero] at this
    exact this
  · have key : ∀ x y, x < 3 → y < 3 → x ≠ y → c ∣ E x x * E y y := fun x y hx hy hxy => by
      have k01 : c ∣ E 0 0 * E 1 1 := H
      have k02 : c ∣ E 0 0 * E 2 2 := Int.dvd_trans H (Int.mul_dvd_mul_left _ h.d2)
      have k12 : c ∣ E 1 1 * E 2 2 := Int.dvd_trans k02 (by rw [Int.mul_comm (E 0 0), Int.mul_comm (E 1 1)]; exact Int.mul_dvd_mul_left _ h.d1)
      have : (x = 0 ∧ y = 1) ∨ (x = 0 ∧ y = 2) ∨ (x = 1 ∧ y = 2) ∨ (x = 1 ∧ y = 0) ∨ (x = 2 ∧ y = 0) ∨ (x = 2 ∧ y = 1) := by omega
      rcases this with ⟨rfl, rfl⟩ | ⟨rfl, rfl⟩ | ⟨rfl, rfl⟩ | ⟨rfl, rfl⟩ | ⟨rfl, rfl⟩ | ⟨rfl, rfl⟩
      · exact k01
      · exact k02
      · exact k12
      · rw [Int.mul_comm]; exact k01
      · rw [Int.mul_comm]; exact k02
      · rw [Int.mul_comm]; exact k12
    rcases dia_m2 h.cl ha ha' hb hb' with e | ⟨hne, e | e⟩
    · rw [e]; exact Int.dvd_zero _
    · rw [e]; exact key a a' ha ha' hne
    · rw [e]; exact Int.dvd_neg.2 (key a a' ha ha' hne)
  · rw [← h.rel.d]
    have z : ∀ x y, x < 3 → y < 3 → x ≠ y → E x y = 0 := fun x y hx hy hxy => h.cl x y hx hy hxy (.inl hx)
    have e : D3 E = E 0 0 * E 1 1 * E 2 2 := by
      unfold D3
      rw [z 0 1 (by decide) (by decide) (by decide), z 0 2 (by decide) (by decide) (by decide), z 1 2 (by decide) (by decide) (by decide)]
      grind
    rw [e]
    have := Int.mul_nonneg (Int.mul_nonneg h.n0 h.n1) h.n2
    omega
theorem dia_fac {E0 : ME} {g : List (List Int)} (h : Dia E0 (gE g)) : facP g 3 ++ List.replicate (3 - (facP g 3).length) 0 = [gE g 0 0, gE g 1 1, gE g 2 2] := by
  have h1 := h.d1
  have h2 := h.d2
  by_cases e0 : gE g 0 0 = 0
  · rw [e0] at h1
    have e1 : gE g 1 1 = 0 := Int.zero_dvd.1 h1
    rw [e1] at h2
    have e2 : gE g 2 2 = 0 := Int.zero_dvd.1 h2
    have : facP g 3 = [] := by rw [facP_zero (k := 2) e2, facP_zero (k := 1) e1, facP_zero (k := 0) e0]; rfl
    rw [this, e0, e1, e2]; rfl
  · by_cases e1 : gE g 1 1 = 0
    · rw [e1] at h2
      have e2 : gE g 2 2 = 0 := Int.zero_dvd.1 h2
      have : facP g 3 = [gE g 0 0] := by rw [facP_zero (k := 2) e2, facP_zero (k := 1) e1, facP_succ (k := 0) e0]; rfl
      rw [this, e1, e2]; rfl
    · by_cases e2 : gE g 2 2 = 0
      · have : facP g 3 = [gE g 0 0, gE g 1 1] := by rw [facP_zero (k := 2) e2, facP_succ (k := 1) e1, facP_succ (k := 0) e0]; rfl
        rw [this, e2]; rfl
      · have : facP g 3 = [gE g 0 0, gE g 1 1, gE g 2 2] := by rw [facP_succ (k := 2) e2, facP_succ (k := 1) e1, facP_succ (k := 0) e0]; rfl
        rw [this]; rfl

theorem det_1 (A : Mi) : det 1 A = A 0 0 := by
  rw [det, smI, smI]
  show 0 + 1 * A 0 0 * 1 = A 0 0
  omega
theorem det_2 (A : Mi) : det 2 A = A 0 0 * A 1 1 - A 0 1 * A 1 0 := by
  rw [det, smI, smI, smI, det_1, det_1]
  show 0 + 1 * A 0 0 * A 1 1 + -1 * A 1 0 * A 0 1 = _
  grind
theorem det_3 (A : Mi) : det 3 A = ((((((0 + A 0 0 * A 1 1 * A 2 2 * 1) + A 0 1 * A 1 2 * A 2 0 * 1) + A 0 2 * A 1 0 * A 2 1 * 1) + A 0 0 * A 1 2 * A 2 1 * -1) + A 0 2 * A 1 1 * A 2 0 * -1) + A 0 1 * A 1 0 * A 2 2 * -1) := by
  rw [det, smI, smI, smI, smI, det_2, det_2, det_2]
  show 0 + 1 * A 0 0 * (A 1 1 * A 2 2 - A 1 2 * A 2 1) + -1 * A 1 0 * (A 0 1 * A 2 2 - A 0 2 * A 2 1) + 1 * A 2 0 * (A 0 1 * A 1 2 - A 0 2 * A 1 1) = _
  grind
theorem wc0 : wc 0 = #[.bool false, .string ⟨#[]⟩] := by
  have : magU (0 : Int).natAbs = [] := magU_nil.2 rfl
  unfold wc
  rw [this]
  rfl

section
variable {c : Cx} {Q : Exit → Act → World → Prop} {m : Mode} {F : SFrame} {H : SHeap} {r : List SOp} {g : Option (Option Tmp × Bool)} {ns : Bool} {d : Tmp} {ty t t' : TypeId} {x y : Operand}
end
end Go.Proofs.YtemdknkghacheaaDoor

