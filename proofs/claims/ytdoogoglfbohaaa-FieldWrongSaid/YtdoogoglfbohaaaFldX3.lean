/- Walks: the examples of the chapter. -/
import Derived.Test.YtdoogoglfbohaaaFldX2
namespace Go.Proofs.Ytdoogoglfbohaaa
open Go Go.RowKit
set_option linter.unusedSimpArgs false
set_option linter.unusedVariables false
set_option linter.unusedSectionVars false

theorem WI.lit {w : World} {b n : Nat} {vs : List Value} (xs : List Int) (hb : w.heap[b]? = some (.cells ⟨vs⟩ 3)) (hv : vs = xs.map iv) (hn : xs.length = n) : WI w (.slice (some ⟨b, 0, none⟩) n n) n xs := by
  subst hv
  refine ⟨by simp [hn], _, _, rfl, Nat.le_refl _, fun _ => ⟨⟨b, 0, rfl⟩, fun j u hu => ?_⟩⟩
  simp only [vAt, Nat.zero_add]
  exact cell_of_blk hb (by simpa using hu)
theorem IsRows.lit {w : World} {b n : Nat} {ss : List Value} (xss : List (List Int)) (hb : w.heap[b]? = some (.cells ⟨ss⟩ 22)) (hl : ss.length = n) (hx : xss.length = n) (h : ∀ i, i < n → WI w (ss.getD i (iv 0)) (xss.getD i []).length (xss.getD i [])) : IsRows w (.slice (some ⟨b, 0, none⟩) n n) xss := by
  subst hx
  refine ⟨ss, ⟨by omega, _, _, rfl, Nat.le_refl _, fun _ => ⟨⟨b, 0, rfl⟩, fun j u hu => ?_⟩⟩, h⟩
  simp only [vAt, Nat.zero_add]
  exact cell_of_blk hb (by simpa using hu)
theorem IsRows.lit1 {w : World} {b : Nat} {s : Value} (xs : List Int) (hb : w.heap[b]? = some (.cells ⟨[s]⟩ 22)) (h : WI w s xs.length xs) : IsRows w (.slice (some ⟨b, 0, none⟩) 1 1) [xs] :=
  IsRows.lit [xs] hb rfl rfl fun i hi => by
    obtain rfl : i = 0 := by omega
    exact h
theorem IsRows.lit2 {w : World} {b : Nat} {s s' : Value} (xs xs' : List Int) (hb : w.heap[b]? = some (.cells ⟨[s, s']⟩ 22)) (h : WI w s xs.length xs) (h' : WI w s' xs'.length xs') : IsRows w (.slice (some ⟨b, 0, none⟩) 2 2) [xs, xs'] :=
  IsRows.lit [xs, xs'] hb rfl rfl fun i hi => by
    rcases (show i = 0 ∨ i = 1 by omega) with rfl | rfl
    · exact h
    · exact h'
theorem IsRows.lit3 {w : World} {b : Nat} {s s' s'' : Value} (xs xs' xs'' : List Int) (hb : w.heap[b]? = some (.cells ⟨[s, s', s'']⟩ 22)) (h : WI w s xs.length xs) (h' : WI w s' xs'.length xs') (h'' : WI w s'' xs''.length xs'') : IsRows w (.slice (some ⟨b, 0, none⟩) 3 3) [xs, xs', xs''] :=
  IsRows.lit [xs, xs', xs''] hb rfl rfl fun i hi => by
    rcases (show i = 0 ∨ i = 1 ∨ i = 2 by omega) with rfl | rfl | rfl
    · exact h
    · exact h'
    · exact h''

def sA : NM := ⟨5, 2, 3, [1, 2, 3, 2, 4, 1]⟩
theorem sA_of : ofM 5 [[1, 2, 3], [2, 4, 1]] = sA := by decide
theorem sA_rt : Rt sA := by decide
theorem sA_ech : echM sA = ⟨5, 2, 3, [1, 2, 3, 0, 0, 0]⟩ := by decide
theorem sA_piv : pivM sA = [0] := by decide
theorem sA_ker : kerM sA = ⟨5, 3, 2, [3, 2, 1, 0, 0, 1]⟩ := by decide
theorem sA_sol : solM sA ⟨5, 2, 1, [4, 3]⟩ = some ⟨5, 3, 1, [4, 0, 0]⟩ := by decide
theorem sA_sol' : solM sA ⟨5, 2, 1, [4, 4]⟩ = none := by decide
theorem sI_inv : invM ⟨5, 2, 2, [1, 2, 3, 4]⟩ = some ⟨5, 2, 2, [3, 1, 4, 2]⟩ := by decide

set_option maxHeartbeats 2000000 in
theorem c_EqualT (w : World) (v u : Value) (m : NM) (hm : Rt m) (hv : IsM w v m) (hu : IsM w u m) : Calls Try.prog 15 #[v, u] w (Ret fun v w' => Kp [] w w' ∧ v = .bool true) :=
  (c_Equal w v u m.fm m.fm hv.f hu.f hm.flen hm.flen).mono fun e w' h => by
    cases e with
    | returned v =>
      obtain ⟨hk, b, rfl, hb⟩ := h
      exact ⟨hk, by rw [hb.2 ⟨hm.rf, rfl⟩]⟩
    | panicked _ => exact h
    | outgrown => exact h
theorem c_IntsT (w : World) (v u : Value) (n : Nat) (xs : List Int) (hv : WI w v n xs) (hu : WI w u n xs) (hn : n < 1000000000) : Calls Try.prog 16 #[v, u] w (Ret fun v w' => Kp [] w w' ∧ v = .bool true) :=
  (c_Ints w v u n n xs xs hv hu hn hn).mono fun e w' h => by
    cases e with
    | returned v =>
      obtain ⟨hk, b, rfl, hb⟩ := h
      exact ⟨hk, by rw [hb.2 rfl]⟩
    | panicked _ => exact h
    | outgrown => exact h

set_option maxHeartbeats 8000000 in
theorem c_sanity (w : World) : Calls Try.prog 11 #[] w (Ret fun v w' => Kp [] w w' ∧ v = .bool true) := by
  have h5 : Pr 5 := by decide
  refine calls_of_S [⟨4, 2, [], []⟩, ⟨5, 2, [], []⟩, ⟨7, 1, [], []⟩, ⟨8, 1, [], []⟩] [] (by simp) [] Try.func11 rfl mixed (by kernel_rfl) Try.ntmps11 Try.results11 rfl ⟨by simp, by simp⟩ (by simp) ?_
  simp only [toS, textOps, toSOp, kindAt, kindOf, odAt, sopsAt, ordOf, zipF]
  (repeat' (first | refine JC.seq ?_ | refine JC.ops ?_ | refine JO.nil ?_ | (apply r_assign; exact rfl; exact rfl; exact rfl)))
  refine JX.thenN ?_
  (repeat' (first | refine JC.seq ?_ | refine JC.ops ?_ | (apply r_build1; exact rfl; exact rfl; exact rfl; exact rfl; exact rfl; (repeat first | exact trivial | refine ⟨rfl, ?_⟩); decide; decide; intro _)))
  refine r_callA (A := [_, _, _]) (B := []) rfl trivial rfl rfl rfl (fun w hk hs => c_Of w _ 5 [[1, 2, 3], [2, 4, 1]] (IsRows.lit2 _ _ (hs_at hs 0 rfl) (WI.lit [1, 2, 3] (hs_at hs 2 rfl) rfl rfl) (WI.lit [2, 4, 1] (hs_at hs 1 rfl) rfl rfl)) h5 (by decide) (by decide)) fun w v w' _ _ _ hR => ?_
  rw [sA_of] at hR
  obtain ⟨N1, hN1, E1, rfl, hO1⟩ := hR
  obtain ⟨A1, c1, rfl⟩ := hO1.form
  refine ⟨N1, hN1, ?_⟩
  (repeat' (first | refine JO.nil ?_ | (apply r_allocZ; exact rfl; exact rfl; exact rfl; intro _) | (apply r_storeN; exact rfl; (first | exact trivial | exact ⟨rfl, rfl⟩); exact rfl; exact rfl; (first | exact at0 | exact at1 | exact at2 | exact at3 | exact at4 | exact at5 | exact at6 | exact at7); exact rfl; exact rfl; exact rfl)))
  rename_i b1
  refine JX.part (F' := [(1, .pointer (some ⟨b1, 0, none⟩))]) (H' := [(b1, .cells #[nv sA.p, nv sA.r, nv sA.c, .slice A1 sA.e.length c1] 27)] ++ (N1 ++ [])) (by repeat first | exact trivial | refine ⟨rfl, ?_⟩) (by (repeat' first | exact HSub.refl _ | exact HSub.nil _ | refine HSub.at 0 rfl ?_ | refine HSub.at 1 rfl ?_ | refine HSub.at 2 rfl ?_ | refine HSub.at 3 rfl ?_ | refine HSub.at 4 rfl ?_ | refine HSub.at 5 rfl ?_ | refine HSub.at 6 rfl ?_ | refine HSub.at 7 rfl ?_ | refine HSub.at 8 rfl ?_ | refine HSub.at 9 rfl ?_ | refine HSub.at 10 rfl ?_ | refine HSub.at 11 rfl ?_ | refine HSub.at 12 rfl ?_ | refine HSub.at 13 rfl ?_ | refine HSub.at 14 rfl ?_ | refine HSub.at 15 rfl ?_ | refine HSub.at 16 rfl ?_ | refine HSub.at 17 rfl ?_ | refine HSub.at 18 rfl ?_ | refine HSub.at 19 rfl ?_ | refine HSub.segH ?_ | refine HSub.skip ?_ | refine HSub.skipN ?_)) ?_
  refine JX.thenN ?_
  (repeat' (first | refine JC.seq ?_ | refine JC.ops ?_ | (apply r_loadN; exact rfl; exact rfl; exact rfl; exact rfl; (first | exact at0 | exact at1 | exact at2 | exact at3 | exact at4 | exact at5 | exact at6 | exact at7); exact rfl)))
  refine r_callA (A := [_]) rfl trivial rfl rfl rfl (fun w hk hs => c_Echelon w _ sA sA_rt ⟨_, rfl, hO1.rd.at hk hs (by (repeat' first | exact HSub.nil _ | exact HSub.hd | exact HSub.in0 | exact HSub.refl _ | refine HSub.skip ?_ | refine HSub.skipN ?_))⟩) fun w v w' _ _ _ hR => ?_
  rw [sA_ech, sA_piv] at hR
  obtain ⟨N2, N3, u, x3, rfl, hN2, ⟨E2, rfl, hO2⟩, hO3⟩ := hR
  obtain ⟨A2, c2, rfl⟩ := hO2.form
  refine ⟨_, hN2, ?_⟩
  rw [List.append_assoc]
  (repeat' (first | refine JO.nil ?_ | (apply r_move; exact rfl; exact rfl; exact rfl) | (apply r_assign; exact rfl; exact rfl; exact rfl) | (apply r_extract; exact rfl; exact rfl; exact rfl; exact rfl) | (apply r_allocZ; exact rfl; exact rfl; exact rfl; intro _) | (apply r_storeN; exact rfl; (first | exact trivial | exact ⟨rfl, rfl⟩); exact rfl; exact rfl; (first | exact at0 | exact at1 | exact at2 | exact at3 | exact at4 | exact at5 | exact at6 | exact at7); exact rfl; exact rfl; exact rfl)))
  rename_i b2
  refine JX.part (F' := [(3, x3), (2, .pointer (some ⟨b2, 0, none⟩)), (1, .pointer (some ⟨b1, 0, none⟩))]) (H' := [(b2, .cells #[nv 5, nv 2, nv 3, .slice A2 6 c2] 27), (b1, .cells #[nv sA.p, nv sA.r, nv sA.c, .slice A1 sA.e.length c1] 27)] ++ (N2 ++ (N3 ++ (N1 ++ [])))) (by repeat first | exact trivial | refine ⟨rfl, ?_⟩) (by (repeat' first | exact HSub.refl _ | exact HSub.nil _ | refine HSub.at 0 rfl ?_ | refine HSub.at 1 rfl ?_ | refine HSub.at 2 rfl ?_ | refine HSub.at 3 rfl ?_ | refine HSub.at 4 rfl ?_ | refine HSub.at 5 rfl ?_ | refine HSub.at 6 rfl ?_ | refine HSub.at 7 rfl ?_ | refine HSub.at 8 rfl ?_ | refine HSub.at 9 rfl ?_ | refine HSub.at 10 rfl ?_ | refine HSub.at 11 rfl ?_ | refine HSub.at 12 rfl ?_ | refine HSub.at 13 rfl ?_ | refine HSub.at 14 rfl ?_ | refine HSub.at 15 rfl ?_ | refine HSub.at 16 rfl ?_ | refine HSub.at 17 rfl ?_ | refine HSub.at 18 rfl ?_ | refine HSub.at 19 rfl ?_ | refine HSub.segH ?_ | refine HSub.skip ?_ | refine HSub.skipN ?_)) ?_
  refine JX.thenN ?_
  (repeat' (first | refine JC.seq ?_ | refine JC.ops ?_ | (apply r_loadN; exact rfl; exact rfl; exact rfl; exact rfl; (first | exact at0 | exact at1 | exact at2 | exact at3 | exact at4 | exact at5 | exact at6 | exact at7); exact rfl)))
  refine r_callA (A := [_, _]) rfl trivial rfl rfl rfl (fun w hk hs => c_Kernel w _ sA sA_rt ⟨_, rfl, hO1.rd.at hk hs (by (repeat' first | exact HSub.nil _ | exact HSub.hd | exact HSub.in0 | exact HSub.refl _ | refine HSub.skip ?_ | refine HSub.skipN ?_))⟩) fun w v w' _ _ _ hR => ?_
  rw [sA_ker] at hR
  obtain ⟨N4, hN4, E4, rfl, hO4⟩ := hR
  obtain ⟨A4, c4, rfl⟩ := hO4.form
  refine ⟨N4, hN4, ?_⟩
  (repeat' (first | refine JO.nil ?_ | (apply r_allocZ; exact rfl; exact rfl; exact rfl; intro _) | (apply r_storeN; exact rfl; (first | exact trivial | exact ⟨rfl, rfl⟩); exact rfl; exact rfl; (first | exact at0 | exact at1 | exact at2 | exact at3 | exact at4 | exact at5 | exact at6 | exact at7); exact rfl; exact rfl; exact rfl)))
  rename_i b4
  refine JX.part (F' := [(4, .pointer (some ⟨b4, 0, none⟩)), (3, x3), (2, .pointer (some ⟨b2, 0, none⟩)), (1, .pointer (some ⟨b1, 0, none⟩))]) (H' := [(b4, .cells #[nv 5, nv 3, nv 2, .slice A4 6 c4] 27), (b2, .cells #[nv 5, nv 2, nv 3, .slice A2 6 c2] 27), (b1, .cells #[nv sA.p, nv sA.r, nv sA.c, .slice A1 sA.e.length c1] 27)] ++ (N4 ++ (N2 ++ (N3 ++ (N1 ++ []))))) (by repeat first | exact trivial | refine ⟨rfl, ?_⟩) (by (repeat' first | exact HSub.refl _ | exact HSub.nil _ | refine HSub.at 0 rfl ?_ | refine HSub.at 1 rfl ?_ | refine HSub.at 2 rfl ?_ | refine HSub.at 3 rfl ?_ | refine HSub.at 4 rfl ?_ | refine HSub.at 5 rfl ?_ | refine HSub.at 6 rfl ?_ | refine HSub.at 7 rfl ?_ | refine HSub.at 8 rfl ?_ | refine HSub.at 9 rfl ?_ | refine HSub.at 10 rfl ?_ | refine HSub.at 11 rfl ?_ | refine HSub.at 12 rfl ?_ | refine HSub.at 13 rfl ?_ | refine HSub.at 14 rfl ?_ | refine HSub.at 15 rfl ?_ | refine HSub.at 16 rfl ?_ | refine HSub.at 17 rfl ?_ | refine HSub.at 18 rfl ?_ | refine HSub.at 19 rfl ?_ | refine HSub.segH ?_ | refine HSub.skip ?_ | refine HSub.skipN ?_)) ?_
  refine JX.thenN ?_
  (repeat' (first | refine JC.seq ?_ | refine JC.opsD ?_ | (apply r_loadN; exact rfl; exact rfl; exact rfl; exact rfl; (first | exact at0 | exact at1 | exact at2 | exact at3 | exact at4 | exact at5 | exact at6 | exact at7); exact rfl) | (apply r_build1; exact rfl; exact rfl; exact rfl; exact rfl; exact rfl; (repeat first | exact trivial | refine ⟨rfl, ?_⟩); decide; decide; intro _)))
  refine r_callA (A := [_, _, _, _, _, _]) rfl trivial rfl rfl rfl (fun w hk hs => c_Of w _ 5 [[4], [3]] (IsRows.lit2 _ _ (hs_at hs 0 rfl) (WI.lit [4] (hs_at hs 2 rfl) rfl rfl) (WI.lit [3] (hs_at hs 1 rfl) rfl rfl)) h5 (by decide) (by decide)) fun w v w' _ _ _ hR => ?_
  rw [show ofM 5 [[4], [3]] = ⟨5, 2, 1, [4, 3]⟩ by decide] at hR
  obtain ⟨N5, hN5, E5, rfl, hO5⟩ := hR
  obtain ⟨A5, c5, rfl⟩ := hO5.form
  refine ⟨N5, hN5, ?_⟩
  skip
  refine r_callA (A := [_, _, _, _, _, _]) rfl trivial rfl rfl rfl (fun w hk hs => c_Solve w _ _ sA ⟨5, 2, 1, [4, 3]⟩ sA_rt (by decide) rfl rfl ⟨_, rfl, hO1.rd.at hk hs (by (repeat' first | exact HSub.nil _ | exact HSub.hd | exact HSub.in0 | exact HSub.refl _ | refine HSub.skip ?_ | refine HSub.skipN ?_))⟩ ⟨_, rfl, hO5.rd.at hk hs (by (repeat' first | exact HSub.nil _ | exact HSub.hd | exact HSub.in0 | exact HSub.refl _ | refine HSub.skip ?_ | refine HSub.skipN ?_))⟩) fun w v w' _ _ _ hR => ?_
  rw [sA_sol] at hR
  obtain ⟨N6, u, rfl, hN6, E6, rfl, hO6⟩ := hR
  obtain ⟨A6, c6, rfl⟩ := hO6.form
  refine ⟨N6, hN6, ?_⟩
  (repeat' (first | refine JO.nil ?_ | (apply r_move; exact rfl; exact rfl; exact rfl) | (apply r_assign; exact rfl; exact rfl; exact rfl) | (apply r_extract; exact rfl; exact rfl; exact rfl; exact rfl) | (apply r_allocZ; exact rfl; exact rfl; exact rfl; intro _) | (apply r_storeN; exact rfl; (first | exact trivial | exact ⟨rfl, rfl⟩); exact rfl; exact rfl; (first | exact at0 | exact at1 | exact at2 | exact at3 | exact at4 | exact at5 | exact at6 | exact at7); exact rfl; exact rfl; exact rfl)))
  rename_i b5
  refine JX.part (F' := [(6, .bool true), (5, .pointer (some ⟨b5, 0, none⟩)), (4, .pointer (some ⟨b4, 0, none⟩)), (3, x3), (2, .pointer (some ⟨b2, 0, none⟩)), (1, .pointer (some ⟨b1, 0, none⟩))]) (H' := [(b5, .cells #[nv 5, nv 3, nv 1, .slice A6 3 c6] 27), (b4, .cells #[nv 5, nv 3, nv 2, .slice A4 6 c4] 27), (b2, .cells #[nv 5, nv 2, nv 3, .slice A2 6 c2] 27), (b1, .cells #[nv sA.p, nv sA.r, nv sA.c, .slice A1 sA.e.length c1] 27)] ++ (N6 ++ (N4 ++ (N2 ++ (N3 ++ (N1 ++ [])))))) (by repeat first | exact trivial | refine ⟨rfl, ?_⟩) (by (repeat' first | exact HSub.refl _ | exact HSub.nil _ | refine HSub.at 0 rfl ?_ | refine HSub.at 1 rfl ?_ | refine HSub.at 2 rfl ?_ | refine HSub.at 3 rfl ?_ | refine HSub.at 4 rfl ?_ | refine HSub.at 5 rfl ?_ | refine HSub.at 6 rfl ?_ | refine HSub.at 7 rfl ?_ | refine HSub.at 8 rfl ?_ | refine HSub.at 9 rfl ?_ | refine HSub.at 10 rfl ?_ | refine HSub.at 11 rfl ?_ | refine HSub.at 12 rfl ?_ | refine HSub.at 13 rfl ?_ | refine HSub.at 14 rfl ?_ | refine HSub.at 15 rfl ?_ | refine HSub.at 16 rfl ?_ | refine HSub.at 17 rfl ?_ | refine HSub.at 18 rfl ?_ | refine HSub.at 19 rfl ?_ | refine HSub.segH ?_ | refine HSub.skip ?_ | refine HSub.skipN ?_)) ?_
  refine JX.thenN ?_
  (repeat' (first | refine JC.seq ?_ | refine JC.opsD ?_ | (apply r_loadN; exact rfl; exact rfl; exact rfl; exact rfl; (first | exact at0 | exact at1 | exact at2 | exact at3 | exact at4 | exact at5 | exact at6 | exact at7); exact rfl) | (apply r_build1; exact rfl; exact rfl; exact rfl; exact rfl; exact rfl; (repeat first | exact trivial | refine ⟨rfl, ?_⟩); decide; decide; intro _)))
  refine r_callA (A := [_, _, _, _, _, _, _]) rfl trivial rfl rfl rfl (fun w hk hs => c_Of w _ 5 [[4], [4]] (IsRows.lit2 _ _ (hs_at hs 0 rfl) (WI.lit [4] (hs_at hs 2 rfl) rfl rfl) (WI.lit [4] (hs_at hs 1 rfl) rfl rfl)) h5 (by decide) (by decide)) fun w v w' _ _ _ hR => ?_
  rw [show ofM 5 [[4], [4]] = ⟨5, 2, 1, [4, 4]⟩ by decide] at hR
  obtain ⟨N7, hN7, E7, rfl, hO7⟩ := hR
  obtain ⟨A7, c7, rfl⟩ := hO7.form
  refine ⟨N7, hN7, ?_⟩
  skip
  refine r_call0 trivial rfl rfl rfl (fun w hk hs => c_Solve w _ _ sA ⟨5, 2, 1, [4, 4]⟩ sA_rt (by decide) rfl rfl ⟨_, rfl, hO1.rd.at hk hs (by (repeat' first | exact HSub.nil _ | exact HSub.hd | exact HSub.in0 | exact HSub.refl _ | refine HSub.skip ?_ | refine HSub.skipN ?_))⟩ ⟨_, rfl, hO7.rd.at hk hs (by (repeat' first | exact HSub.nil _ | exact HSub.hd | exact HSub.in0 | exact HSub.refl _ | refine HSub.skip ?_ | refine HSub.skipN ?_))⟩) fun w v w' _ _ _ hR => ?_
  rw [sA_sol'] at hR
  have hR : v = .tuple #[zeroV, .bool false] := hR
  subst hR
  unfold zeroV
  (repeat' (first | refine JO.nil ?_ | (apply r_move; exact rfl; exact rfl; exact rfl) | (apply r_assign; exact rfl; exact rfl; exact rfl) | (apply r_extract; exact rfl; exact rfl; exact rfl; exact rfl) | (apply r_allocZ; exact rfl; exact rfl; exact rfl; intro _) | (apply r_storeN; exact rfl; (first | exact trivial | exact ⟨rfl, rfl⟩); exact rfl; exact rfl; (first | exact at0 | exact at1 | exact at2 | exact at3 | exact at4 | exact at5 | exact at6 | exact at7); exact rfl; exact rfl; exact rfl)))
  refine JX.part (F' := [(8, .bool false), (6, .bool true), (5, .pointer (some ⟨b5, 0, none⟩)), (4, .pointer (some ⟨b4, 0, none⟩)), (3, x3), (2, .pointer (some ⟨b2, 0, none⟩))]) (H' := [(b5, .cells #[nv 5, nv 3, nv 1, .slice A6 3 c6] 27), (b4, .cells #[nv 5, nv 3, nv 2, .slice A4 6 c4] 27), (b2, .cells #[nv 5, nv 2, nv 3, .slice A2 6 c2] 27)] ++ (N6 ++ (N4 ++ (N2 ++ (N3 ++ []))))) (by repeat first | exact trivial | refine ⟨rfl, ?_⟩) (by (repeat' first | exact HSub.refl _ | exact HSub.nil _ | refine HSub.at 0 rfl ?_ | refine HSub.at 1 rfl ?_ | refine HSub.at 2 rfl ?_ | refine HSub.at 3 rfl ?_ | refine HSub.at 4 rfl ?_ | refine HSub.at 5 rfl ?_ | refine HSub.at 6 rfl ?_ | refine HSub.at 7 rfl ?_ | refine HSub.at 8 rfl ?_ | refine HSub.at 9 rfl ?_ | refine HSub.at 10 rfl ?_ | refine HSub.at 11 rfl ?_ | refine HSub.at 12 rfl ?_ | refine HSub.at 13 rfl ?_ | refine HSub.at 14 rfl ?_ | refine HSub.at 15 rfl ?_ | refine HSub.at 16 rfl ?_ | refine HSub.at 17 rfl ?_ | refine HSub.at 18 rfl ?_ | refine HSub.at 19 rfl ?_ | refine HSub.segH ?_ | refine HSub.skip ?_ | refine HSub.skipN ?_)) ?_
  refine JX.thenN ?_
  (repeat' (first | refine JC.seq ?_ | refine JC.ops ?_ | (apply r_build1; exact rfl; exact rfl; exact rfl; exact rfl; exact rfl; (repeat first | exact trivial | refine ⟨rfl, ?_⟩); decide; decide; intro _)))
  refine r_callA (A := [_, _, _, _, _, _]) rfl trivial rfl rfl rfl (fun w hk hs => c_Of w _ 5 [[1, 2], [3, 4]] (IsRows.lit2 _ _ (hs_at hs 0 rfl) (WI.lit [1, 2] (hs_at hs 2 rfl) rfl rfl) (WI.lit [3, 4] (hs_at hs 1 rfl) rfl rfl)) h5 (by decide) (by decide)) fun w v w' _ _ _ hR => ?_
  rw [show ofM 5 [[1, 2], [3, 4]] = ⟨5, 2, 2, [1, 2, 3, 4]⟩ by decide] at hR
  obtain ⟨N8, hN8, E8, rfl, hO8⟩ := hR
  obtain ⟨A8, c8, rfl⟩ := hO8.form
  refine ⟨N8, hN8, ?_⟩
  skip
  refine r_callA (A := [_, _, _, _, _, _]) rfl trivial rfl rfl rfl (fun w hk hs => c_Inverse w _ ⟨5, 2, 2, [1, 2, 3, 4]⟩ (by decide) ⟨_, rfl, hO8.rd.at hk hs (by (repeat' first | exact HSub.nil _ | exact HSub.hd | exact HSub.in0 | exact HSub.refl _ | refine HSub.skip ?_ | refine HSub.skipN ?_))⟩) fun w v w' _ _ _ hR => ?_
  rw [sI_inv] at hR
  obtain ⟨N9, u, rfl, hN9, E9, rfl, hO9⟩ := hR
  obtain ⟨A9, c9, rfl⟩ := hO9.form
  refine ⟨N9, hN9, ?_⟩
  (repeat' (first | refine JO.nil ?_ | (apply r_move; exact rfl; exact rfl; exact rfl) | (apply r_assign; exact rfl; exact rfl; exact rfl) | (apply r_extract; exact rfl; exact rfl; exact rfl; exact rfl) | (apply r_allocZ; exact rfl; exact rfl; exact rfl; intro _) | (apply r_storeN; exact rfl; (first | exact trivial | exact ⟨rfl, rfl⟩); exact rfl; exact rfl; (first | exact at0 | exact at1 | exact at2 | exact at3 | exact at4 | exact at5 | exact at6 | exact at7); exact rfl; exact rfl; exact rfl)))
  rename_i b9
  refine JX.part (F' := [(10, .bool true), (9, .pointer (some ⟨b9, 0, none⟩)), (8, .bool false), (6, .bool true), (5, .pointer (some ⟨b5, 0, none⟩)), (4, .pointer (some ⟨b4, 0, none⟩)), (3, x3), (2, .pointer (some ⟨b2, 0, none⟩))]) (H' := [(b9, .cells #[nv 5, nv 2, nv 2, .slice A9 4 c9] 27), (b5, .cells #[nv 5, nv 3, nv 1, .slice A6 3 c6] 27), (b4, .cells #[nv 5, nv 3, nv 2, .slice A4 6 c4] 27), (b2, .cells #[nv 5, nv 2, nv 3, .slice A2 6 c2] 27)] ++ (N9 ++ (N6 ++ (N4 ++ (N2 ++ (N3 ++ [])))))) (by repeat first | exact trivial | refine ⟨rfl, ?_⟩) (by (repeat' first | exact HSub.refl _ | exact HSub.nil _ | refine HSub.at 0 rfl ?_ | refine HSub.at 1 rfl ?_ | refine HSub.at 2 rfl ?_ | refine HSub.at 3 rfl ?_ | refine HSub.at 4 rfl ?_ | refine HSub.at 5 rfl ?_ | refine HSub.at 6 rfl ?_ | refine HSub.at 7 rfl ?_ | refine HSub.at 8 rfl ?_ | refine HSub.at 9 rfl ?_ | refine HSub.at 10 rfl ?_ | refine HSub.at 11 rfl ?_ | refine HSub.at 12 rfl ?_ | refine HSub.at 13 rfl ?_ | refine HSub.at 14 rfl ?_ | refine HSub.at 15 rfl ?_ | refine HSub.at 16 rfl ?_ | refine HSub.at 17 rfl ?_ | refine HSub.at 18 rfl ?_ | refine HSub.at 19 rfl ?_ | refine HSub.segH ?_ | refine HSub.skip ?_ | refine HSub.skipN ?_)) ?_
  refine JX.thenN ?_
  (repeat' (first | refine JC.seq ?_ | refine JC.opsD ?_ | (apply r_loadN; exact rfl; exact rfl; exact rfl; exact rfl; (first | exact at0 | exact at1 | exact at2 | exact at3 | exact at4 | exact at5 | exact at6 | exact at7); exact rfl) | (apply r_build1; exact rfl; exact rfl; exact rfl; exact rfl; exact rfl; (repeat first | exact trivial | refine ⟨rfl, ?_⟩); decide; decide; intro _)))
  refine r_buildSlice0 rfl rfl rfl (fun b0 => ?_)
  (repeat' (first | (apply r_build1; exact rfl; exact rfl; exact rfl; exact rfl; exact rfl; (repeat first | exact trivial | refine ⟨rfl, ?_⟩); decide; decide; intro _)))
  refine r_callA (A := [_, _, _, _, _, _, _]) rfl trivial rfl rfl rfl (fun w hk hs => c_Of w _ 5 [[1, 2, 3], []] (IsRows.lit2 _ _ (hs_at hs 0 rfl) (WI.lit [1, 2, 3] (hs_at hs 2 rfl) rfl rfl) (WI.lit [] (hs_at hs 1 rfl) rfl rfl)) h5 (by decide) (by decide)) fun w v w' _ _ _ hR => ?_
  rw [show ofM 5 [[1, 2, 3], []] = ⟨5, 2, 3, [1, 2, 3, 0, 0, 0]⟩ by decide] at hR
  obtain ⟨M1, hM1, e1, rfl, hP1⟩ := hR
  obtain ⟨a1, d1, rfl⟩ := hP1.form
  refine ⟨M1, hM1, ?_⟩
  skip
  refine r_call0 trivial rfl rfl rfl (fun w hk hs => c_EqualT w _ _ (⟨5, 2, 3, [1, 2, 3, 0, 0, 0]⟩ : NM) (by decide) ⟨_, rfl, hO2.rd.at hk hs (by (repeat' first | exact HSub.nil _ | exact HSub.hd | exact HSub.in0 | exact HSub.refl _ | refine HSub.skip ?_ | refine HSub.skipN ?_))⟩ ⟨_, rfl, hP1.rd.at hk hs (by (repeat' first | exact HSub.nil _ | exact HSub.hd | exact HSub.in0 | exact HSub.refl _ | refine HSub.skip ?_ | refine HSub.skipN ?_))⟩) fun w v w' _ _ _ hR => ?_
  subst hR
  (repeat' (first | (apply r_move; exact rfl; exact rfl; exact rfl) | (apply r_build1; exact rfl; exact rfl; exact rfl; exact rfl; exact rfl; (repeat first | exact trivial | refine ⟨rfl, ?_⟩); decide; decide; intro _)))
  refine r_call0 trivial rfl rfl rfl (fun w hk hs => c_IntsT w _ _ 1 [0] (hO3.rd.at hk hs (by (repeat' first | exact HSub.nil _ | exact HSub.hd | exact HSub.in0 | exact HSub.refl _ | refine HSub.skip ?_ | refine HSub.skipN ?_))).int (WI.lit [0] (hs_at hs 0 rfl) rfl rfl) (by decide)) fun w v w' _ _ _ hR => ?_
  subst hR
  (repeat' (first | (apply r_move; exact rfl; exact rfl; exact rfl) | (apply r_loadN; exact rfl; exact rfl; exact rfl; exact rfl; (first | exact at0 | exact at1 | exact at2 | exact at3 | exact at4 | exact at5 | exact at6 | exact at7); exact rfl) | (apply r_pickT; exact rfl; exact rfl; exact rfl; exact rfl) | (apply r_build1; exact rfl; exact rfl; exact rfl; exact rfl; exact rfl; (repeat first | exact trivial | refine ⟨rfl, ?_⟩); decide; decide; intro _)))
  refine r_callA (A := [_, _, _, _, _, _, _, _, _, _, _, _]) rfl trivial rfl rfl rfl (fun w hk hs => c_Of w _ 5 [[3, 2], [1, 0], [0, 1]] (IsRows.lit3 _ _ _ (hs_at hs 0 rfl) (WI.lit [3, 2] (hs_at hs 3 rfl) rfl rfl) (WI.lit [1, 0] (hs_at hs 2 rfl) rfl rfl) (WI.lit [0, 1] (hs_at hs 1 rfl) rfl rfl)) h5 (by decide) (by decide)) fun w v w' _ _ _ hR => ?_
  rw [show ofM 5 [[3, 2], [1, 0], [0, 1]] = ⟨5, 3, 2, [3, 2, 1, 0, 0, 1]⟩ by decide] at hR
  obtain ⟨M2, hM2, e2, rfl, hP2⟩ := hR
  obtain ⟨a2, d2, rfl⟩ := hP2.form
  refine ⟨M2, hM2, ?_⟩
  skip
  refine r_call0 trivial rfl rfl rfl (fun w hk hs => c_EqualT w _ _ (⟨5, 3, 2, [3, 2, 1, 0, 0, 1]⟩ : NM) (by decide) ⟨_, rfl, hO4.rd.at hk hs (by (repeat' first | exact HSub.nil _ | exact HSub.hd | exact HSub.in0 | exact HSub.refl _ | refine HSub.skip ?_ | refine HSub.skipN ?_))⟩ ⟨_, rfl, hP2.rd.at hk hs (by (repeat' first | exact HSub.nil _ | exact HSub.hd | exact HSub.in0 | exact HSub.refl _ | refine HSub.skip ?_ | refine HSub.skipN ?_))⟩) fun w v w' _ _ _ hR => ?_
  subst hR
  (repeat' (first | refine JO.nil ?_ | (apply r_assign; exact rfl; exact rfl; exact rfl) | (apply r_pickT; exact rfl; exact rfl; exact rfl; exact rfl)))
  refine JX.part (F' := [(11, .bool true), (10, .bool true), (9, .pointer (some ⟨b9, 0, none⟩)), (8, .bool false), (6, .bool true), (5, .pointer (some ⟨b5, 0, none⟩))]) (H' := [(b9, .cells #[nv 5, nv 2, nv 2, .slice A9 4 c9] 27), (b5, .cells #[nv 5, nv 3, nv 1, .slice A6 3 c6] 27)] ++ (N9 ++ (N6 ++ []))) (by repeat first | exact trivial | refine ⟨rfl, ?_⟩) (by (repeat' first | exact HSub.refl _ | exact HSub.nil _ | refine HSub.at 0 rfl ?_ | refine HSub.at 1 rfl ?_ | refine HSub.at 2 rfl ?_ | refine HSub.at 3 rfl ?_ | refine HSub.at 4 rfl ?_ | refine HSub.at 5 rfl ?_ | refine HSub.at 6 rfl ?_ | refine HSub.at 7 rfl ?_ | refine HSub.at 8 rfl ?_ | refine HSub.at 9 rfl ?_ | refine HSub.at 10 rfl ?_ | refine HSub.at 11 rfl ?_ | refine HSub.at 12 rfl ?_ | refine HSub.at 13 rfl ?_ | refine HSub.at 14 rfl ?_ | refine HSub.at 15 rfl ?_ | refine HSub.at 16 rfl ?_ | refine HSub.at 17 rfl ?_ | refine HSub.at 18 rfl ?_ | refine HSub.at 19 rfl ?_ | refine HSub.segH ?_ | refine HSub.skip ?_ | refine HSub.skipN ?_)) ?_
  refine JX.thenN ?_
  (repeat' (first | refine JC.seq ?_ | refine JC.opsD ?_ | (apply r_move; exact rfl; exact rfl; exact rfl) | (apply r_loadN; exact rfl; exact rfl; exact rfl; exact rfl; (first | exact at0 | exact at1 | exact at2 | exact at3 | exact at4 | exact at5 | exact at6 | exact at7); exact rfl) | (apply r_pickT; exact rfl; exact rfl; exact rfl; exact rfl) | (apply r_not; exact rfl; exact rfl; exact rfl) | (apply r_build1; exact rfl; exact rfl; exact rfl; exact rfl; exact rfl; (repeat first | exact trivial | refine ⟨rfl, ?_⟩); decide; decide; intro _)))
  refine r_callA (A := [_, _, _, _, _, _]) rfl trivial rfl rfl rfl (fun w hk hs => c_Of w _ 5 [[4], [0], [0]] (IsRows.lit3 _ _ _ (hs_at hs 0 rfl) (WI.lit [4] (hs_at hs 3 rfl) rfl rfl) (WI.lit [0] (hs_at hs 2 rfl) rfl rfl) (WI.lit [0] (hs_at hs 1 rfl) rfl rfl)) h5 (by decide) (by decide)) fun w v w' _ _ _ hR => ?_
  rw [show ofM 5 [[4], [0], [0]] = ⟨5, 3, 1, [4, 0, 0]⟩ by decide] at hR
  obtain ⟨M3, hM3, e3, rfl, hP3⟩ := hR
  obtain ⟨a3, d3, rfl⟩ := hP3.form
  refine ⟨M3, hM3, ?_⟩
  skip
  refine r_call0 trivial rfl rfl rfl (fun w hk hs => c_EqualT w _ _ (⟨5, 3, 1, [4, 0, 0]⟩ : NM) (by decide) ⟨_, rfl, hO6.rd.at hk hs (by (repeat' first | exact HSub.nil _ | exact HSub.hd | exact HSub.in0 | exact HSub.refl _ | refine HSub.skip ?_ | refine HSub.skipN ?_))⟩ ⟨_, rfl, hP3.rd.at hk hs (by (repeat' first | exact HSub.nil _ | exact HSub.hd | exact HSub.in0 | exact HSub.refl _ | refine HSub.skip ?_ | refine HSub.skipN ?_))⟩) fun w v w' _ _ _ hR => ?_
  subst hR
  (repeat' (first | (apply r_move; exact rfl; exact rfl; exact rfl) | (apply r_loadN; exact rfl; exact rfl; exact rfl; exact rfl; (first | exact at0 | exact at1 | exact at2 | exact at3 | exact at4 | exact at5 | exact at6 | exact at7); exact rfl) | (apply r_pickT; exact rfl; exact rfl; exact rfl; exact rfl) | (apply r_build1; exact rfl; exact rfl; exact rfl; exact rfl; exact rfl; (repeat first | exact trivial | refine ⟨rfl, ?_⟩); decide; decide; intro _)))
  refine r_callA (A := [_, _, _, _, _, _, _, _, _]) rfl trivial rfl rfl rfl (fun w hk hs => c_Of w _ 5 [[3, 1], [4, 2]] (IsRows.lit2 _ _ (hs_at hs 0 rfl) (WI.lit [3, 1] (hs_at hs 2 rfl) rfl rfl) (WI.lit [4, 2] (hs_at hs 1 rfl) rfl rfl)) h5 (by decide) (by decide)) fun w v w' _ _ _ hR => ?_
  rw [show ofM 5 [[3, 1], [4, 2]] = ⟨5, 2, 2, [3, 1, 4, 2]⟩ by decide] at hR
  obtain ⟨M4, hM4, e4, rfl, hP4⟩ := hR
  obtain ⟨a4, d4, rfl⟩ := hP4.form
  refine ⟨M4, hM4, ?_⟩
  skip
  refine r_call0 trivial rfl rfl rfl (fun w hk hs => c_EqualT w _ _ (⟨5, 2, 2, [3, 1, 4, 2]⟩ : NM) (by decide) ⟨_, rfl, hO9.rd.at hk hs (by (repeat' first | exact HSub.nil _ | exact HSub.hd | exact HSub.in0 | exact HSub.refl _ | refine HSub.skip ?_ | refine HSub.skipN ?_))⟩ ⟨_, rfl, hP4.rd.at hk hs (by (repeat' first | exact HSub.nil _ | exact HSub.hd | exact HSub.in0 | exact HSub.refl _ | refine HSub.skip ?_ | refine HSub.skipN ?_))⟩) fun w v w' _ _ _ hR => ?_
  subst hR
  (repeat' (first | (apply r_move; exact rfl; exact rfl; exact rfl) | (apply r_pickT; exact rfl; exact rfl; exact rfl; exact rfl) | (apply r_build1; exact rfl; exact rfl; exact rfl; exact rfl; exact rfl; (repeat first | exact trivial | refine ⟨rfl, ?_⟩); decide; decide; intro _)))
  refine r_call0 trivial rfl rfl rfl (fun w hk hs => c_OfF w _ 4 [[1]] (IsRows.lit1 _ (hs_at hs 0 rfl) (WI.lit [1] (hs_at hs 1 rfl) rfl rfl)) (by
    rintro ⟨p', _, _, h, _, _, hp, _⟩
    have : p' = 4 := by omega
    subst this
    exact absurd hp (by decide)) (by decide) (fun i => by
      rcases i with _ | i
      · decide
      · simp)) fun w v w' _ _ _ hR => ?_
  subst hR
  unfold zeroV
  skip
  refine r_field Try.underlying27 rfl (show T1 Try.prog 3 from inferInstance) rfl rfl rfl rfl ?_
  (repeat' (first | refine JO.nil ?_ | refine JX.thenN ?_ | (apply r_assign; exact rfl; exact rfl; exact rfl) | (apply r_pickT; exact rfl; exact rfl; exact rfl; exact rfl) | (apply r_eql; exact rfl; exact rfl; exact rfl; exact rfl; all_goals intro hc; all_goals try (exfalso; omega)) | refine JC.ret ?_))
  exact JX.ret1 rfl (fun a w' st => ⟨st.kp, rfl⟩)

end Go.Proofs.Ytdoogoglfbohaaa
