/- FieldSolves: the walk. -/
import Derived.Test.YtdoogoglfbohaaaFldL2
namespace Go.Proofs.Ytdoogoglfbohaaa
open Go Go.RowKit
set_option linter.unusedSimpArgs false
set_option linter.unusedVariables false
set_option linter.unusedSectionVars false

set_option maxHeartbeats 8000000 in
theorem c_FieldSolves (w : World) (v u x : Value) (P R C P' R' C' P2 R2 C2 : Nat) (L L' L2 : List Int) (hv : IsS w v P R C L) (hu : IsS w u P' R' C' L') (hx : IsS w x P2 R2 C2 L2) :
    Calls Try.prog 6 #[v, u, x] w (Ret fun v w' => Kp [] w w' ∧ v = .bool true) := by
  have hv0 := hv
  have hu0 := hu
  have hx0 := hx
  obtain ⟨h1, h2, h3, E, rfl, hE⟩ := hv
  obtain ⟨h1', h2', h3', E', rfl, hE'⟩ := hu
  obtain ⟨g1, g2, g3, E2, rfl, hE2⟩ := hx
  have hm := Rt.shMat P R C L
  have hmc : (shMat P R C L).c ≤ 6 := by
    have := Nat.mod_lt C (show 0 < 7 by omega)
    show C % 7 ≤ 6
    omega
  have hc4 : C' % 4 < 4 := Nat.mod_lt _ (by omega)
  have hc5 : C2 % 4 < 4 := Nat.mod_lt _ (by omega)
  refine calls_of_S [⟨7, 0, [0, 1, 2, 3, 4, 5, 6, 7, 8, 9, 10, 11, 13, 12, 14, 15, 16, 17], []⟩, ⟨14, 2, [], []⟩, ⟨15, 2, [], []⟩] [] (by simp) [] Try.func6 rfl mixed (by kernel_rfl) Try.ntmps6 Try.results6 rfl ⟨by simp, by simp⟩ (by simp) ?_
  simp only [toS, textOps, toSOp, kindAt, kindOf, odAt, sopsAt, ordOf, zipF]
  (repeat' (first | refine JC.seq ?_ | refine JC.ops ?_ | refine JO.nil ?_ | refine JX.thenN ?_ | (apply r_assign; exact rfl; exact rfl; exact rfl) | (apply r_boxA; exact rfl; exact rfl; exact rfl; exact rfl; intro _)))
  rename_i b3 b4 b5
  refine r_call0 trivial rfl rfl rfl (fun w hk hs => c_sanity w) fun w v w' _ _ _ hR => ?_
  subst hR
  (repeat' (first | refine JC.seq ?_ | refine JC.ops ?_ | refine JO.nil ?_ | refine JX.thenN ?_ | (apply r_assign; exact rfl; exact rfl; exact rfl) | (apply r_loadN; exact rfl; exact rfl; exact rfl; exact rfl; (first | exact at0 | exact at1 | exact at2 | exact at3 | exact at4 | exact at5 | exact at6 | exact at7); exact rfl)))
  refine r_callA (A := [_, _, _]) (B := []) rfl trivial rfl rfl rfl (fun w hk _ => c_Mat w _ P R C L (hv0.mono hk)) fun w v w' _ _ _ hR => ?_
  generalize shMat P R C L = m at *
  obtain ⟨N8, hN8, E8, rfl, hO8⟩ := hR
  obtain ⟨A8, c8, rfl⟩ := hO8.form
  refine ⟨N8, hN8, ?_⟩
  (repeat' (first | refine JO.nil ?_ | (apply r_allocZ; exact rfl; exact rfl; exact rfl; intro _) | (apply r_storeN; exact rfl; (first | exact trivial | exact ⟨rfl, rfl⟩); exact rfl; exact rfl; (first | exact at0 | exact at1 | exact at2 | exact at3 | exact at4 | exact at5 | exact at6 | exact at7); exact rfl; exact rfl; exact rfl)))
  rename_i b8
  refine JX.part (F' := [(8, .pointer (some ⟨b8, 0, none⟩)), (7, .bool true), (4, .pointer (some ⟨b4, 0, none⟩)), (5, .pointer (some ⟨b5, 0, none⟩))]) (H' := [(b8, .cells #[nv m.p, nv m.r, nv m.c, .slice A8 m.e.length c8] 27), (b5, .cells #[.int .u8 (P2 : Int), .int .u8 (R2 : Int), .int .u8 (C2 : Int), E2] 24), (b4, .cells #[.int .u8 (P' : Int), .int .u8 (R' : Int), .int .u8 (C' : Int), E'] 24)] ++ (N8 ++ [])) (by repeat first | exact trivial | refine ⟨rfl, ?_⟩) (by (repeat' first | exact HSub.refl _ | exact HSub.nil _ | refine HSub.at 0 rfl ?_ | refine HSub.at 1 rfl ?_ | refine HSub.at 2 rfl ?_ | refine HSub.at 3 rfl ?_ | refine HSub.at 4 rfl ?_ | refine HSub.at 5 rfl ?_ | refine HSub.at 6 rfl ?_ | refine HSub.at 7 rfl ?_ | refine HSub.at 8 rfl ?_ | refine HSub.at 9 rfl ?_ | refine HSub.at 10 rfl ?_ | refine HSub.at 11 rfl ?_ | refine HSub.at 12 rfl ?_ | refine HSub.at 13 rfl ?_ | refine HSub.at 14 rfl ?_ | refine HSub.at 15 rfl ?_ | refine HSub.at 16 rfl ?_ | refine HSub.at 17 rfl ?_ | refine HSub.at 18 rfl ?_ | refine HSub.at 19 rfl ?_ | refine HSub.segH ?_ | refine HSub.skip ?_ | refine HSub.skipN ?_)) ?_
  refine JX.thenN ?_
  (repeat' (first | refine JC.seq ?_ | refine JC.ops ?_ | (apply r_fieldAddr; exact rfl; exact rfl; exact rfl) | (apply r_load; exact rfl; exact rfl; exact rfl; exact rfl; (first | exact at0 | exact at1 | exact at2 | exact at3 | exact at4 | exact at5 | exact at6 | exact at7); exact rfl) | (apply r_loadN; exact rfl; exact rfl; exact rfl; exact rfl; (first | exact at0 | exact at1 | exact at2 | exact at3 | exact at4 | exact at5 | exact at6 | exact at7); exact rfl)))
  refine r_modK (i := C') 4 rfl rfl rfl rfl (by omega) ?_
  (repeat' (first | (apply r_convN; exact rfl; exact rfl; exact rfl; omega)))
  refine r_callA (A := [_, _, _]) rfl trivial rfl rfl rfl (fun w hk hs => c_With w _ P' R' C' m.p m.r (C' % 4) L' (hu0.mono hk) hm.pr hm.r (by omega)) fun w v w' _ _ _ hR => ?_
  have hn := Rt.sh (L := L') (c := C' % 4) hm.pr hm.r (by omega)
  have hnp : m.p = (shM L' m.p m.r (C' % 4)).p := rfl
  have hnr : m.r = (shM L' m.p m.r (C' % 4)).r := rfl
  have hnc : (shM L' m.p m.r (C' % 4)).c < 4 := hc4
  generalize shM L' m.p m.r (C' % 4) = n at *
  obtain ⟨N9, hN9, E9, rfl, hO9⟩ := hR
  obtain ⟨A9, c9, rfl⟩ := hO9.form
  refine ⟨N9, hN9, ?_⟩
  (repeat' (first | refine JO.nil ?_ | (apply r_allocZ; exact rfl; exact rfl; exact rfl; intro _) | (apply r_storeN; exact rfl; (first | exact trivial | exact ⟨rfl, rfl⟩); exact rfl; exact rfl; (first | exact at0 | exact at1 | exact at2 | exact at3 | exact at4 | exact at5 | exact at6 | exact at7); exact rfl; exact rfl; exact rfl)))
  rename_i b9
  refine JX.part (F' := [(9, .pointer (some ⟨b9, 0, none⟩)), (8, .pointer (some ⟨b8, 0, none⟩)), (7, .bool true), (4, .pointer (some ⟨b4, 0, none⟩)), (5, .pointer (some ⟨b5, 0, none⟩))]) (H' := [(b9, .cells #[nv n.p, nv n.r, nv n.c, .slice A9 n.e.length c9] 27), (b8, .cells #[nv m.p, nv m.r, nv m.c, .slice A8 m.e.length c8] 27), (b5, .cells #[.int .u8 (P2 : Int), .int .u8 (R2 : Int), .int .u8 (C2 : Int), E2] 24), (b4, .cells #[.int .u8 (P' : Int), .int .u8 (R' : Int), .int .u8 (C' : Int), E'] 24)] ++ (N9 ++ (N8 ++ []))) (by repeat first | exact trivial | refine ⟨rfl, ?_⟩) (by (repeat' first | exact HSub.refl _ | exact HSub.nil _ | refine HSub.at 0 rfl ?_ | refine HSub.at 1 rfl ?_ | refine HSub.at 2 rfl ?_ | refine HSub.at 3 rfl ?_ | refine HSub.at 4 rfl ?_ | refine HSub.at 5 rfl ?_ | refine HSub.at 6 rfl ?_ | refine HSub.at 7 rfl ?_ | refine HSub.at 8 rfl ?_ | refine HSub.at 9 rfl ?_ | refine HSub.at 10 rfl ?_ | refine HSub.at 11 rfl ?_ | refine HSub.at 12 rfl ?_ | refine HSub.at 13 rfl ?_ | refine HSub.at 14 rfl ?_ | refine HSub.at 15 rfl ?_ | refine HSub.at 16 rfl ?_ | refine HSub.at 17 rfl ?_ | refine HSub.at 18 rfl ?_ | refine HSub.at 19 rfl ?_ | refine HSub.segH ?_ | refine HSub.skip ?_ | refine HSub.skipN ?_)) ?_
  refine JX.thenN ?_
  have hsi := sol_isSome hm hn hnp
  have hsm := fun x (h : solM m n = some x) => And.intro (sol_rt hm hn hnp h) (And.intro (sol_mul hm hn hnp hnr h) (solM_some h).2)
  (repeat' (first | refine JC.seq ?_ | refine JC.ops ?_ | (apply r_loadN; exact rfl; exact rfl; exact rfl; exact rfl; (first | exact at0 | exact at1 | exact at2 | exact at3 | exact at4 | exact at5 | exact at6 | exact at7); exact rfl)))
  refine r_callA (A := [_, _, _, _]) rfl trivial rfl rfl rfl (fun w hk hs => c_Solve w _ _ m n hm hn hnp hnr ⟨_, rfl, hO8.rd.at hk hs (by (repeat' first | exact HSub.nil _ | exact HSub.hd | exact HSub.in0 | exact HSub.refl _ | refine HSub.skip ?_ | refine HSub.skipN ?_))⟩ ⟨_, rfl, hO9.rd.at hk hs (by (repeat' first | exact HSub.nil _ | exact HSub.hd | exact HSub.in0 | exact HSub.refl _ | refine HSub.skip ?_ | refine HSub.skipN ?_))⟩) fun w v w' _ _ _ hR => ?_
  have hR := GivesO.of hR
  obtain ⟨N10, u, rfl, hN10, E10, rfl, hO10⟩ := hR
  obtain ⟨A10, c10, rfl⟩ := hO10.form
  unfold fmV
  refine ⟨N10, hN10, ?_⟩
  (repeat' (first | refine JO.nil ?_ | (apply r_move; exact rfl; exact rfl; exact rfl) | (apply r_assign; exact rfl; exact rfl; exact rfl) | (apply r_extract; exact rfl; exact rfl; exact rfl; exact rfl) | (apply r_allocZ; exact rfl; exact rfl; exact rfl; intro _) | (apply r_storeN; exact rfl; (first | exact trivial | exact ⟨rfl, rfl⟩); exact rfl; exact rfl; (first | exact at0 | exact at1 | exact at2 | exact at3 | exact at4 | exact at5 | exact at6 | exact at7); exact rfl; exact rfl; exact rfl)))
  rename_i b10
  refine JX.part (F' := [(11, .bool (solM m n).isSome), (10, .pointer (some ⟨b10, 0, none⟩)), (9, .pointer (some ⟨b9, 0, none⟩)), (8, .pointer (some ⟨b8, 0, none⟩)), (7, .bool true), (4, .pointer (some ⟨b4, 0, none⟩)), (5, .pointer (some ⟨b5, 0, none⟩))]) (H' := [(b10, .cells #[iv (oF (solM m n)).P, iv (oF (solM m n)).R, iv (oF (solM m n)).C, .slice A10 (oF (solM m n)).E.length c10] 27), (b9, .cells #[nv n.p, nv n.r, nv n.c, .slice A9 n.e.length c9] 27), (b8, .cells #[nv m.p, nv m.r, nv m.c, .slice A8 m.e.length c8] 27), (b5, .cells #[.int .u8 (P2 : Int), .int .u8 (R2 : Int), .int .u8 (C2 : Int), E2] 24), (b4, .cells #[.int .u8 (P' : Int), .int .u8 (R' : Int), .int .u8 (C' : Int), E'] 24)] ++ (N10 ++ (N9 ++ (N8 ++ [])))) (by repeat first | exact trivial | refine ⟨rfl, ?_⟩) (by (repeat' first | exact HSub.refl _ | exact HSub.nil _ | refine HSub.at 0 rfl ?_ | refine HSub.at 1 rfl ?_ | refine HSub.at 2 rfl ?_ | refine HSub.at 3 rfl ?_ | refine HSub.at 4 rfl ?_ | refine HSub.at 5 rfl ?_ | refine HSub.at 6 rfl ?_ | refine HSub.at 7 rfl ?_ | refine HSub.at 8 rfl ?_ | refine HSub.at 9 rfl ?_ | refine HSub.at 10 rfl ?_ | refine HSub.at 11 rfl ?_ | refine HSub.at 12 rfl ?_ | refine HSub.at 13 rfl ?_ | refine HSub.at 14 rfl ?_ | refine HSub.at 15 rfl ?_ | refine HSub.at 16 rfl ?_ | refine HSub.at 17 rfl ?_ | refine HSub.at 18 rfl ?_ | refine HSub.at 19 rfl ?_ | refine HSub.segH ?_ | refine HSub.skip ?_ | refine HSub.skipN ?_)) ?_
  refine JX.thenN ?_
  (repeat' (first | refine JC.seq ?_ | refine JC.ops ?_ | (apply r_loadN; exact rfl; exact rfl; exact rfl; exact rfl; (first | exact at0 | exact at1 | exact at2 | exact at3 | exact at4 | exact at5 | exact at6 | exact at7); exact rfl)))
  refine r_callA (A := [_, _, _, _, _]) rfl trivial rfl rfl rfl (fun w hk hs => c_refSolve w _ _ m n hm hn hnp hnr ⟨_, rfl, hO8.rd.at hk hs (by (repeat' first | exact HSub.nil _ | exact HSub.hd | exact HSub.in0 | exact HSub.refl _ | refine HSub.skip ?_ | refine HSub.skipN ?_))⟩ ⟨_, rfl, hO9.rd.at hk hs (by (repeat' first | exact HSub.nil _ | exact HSub.hd | exact HSub.in0 | exact HSub.refl _ | refine HSub.skip ?_ | refine HSub.skipN ?_))⟩) fun w v w' _ _ _ hR => ?_
  have hR := GivesO.of hR
  obtain ⟨N12, u, rfl, hN12, E12, rfl, hO12⟩ := hR
  obtain ⟨A12, c12, rfl⟩ := hO12.form
  unfold fmV
  refine ⟨N12, hN12, ?_⟩
  (repeat' (first | refine JO.nil ?_ | (apply r_move; exact rfl; exact rfl; exact rfl) | (apply r_assign; exact rfl; exact rfl; exact rfl) | (apply r_extract; exact rfl; exact rfl; exact rfl; exact rfl) | (apply r_allocZ; exact rfl; exact rfl; exact rfl; intro _) | (apply r_storeN; exact rfl; (first | exact trivial | exact ⟨rfl, rfl⟩); exact rfl; exact rfl; (first | exact at0 | exact at1 | exact at2 | exact at3 | exact at4 | exact at5 | exact at6 | exact at7); exact rfl; exact rfl; exact rfl)))
  rename_i b12
  refine JX.part (F' := [(13, .bool (solM m n).isSome), (12, .pointer (some ⟨b12, 0, none⟩)), (11, .bool (solM m n).isSome), (10, .pointer (some ⟨b10, 0, none⟩)), (9, .pointer (some ⟨b9, 0, none⟩)), (8, .pointer (some ⟨b8, 0, none⟩)), (7, .bool true), (4, .pointer (some ⟨b4, 0, none⟩)), (5, .pointer (some ⟨b5, 0, none⟩))]) (H' := [(b12, .cells #[iv (oF (solM m n)).P, iv (oF (solM m n)).R, iv (oF (solM m n)).C, .slice A12 (oF (solM m n)).E.length c12] 27), (b10, .cells #[iv (oF (solM m n)).P, iv (oF (solM m n)).R, iv (oF (solM m n)).C, .slice A10 (oF (solM m n)).E.length c10] 27), (b9, .cells #[nv n.p, nv n.r, nv n.c, .slice A9 n.e.length c9] 27), (b8, .cells #[nv m.p, nv m.r, nv m.c, .slice A8 m.e.length c8] 27), (b5, .cells #[.int .u8 (P2 : Int), .int .u8 (R2 : Int), .int .u8 (C2 : Int), E2] 24), (b4, .cells #[.int .u8 (P' : Int), .int .u8 (R' : Int), .int .u8 (C' : Int), E'] 24)] ++ (N12 ++ (N10 ++ (N9 ++ (N8 ++ []))))) (by repeat first | exact trivial | refine ⟨rfl, ?_⟩) (by (repeat' first | exact HSub.refl _ | exact HSub.nil _ | refine HSub.at 0 rfl ?_ | refine HSub.at 1 rfl ?_ | refine HSub.at 2 rfl ?_ | refine HSub.at 3 rfl ?_ | refine HSub.at 4 rfl ?_ | refine HSub.at 5 rfl ?_ | refine HSub.at 6 rfl ?_ | refine HSub.at 7 rfl ?_ | refine HSub.at 8 rfl ?_ | refine HSub.at 9 rfl ?_ | refine HSub.at 10 rfl ?_ | refine HSub.at 11 rfl ?_ | refine HSub.at 12 rfl ?_ | refine HSub.at 13 rfl ?_ | refine HSub.at 14 rfl ?_ | refine HSub.at 15 rfl ?_ | refine HSub.at 16 rfl ?_ | refine HSub.at 17 rfl ?_ | refine HSub.at 18 rfl ?_ | refine HSub.at 19 rfl ?_ | refine HSub.segH ?_ | refine HSub.skip ?_ | refine HSub.skipN ?_)) ?_
  refine JX.thenN ?_
  (repeat' (first | refine JC.seq ?_ | refine JC.ops ?_ | (apply r_loadN; exact rfl; exact rfl; exact rfl; exact rfl; (first | exact at0 | exact at1 | exact at2 | exact at3 | exact at4 | exact at5 | exact at6 | exact at7); exact rfl)))
  refine r_callA (A := [_, _, _, _, _, _]) rfl trivial rfl rfl rfl (fun w hk hs => c_Join w _ _ m n hm hn hnp hnr (by omega) ⟨_, rfl, hO8.rd.at hk hs (by (repeat' first | exact HSub.nil _ | exact HSub.hd | exact HSub.in0 | exact HSub.refl _ | refine HSub.skip ?_ | refine HSub.skipN ?_))⟩ ⟨_, rfl, hO9.rd.at hk hs (by (repeat' first | exact HSub.nil _ | exact HSub.hd | exact HSub.in0 | exact HSub.refl _ | refine HSub.skip ?_ | refine HSub.skipN ?_))⟩) fun w v w' _ _ _ hR => ?_
  have hJ := hm.join hn hnp (by omega)
  generalize joinM m n = j at *
  obtain ⟨N14, u, rfl, hN14, E14, rfl, hO14⟩ := hR
  obtain ⟨A14, c14, rfl⟩ := hO14.form
  refine ⟨N14, hN14, ?_⟩
  (repeat' (first | refine JO.nil ?_ | (apply r_move; exact rfl; exact rfl; exact rfl) | (apply r_assign; exact rfl; exact rfl; exact rfl) | (apply r_extract; exact rfl; exact rfl; exact rfl; exact rfl) | (apply r_allocZ; exact rfl; exact rfl; exact rfl; intro _) | (apply r_storeN; exact rfl; (first | exact trivial | exact ⟨rfl, rfl⟩); exact rfl; exact rfl; (first | exact at0 | exact at1 | exact at2 | exact at3 | exact at4 | exact at5 | exact at6 | exact at7); exact rfl; exact rfl; exact rfl)))
  rename_i b14
  refine JX.part (F' := [(14, .pointer (some ⟨b14, 0, none⟩)), (13, .bool (solM m n).isSome), (12, .pointer (some ⟨b12, 0, none⟩)), (11, .bool (solM m n).isSome), (10, .pointer (some ⟨b10, 0, none⟩)), (9, .pointer (some ⟨b9, 0, none⟩)), (8, .pointer (some ⟨b8, 0, none⟩)), (7, .bool true), (4, .pointer (some ⟨b4, 0, none⟩)), (5, .pointer (some ⟨b5, 0, none⟩))]) (H' := [(b14, .cells #[nv j.p, nv j.r, nv j.c, .slice A14 j.e.length c14] 27), (b12, .cells #[iv (oF (solM m n)).P, iv (oF (solM m n)).R, iv (oF (solM m n)).C, .slice A12 (oF (solM m n)).E.length c12] 27), (b10, .cells #[iv (oF (solM m n)).P, iv (oF (solM m n)).R, iv (oF (solM m n)).C, .slice A10 (oF (solM m n)).E.length c10] 27), (b9, .cells #[nv n.p, nv n.r, nv n.c, .slice A9 n.e.length c9] 27), (b8, .cells #[nv m.p, nv m.r, nv m.c, .slice A8 m.e.length c8] 27), (b5, .cells #[.int .u8 (P2 : Int), .int .u8 (R2 : Int), .int .u8 (C2 : Int), E2] 24), (b4, .cells #[.int .u8 (P' : Int), .int .u8 (R' : Int), .int .u8 (C' : Int), E'] 24)] ++ (N14 ++ (N12 ++ (N10 ++ (N9 ++ (N8 ++ [])))))) (by repeat first | exact trivial | refine ⟨rfl, ?_⟩) (by (repeat' first | exact HSub.refl _ | exact HSub.nil _ | refine HSub.at 0 rfl ?_ | refine HSub.at 1 rfl ?_ | refine HSub.at 2 rfl ?_ | refine HSub.at 3 rfl ?_ | refine HSub.at 4 rfl ?_ | refine HSub.at 5 rfl ?_ | refine HSub.at 6 rfl ?_ | refine HSub.at 7 rfl ?_ | refine HSub.at 8 rfl ?_ | refine HSub.at 9 rfl ?_ | refine HSub.at 10 rfl ?_ | refine HSub.at 11 rfl ?_ | refine HSub.at 12 rfl ?_ | refine HSub.at 13 rfl ?_ | refine HSub.at 14 rfl ?_ | refine HSub.at 15 rfl ?_ | refine HSub.at 16 rfl ?_ | refine HSub.at 17 rfl ?_ | refine HSub.at 18 rfl ?_ | refine HSub.at 19 rfl ?_ | refine HSub.segH ?_ | refine HSub.skip ?_ | refine HSub.skipN ?_)) ?_
  refine JX.thenN ?_
  have hol : (oF (solM m n)).E.length < 1000000000 := oFlen fun x h => (hsm x h).1
  generalize hso : solM m n = o at *
  rcases o with _ | x
  · simp only [Option.isSome_none, Bool.false_eq_true, false_iff] at hsi ⊢
    (repeat' (first | refine JC.seq ?_ | refine JC.opsD ?_ | (apply r_loadN; exact rfl; exact rfl; exact rfl; exact rfl; (first | exact at0 | exact at1 | exact at2 | exact at3 | exact at4 | exact at5 | exact at6 | exact at7); exact rfl)))
    refine r_call0 trivial rfl rfl rfl (fun w hk hs => c_SameT w _ _ _ _ ⟨_, rfl, hO10.rd.at hk hs (by (repeat' first | exact HSub.nil _ | exact HSub.hd | exact HSub.in0 | exact HSub.refl _ | refine HSub.skip ?_ | refine HSub.skipN ?_))⟩ ⟨_, rfl, hO12.rd.at hk hs (by (repeat' first | exact HSub.nil _ | exact HSub.hd | exact HSub.in0 | exact HSub.refl _ | refine HSub.skip ?_ | refine HSub.skipN ?_))⟩ hol hol rfl) fun w v w' _ _ _ hR => ?_
    subst hR
    (repeat' (first | (apply r_move; exact rfl; exact rfl; exact rfl) | (apply r_loadN; exact rfl; exact rfl; exact rfl; exact rfl; (first | exact at0 | exact at1 | exact at2 | exact at3 | exact at4 | exact at5 | exact at6 | exact at7); exact rfl) | (apply r_pickF; exact rfl; exact rfl; exact rfl; exact rfl) | (apply r_not; exact rfl; exact rfl; exact rfl) | (apply r_neBS; exact rfl; exact rfl; exact rfl; exact rfl)))
    refine r_call0 trivial rfl rfl rfl (fun w hk hs => c_Rank w _ j.fm (IsM.int ⟨_, rfl, hO14.rd.at hk hs (by (repeat' first | exact HSub.nil _ | exact HSub.hd | exact HSub.in0 | exact HSub.refl _ | refine HSub.skip ?_ | refine HSub.skipN ?_))⟩) hJ.flen) fun w v w' _ _ _ hR => ?_
    subst hR
    rw [rankF_fm hJ]
    skip
    refine r_call0 trivial rfl rfl rfl (fun w hk hs => c_Rank w _ m.fm (IsM.int ⟨_, rfl, hO8.rd.at hk hs (by (repeat' first | exact HSub.nil _ | exact HSub.hd | exact HSub.in0 | exact HSub.refl _ | refine HSub.skip ?_ | refine HSub.skipN ?_))⟩) hm.flen) fun w v w' _ _ _ hR => ?_
    subst hR
    rw [rankF_fm hm]
    (repeat' (first | refine JC.seq ?_ | refine JC.ops ?_ | refine JO.nil ?_ | refine JX.thenN ?_ | (apply r_loadN; exact rfl; exact rfl; exact rfl; exact rfl; (first | exact at0 | exact at1 | exact at2 | exact at3 | exact at4 | exact at5 | exact at6 | exact at7); exact rfl) | (apply r_pickF; exact rfl; exact rfl; exact rfl; exact rfl) | (apply r_eql; exact rfl; exact rfl; exact rfl; exact rfl; all_goals intro hc; all_goals try (exfalso; omega)) | (apply r_neBS; exact rfl; exact rfl; exact rfl; exact rfl) | refine JC.skip ?_ | refine JC.condF rfl ?_))
    refine r_callA (A := [_, _, _, _, _, _, _]) rfl trivial rfl rfl rfl (fun w hk hs => c_MulG w _ _ m.fm (oF (none : Option NM)) (IsM.int ⟨_, rfl, hO8.rd.at hk hs (by (repeat' first | exact HSub.nil _ | exact HSub.hd | exact HSub.in0 | exact HSub.refl _ | refine HSub.skip ?_ | refine HSub.skipN ?_))⟩) ⟨_, rfl, hO10.rd.at hk hs (by (repeat' first | exact HSub.nil _ | exact HSub.hd | exact HSub.in0 | exact HSub.refl _ | refine HSub.skip ?_ | refine HSub.skipN ?_))⟩ hm.flen (by decide)) fun w v w' _ _ _ hR => ?_
    obtain ⟨N16, u, rfl, hN16, E16, rfl, hO16⟩ := hR
    obtain ⟨A16, c16, rfl⟩ := hO16.form
    unfold fmV
    refine ⟨N16, hN16, ?_⟩
    (repeat' (first | refine JO.nil ?_ | (apply r_move; exact rfl; exact rfl; exact rfl) | (apply r_assign; exact rfl; exact rfl; exact rfl) | (apply r_extract; exact rfl; exact rfl; exact rfl; exact rfl) | (apply r_allocZ; exact rfl; exact rfl; exact rfl; intro _) | (apply r_storeN; exact rfl; (first | exact trivial | exact ⟨rfl, rfl⟩); exact rfl; exact rfl; (first | exact at0 | exact at1 | exact at2 | exact at3 | exact at4 | exact at5 | exact at6 | exact at7); exact rfl; exact rfl; exact rfl)))
    rename_i b16
    refine JX.part (F' := [(11, .bool false), (9, .pointer (some ⟨b9, 0, none⟩)), (8, .pointer (some ⟨b8, 0, none⟩)), (7, .bool true), (4, .pointer (some ⟨b4, 0, none⟩)), (5, .pointer (some ⟨b5, 0, none⟩))]) (H' := [(b9, .cells #[nv n.p, nv n.r, nv n.c, .slice A9 n.e.length c9] 27), (b8, .cells #[nv m.p, nv m.r, nv m.c, .slice A8 m.e.length c8] 27), (b5, .cells #[.int .u8 (P2 : Int), .int .u8 (R2 : Int), .int .u8 (C2 : Int), E2] 24), (b4, .cells #[.int .u8 (P' : Int), .int .u8 (R' : Int), .int .u8 (C' : Int), E'] 24)] ++ (N9 ++ (N8 ++ []))) (by repeat first | exact trivial | refine ⟨rfl, ?_⟩) (by (repeat' first | exact HSub.refl _ | exact HSub.nil _ | refine HSub.at 0 rfl ?_ | refine HSub.at 1 rfl ?_ | refine HSub.at 2 rfl ?_ | refine HSub.at 3 rfl ?_ | refine HSub.at 4 rfl ?_ | refine HSub.at 5 rfl ?_ | refine HSub.at 6 rfl ?_ | refine HSub.at 7 rfl ?_ | refine HSub.at 8 rfl ?_ | refine HSub.at 9 rfl ?_ | refine HSub.at 10 rfl ?_ | refine HSub.at 11 rfl ?_ | refine HSub.at 12 rfl ?_ | refine HSub.at 13 rfl ?_ | refine HSub.at 14 rfl ?_ | refine HSub.at 15 rfl ?_ | refine HSub.at 16 rfl ?_ | refine HSub.at 17 rfl ?_ | refine HSub.at 18 rfl ?_ | refine HSub.at 19 rfl ?_ | refine HSub.segH ?_ | refine HSub.skip ?_ | refine HSub.skipN ?_)) ?_
    refine JX.thenN ?_
    (repeat' (first | refine JC.seq ?_ | refine JC.ops ?_ | (apply r_fieldAddr; exact rfl; exact rfl; exact rfl) | (apply r_load; exact rfl; exact rfl; exact rfl; exact rfl; (first | exact at0 | exact at1 | exact at2 | exact at3 | exact at4 | exact at5 | exact at6 | exact at7); exact rfl) | (apply r_loadN; exact rfl; exact rfl; exact rfl; exact rfl; (first | exact at0 | exact at1 | exact at2 | exact at3 | exact at4 | exact at5 | exact at6 | exact at7); exact rfl)))
    refine r_modK (i := C2) 4 rfl rfl rfl rfl (by omega) ?_
    (repeat' (first | (apply r_convN; exact rfl; exact rfl; exact rfl; omega)))
    refine r_callA (A := [_, _, _, _]) rfl trivial rfl rfl rfl (fun w hk hs => c_With w _ P2 R2 C2 m.p m.c (C2 % 4) L2 (hx0.mono hk) hm.pr hm.c (by omega)) fun w v w' _ _ _ hR => ?_
    have hq := Rt.sh (L := L2) (c := C2 % 4) hm.pr hm.c (by omega)
    have hqp : m.p = (shM L2 m.p m.c (C2 % 4)).p := rfl
    have hqr : m.c = (shM L2 m.p m.c (C2 % 4)).r := rfl
    generalize shM L2 m.p m.c (C2 % 4) = q at *
    obtain ⟨N18, hN18, E18, rfl, hO18⟩ := hR
    obtain ⟨A18, c18, rfl⟩ := hO18.form
    refine ⟨N18, hN18, ?_⟩
    (repeat' (first | refine JO.nil ?_ | (apply r_allocZ; exact rfl; exact rfl; exact rfl; intro _) | (apply r_storeN; exact rfl; (first | exact trivial | exact ⟨rfl, rfl⟩); exact rfl; exact rfl; (first | exact at0 | exact at1 | exact at2 | exact at3 | exact at4 | exact at5 | exact at6 | exact at7); exact rfl; exact rfl; exact rfl)))
    rename_i b18
    refine JX.part (F' := [(18, .pointer (some ⟨b18, 0, none⟩)), (11, .bool false), (9, .pointer (some ⟨b9, 0, none⟩)), (8, .pointer (some ⟨b8, 0, none⟩)), (7, .bool true), (4, .pointer (some ⟨b4, 0, none⟩))]) (H' := [(b18, .cells #[nv q.p, nv q.r, nv q.c, .slice A18 q.e.length c18] 27), (b9, .cells #[nv n.p, nv n.r, nv n.c, .slice A9 n.e.length c9] 27), (b8, .cells #[nv m.p, nv m.r, nv m.c, .slice A8 m.e.length c8] 27), (b4, .cells #[.int .u8 (P' : Int), .int .u8 (R' : Int), .int .u8 (C' : Int), E'] 24)] ++ (N18 ++ (N9 ++ (N8 ++ [])))) (by repeat first | exact trivial | refine ⟨rfl, ?_⟩) (by (repeat' first | exact HSub.refl _ | exact HSub.nil _ | refine HSub.at 0 rfl ?_ | refine HSub.at 1 rfl ?_ | refine HSub.at 2 rfl ?_ | refine HSub.at 3 rfl ?_ | refine HSub.at 4 rfl ?_ | refine HSub.at 5 rfl ?_ | refine HSub.at 6 rfl ?_ | refine HSub.at 7 rfl ?_ | refine HSub.at 8 rfl ?_ | refine HSub.at 9 rfl ?_ | refine HSub.at 10 rfl ?_ | refine HSub.at 11 rfl ?_ | refine HSub.at 12 rfl ?_ | refine HSub.at 13 rfl ?_ | refine HSub.at 14 rfl ?_ | refine HSub.at 15 rfl ?_ | refine HSub.at 16 rfl ?_ | refine HSub.at 17 rfl ?_ | refine HSub.at 18 rfl ?_ | refine HSub.at 19 rfl ?_ | refine HSub.segH ?_ | refine HSub.skip ?_ | refine HSub.skipN ?_)) ?_
    refine JX.thenN ?_
    (repeat' (first | refine JC.seq ?_ | refine JC.ops ?_ | (apply r_loadN; exact rfl; exact rfl; exact rfl; exact rfl; (first | exact at0 | exact at1 | exact at2 | exact at3 | exact at4 | exact at5 | exact at6 | exact at7); exact rfl)))
    refine r_callA (A := [_, _, _, _]) rfl trivial rfl rfl rfl (fun w hk hs => c_Mul w _ _ m q hm hq hqp hqr ⟨_, rfl, hO8.rd.at hk hs (by (repeat' first | exact HSub.nil _ | exact HSub.hd | exact HSub.in0 | exact HSub.refl _ | refine HSub.skip ?_ | refine HSub.skipN ?_))⟩ ⟨_, rfl, hO18.rd.at hk hs (by (repeat' first | exact HSub.nil _ | exact HSub.hd | exact HSub.in0 | exact HSub.refl _ | refine HSub.skip ?_ | refine HSub.skipN ?_))⟩) fun w v w' _ _ _ hR => ?_
    have hz := sol_product hm hq hqp hqr
    have hk2 := hm.mul hq
    have hkp : m.p = (mulM m q).p := rfl
    have hkr : m.r = (mulM m q).r := rfl
    generalize mulM m q = k at *
    obtain ⟨z, hz⟩ := Option.isSome_iff_exists.1 hz
    obtain ⟨N19, u, rfl, hN19, E19, rfl, hO19⟩ := hR
    obtain ⟨A19, c19, rfl⟩ := hO19.form
    refine ⟨N19, hN19, ?_⟩
    (repeat' (first | refine JO.nil ?_ | (apply r_move; exact rfl; exact rfl; exact rfl) | (apply r_assign; exact rfl; exact rfl; exact rfl) | (apply r_extract; exact rfl; exact rfl; exact rfl; exact rfl) | (apply r_allocZ; exact rfl; exact rfl; exact rfl; intro _) | (apply r_storeN; exact rfl; (first | exact trivial | exact ⟨rfl, rfl⟩); exact rfl; exact rfl; (first | exact at0 | exact at1 | exact at2 | exact at3 | exact at4 | exact at5 | exact at6 | exact at7); exact rfl; exact rfl; exact rfl)))
    rename_i b19
    refine JX.part (F' := [(19, .pointer (some ⟨b19, 0, none⟩)), (11, .bool false), (9, .pointer (some ⟨b9, 0, none⟩)), (8, .pointer (some ⟨b8, 0, none⟩)), (7, .bool true), (4, .pointer (some ⟨b4, 0, none⟩))]) (H' := [(b19, .cells #[nv k.p, nv k.r, nv k.c, .slice A19 k.e.length c19] 27), (b9, .cells #[nv n.p, nv n.r, nv n.c, .slice A9 n.e.length c9] 27), (b8, .cells #[nv m.p, nv m.r, nv m.c, .slice A8 m.e.length c8] 27), (b4, .cells #[.int .u8 (P' : Int), .int .u8 (R' : Int), .int .u8 (C' : Int), E'] 24)] ++ (N19 ++ (N9 ++ (N8 ++ [])))) (by repeat first | exact trivial | refine ⟨rfl, ?_⟩) (by (repeat' first | exact HSub.refl _ | exact HSub.nil _ | refine HSub.at 0 rfl ?_ | refine HSub.at 1 rfl ?_ | refine HSub.at 2 rfl ?_ | refine HSub.at 3 rfl ?_ | refine HSub.at 4 rfl ?_ | refine HSub.at 5 rfl ?_ | refine HSub.at 6 rfl ?_ | refine HSub.at 7 rfl ?_ | refine HSub.at 8 rfl ?_ | refine HSub.at 9 rfl ?_ | refine HSub.at 10 rfl ?_ | refine HSub.at 11 rfl ?_ | refine HSub.at 12 rfl ?_ | refine HSub.at 13 rfl ?_ | refine HSub.at 14 rfl ?_ | refine HSub.at 15 rfl ?_ | refine HSub.at 16 rfl ?_ | refine HSub.at 17 rfl ?_ | refine HSub.at 18 rfl ?_ | refine HSub.at 19 rfl ?_ | refine HSub.segH ?_ | refine HSub.skip ?_ | refine HSub.skipN ?_)) ?_
    refine JX.thenN ?_
    (repeat' (first | refine JC.seq ?_ | refine JC.ops ?_ | (apply r_loadN; exact rfl; exact rfl; exact rfl; exact rfl; (first | exact at0 | exact at1 | exact at2 | exact at3 | exact at4 | exact at5 | exact at6 | exact at7); exact rfl)))
    refine r_callA (A := [_, _, _, _]) rfl trivial rfl rfl rfl (fun w hk hs => c_Solve w _ _ m k hm hk2 hkp hkr ⟨_, rfl, hO8.rd.at hk hs (by (repeat' first | exact HSub.nil _ | exact HSub.hd | exact HSub.in0 | exact HSub.refl _ | refine HSub.skip ?_ | refine HSub.skipN ?_))⟩ ⟨_, rfl, hO19.rd.at hk hs (by (repeat' first | exact HSub.nil _ | exact HSub.hd | exact HSub.in0 | exact HSub.refl _ | refine HSub.skip ?_ | refine HSub.skipN ?_))⟩) fun w v w' _ _ _ hR => ?_
    rw [hz] at hR
    have hR : GivesMB z _ _ _ := hR
    have hz1 := sol_rt hm hk2 hkp hz
    have hz2 := sol_mul hm hk2 hkp hkr hz
    have hzp : m.p = z.p := by rw [(solM_some hz).2]
    have hzr : m.c = z.r := by rw [(solM_some hz).2]
    obtain ⟨N21, u, rfl, hN21, E21, rfl, hO21⟩ := hR
    obtain ⟨A21, c21, rfl⟩ := hO21.form
    refine ⟨N21, hN21, ?_⟩
    (repeat' (first | refine JO.nil ?_ | (apply r_move; exact rfl; exact rfl; exact rfl) | (apply r_assign; exact rfl; exact rfl; exact rfl) | (apply r_extract; exact rfl; exact rfl; exact rfl; exact rfl) | (apply r_allocZ; exact rfl; exact rfl; exact rfl; intro _) | (apply r_storeN; exact rfl; (first | exact trivial | exact ⟨rfl, rfl⟩); exact rfl; exact rfl; (first | exact at0 | exact at1 | exact at2 | exact at3 | exact at4 | exact at5 | exact at6 | exact at7); exact rfl; exact rfl; exact rfl)))
    rename_i b21
    refine JX.part (F' := [(22, .bool true), (21, .pointer (some ⟨b21, 0, none⟩)), (19, .pointer (some ⟨b19, 0, none⟩)), (11, .bool false), (9, .pointer (some ⟨b9, 0, none⟩)), (8, .pointer (some ⟨b8, 0, none⟩)), (7, .bool true), (4, .pointer (some ⟨b4, 0, none⟩))]) (H' := [(b21, .cells #[nv z.p, nv z.r, nv z.c, .slice A21 z.e.length c21] 27), (b19, .cells #[nv k.p, nv k.r, nv k.c, .slice A19 k.e.length c19] 27), (b9, .cells #[nv n.p, nv n.r, nv n.c, .slice A9 n.e.length c9] 27), (b8, .cells #[nv m.p, nv m.r, nv m.c, .slice A8 m.e.length c8] 27), (b4, .cells #[.int .u8 (P' : Int), .int .u8 (R' : Int), .int .u8 (C' : Int), E'] 24)] ++ (N21 ++ (N19 ++ (N9 ++ (N8 ++ []))))) (by repeat first | exact trivial | refine ⟨rfl, ?_⟩) (by (repeat' first | exact HSub.refl _ | exact HSub.nil _ | refine HSub.at 0 rfl ?_ | refine HSub.at 1 rfl ?_ | refine HSub.at 2 rfl ?_ | refine HSub.at 3 rfl ?_ | refine HSub.at 4 rfl ?_ | refine HSub.at 5 rfl ?_ | refine HSub.at 6 rfl ?_ | refine HSub.at 7 rfl ?_ | refine HSub.at 8 rfl ?_ | refine HSub.at 9 rfl ?_ | refine HSub.at 10 rfl ?_ | refine HSub.at 11 rfl ?_ | refine HSub.at 12 rfl ?_ | refine HSub.at 13 rfl ?_ | refine HSub.at 14 rfl ?_ | refine HSub.at 15 rfl ?_ | refine HSub.at 16 rfl ?_ | refine HSub.at 17 rfl ?_ | refine HSub.at 18 rfl ?_ | refine HSub.at 19 rfl ?_ | refine HSub.segH ?_ | refine HSub.skip ?_ | refine HSub.skipN ?_)) ?_
    refine JX.thenN ?_
    (repeat' (first | refine JC.seq ?_ | refine JC.ops ?_ | (apply r_loadN; exact rfl; exact rfl; exact rfl; exact rfl; (first | exact at0 | exact at1 | exact at2 | exact at3 | exact at4 | exact at5 | exact at6 | exact at7); exact rfl)))
    refine r_callA (A := [_, _, _, _, _]) rfl trivial rfl rfl rfl (fun w hk hs => c_Mul w _ _ m z hm hz1 hzp hzr ⟨_, rfl, hO8.rd.at hk hs (by (repeat' first | exact HSub.nil _ | exact HSub.hd | exact HSub.in0 | exact HSub.refl _ | refine HSub.skip ?_ | refine HSub.skipN ?_))⟩ ⟨_, rfl, hO21.rd.at hk hs (by (repeat' first | exact HSub.nil _ | exact HSub.hd | exact HSub.in0 | exact HSub.refl _ | refine HSub.skip ?_ | refine HSub.skipN ?_))⟩) fun w v w' _ _ _ hR => ?_
    rw [hz2] at hR
    obtain ⟨N23, u, rfl, hN23, E23, rfl, hO23⟩ := hR
    obtain ⟨A23, c23, rfl⟩ := hO23.form
    refine ⟨N23, hN23, ?_⟩
    (repeat' (first | refine JO.nil ?_ | (apply r_move; exact rfl; exact rfl; exact rfl) | (apply r_assign; exact rfl; exact rfl; exact rfl) | (apply r_extract; exact rfl; exact rfl; exact rfl; exact rfl) | (apply r_allocZ; exact rfl; exact rfl; exact rfl; intro _) | (apply r_storeN; exact rfl; (first | exact trivial | exact ⟨rfl, rfl⟩); exact rfl; exact rfl; (first | exact at0 | exact at1 | exact at2 | exact at3 | exact at4 | exact at5 | exact at6 | exact at7); exact rfl; exact rfl; exact rfl)))
    rename_i b23
    refine JX.part (F' := [(23, .pointer (some ⟨b23, 0, none⟩)), (22, .bool true), (19, .pointer (some ⟨b19, 0, none⟩)), (11, .bool false), (9, .pointer (some ⟨b9, 0, none⟩)), (8, .pointer (some ⟨b8, 0, none⟩)), (7, .bool true), (4, .pointer (some ⟨b4, 0, none⟩))]) (H' := [(b23, .cells #[nv k.p, nv k.r, nv k.c, .slice A23 k.e.length c23] 27), (b19, .cells #[nv k.p, nv k.r, nv k.c, .slice A19 k.e.length c19] 27), (b9, .cells #[nv n.p, nv n.r, nv n.c, .slice A9 n.e.length c9] 27), (b8, .cells #[nv m.p, nv m.r, nv m.c, .slice A8 m.e.length c8] 27), (b4, .cells #[.int .u8 (P' : Int), .int .u8 (R' : Int), .int .u8 (C' : Int), E'] 24)] ++ (N23 ++ (N19 ++ (N9 ++ (N8 ++ []))))) (by repeat first | exact trivial | refine ⟨rfl, ?_⟩) (by (repeat' first | exact HSub.refl _ | exact HSub.nil _ | refine HSub.at 0 rfl ?_ | refine HSub.at 1 rfl ?_ | refine HSub.at 2 rfl ?_ | refine HSub.at 3 rfl ?_ | refine HSub.at 4 rfl ?_ | refine HSub.at 5 rfl ?_ | refine HSub.at 6 rfl ?_ | refine HSub.at 7 rfl ?_ | refine HSub.at 8 rfl ?_ | refine HSub.at 9 rfl ?_ | refine HSub.at 10 rfl ?_ | refine HSub.at 11 rfl ?_ | refine HSub.at 12 rfl ?_ | refine HSub.at 13 rfl ?_ | refine HSub.at 14 rfl ?_ | refine HSub.at 15 rfl ?_ | refine HSub.at 16 rfl ?_ | refine HSub.at 17 rfl ?_ | refine HSub.at 18 rfl ?_ | refine HSub.at 19 rfl ?_ | refine HSub.segH ?_ | refine HSub.skip ?_ | refine HSub.skipN ?_)) ?_
    refine JX.thenN ?_
    (repeat' (first | refine JC.seq ?_ | refine JC.opsD ?_ | (apply r_loadN; exact rfl; exact rfl; exact rfl; exact rfl; (first | exact at0 | exact at1 | exact at2 | exact at3 | exact at4 | exact at5 | exact at6 | exact at7); exact rfl)))
    refine r_callA (A := [_, _, _, _, _]) rfl trivial rfl rfl rfl (fun w hk hs => c_Mat w _ P' R' C' L' (hu0.mono hk)) fun w v w' _ _ _ hR => ?_
    have ht0 := Rt.shMat P' R' C' L'
    generalize hgt0 : shMat P' R' C' L' = t0 at *
    obtain ⟨Nt0, hNt0, Et0, rfl, hOt0⟩ := hR
    obtain ⟨At0, ct0, rfl⟩ := hOt0.form
    refine ⟨Nt0, hNt0, ?_⟩
    skip
    have hs3 : ∀ x, lift2 solO m.fm t0.fm = some x → Rt x := lift2_rt fun a b ha hb x h => by
      unfold solO at h
      split at h
      · rename_i q; exact sol_rt ha hb q.1 h
      · cases h
    refine r_callA (A := [_, _, _, _, _]) rfl trivial rfl rfl rfl (fun w hk hs => c_SolveG w _ _ m.fm t0.fm (IsM.int ⟨_, rfl, hO8.rd.at hk hs (by (repeat' first | exact HSub.nil _ | exact HSub.hd | exact HSub.in0 | exact HSub.refl _ | refine HSub.skip ?_ | refine HSub.skipN ?_))⟩) (IsM.int ⟨_, rfl, hOt0.rd.at hk hs (by (repeat' first | exact HSub.nil _ | exact HSub.hd | exact HSub.in0 | exact HSub.refl _ | refine HSub.skip ?_ | refine HSub.skipN ?_))⟩) hm.flen ht0.flen) fun w v w' _ _ _ hR => ?_
    generalize hgo3 : lift2 solO m.fm t0.fm = o3 at *
    obtain ⟨N25, u, rfl, hN25, E25, rfl, hO25⟩ := hR
    obtain ⟨A25, c25, rfl⟩ := hO25.form
    unfold fmV
    refine ⟨N25, hN25, ?_⟩
    (repeat' (first | refine JO.nil ?_ | (apply r_move; exact rfl; exact rfl; exact rfl) | (apply r_assign; exact rfl; exact rfl; exact rfl) | (apply r_extract; exact rfl; exact rfl; exact rfl; exact rfl) | (apply r_allocZ; exact rfl; exact rfl; exact rfl; intro _) | (apply r_storeN; exact rfl; (first | exact trivial | exact ⟨rfl, rfl⟩); exact rfl; exact rfl; (first | exact at0 | exact at1 | exact at2 | exact at3 | exact at4 | exact at5 | exact at6 | exact at7); exact rfl; exact rfl; exact rfl)))
    refine JX.part (F' := [(26, .bool o3.isSome), (23, .pointer (some ⟨b23, 0, none⟩)), (22, .bool true), (19, .pointer (some ⟨b19, 0, none⟩)), (11, .bool false), (9, .pointer (some ⟨b9, 0, none⟩)), (8, .pointer (some ⟨b8, 0, none⟩)), (7, .bool true), (4, .pointer (some ⟨b4, 0, none⟩))]) (H' := [(b23, .cells #[nv k.p, nv k.r, nv k.c, .slice A23 k.e.length c23] 27), (b19, .cells #[nv k.p, nv k.r, nv k.c, .slice A19 k.e.length c19] 27), (b9, .cells #[nv n.p, nv n.r, nv n.c, .slice A9 n.e.length c9] 27), (b8, .cells #[nv m.p, nv m.r, nv m.c, .slice A8 m.e.length c8] 27), (b4, .cells #[.int .u8 (P' : Int), .int .u8 (R' : Int), .int .u8 (C' : Int), E'] 24)] ++ (N23 ++ (N19 ++ (N9 ++ (N8 ++ []))))) (by repeat first | exact trivial | refine ⟨rfl, ?_⟩) (by (repeat' first | exact HSub.refl _ | exact HSub.nil _ | refine HSub.at 0 rfl ?_ | refine HSub.at 1 rfl ?_ | refine HSub.at 2 rfl ?_ | refine HSub.at 3 rfl ?_ | refine HSub.at 4 rfl ?_ | refine HSub.at 5 rfl ?_ | refine HSub.at 6 rfl ?_ | refine HSub.at 7 rfl ?_ | refine HSub.at 8 rfl ?_ | refine HSub.at 9 rfl ?_ | refine HSub.at 10 rfl ?_ | refine HSub.at 11 rfl ?_ | refine HSub.at 12 rfl ?_ | refine HSub.at 13 rfl ?_ | refine HSub.at 14 rfl ?_ | refine HSub.at 15 rfl ?_ | refine HSub.at 16 rfl ?_ | refine HSub.at 17 rfl ?_ | refine HSub.at 18 rfl ?_ | refine HSub.at 19 rfl ?_ | refine HSub.segH ?_ | refine HSub.skip ?_ | refine HSub.skipN ?_)) ?_
    refine JX.thenN ?_
    (repeat' (first | refine JC.seq ?_ | refine JC.opsD ?_ | (apply r_loadN; exact rfl; exact rfl; exact rfl; exact rfl; (first | exact at0 | exact at1 | exact at2 | exact at3 | exact at4 | exact at5 | exact at6 | exact at7); exact rfl)))
    refine r_callA (A := [_, _, _, _, _]) rfl trivial rfl rfl rfl (fun w hk hs => c_Mat w _ P' R' C' L' (hu0.mono hk)) fun w v w' _ _ _ hR => ?_
    have ht1 := Rt.shMat P' R' C' L'
    rw [hgt0] at hR ht1
    obtain ⟨Nt1, hNt1, Et1, rfl, hOt1⟩ := hR
    obtain ⟨At1, ct1, rfl⟩ := hOt1.form
    refine ⟨Nt1, hNt1, ?_⟩
    skip
    refine r_callA (A := [_, _, _, _, _]) rfl trivial rfl rfl rfl (fun w hk hs => c_refSolveG w _ _ m.fm t0.fm (IsM.int ⟨_, rfl, hO8.rd.at hk hs (by (repeat' first | exact HSub.nil _ | exact HSub.hd | exact HSub.in0 | exact HSub.refl _ | refine HSub.skip ?_ | refine HSub.skipN ?_))⟩) (IsM.int ⟨_, rfl, hOt1.rd.at hk hs (by (repeat' first | exact HSub.nil _ | exact HSub.hd | exact HSub.in0 | exact HSub.refl _ | refine HSub.skip ?_ | refine HSub.skipN ?_))⟩) hm.flen ht0.flen) fun w v w' _ _ _ hR => ?_
    rw [hgo3] at hR
    obtain ⟨N27, u, rfl, hN27, E27, rfl, hO27⟩ := hR
    obtain ⟨A27, c27, rfl⟩ := hO27.form
    unfold fmV
    refine ⟨N27, hN27, ?_⟩
    (repeat' (first | refine JO.nil ?_ | (apply r_move; exact rfl; exact rfl; exact rfl) | (apply r_assign; exact rfl; exact rfl; exact rfl) | (apply r_extract; exact rfl; exact rfl; exact rfl; exact rfl) | (apply r_allocZ; exact rfl; exact rfl; exact rfl; intro _) | (apply r_storeN; exact rfl; (first | exact trivial | exact ⟨rfl, rfl⟩); exact rfl; exact rfl; (first | exact at0 | exact at1 | exact at2 | exact at3 | exact at4 | exact at5 | exact at6 | exact at7); exact rfl; exact rfl; exact rfl)))
    refine JX.part (F' := [(28, .bool o3.isSome), (26, .bool o3.isSome), (23, .pointer (some ⟨b23, 0, none⟩)), (22, .bool true), (19, .pointer (some ⟨b19, 0, none⟩)), (11, .bool false), (9, .pointer (some ⟨b9, 0, none⟩)), (8, .pointer (some ⟨b8, 0, none⟩)), (7, .bool true)]) (H' := [(b23, .cells #[nv k.p, nv k.r, nv k.c, .slice A23 k.e.length c23] 27), (b19, .cells #[nv k.p, nv k.r, nv k.c, .slice A19 k.e.length c19] 27), (b9, .cells #[nv n.p, nv n.r, nv n.c, .slice A9 n.e.length c9] 27), (b8, .cells #[nv m.p, nv m.r, nv m.c, .slice A8 m.e.length c8] 27)] ++ (N23 ++ (N19 ++ (N9 ++ (N8 ++ []))))) (by repeat first | exact trivial | refine ⟨rfl, ?_⟩) (by (repeat' first | exact HSub.refl _ | exact HSub.nil _ | refine HSub.at 0 rfl ?_ | refine HSub.at 1 rfl ?_ | refine HSub.at 2 rfl ?_ | refine HSub.at 3 rfl ?_ | refine HSub.at 4 rfl ?_ | refine HSub.at 5 rfl ?_ | refine HSub.at 6 rfl ?_ | refine HSub.at 7 rfl ?_ | refine HSub.at 8 rfl ?_ | refine HSub.at 9 rfl ?_ | refine HSub.at 10 rfl ?_ | refine HSub.at 11 rfl ?_ | refine HSub.at 12 rfl ?_ | refine HSub.at 13 rfl ?_ | refine HSub.at 14 rfl ?_ | refine HSub.at 15 rfl ?_ | refine HSub.at 16 rfl ?_ | refine HSub.at 17 rfl ?_ | refine HSub.at 18 rfl ?_ | refine HSub.at 19 rfl ?_ | refine HSub.segH ?_ | refine HSub.skip ?_ | refine HSub.skipN ?_)) ?_
    refine JX.thenN ?_
    cases o3.isSome
    · skip
      (repeat' (first | refine JC.seq ?_ | refine JC.ops ?_ | (apply r_move; exact rfl; exact rfl; exact rfl) | (apply r_loadN; exact rfl; exact rfl; exact rfl; exact rfl; (first | exact at0 | exact at1 | exact at2 | exact at3 | exact at4 | exact at5 | exact at6 | exact at7); exact rfl) | (apply r_pickT; exact rfl; exact rfl; exact rfl; exact rfl) | (apply r_not; exact rfl; exact rfl; exact rfl) | (apply r_skip; exact rfl; exact rfl; (first | (intro h; cases h; done) | (intro _; rfl)))))
      refine r_call0 trivial rfl rfl rfl (fun w hk hs => c_EqualT w _ _ k hk2 ⟨_, rfl, hO23.rd.at hk hs (by (repeat' first | exact HSub.nil _ | exact HSub.hd | exact HSub.in0 | exact HSub.refl _ | refine HSub.skip ?_ | refine HSub.skipN ?_))⟩ ⟨_, rfl, hO19.rd.at hk hs (by (repeat' first | exact HSub.nil _ | exact HSub.hd | exact HSub.in0 | exact HSub.refl _ | refine HSub.skip ?_ | refine HSub.skipN ?_))⟩) fun w v w' _ _ _ hR => ?_
      subst hR
      (repeat' (first | refine JO.nil ?_ | refine JX.thenN ?_ | (apply r_move; exact rfl; exact rfl; exact rfl) | (apply r_assign; exact rfl; exact rfl; exact rfl) | (apply r_pickT; exact rfl; exact rfl; exact rfl; exact rfl) | (apply r_eqBS; exact rfl; exact rfl; exact rfl; exact rfl) | refine JC.ret ?_))
      exact JX.ret1 rfl (fun a w' st => ⟨st.kp, rfl⟩)
    · skip
      (repeat' (first | refine JC.seq ?_ | refine JC.ops ?_ | (apply r_move; exact rfl; exact rfl; exact rfl) | (apply r_loadN; exact rfl; exact rfl; exact rfl; exact rfl; (first | exact at0 | exact at1 | exact at2 | exact at3 | exact at4 | exact at5 | exact at6 | exact at7); exact rfl) | (apply r_pickT; exact rfl; exact rfl; exact rfl; exact rfl) | (apply r_not; exact rfl; exact rfl; exact rfl) | (apply r_skip; exact rfl; exact rfl; (first | (intro h; cases h; done) | (intro _; rfl)))))
      refine r_call0 trivial rfl rfl rfl (fun w hk hs => c_EqualT w _ _ k hk2 ⟨_, rfl, hO23.rd.at hk hs (by (repeat' first | exact HSub.nil _ | exact HSub.hd | exact HSub.in0 | exact HSub.refl _ | refine HSub.skip ?_ | refine HSub.skipN ?_))⟩ ⟨_, rfl, hO19.rd.at hk hs (by (repeat' first | exact HSub.nil _ | exact HSub.hd | exact HSub.in0 | exact HSub.refl _ | refine HSub.skip ?_ | refine HSub.skipN ?_))⟩) fun w v w' _ _ _ hR => ?_
      subst hR
      (repeat' (first | refine JO.nil ?_ | refine JX.thenN ?_ | (apply r_move; exact rfl; exact rfl; exact rfl) | (apply r_assign; exact rfl; exact rfl; exact rfl) | (apply r_pickT; exact rfl; exact rfl; exact rfl; exact rfl) | (apply r_eqBS; exact rfl; exact rfl; exact rfl; exact rfl) | refine JC.ret ?_))
      exact JX.ret1 rfl (fun a w' st => ⟨st.kp, rfl⟩)
  · simp only [Option.isSome_some, true_iff] at hsi ⊢
    (repeat' (first | refine JC.seq ?_ | refine JC.opsD ?_ | (apply r_loadN; exact rfl; exact rfl; exact rfl; exact rfl; (first | exact at0 | exact at1 | exact at2 | exact at3 | exact at4 | exact at5 | exact at6 | exact at7); exact rfl)))
    refine r_call0 trivial rfl rfl rfl (fun w hk hs => c_SameT w _ _ _ _ ⟨_, rfl, hO10.rd.at hk hs (by (repeat' first | exact HSub.nil _ | exact HSub.hd | exact HSub.in0 | exact HSub.refl _ | refine HSub.skip ?_ | refine HSub.skipN ?_))⟩ ⟨_, rfl, hO12.rd.at hk hs (by (repeat' first | exact HSub.nil _ | exact HSub.hd | exact HSub.in0 | exact HSub.refl _ | refine HSub.skip ?_ | refine HSub.skipN ?_))⟩ hol hol rfl) fun w v w' _ _ _ hR => ?_
    subst hR
    (repeat' (first | (apply r_move; exact rfl; exact rfl; exact rfl) | (apply r_loadN; exact rfl; exact rfl; exact rfl; exact rfl; (first | exact at0 | exact at1 | exact at2 | exact at3 | exact at4 | exact at5 | exact at6 | exact at7); exact rfl) | (apply r_pickF; exact rfl; exact rfl; exact rfl; exact rfl) | (apply r_not; exact rfl; exact rfl; exact rfl) | (apply r_neBS; exact rfl; exact rfl; exact rfl; exact rfl)))
    refine r_call0 trivial rfl rfl rfl (fun w hk hs => c_Rank w _ j.fm (IsM.int ⟨_, rfl, hO14.rd.at hk hs (by (repeat' first | exact HSub.nil _ | exact HSub.hd | exact HSub.in0 | exact HSub.refl _ | refine HSub.skip ?_ | refine HSub.skipN ?_))⟩) hJ.flen) fun w v w' _ _ _ hR => ?_
    subst hR
    rw [rankF_fm hJ]
    skip
    refine r_call0 trivial rfl rfl rfl (fun w hk hs => c_Rank w _ m.fm (IsM.int ⟨_, rfl, hO8.rd.at hk hs (by (repeat' first | exact HSub.nil _ | exact HSub.hd | exact HSub.in0 | exact HSub.refl _ | refine HSub.skip ?_ | refine HSub.skipN ?_))⟩) hm.flen) fun w v w' _ _ _ hR => ?_
    subst hR
    rw [rankF_fm hm]
    (repeat' (first | refine JC.seq ?_ | refine JC.ops ?_ | refine JO.nil ?_ | refine JX.thenN ?_ | (apply r_loadN; exact rfl; exact rfl; exact rfl; exact rfl; (first | exact at0 | exact at1 | exact at2 | exact at3 | exact at4 | exact at5 | exact at6 | exact at7); exact rfl) | (apply r_pickF; exact rfl; exact rfl; exact rfl; exact rfl) | (apply r_eql; exact rfl; exact rfl; exact rfl; exact rfl; all_goals intro hc; all_goals try (exfalso; omega)) | (apply r_neBS; exact rfl; exact rfl; exact rfl; exact rfl) | refine JC.skip ?_ | refine JC.condF rfl ?_))
    obtain ⟨hx1, hx2, hx3⟩ := hsm x rfl
    have hxp : m.p = x.p := by rw [hx3]
    have hxr : m.c = x.r := by rw [hx3]
    refine r_callA (A := [_, _, _, _, _, _, _]) rfl trivial rfl rfl rfl (fun w hk hs => c_Mul w _ _ m x hm hx1 hxp hxr ⟨_, rfl, hO8.rd.at hk hs (by (repeat' first | exact HSub.nil _ | exact HSub.hd | exact HSub.in0 | exact HSub.refl _ | refine HSub.skip ?_ | refine HSub.skipN ?_))⟩ (IsF.nat ⟨_, rfl, hO10.rd.at hk hs (by (repeat' first | exact HSub.nil _ | exact HSub.hd | exact HSub.in0 | exact HSub.refl _ | refine HSub.skip ?_ | refine HSub.skipN ?_))⟩)) fun w v w' _ _ _ hR => ?_
    rw [hx2] at hR
    obtain ⟨N16, u, rfl, hN16, E16, rfl, hO16⟩ := hR
    obtain ⟨A16, c16, rfl⟩ := hO16.form
    refine ⟨N16, hN16, ?_⟩
    (repeat' (first | refine JO.nil ?_ | (apply r_move; exact rfl; exact rfl; exact rfl) | (apply r_assign; exact rfl; exact rfl; exact rfl) | (apply r_extract; exact rfl; exact rfl; exact rfl; exact rfl) | (apply r_allocZ; exact rfl; exact rfl; exact rfl; intro _) | (apply r_storeN; exact rfl; (first | exact trivial | exact ⟨rfl, rfl⟩); exact rfl; exact rfl; (first | exact at0 | exact at1 | exact at2 | exact at3 | exact at4 | exact at5 | exact at6 | exact at7); exact rfl; exact rfl; exact rfl)))
    rename_i b16
    refine JX.part (F' := [(16, .pointer (some ⟨b16, 0, none⟩)), (11, .bool true), (9, .pointer (some ⟨b9, 0, none⟩)), (8, .pointer (some ⟨b8, 0, none⟩)), (7, .bool true), (4, .pointer (some ⟨b4, 0, none⟩)), (5, .pointer (some ⟨b5, 0, none⟩))]) (H' := [(b16, .cells #[nv n.p, nv n.r, nv n.c, .slice A16 n.e.length c16] 27), (b9, .cells #[nv n.p, nv n.r, nv n.c, .slice A9 n.e.length c9] 27), (b8, .cells #[nv m.p, nv m.r, nv m.c, .slice A8 m.e.length c8] 27), (b5, .cells #[.int .u8 (P2 : Int), .int .u8 (R2 : Int), .int .u8 (C2 : Int), E2] 24), (b4, .cells #[.int .u8 (P' : Int), .int .u8 (R' : Int), .int .u8 (C' : Int), E'] 24)] ++ (N16 ++ (N9 ++ (N8 ++ [])))) (by repeat first | exact trivial | refine ⟨rfl, ?_⟩) (by (repeat' first | exact HSub.refl _ | exact HSub.nil _ | refine HSub.at 0 rfl ?_ | refine HSub.at 1 rfl ?_ | refine HSub.at 2 rfl ?_ | refine HSub.at 3 rfl ?_ | refine HSub.at 4 rfl ?_ | refine HSub.at 5 rfl ?_ | refine HSub.at 6 rfl ?_ | refine HSub.at 7 rfl ?_ | refine HSub.at 8 rfl ?_ | refine HSub.at 9 rfl ?_ | refine HSub.at 10 rfl ?_ | refine HSub.at 11 rfl ?_ | refine HSub.at 12 rfl ?_ | refine HSub.at 13 rfl ?_ | refine HSub.at 14 rfl ?_ | refine HSub.at 15 rfl ?_ | refine HSub.at 16 rfl ?_ | refine HSub.at 17 rfl ?_ | refine HSub.at 18 rfl ?_ | refine HSub.at 19 rfl ?_ | refine HSub.segH ?_ | refine HSub.skip ?_ | refine HSub.skipN ?_)) ?_
    refine JX.thenN ?_
    (repeat' (first | refine JC.seq ?_ | refine JC.ops ?_ | (apply r_fieldAddr; exact rfl; exact rfl; exact rfl) | (apply r_load; exact rfl; exact rfl; exact rfl; exact rfl; (first | exact at0 | exact at1 | exact at2 | exact at3 | exact at4 | exact at5 | exact at6 | exact at7); exact rfl) | (apply r_loadN; exact rfl; exact rfl; exact rfl; exact rfl; (first | exact at0 | exact at1 | exact at2 | exact at3 | exact at4 | exact at5 | exact at6 | exact at7); exact rfl)))
    refine r_modK (i := C2) 4 rfl rfl rfl rfl (by omega) ?_
    (repeat' (first | (apply r_convN; exact rfl; exact rfl; exact rfl; omega)))
    refine r_callA (A := [_, _, _, _, _]) rfl trivial rfl rfl rfl (fun w hk hs => c_With w _ P2 R2 C2 m.p m.c (C2 % 4) L2 (hx0.mono hk) hm.pr hm.c (by omega)) fun w v w' _ _ _ hR => ?_
    have hq := Rt.sh (L := L2) (c := C2 % 4) hm.pr hm.c (by omega)
    have hqp : m.p = (shM L2 m.p m.c (C2 % 4)).p := rfl
    have hqr : m.c = (shM L2 m.p m.c (C2 % 4)).r := rfl
    generalize shM L2 m.p m.c (C2 % 4) = q at *
    obtain ⟨N18, hN18, E18, rfl, hO18⟩ := hR
    obtain ⟨A18, c18, rfl⟩ := hO18.form
    refine ⟨N18, hN18, ?_⟩
    (repeat' (first | refine JO.nil ?_ | (apply r_allocZ; exact rfl; exact rfl; exact rfl; intro _) | (apply r_storeN; exact rfl; (first | exact trivial | exact ⟨rfl, rfl⟩); exact rfl; exact rfl; (first | exact at0 | exact at1 | exact at2 | exact at3 | exact at4 | exact at5 | exact at6 | exact at7); exact rfl; exact rfl; exact rfl)))
    rename_i b18
    refine JX.part (F' := [(18, .pointer (some ⟨b18, 0, none⟩)), (16, .pointer (some ⟨b16, 0, none⟩)), (11, .bool true), (9, .pointer (some ⟨b9, 0, none⟩)), (8, .pointer (some ⟨b8, 0, none⟩)), (7, .bool true), (4, .pointer (some ⟨b4, 0, none⟩))]) (H' := [(b18, .cells #[nv q.p, nv q.r, nv q.c, .slice A18 q.e.length c18] 27), (b16, .cells #[nv n.p, nv n.r, nv n.c, .slice A16 n.e.length c16] 27), (b9, .cells #[nv n.p, nv n.r, nv n.c, .slice A9 n.e.length c9] 27), (b8, .cells #[nv m.p, nv m.r, nv m.c, .slice A8 m.e.length c8] 27), (b4, .cells #[.int .u8 (P' : Int), .int .u8 (R' : Int), .int .u8 (C' : Int), E'] 24)] ++ (N18 ++ (N16 ++ (N9 ++ (N8 ++ []))))) (by repeat first | exact trivial | refine ⟨rfl, ?_⟩) (by (repeat' first | exact HSub.refl _ | exact HSub.nil _ | refine HSub.at 0 rfl ?_ | refine HSub.at 1 rfl ?_ | refine HSub.at 2 rfl ?_ | refine HSub.at 3 rfl ?_ | refine HSub.at 4 rfl ?_ | refine HSub.at 5 rfl ?_ | refine HSub.at 6 rfl ?_ | refine HSub.at 7 rfl ?_ | refine HSub.at 8 rfl ?_ | refine HSub.at 9 rfl ?_ | refine HSub.at 10 rfl ?_ | refine HSub.at 11 rfl ?_ | refine HSub.at 12 rfl ?_ | refine HSub.at 13 rfl ?_ | refine HSub.at 14 rfl ?_ | refine HSub.at 15 rfl ?_ | refine HSub.at 16 rfl ?_ | refine HSub.at 17 rfl ?_ | refine HSub.at 18 rfl ?_ | refine HSub.at 19 rfl ?_ | refine HSub.segH ?_ | refine HSub.skip ?_ | refine HSub.skipN ?_)) ?_
    refine JX.thenN ?_
    (repeat' (first | refine JC.seq ?_ | refine JC.ops ?_ | (apply r_loadN; exact rfl; exact rfl; exact rfl; exact rfl; (first | exact at0 | exact at1 | exact at2 | exact at3 | exact at4 | exact at5 | exact at6 | exact at7); exact rfl)))
    refine r_callA (A := [_, _, _, _, _]) rfl trivial rfl rfl rfl (fun w hk hs => c_Mul w _ _ m q hm hq hqp hqr ⟨_, rfl, hO8.rd.at hk hs (by (repeat' first | exact HSub.nil _ | exact HSub.hd | exact HSub.in0 | exact HSub.refl _ | refine HSub.skip ?_ | refine HSub.skipN ?_))⟩ ⟨_, rfl, hO18.rd.at hk hs (by (repeat' first | exact HSub.nil _ | exact HSub.hd | exact HSub.in0 | exact HSub.refl _ | refine HSub.skip ?_ | refine HSub.skipN ?_))⟩) fun w v w' _ _ _ hR => ?_
    have hz := sol_product hm hq hqp hqr
    have hk2 := hm.mul hq
    have hkp : m.p = (mulM m q).p := rfl
    have hkr : m.r = (mulM m q).r := rfl
    generalize mulM m q = k at *
    obtain ⟨z, hz⟩ := Option.isSome_iff_exists.1 hz
    obtain ⟨N19, u, rfl, hN19, E19, rfl, hO19⟩ := hR
    obtain ⟨A19, c19, rfl⟩ := hO19.form
    refine ⟨N19, hN19, ?_⟩
    (repeat' (first | refine JO.nil ?_ | (apply r_move; exact rfl; exact rfl; exact rfl) | (apply r_assign; exact rfl; exact rfl; exact rfl) | (apply r_extract; exact rfl; exact rfl; exact rfl; exact rfl) | (apply r_allocZ; exact rfl; exact rfl; exact rfl; intro _) | (apply r_storeN; exact rfl; (first | exact trivial | exact ⟨rfl, rfl⟩); exact rfl; exact rfl; (first | exact at0 | exact at1 | exact at2 | exact at3 | exact at4 | exact at5 | exact at6 | exact at7); exact rfl; exact rfl; exact rfl)))
    rename_i b19
    refine JX.part (F' := [(19, .pointer (some ⟨b19, 0, none⟩)), (16, .pointer (some ⟨b16, 0, none⟩)), (11, .bool true), (9, .pointer (some ⟨b9, 0, none⟩)), (8, .pointer (some ⟨b8, 0, none⟩)), (7, .bool true), (4, .pointer (some ⟨b4, 0, none⟩))]) (H' := [(b19, .cells #[nv k.p, nv k.r, nv k.c, .slice A19 k.e.length c19] 27), (b16, .cells #[nv n.p, nv n.r, nv n.c, .slice A16 n.e.length c16] 27), (b9, .cells #[nv n.p, nv n.r, nv n.c, .slice A9 n.e.length c9] 27), (b8, .cells #[nv m.p, nv m.r, nv m.c, .slice A8 m.e.length c8] 27), (b4, .cells #[.int .u8 (P' : Int), .int .u8 (R' : Int), .int .u8 (C' : Int), E'] 24)] ++ (N19 ++ (N16 ++ (N9 ++ (N8 ++ []))))) (by repeat first | exact trivial | refine ⟨rfl, ?_⟩) (by (repeat' first | exact HSub.refl _ | exact HSub.nil _ | refine HSub.at 0 rfl ?_ | refine HSub.at 1 rfl ?_ | refine HSub.at 2 rfl ?_ | refine HSub.at 3 rfl ?_ | refine HSub.at 4 rfl ?_ | refine HSub.at 5 rfl ?_ | refine HSub.at 6 rfl ?_ | refine HSub.at 7 rfl ?_ | refine HSub.at 8 rfl ?_ | refine HSub.at 9 rfl ?_ | refine HSub.at 10 rfl ?_ | refine HSub.at 11 rfl ?_ | refine HSub.at 12 rfl ?_ | refine HSub.at 13 rfl ?_ | refine HSub.at 14 rfl ?_ | refine HSub.at 15 rfl ?_ | refine HSub.at 16 rfl ?_ | refine HSub.at 17 rfl ?_ | refine HSub.at 18 rfl ?_ | refine HSub.at 19 rfl ?_ | refine HSub.segH ?_ | refine HSub.skip ?_ | refine HSub.skipN ?_)) ?_
    refine JX.thenN ?_
    (repeat' (first | refine JC.seq ?_ | refine JC.ops ?_ | (apply r_loadN; exact rfl; exact rfl; exact rfl; exact rfl; (first | exact at0 | exact at1 | exact at2 | exact at3 | exact at4 | exact at5 | exact at6 | exact at7); exact rfl)))
    refine r_callA (A := [_, _, _, _, _]) rfl trivial rfl rfl rfl (fun w hk hs => c_Solve w _ _ m k hm hk2 hkp hkr ⟨_, rfl, hO8.rd.at hk hs (by (repeat' first | exact HSub.nil _ | exact HSub.hd | exact HSub.in0 | exact HSub.refl _ | refine HSub.skip ?_ | refine HSub.skipN ?_))⟩ ⟨_, rfl, hO19.rd.at hk hs (by (repeat' first | exact HSub.nil _ | exact HSub.hd | exact HSub.in0 | exact HSub.refl _ | refine HSub.skip ?_ | refine HSub.skipN ?_))⟩) fun w v w' _ _ _ hR => ?_
    rw [hz] at hR
    have hR : GivesMB z _ _ _ := hR
    have hz1 := sol_rt hm hk2 hkp hz
    have hz2 := sol_mul hm hk2 hkp hkr hz
    have hzp : m.p = z.p := by rw [(solM_some hz).2]
    have hzr : m.c = z.r := by rw [(solM_some hz).2]
    obtain ⟨N21, u, rfl, hN21, E21, rfl, hO21⟩ := hR
    obtain ⟨A21, c21, rfl⟩ := hO21.form
    refine ⟨N21, hN21, ?_⟩
    (repeat' (first | refine JO.nil ?_ | (apply r_move; exact rfl; exact rfl; exact rfl) | (apply r_assign; exact rfl; exact rfl; exact rfl) | (apply r_extract; exact rfl; exact rfl; exact rfl; exact rfl) | (apply r_allocZ; exact rfl; exact rfl; exact rfl; intro _) | (apply r_storeN; exact rfl; (first | exact trivial | exact ⟨rfl, rfl⟩); exact rfl; exact rfl; (first | exact at0 | exact at1 | exact at2 | exact at3 | exact at4 | exact at5 | exact at6 | exact at7); exact rfl; exact rfl; exact rfl)))
    rename_i b21
    refine JX.part (F' := [(22, .bool true), (21, .pointer (some ⟨b21, 0, none⟩)), (19, .pointer (some ⟨b19, 0, none⟩)), (16, .pointer (some ⟨b16, 0, none⟩)), (11, .bool true), (9, .pointer (some ⟨b9, 0, none⟩)), (8, .pointer (some ⟨b8, 0, none⟩)), (7, .bool true), (4, .pointer (some ⟨b4, 0, none⟩))]) (H' := [(b21, .cells #[nv z.p, nv z.r, nv z.c, .slice A21 z.e.length c21] 27), (b19, .cells #[nv k.p, nv k.r, nv k.c, .slice A19 k.e.length c19] 27), (b16, .cells #[nv n.p, nv n.r, nv n.c, .slice A16 n.e.length c16] 27), (b9, .cells #[nv n.p, nv n.r, nv n.c, .slice A9 n.e.length c9] 27), (b8, .cells #[nv m.p, nv m.r, nv m.c, .slice A8 m.e.length c8] 27), (b4, .cells #[.int .u8 (P' : Int), .int .u8 (R' : Int), .int .u8 (C' : Int), E'] 24)] ++ (N21 ++ (N19 ++ (N16 ++ (N9 ++ (N8 ++ [])))))) (by repeat first | exact trivial | refine ⟨rfl, ?_⟩) (by (repeat' first | exact HSub.refl _ | exact HSub.nil _ | refine HSub.at 0 rfl ?_ | refine HSub.at 1 rfl ?_ | refine HSub.at 2 rfl ?_ | refine HSub.at 3 rfl ?_ | refine HSub.at 4 rfl ?_ | refine HSub.at 5 rfl ?_ | refine HSub.at 6 rfl ?_ | refine HSub.at 7 rfl ?_ | refine HSub.at 8 rfl ?_ | refine HSub.at 9 rfl ?_ | refine HSub.at 10 rfl ?_ | refine HSub.at 11 rfl ?_ | refine HSub.at 12 rfl ?_ | refine HSub.at 13 rfl ?_ | refine HSub.at 14 rfl ?_ | refine HSub.at 15 rfl ?_ | refine HSub.at 16 rfl ?_ | refine HSub.at 17 rfl ?_ | refine HSub.at 18 rfl ?_ | refine HSub.at 19 rfl ?_ | refine HSub.segH ?_ | refine HSub.skip ?_ | refine HSub.skipN ?_)) ?_
    refine JX.thenN ?_
    (repeat' (first | refine JC.seq ?_ | refine JC.ops ?_ | (apply r_loadN; exact rfl; exact rfl; exact rfl; exact rfl; (first | exact at0 | exact at1 | exact at2 | exact at3 | exact at4 | exact at5 | exact at6 | exact at7); exact rfl)))
    refine r_callA (A := [_, _, _, _, _, _]) rfl trivial rfl rfl rfl (fun w hk hs => c_Mul w _ _ m z hm hz1 hzp hzr ⟨_, rfl, hO8.rd.at hk hs (by (repeat' first | exact HSub.nil _ | exact HSub.hd | exact HSub.in0 | exact HSub.refl _ | refine HSub.skip ?_ | refine HSub.skipN ?_))⟩ ⟨_, rfl, hO21.rd.at hk hs (by (repeat' first | exact HSub.nil _ | exact HSub.hd | exact HSub.in0 | exact HSub.refl _ | refine HSub.skip ?_ | refine HSub.skipN ?_))⟩) fun w v w' _ _ _ hR => ?_
    rw [hz2] at hR
    obtain ⟨N23, u, rfl, hN23, E23, rfl, hO23⟩ := hR
    obtain ⟨A23, c23, rfl⟩ := hO23.form
    refine ⟨N23, hN23, ?_⟩
    (repeat' (first | refine JO.nil ?_ | (apply r_move; exact rfl; exact rfl; exact rfl) | (apply r_assign; exact rfl; exact rfl; exact rfl) | (apply r_extract; exact rfl; exact rfl; exact rfl; exact rfl) | (apply r_allocZ; exact rfl; exact rfl; exact rfl; intro _) | (apply r_storeN; exact rfl; (first | exact trivial | exact ⟨rfl, rfl⟩); exact rfl; exact rfl; (first | exact at0 | exact at1 | exact at2 | exact at3 | exact at4 | exact at5 | exact at6 | exact at7); exact rfl; exact rfl; exact rfl)))
    rename_i b23
    refine JX.part (F' := [(23, .pointer (some ⟨b23, 0, none⟩)), (22, .bool true), (19, .pointer (some ⟨b19, 0, none⟩)), (16, .pointer (some ⟨b16, 0, none⟩)), (11, .bool true), (9, .pointer (some ⟨b9, 0, none⟩)), (8, .pointer (some ⟨b8, 0, none⟩)), (7, .bool true), (4, .pointer (some ⟨b4, 0, none⟩))]) (H' := [(b23, .cells #[nv k.p, nv k.r, nv k.c, .slice A23 k.e.length c23] 27), (b19, .cells #[nv k.p, nv k.r, nv k.c, .slice A19 k.e.length c19] 27), (b16, .cells #[nv n.p, nv n.r, nv n.c, .slice A16 n.e.length c16] 27), (b9, .cells #[nv n.p, nv n.r, nv n.c, .slice A9 n.e.length c9] 27), (b8, .cells #[nv m.p, nv m.r, nv m.c, .slice A8 m.e.length c8] 27), (b4, .cells #[.int .u8 (P' : Int), .int .u8 (R' : Int), .int .u8 (C' : Int), E'] 24)] ++ (N23 ++ (N19 ++ (N16 ++ (N9 ++ (N8 ++ [])))))) (by repeat first | exact trivial | refine ⟨rfl, ?_⟩) (by (repeat' first | exact HSub.refl _ | exact HSub.nil _ | refine HSub.at 0 rfl ?_ | refine HSub.at 1 rfl ?_ | refine HSub.at 2 rfl ?_ | refine HSub.at 3 rfl ?_ | refine HSub.at 4 rfl ?_ | refine HSub.at 5 rfl ?_ | refine HSub.at 6 rfl ?_ | refine HSub.at 7 rfl ?_ | refine HSub.at 8 rfl ?_ | refine HSub.at 9 rfl ?_ | refine HSub.at 10 rfl ?_ | refine HSub.at 11 rfl ?_ | refine HSub.at 12 rfl ?_ | refine HSub.at 13 rfl ?_ | refine HSub.at 14 rfl ?_ | refine HSub.at 15 rfl ?_ | refine HSub.at 16 rfl ?_ | refine HSub.at 17 rfl ?_ | refine HSub.at 18 rfl ?_ | refine HSub.at 19 rfl ?_ | refine HSub.segH ?_ | refine HSub.skip ?_ | refine HSub.skipN ?_)) ?_
    refine JX.thenN ?_
    (repeat' (first | refine JC.seq ?_ | refine JC.opsD ?_ | (apply r_loadN; exact rfl; exact rfl; exact rfl; exact rfl; (first | exact at0 | exact at1 | exact at2 | exact at3 | exact at4 | exact at5 | exact at6 | exact at7); exact rfl)))
    refine r_callA (A := [_, _, _, _, _, _]) rfl trivial rfl rfl rfl (fun w hk hs => c_Mat w _ P' R' C' L' (hu0.mono hk)) fun w v w' _ _ _ hR => ?_
    have ht0 := Rt.shMat P' R' C' L'
    generalize hgt0 : shMat P' R' C' L' = t0 at *
    obtain ⟨Nt0, hNt0, Et0, rfl, hOt0⟩ := hR
    obtain ⟨At0, ct0, rfl⟩ := hOt0.form
    refine ⟨Nt0, hNt0, ?_⟩
    skip
    have hs3 : ∀ x, lift2 solO m.fm t0.fm = some x → Rt x := lift2_rt fun a b ha hb x h => by
      unfold solO at h
      split at h
      · rename_i q; exact sol_rt ha hb q.1 h
      · cases h
    refine r_callA (A := [_, _, _, _, _, _]) rfl trivial rfl rfl rfl (fun w hk hs => c_SolveG w _ _ m.fm t0.fm (IsM.int ⟨_, rfl, hO8.rd.at hk hs (by (repeat' first | exact HSub.nil _ | exact HSub.hd | exact HSub.in0 | exact HSub.refl _ | refine HSub.skip ?_ | refine HSub.skipN ?_))⟩) (IsM.int ⟨_, rfl, hOt0.rd.at hk hs (by (repeat' first | exact HSub.nil _ | exact HSub.hd | exact HSub.in0 | exact HSub.refl _ | refine HSub.skip ?_ | refine HSub.skipN ?_))⟩) hm.flen ht0.flen) fun w v w' _ _ _ hR => ?_
    generalize hgo3 : lift2 solO m.fm t0.fm = o3 at *
    obtain ⟨N25, u, rfl, hN25, E25, rfl, hO25⟩ := hR
    obtain ⟨A25, c25, rfl⟩ := hO25.form
    unfold fmV
    refine ⟨N25, hN25, ?_⟩
    (repeat' (first | refine JO.nil ?_ | (apply r_move; exact rfl; exact rfl; exact rfl) | (apply r_assign; exact rfl; exact rfl; exact rfl) | (apply r_extract; exact rfl; exact rfl; exact rfl; exact rfl) | (apply r_allocZ; exact rfl; exact rfl; exact rfl; intro _) | (apply r_storeN; exact rfl; (first | exact trivial | exact ⟨rfl, rfl⟩); exact rfl; exact rfl; (first | exact at0 | exact at1 | exact at2 | exact at3 | exact at4 | exact at5 | exact at6 | exact at7); exact rfl; exact rfl; exact rfl)))
    refine JX.part (F' := [(26, .bool o3.isSome), (23, .pointer (some ⟨b23, 0, none⟩)), (22, .bool true), (19, .pointer (some ⟨b19, 0, none⟩)), (16, .pointer (some ⟨b16, 0, none⟩)), (11, .bool true), (9, .pointer (some ⟨b9, 0, none⟩)), (8, .pointer (some ⟨b8, 0, none⟩)), (7, .bool true), (4, .pointer (some ⟨b4, 0, none⟩))]) (H' := [(b23, .cells #[nv k.p, nv k.r, nv k.c, .slice A23 k.e.length c23] 27), (b19, .cells #[nv k.p, nv k.r, nv k.c, .slice A19 k.e.length c19] 27), (b16, .cells #[nv n.p, nv n.r, nv n.c, .slice A16 n.e.length c16] 27), (b9, .cells #[nv n.p, nv n.r, nv n.c, .slice A9 n.e.length c9] 27), (b8, .cells #[nv m.p, nv m.r, nv m.c, .slice A8 m.e.length c8] 27), (b4, .cells #[.int .u8 (P' : Int), .int .u8 (R' : Int), .int .u8 (C' : Int), E'] 24)] ++ (N23 ++ (N19 ++ (N16 ++ (N9 ++ (N8 ++ [])))))) (by repeat first | exact trivial | refine ⟨rfl, ?_⟩) (by (repeat' first | exact HSub.refl _ | exact HSub.nil _ | refine HSub.at 0 rfl ?_ | refine HSub.at 1 rfl ?_ | refine HSub.at 2 rfl ?_ | refine HSub.at 3 rfl ?_ | refine HSub.at 4 rfl ?_ | refine HSub.at 5 rfl ?_ | refine HSub.at 6 rfl ?_ | refine HSub.at 7 rfl ?_ | refine HSub.at 8 rfl ?_ | refine HSub.at 9 rfl ?_ | refine HSub.at 10 rfl ?_ | refine HSub.at 11 rfl ?_ | refine HSub.at 12 rfl ?_ | refine HSub.at 13 rfl ?_ | refine HSub.at 14 rfl ?_ | refine HSub.at 15 rfl ?_ | refine HSub.at 16 rfl ?_ | refine HSub.at 17 rfl ?_ | refine HSub.at 18 rfl ?_ | refine HSub.at 19 rfl ?_ | refine HSub.segH ?_ | refine HSub.skip ?_ | refine HSub.skipN ?_)) ?_
    refine JX.thenN ?_
    (repeat' (first | refine JC.seq ?_ | refine JC.opsD ?_ | (apply r_loadN; exact rfl; exact rfl; exact rfl; exact rfl; (first | exact at0 | exact at1 | exact at2 | exact at3 | exact at4 | exact at5 | exact at6 | exact at7); exact rfl)))
    refine r_callA (A := [_, _, _, _, _, _]) rfl trivial rfl rfl rfl (fun w hk hs => c_Mat w _ P' R' C' L' (hu0.mono hk)) fun w v w' _ _ _ hR => ?_
    have ht1 := Rt.shMat P' R' C' L'
    rw [hgt0] at hR ht1
    obtain ⟨Nt1, hNt1, Et1, rfl, hOt1⟩ := hR
    obtain ⟨At1, ct1, rfl⟩ := hOt1.form
    refine ⟨Nt1, hNt1, ?_⟩
    skip
    refine r_callA (A := [_, _, _, _, _, _]) rfl trivial rfl rfl rfl (fun w hk hs => c_refSolveG w _ _ m.fm t0.fm (IsM.int ⟨_, rfl, hO8.rd.at hk hs (by (repeat' first | exact HSub.nil _ | exact HSub.hd | exact HSub.in0 | exact HSub.refl _ | refine HSub.skip ?_ | refine HSub.skipN ?_))⟩) (IsM.int ⟨_, rfl, hOt1.rd.at hk hs (by (repeat' first | exact HSub.nil _ | exact HSub.hd | exact HSub.in0 | exact HSub.refl _ | refine HSub.skip ?_ | refine HSub.skipN ?_))⟩) hm.flen ht0.flen) fun w v w' _ _ _ hR => ?_
    rw [hgo3] at hR
    obtain ⟨N27, u, rfl, hN27, E27, rfl, hO27⟩ := hR
    obtain ⟨A27, c27, rfl⟩ := hO27.form
    unfold fmV
    refine ⟨N27, hN27, ?_⟩
    (repeat' (first | refine JO.nil ?_ | (apply r_move; exact rfl; exact rfl; exact rfl) | (apply r_assign; exact rfl; exact rfl; exact rfl) | (apply r_extract; exact rfl; exact rfl; exact rfl; exact rfl) | (apply r_allocZ; exact rfl; exact rfl; exact rfl; intro _) | (apply r_storeN; exact rfl; (first | exact trivial | exact ⟨rfl, rfl⟩); exact rfl; exact rfl; (first | exact at0 | exact at1 | exact at2 | exact at3 | exact at4 | exact at5 | exact at6 | exact at7); exact rfl; exact rfl; exact rfl)))
    refine JX.part (F' := [(28, .bool o3.isSome), (26, .bool o3.isSome), (23, .pointer (some ⟨b23, 0, none⟩)), (22, .bool true), (19, .pointer (some ⟨b19, 0, none⟩)), (16, .pointer (some ⟨b16, 0, none⟩)), (11, .bool true), (9, .pointer (some ⟨b9, 0, none⟩)), (8, .pointer (some ⟨b8, 0, none⟩)), (7, .bool true)]) (H' := [(b23, .cells #[nv k.p, nv k.r, nv k.c, .slice A23 k.e.length c23] 27), (b19, .cells #[nv k.p, nv k.r, nv k.c, .slice A19 k.e.length c19] 27), (b16, .cells #[nv n.p, nv n.r, nv n.c, .slice A16 n.e.length c16] 27), (b9, .cells #[nv n.p, nv n.r, nv n.c, .slice A9 n.e.length c9] 27), (b8, .cells #[nv m.p, nv m.r, nv m.c, .slice A8 m.e.length c8] 27)] ++ (N23 ++ (N19 ++ (N16 ++ (N9 ++ (N8 ++ [])))))) (by repeat first | exact trivial | refine ⟨rfl, ?_⟩) (by (repeat' first | exact HSub.refl _ | exact HSub.nil _ | refine HSub.at 0 rfl ?_ | refine HSub.at 1 rfl ?_ | refine HSub.at 2 rfl ?_ | refine HSub.at 3 rfl ?_ | refine HSub.at 4 rfl ?_ | refine HSub.at 5 rfl ?_ | refine HSub.at 6 rfl ?_ | refine HSub.at 7 rfl ?_ | refine HSub.at 8 rfl ?_ | refine HSub.at 9 rfl ?_ | refine HSub.at 10 rfl ?_ | refine HSub.at 11 rfl ?_ | refine HSub.at 12 rfl ?_ | refine HSub.at 13 rfl ?_ | refine HSub.at 14 rfl ?_ | refine HSub.at 15 rfl ?_ | refine HSub.at 16 rfl ?_ | refine HSub.at 17 rfl ?_ | refine HSub.at 18 rfl ?_ | refine HSub.at 19 rfl ?_ | refine HSub.segH ?_ | refine HSub.skip ?_ | refine HSub.skipN ?_)) ?_
    refine JX.thenN ?_
    cases o3.isSome
    · skip
      (repeat' (first | refine JC.seq ?_ | refine JC.ops ?_ | (apply r_move; exact rfl; exact rfl; exact rfl) | (apply r_loadN; exact rfl; exact rfl; exact rfl; exact rfl; (first | exact at0 | exact at1 | exact at2 | exact at3 | exact at4 | exact at5 | exact at6 | exact at7); exact rfl) | (apply r_not; exact rfl; exact rfl; exact rfl)))
      refine r_call0 trivial rfl rfl rfl (fun w hk hs => c_EqualT w _ _ n hn ⟨_, rfl, hO16.rd.at hk hs (by (repeat' first | exact HSub.nil _ | exact HSub.hd | exact HSub.in0 | exact HSub.refl _ | refine HSub.skip ?_ | refine HSub.skipN ?_))⟩ ⟨_, rfl, hO9.rd.at hk hs (by (repeat' first | exact HSub.nil _ | exact HSub.hd | exact HSub.in0 | exact HSub.refl _ | refine HSub.skip ?_ | refine HSub.skipN ?_))⟩) fun w v w' _ _ _ hR => ?_
      subst hR
      (repeat' (first | (apply r_move; exact rfl; exact rfl; exact rfl) | (apply r_loadN; exact rfl; exact rfl; exact rfl; exact rfl; (first | exact at0 | exact at1 | exact at2 | exact at3 | exact at4 | exact at5 | exact at6 | exact at7); exact rfl) | (apply r_pickT; exact rfl; exact rfl; exact rfl; exact rfl) | (apply r_pickF; exact rfl; exact rfl; exact rfl; exact rfl)))
      refine r_call0 trivial rfl rfl rfl (fun w hk hs => c_EqualT w _ _ k hk2 ⟨_, rfl, hO23.rd.at hk hs (by (repeat' first | exact HSub.nil _ | exact HSub.hd | exact HSub.in0 | exact HSub.refl _ | refine HSub.skip ?_ | refine HSub.skipN ?_))⟩ ⟨_, rfl, hO19.rd.at hk hs (by (repeat' first | exact HSub.nil _ | exact HSub.hd | exact HSub.in0 | exact HSub.refl _ | refine HSub.skip ?_ | refine HSub.skipN ?_))⟩) fun w v w' _ _ _ hR => ?_
      subst hR
      (repeat' (first | refine JO.nil ?_ | refine JX.thenN ?_ | (apply r_move; exact rfl; exact rfl; exact rfl) | (apply r_assign; exact rfl; exact rfl; exact rfl) | (apply r_pickT; exact rfl; exact rfl; exact rfl; exact rfl) | (apply r_eqBS; exact rfl; exact rfl; exact rfl; exact rfl) | refine JC.ret ?_))
      exact JX.ret1 rfl (fun a w' st => ⟨st.kp, rfl⟩)
    · skip
      (repeat' (first | refine JC.seq ?_ | refine JC.ops ?_ | (apply r_move; exact rfl; exact rfl; exact rfl) | (apply r_loadN; exact rfl; exact rfl; exact rfl; exact rfl; (first | exact at0 | exact at1 | exact at2 | exact at3 | exact at4 | exact at5 | exact at6 | exact at7); exact rfl) | (apply r_not; exact rfl; exact rfl; exact rfl)))
      refine r_call0 trivial rfl rfl rfl (fun w hk hs => c_EqualT w _ _ n hn ⟨_, rfl, hO16.rd.at hk hs (by (repeat' first | exact HSub.nil _ | exact HSub.hd | exact HSub.in0 | exact HSub.refl _ | refine HSub.skip ?_ | refine HSub.skipN ?_))⟩ ⟨_, rfl, hO9.rd.at hk hs (by (repeat' first | exact HSub.nil _ | exact HSub.hd | exact HSub.in0 | exact HSub.refl _ | refine HSub.skip ?_ | refine HSub.skipN ?_))⟩) fun w v w' _ _ _ hR => ?_
      subst hR
      (repeat' (first | (apply r_move; exact rfl; exact rfl; exact rfl) | (apply r_loadN; exact rfl; exact rfl; exact rfl; exact rfl; (first | exact at0 | exact at1 | exact at2 | exact at3 | exact at4 | exact at5 | exact at6 | exact at7); exact rfl) | (apply r_pickT; exact rfl; exact rfl; exact rfl; exact rfl) | (apply r_pickF; exact rfl; exact rfl; exact rfl; exact rfl)))
      refine r_call0 trivial rfl rfl rfl (fun w hk hs => c_EqualT w _ _ k hk2 ⟨_, rfl, hO23.rd.at hk hs (by (repeat' first | exact HSub.nil _ | exact HSub.hd | exact HSub.in0 | exact HSub.refl _ | refine HSub.skip ?_ | refine HSub.skipN ?_))⟩ ⟨_, rfl, hO19.rd.at hk hs (by (repeat' first | exact HSub.nil _ | exact HSub.hd | exact HSub.in0 | exact HSub.refl _ | refine HSub.skip ?_ | refine HSub.skipN ?_))⟩) fun w v w' _ _ _ hR => ?_
      subst hR
      (repeat' (first | refine JO.nil ?_ | refine JX.thenN ?_ | (apply r_move; exact rfl; exact rfl; exact rfl) | (apply r_assign; exact rfl; exact rfl; exact rfl) | (apply r_pickT; exact rfl; exact rfl; exact rfl; exact rfl) | (apply r_eqBS; exact rfl; exact rfl; exact rfl; exact rfl) | refine JC.ret ?_))
      exact JX.ret1 rfl (fun a w' st => ⟨st.kp, rfl⟩)

end Go.Proofs.Ytdoogoglfbohaaa
