/- FieldEchelon: the walk. -/
import Derived.Test.YtdoogoglfbohaaaFldL0
namespace Go.Proofs.Ytdoogoglfbohaaa
open Go Go.RowKit
set_option linter.unusedSimpArgs false
set_option linter.unusedVariables false
set_option linter.unusedSectionVars false

theorem Rt.ech {m : NM} (hm : Rt m) : Rt (echM m) := by
  haveI := hm.pr.nz
  exact ⟨hm.pr, hm.r, hm.c, (ech_els hm.big).len, (ech_els hm.big).lt⟩
theorem ech_idem {m : NM} (hm : Rt m) : echM (echM m) = echM m ∧ pivM (echM m) = pivM m := by
  haveI := hm.pr.nz
  have h := ech_same hm.big hm.ech.big rfl rfl rfl (ech_req hm.big)
  exact ⟨h.1.symm, h.2.symm⟩
theorem WN.cast {w : World} {v : Value} {n k : Nat} {xs : List Nat} (h : WN w v n xs) (e : n = k) : WN w v k xs := e ▸ h
theorem rank_mul' {n m : NM} (hn : Rt n) (hm : Rt m) (hp : n.p = m.p) (hc : n.c = m.r) : (pivM (mulM n m)).length ≤ (pivM m).length := rank_mul (hn.mul hm).big hm.big hp.symm rfl n hc rfl rfl rfl

set_option maxHeartbeats 8000000 in
theorem c_FieldEchelon (w : World) (v u : Value) (P R C P' R' C' : Nat) (L L' : List Int) (hv : IsS w v P R C L) (hu : IsS w u P' R' C' L') :
    Calls Try.prog 3 #[v, u] w (Ret fun v w' => Kp [] w w' ∧ v = .bool true) := by
  have hv0 := hv
  have hu0 := hu
  obtain ⟨h1, h2, h3, E, rfl, hE⟩ := hv
  obtain ⟨h1', h2', h3', E', rfl, hE'⟩ := hu
  have hm := Rt.shMat P R C L
  refine calls_of_S [⟨11, 1, [0, 1, 2, 3, 4, 5, 6, 7, 8, 9, 10, 11, 12, 13, 14, 15, 16, 18, 19, 17, 20, 21, 22, 23, 25, 24, 26, 27, 28, 29], []⟩] [] (by simp) [] Try.func3 rfl mixed (by kernel_rfl) Try.ntmps3 Try.results3 rfl ⟨by simp, by simp⟩ (by simp) ?_
  simp only [toS, textOps, toSOp, kindAt, kindOf, odAt, sopsAt, ordOf, zipF]
  (repeat' (first | refine JC.seq ?_ | refine JC.ops ?_ | refine JO.nil ?_ | refine JX.thenN ?_ | (apply r_assign; exact rfl; exact rfl; exact rfl) | (apply r_boxA; exact rfl; exact rfl; exact rfl; exact rfl; intro _)))
  rename_i b2 b3
  refine r_call0 trivial rfl rfl rfl (fun w hk hs => c_sanity w) fun w v w' _ _ _ hR => ?_
  subst hR
  (repeat' (first | refine JC.seq ?_ | refine JC.ops ?_ | refine JO.nil ?_ | refine JX.thenN ?_ | (apply r_assign; exact rfl; exact rfl; exact rfl) | (apply r_loadN; exact rfl; exact rfl; exact rfl; exact rfl; (first | exact at0 | exact at1 | exact at2 | exact at3 | exact at4 | exact at5 | exact at6 | exact at7); exact rfl)))
  refine r_callA (A := [_, _]) (B := []) rfl trivial rfl rfl rfl (fun w hk _ => c_Mat w _ P R C L (hv0.mono hk)) fun w v w' _ _ _ hR => ?_
  generalize shMat P R C L = m at *
  obtain ⟨N6, hN6, E6, rfl, hO6⟩ := hR
  obtain ⟨A6, c6, rfl⟩ := hO6.form
  refine ⟨N6, hN6, ?_⟩
  (repeat' (first | refine JO.nil ?_ | (apply r_allocZ; exact rfl; exact rfl; exact rfl; intro _) | (apply r_storeN; exact rfl; (first | exact trivial | exact ⟨rfl, rfl⟩); exact rfl; exact rfl; (first | exact at0 | exact at1 | exact at2 | exact at3 | exact at4 | exact at5 | exact at6 | exact at7); exact rfl; exact rfl; exact rfl)))
  rename_i b6
  refine JX.part (F' := [(6, .pointer (some ⟨b6, 0, none⟩)), (5, .bool true), (3, .pointer (some ⟨b3, 0, none⟩))]) (H' := [(b6, .cells #[nv m.p, nv m.r, nv m.c, .slice A6 m.e.length c6] 27), (b3, .cells #[.int .u8 (P' : Int), .int .u8 (R' : Int), .int .u8 (C' : Int), E'] 24)] ++ (N6 ++ [])) (by repeat first | exact trivial | refine ⟨rfl, ?_⟩) (by (repeat' first | exact HSub.refl _ | exact HSub.nil _ | refine HSub.at 0 rfl ?_ | refine HSub.at 1 rfl ?_ | refine HSub.at 2 rfl ?_ | refine HSub.at 3 rfl ?_ | refine HSub.at 4 rfl ?_ | refine HSub.at 5 rfl ?_ | refine HSub.at 6 rfl ?_ | refine HSub.at 7 rfl ?_ | refine HSub.at 8 rfl ?_ | refine HSub.at 9 rfl ?_ | refine HSub.at 10 rfl ?_ | refine HSub.at 11 rfl ?_ | refine HSub.at 12 rfl ?_ | refine HSub.at 13 rfl ?_ | refine HSub.at 14 rfl ?_ | refine HSub.at 15 rfl ?_ | refine HSub.at 16 rfl ?_ | refine HSub.at 17 rfl ?_ | refine HSub.at 18 rfl ?_ | refine HSub.at 19 rfl ?_ | refine HSub.segH ?_ | refine HSub.skip ?_ | refine HSub.skipN ?_)) ?_
  refine JX.thenN ?_
  (repeat' (first | refine JC.seq ?_ | refine JC.ops ?_ | (apply r_loadN; exact rfl; exact rfl; exact rfl; exact rfl; (first | exact at0 | exact at1 | exact at2 | exact at3 | exact at4 | exact at5 | exact at6 | exact at7); exact rfl)))
  refine r_callA (A := [_, _]) rfl trivial rfl rfl rfl (fun w hk hs => c_Echelon w _ m hm ⟨_, rfl, hO6.rd.at hk hs (by (repeat' first | exact HSub.nil _ | exact HSub.hd | exact HSub.in0 | exact HSub.refl _ | refine HSub.skip ?_ | refine HSub.skipN ?_))⟩) fun w v w' _ _ _ hR => ?_
  obtain ⟨N7, N8, u, x, rfl, hN7, ⟨E7, rfl, hO7⟩, hO8⟩ := hR
  have hred : NRed (echM m).r (echM m).c (echM m).e (pivM m) := NRed.of hm.big
  have hME := hm.ech
  have hpr := (Pvs.of hm.big).r
  have hmr := hm.r
  obtain ⟨hid1, hid2⟩ := ech_idem hm
  have hrm := fun n (hn : Rt n) (a : n.p = m.p) (b : n.c = m.r) => rank_mul' hn hm a b
  have hel := fun n i (hn : Rt n) (a : n.p = m.p) (b : n.c = m.r) (h : invM n = some i) => ech_left hn hm a b h
  have hep : (echM m).p = m.p := rfl
  have her : (echM m).r = m.r := rfl
  have hec : (echM m).c = m.c := rfl
  have hel2 := hME.len
  generalize hgm : echM m = em at *
  generalize hgl : pivM m = l at *
  obtain ⟨A7, c7, rfl⟩ := hO7.form
  obtain ⟨A8, c8, rfl⟩ := hO8.form
  refine ⟨N7 ++ N8, hN7, ?_⟩
  rw [List.append_assoc]
  (repeat' (first | refine JO.nil ?_ | (apply r_move; exact rfl; exact rfl; exact rfl) | (apply r_assign; exact rfl; exact rfl; exact rfl) | (apply r_extract; exact rfl; exact rfl; exact rfl; exact rfl) | (apply r_allocZ; exact rfl; exact rfl; exact rfl; intro _) | (apply r_storeN; exact rfl; (first | exact trivial | exact ⟨rfl, rfl⟩); exact rfl; exact rfl; (first | exact at0 | exact at1 | exact at2 | exact at3 | exact at4 | exact at5 | exact at6 | exact at7); exact rfl; exact rfl; exact rfl)))
  rename_i b7
  refine JX.part (F' := [(8, .slice A8 l.length c8), (7, .pointer (some ⟨b7, 0, none⟩)), (6, .pointer (some ⟨b6, 0, none⟩)), (5, .bool true), (3, .pointer (some ⟨b3, 0, none⟩))]) (H' := [(b7, .cells #[nv em.p, nv em.r, nv em.c, .slice A7 em.e.length c7] 27), (b6, .cells #[nv m.p, nv m.r, nv m.c, .slice A6 m.e.length c6] 27), (b3, .cells #[.int .u8 (P' : Int), .int .u8 (R' : Int), .int .u8 (C' : Int), E'] 24)] ++ (N7 ++ (N8 ++ (N6 ++ [])))) (by repeat first | exact trivial | refine ⟨rfl, ?_⟩) (by (repeat' first | exact HSub.refl _ | exact HSub.nil _ | refine HSub.at 0 rfl ?_ | refine HSub.at 1 rfl ?_ | refine HSub.at 2 rfl ?_ | refine HSub.at 3 rfl ?_ | refine HSub.at 4 rfl ?_ | refine HSub.at 5 rfl ?_ | refine HSub.at 6 rfl ?_ | refine HSub.at 7 rfl ?_ | refine HSub.at 8 rfl ?_ | refine HSub.at 9 rfl ?_ | refine HSub.at 10 rfl ?_ | refine HSub.at 11 rfl ?_ | refine HSub.at 12 rfl ?_ | refine HSub.at 13 rfl ?_ | refine HSub.at 14 rfl ?_ | refine HSub.at 15 rfl ?_ | refine HSub.at 16 rfl ?_ | refine HSub.at 17 rfl ?_ | refine HSub.at 18 rfl ?_ | refine HSub.at 19 rfl ?_ | refine HSub.segH ?_ | refine HSub.skip ?_ | refine HSub.skipN ?_)) ?_
  refine JX.thenN ?_
  (repeat' (first | refine JC.seq ?_ | refine JC.ops ?_ | (apply r_loadN; exact rfl; exact rfl; exact rfl; exact rfl; (first | exact at0 | exact at1 | exact at2 | exact at3 | exact at4 | exact at5 | exact at6 | exact at7); exact rfl)))
  refine r_callA (A := [_, _, _]) rfl trivial rfl rfl rfl (fun w hk hs => c_Echelon w _ em hME ⟨_, rfl, hO7.rd.at hk hs (by (repeat' first | exact HSub.nil _ | exact HSub.hd | exact HSub.in0 | exact HSub.refl _ | refine HSub.skip ?_ | refine HSub.skipN ?_))⟩) fun w v w' _ _ _ hR => ?_
  obtain ⟨N9, N10, u, x, rfl, hN9, ⟨E9, rfl, hO9⟩, hO10⟩ := hR
  rw [hid1] at hO9
  rw [hid2] at hO10
  obtain ⟨A9, c9, rfl⟩ := hO9.form
  obtain ⟨A10, c10, rfl⟩ := hO10.form
  refine ⟨N9 ++ N10, hN9, ?_⟩
  rw [List.append_assoc]
  (repeat' (first | refine JO.nil ?_ | (apply r_move; exact rfl; exact rfl; exact rfl) | (apply r_assign; exact rfl; exact rfl; exact rfl) | (apply r_extract; exact rfl; exact rfl; exact rfl; exact rfl) | (apply r_allocZ; exact rfl; exact rfl; exact rfl; intro _) | (apply r_storeN; exact rfl; (first | exact trivial | exact ⟨rfl, rfl⟩); exact rfl; exact rfl; (first | exact at0 | exact at1 | exact at2 | exact at3 | exact at4 | exact at5 | exact at6 | exact at7); exact rfl; exact rfl; exact rfl)))
  rename_i b9
  refine JX.part (F' := [(10, .slice A10 l.length c10), (9, .pointer (some ⟨b9, 0, none⟩)), (8, .slice A8 l.length c8), (7, .pointer (some ⟨b7, 0, none⟩)), (6, .pointer (some ⟨b6, 0, none⟩)), (5, .bool true), (3, .pointer (some ⟨b3, 0, none⟩))]) (H' := [(b9, .cells #[nv em.p, nv em.r, nv em.c, .slice A9 em.e.length c9] 27), (b7, .cells #[nv em.p, nv em.r, nv em.c, .slice A7 em.e.length c7] 27), (b6, .cells #[nv m.p, nv m.r, nv m.c, .slice A6 m.e.length c6] 27), (b3, .cells #[.int .u8 (P' : Int), .int .u8 (R' : Int), .int .u8 (C' : Int), E'] 24)] ++ (N9 ++ (N10 ++ (N7 ++ (N8 ++ (N6 ++ [])))))) (by repeat first | exact trivial | refine ⟨rfl, ?_⟩) (by (repeat' first | exact HSub.refl _ | exact HSub.nil _ | refine HSub.at 0 rfl ?_ | refine HSub.at 1 rfl ?_ | refine HSub.at 2 rfl ?_ | refine HSub.at 3 rfl ?_ | refine HSub.at 4 rfl ?_ | refine HSub.at 5 rfl ?_ | refine HSub.at 6 rfl ?_ | refine HSub.at 7 rfl ?_ | refine HSub.at 8 rfl ?_ | refine HSub.at 9 rfl ?_ | refine HSub.at 10 rfl ?_ | refine HSub.at 11 rfl ?_ | refine HSub.at 12 rfl ?_ | refine HSub.at 13 rfl ?_ | refine HSub.at 14 rfl ?_ | refine HSub.at 15 rfl ?_ | refine HSub.at 16 rfl ?_ | refine HSub.at 17 rfl ?_ | refine HSub.at 18 rfl ?_ | refine HSub.at 19 rfl ?_ | refine HSub.segH ?_ | refine HSub.skip ?_ | refine HSub.skipN ?_)) ?_
  refine JX.thenN ?_
  have hmlen := hm.len
  have hee : em.e.length = m.e.length := by rw [hel2, hmlen, her, hec]
  (repeat' (first | refine JC.seq ?_ | refine JC.ops ?_ | (apply r_move; exact rfl; exact rfl; exact rfl) | (apply r_fieldAddr; exact rfl; exact rfl; exact rfl) | (apply r_load; exact rfl; exact rfl; exact rfl; exact rfl; (first | exact at0 | exact at1 | exact at2 | exact at3 | exact at4 | exact at5 | exact at6 | exact at7); exact rfl) | (apply r_loadN; exact rfl; exact rfl; exact rfl; exact rfl; (first | exact at0 | exact at1 | exact at2 | exact at3 | exact at4 | exact at5 | exact at6 | exact at7); exact rfl) | (apply r_len; exact rfl; exact rfl; exact rfl) | (apply r_pickF; exact rfl; exact rfl; exact rfl; exact rfl) | (apply r_neq; exact rfl; exact rfl; exact rfl; exact rfl; all_goals intro hc; all_goals try (exfalso; omega))))
  refine r_call0 trivial rfl rfl rfl (fun w hk hs => c_reduced w _ _ em.p em.r em.c em.e l hred hME.r hME.c (WN.cast (hO7.rd.at hk hs (by (repeat' first | exact HSub.nil _ | exact HSub.hd | exact HSub.in0 | exact HSub.refl _ | refine HSub.skip ?_ | refine HSub.skipN ?_))) hel2) (hO8.rd.at hk hs (by (repeat' first | exact HSub.nil _ | exact HSub.hd | exact HSub.in0 | exact HSub.refl _ | refine HSub.skip ?_ | refine HSub.skipN ?_)))) fun w v w' _ _ _ hR => ?_
  subst hR
  (repeat' (first | (apply r_move; exact rfl; exact rfl; exact rfl) | (apply r_loadN; exact rfl; exact rfl; exact rfl; exact rfl; (first | exact at0 | exact at1 | exact at2 | exact at3 | exact at4 | exact at5 | exact at6 | exact at7); exact rfl) | (apply r_pickF; exact rfl; exact rfl; exact rfl; exact rfl) | (apply r_not; exact rfl; exact rfl; exact rfl)))
  refine r_call0 trivial rfl rfl rfl (fun w hk hs => c_EqualT w _ _ em hME ⟨_, rfl, hO7.rd.at hk hs (by (repeat' first | exact HSub.nil _ | exact HSub.hd | exact HSub.in0 | exact HSub.refl _ | refine HSub.skip ?_ | refine HSub.skipN ?_))⟩ ⟨_, rfl, hO9.rd.at hk hs (by (repeat' first | exact HSub.nil _ | exact HSub.hd | exact HSub.in0 | exact HSub.refl _ | refine HSub.skip ?_ | refine HSub.skipN ?_))⟩) fun w v w' _ _ _ hR => ?_
  subst hR
  (repeat' (first | (apply r_move; exact rfl; exact rfl; exact rfl) | (apply r_pickF; exact rfl; exact rfl; exact rfl; exact rfl) | (apply r_not; exact rfl; exact rfl; exact rfl)))
  refine r_call0 trivial rfl rfl rfl (fun w hk hs => c_IntsT w _ _ l.length (ints l) (WN.int (hO8.rd.at hk hs (by (repeat' first | exact HSub.nil _ | exact HSub.hd | exact HSub.in0 | exact HSub.refl _ | refine HSub.skip ?_ | refine HSub.skipN ?_)))) (WN.int (hO10.rd.at hk hs (by (repeat' first | exact HSub.nil _ | exact HSub.hd | exact HSub.in0 | exact HSub.refl _ | refine HSub.skip ?_ | refine HSub.skipN ?_)))) (by omega)) fun w v w' _ _ _ hR => ?_
  subst hR
  (repeat' (first | refine JC.seq ?_ | refine JC.ops ?_ | refine JO.nil ?_ | refine JX.thenN ?_ | (apply r_fieldAddr; exact rfl; exact rfl; exact rfl) | (apply r_load; exact rfl; exact rfl; exact rfl; exact rfl; (first | exact at0 | exact at1 | exact at2 | exact at3 | exact at4 | exact at5 | exact at6 | exact at7); exact rfl) | (apply r_loadN; exact rfl; exact rfl; exact rfl; exact rfl; (first | exact at0 | exact at1 | exact at2 | exact at3 | exact at4 | exact at5 | exact at6 | exact at7); exact rfl) | (apply r_pickF; exact rfl; exact rfl; exact rfl; exact rfl) | (apply r_not; exact rfl; exact rfl; exact rfl) | refine JC.skip ?_ | refine JC.condF rfl ?_))
  refine r_callA (A := [_, _, _, _]) rfl trivial rfl rfl rfl (fun w hk hs => c_With w _ P' R' C' m.p m.r m.r L' (hu0.mono hk) hm.pr hm.r hm.r) fun w v w' _ _ _ hR => ?_
  have hn := Rt.sh (L := L') hm.pr hm.r hm.r
  have hnp : (shM L' m.p m.r m.r).p = m.p := rfl
  have hnr : (shM L' m.p m.r m.r).r = m.r := rfl
  have hnc : (shM L' m.p m.r m.r).c = m.r := rfl
  generalize shM L' m.p m.r m.r = n at *
  obtain ⟨N11, hN11, E11, rfl, hO11⟩ := hR
  obtain ⟨A11, c11, rfl⟩ := hO11.form
  refine ⟨N11, hN11, ?_⟩
  (repeat' (first | refine JO.nil ?_ | (apply r_allocZ; exact rfl; exact rfl; exact rfl; intro _) | (apply r_storeN; exact rfl; (first | exact trivial | exact ⟨rfl, rfl⟩); exact rfl; exact rfl; (first | exact at0 | exact at1 | exact at2 | exact at3 | exact at4 | exact at5 | exact at6 | exact at7); exact rfl; exact rfl; exact rfl)))
  rename_i b11
  refine JX.part (F' := [(11, .pointer (some ⟨b11, 0, none⟩)), (8, .slice A8 l.length c8), (7, .pointer (some ⟨b7, 0, none⟩)), (6, .pointer (some ⟨b6, 0, none⟩)), (5, .bool true)]) (H' := [(b11, .cells #[nv n.p, nv n.r, nv n.c, .slice A11 n.e.length c11] 27), (b7, .cells #[nv em.p, nv em.r, nv em.c, .slice A7 em.e.length c7] 27), (b6, .cells #[nv m.p, nv m.r, nv m.c, .slice A6 m.e.length c6] 27)] ++ (N11 ++ (N7 ++ (N8 ++ (N6 ++ []))))) (by repeat first | exact trivial | refine ⟨rfl, ?_⟩) (by (repeat' first | exact HSub.refl _ | exact HSub.nil _ | refine HSub.at 0 rfl ?_ | refine HSub.at 1 rfl ?_ | refine HSub.at 2 rfl ?_ | refine HSub.at 3 rfl ?_ | refine HSub.at 4 rfl ?_ | refine HSub.at 5 rfl ?_ | refine HSub.at 6 rfl ?_ | refine HSub.at 7 rfl ?_ | refine HSub.at 8 rfl ?_ | refine HSub.at 9 rfl ?_ | refine HSub.at 10 rfl ?_ | refine HSub.at 11 rfl ?_ | refine HSub.at 12 rfl ?_ | refine HSub.at 13 rfl ?_ | refine HSub.at 14 rfl ?_ | refine HSub.at 15 rfl ?_ | refine HSub.at 16 rfl ?_ | refine HSub.at 17 rfl ?_ | refine HSub.at 18 rfl ?_ | refine HSub.at 19 rfl ?_ | refine HSub.segH ?_ | refine HSub.skip ?_ | refine HSub.skipN ?_)) ?_
  refine JX.thenN ?_
  have hrm := hrm n hn hnp hnc
  (repeat' (first | refine JC.seq ?_ | refine JC.ops ?_ | (apply r_loadN; exact rfl; exact rfl; exact rfl; exact rfl; (first | exact at0 | exact at1 | exact at2 | exact at3 | exact at4 | exact at5 | exact at6 | exact at7); exact rfl)))
  refine r_callA (A := [_, _, _]) rfl trivial rfl rfl rfl (fun w hk hs => c_Inverse w _ n hn ⟨_, rfl, hO11.rd.at hk hs (by (repeat' first | exact HSub.nil _ | exact HSub.hd | exact HSub.in0 | exact HSub.refl _ | refine HSub.skip ?_ | refine HSub.skipN ?_))⟩) fun w v w' _ _ _ hR => ?_
  have hR := GivesO.of hR
  obtain ⟨N12, u, rfl, hN12, E12, rfl, hO12⟩ := hR
  obtain ⟨A12, c12, rfl⟩ := hO12.form
  unfold fmV
  refine ⟨N12, hN12, ?_⟩
  (repeat' (first | refine JO.nil ?_ | (apply r_move; exact rfl; exact rfl; exact rfl) | (apply r_assign; exact rfl; exact rfl; exact rfl) | (apply r_extract; exact rfl; exact rfl; exact rfl; exact rfl) | (apply r_allocZ; exact rfl; exact rfl; exact rfl; intro _) | (apply r_storeN; exact rfl; (first | exact trivial | exact ⟨rfl, rfl⟩); exact rfl; exact rfl; (first | exact at0 | exact at1 | exact at2 | exact at3 | exact at4 | exact at5 | exact at6 | exact at7); exact rfl; exact rfl; exact rfl)))
  rename_i b12
  refine JX.part (F' := [(13, .bool (invM n).isSome), (11, .pointer (some ⟨b11, 0, none⟩)), (8, .slice A8 l.length c8), (7, .pointer (some ⟨b7, 0, none⟩)), (6, .pointer (some ⟨b6, 0, none⟩)), (5, .bool true)]) (H' := [(b11, .cells #[nv n.p, nv n.r, nv n.c, .slice A11 n.e.length c11] 27), (b7, .cells #[nv em.p, nv em.r, nv em.c, .slice A7 em.e.length c7] 27), (b6, .cells #[nv m.p, nv m.r, nv m.c, .slice A6 m.e.length c6] 27)] ++ (N11 ++ (N7 ++ (N8 ++ (N6 ++ []))))) (by repeat first | exact trivial | refine ⟨rfl, ?_⟩) (by (repeat' first | exact HSub.refl _ | exact HSub.nil _ | refine HSub.at 0 rfl ?_ | refine HSub.at 1 rfl ?_ | refine HSub.at 2 rfl ?_ | refine HSub.at 3 rfl ?_ | refine HSub.at 4 rfl ?_ | refine HSub.at 5 rfl ?_ | refine HSub.at 6 rfl ?_ | refine HSub.at 7 rfl ?_ | refine HSub.at 8 rfl ?_ | refine HSub.at 9 rfl ?_ | refine HSub.at 10 rfl ?_ | refine HSub.at 11 rfl ?_ | refine HSub.at 12 rfl ?_ | refine HSub.at 13 rfl ?_ | refine HSub.at 14 rfl ?_ | refine HSub.at 15 rfl ?_ | refine HSub.at 16 rfl ?_ | refine HSub.at 17 rfl ?_ | refine HSub.at 18 rfl ?_ | refine HSub.at 19 rfl ?_ | refine HSub.segH ?_ | refine HSub.skip ?_ | refine HSub.skipN ?_)) ?_
  refine JX.thenN ?_
  have hel := fun i h => hel n i hn hnp hnc h
  generalize hi : invM n = o at *
  (repeat' (first | refine JC.seq ?_ | refine JC.ops ?_ | (apply r_loadN; exact rfl; exact rfl; exact rfl; exact rfl; (first | exact at0 | exact at1 | exact at2 | exact at3 | exact at4 | exact at5 | exact at6 | exact at7); exact rfl)))
  refine r_callA (A := [_, _, _]) rfl trivial rfl rfl rfl (fun w hk hs => c_Mul w _ _ n m hn hm hnp hnc ⟨_, rfl, hO11.rd.at hk hs (by (repeat' first | exact HSub.nil _ | exact HSub.hd | exact HSub.in0 | exact HSub.refl _ | refine HSub.skip ?_ | refine HSub.skipN ?_))⟩ ⟨_, rfl, hO6.rd.at hk hs (by (repeat' first | exact HSub.nil _ | exact HSub.hd | exact HSub.in0 | exact HSub.refl _ | refine HSub.skip ?_ | refine HSub.skipN ?_))⟩) fun w v w' _ _ _ hR => ?_
  have hnm := hn.mul hm
  generalize mulM n m = nm at *
  obtain ⟨N14, u, rfl, hN14, E14, rfl, hO14⟩ := hR
  obtain ⟨A14, c14, rfl⟩ := hO14.form
  refine ⟨N14, hN14, ?_⟩
  (repeat' (first | refine JO.nil ?_ | (apply r_move; exact rfl; exact rfl; exact rfl) | (apply r_assign; exact rfl; exact rfl; exact rfl) | (apply r_extract; exact rfl; exact rfl; exact rfl; exact rfl) | (apply r_allocZ; exact rfl; exact rfl; exact rfl; intro _) | (apply r_storeN; exact rfl; (first | exact trivial | exact ⟨rfl, rfl⟩); exact rfl; exact rfl; (first | exact at0 | exact at1 | exact at2 | exact at3 | exact at4 | exact at5 | exact at6 | exact at7); exact rfl; exact rfl; exact rfl)))
  rename_i b14
  refine JX.part (F' := [(14, .pointer (some ⟨b14, 0, none⟩)), (13, .bool o.isSome), (8, .slice A8 l.length c8), (7, .pointer (some ⟨b7, 0, none⟩)), (6, .pointer (some ⟨b6, 0, none⟩)), (5, .bool true)]) (H' := [(b14, .cells #[nv nm.p, nv nm.r, nv nm.c, .slice A14 nm.e.length c14] 27), (b7, .cells #[nv em.p, nv em.r, nv em.c, .slice A7 em.e.length c7] 27), (b6, .cells #[nv m.p, nv m.r, nv m.c, .slice A6 m.e.length c6] 27)] ++ (N14 ++ (N7 ++ (N8 ++ (N6 ++ []))))) (by repeat first | exact trivial | refine ⟨rfl, ?_⟩) (by (repeat' first | exact HSub.refl _ | exact HSub.nil _ | refine HSub.at 0 rfl ?_ | refine HSub.at 1 rfl ?_ | refine HSub.at 2 rfl ?_ | refine HSub.at 3 rfl ?_ | refine HSub.at 4 rfl ?_ | refine HSub.at 5 rfl ?_ | refine HSub.at 6 rfl ?_ | refine HSub.at 7 rfl ?_ | refine HSub.at 8 rfl ?_ | refine HSub.at 9 rfl ?_ | refine HSub.at 10 rfl ?_ | refine HSub.at 11 rfl ?_ | refine HSub.at 12 rfl ?_ | refine HSub.at 13 rfl ?_ | refine HSub.at 14 rfl ?_ | refine HSub.at 15 rfl ?_ | refine HSub.at 16 rfl ?_ | refine HSub.at 17 rfl ?_ | refine HSub.at 18 rfl ?_ | refine HSub.at 19 rfl ?_ | refine HSub.segH ?_ | refine HSub.skip ?_ | refine HSub.skipN ?_)) ?_
  refine JX.thenN ?_
  (repeat' (first | refine JC.seq ?_ | refine JC.ops ?_ | (apply r_loadN; exact rfl; exact rfl; exact rfl; exact rfl; (first | exact at0 | exact at1 | exact at2 | exact at3 | exact at4 | exact at5 | exact at6 | exact at7); exact rfl)))
  refine r_callA (A := [_, _, _]) rfl trivial rfl rfl rfl (fun w hk hs => c_Echelon w _ nm hnm ⟨_, rfl, hO14.rd.at hk hs (by (repeat' first | exact HSub.nil _ | exact HSub.hd | exact HSub.in0 | exact HSub.refl _ | refine HSub.skip ?_ | refine HSub.skipN ?_))⟩) fun w v w' _ _ _ hR => ?_
  obtain ⟨N16, N17, u, x, rfl, hN16, ⟨E16, rfl, hO16⟩, hO17⟩ := hR
  have hnE := hnm.ech
  have hkr := (Pvs.of hnm.big).r
  have hnmr := hnm.r
  generalize hgn : echM nm = en at *
  generalize hgk : pivM nm = k at *
  obtain ⟨A16, c16, rfl⟩ := hO16.form
  obtain ⟨A17, c17, rfl⟩ := hO17.form
  refine ⟨N16 ++ N17, hN16, ?_⟩
  rw [List.append_assoc]
  (repeat' (first | refine JO.nil ?_ | (apply r_move; exact rfl; exact rfl; exact rfl) | (apply r_assign; exact rfl; exact rfl; exact rfl) | (apply r_extract; exact rfl; exact rfl; exact rfl; exact rfl) | (apply r_allocZ; exact rfl; exact rfl; exact rfl; intro _) | (apply r_storeN; exact rfl; (first | exact trivial | exact ⟨rfl, rfl⟩); exact rfl; exact rfl; (first | exact at0 | exact at1 | exact at2 | exact at3 | exact at4 | exact at5 | exact at6 | exact at7); exact rfl; exact rfl; exact rfl)))
  rename_i b16
  refine JX.part (F' := [(17, .slice A17 k.length c17), (16, .pointer (some ⟨b16, 0, none⟩)), (14, .pointer (some ⟨b14, 0, none⟩)), (13, .bool o.isSome), (8, .slice A8 l.length c8), (7, .pointer (some ⟨b7, 0, none⟩)), (6, .pointer (some ⟨b6, 0, none⟩)), (5, .bool true)]) (H' := [(b16, .cells #[nv en.p, nv en.r, nv en.c, .slice A16 en.e.length c16] 27), (b14, .cells #[nv nm.p, nv nm.r, nv nm.c, .slice A14 nm.e.length c14] 27), (b7, .cells #[nv em.p, nv em.r, nv em.c, .slice A7 em.e.length c7] 27), (b6, .cells #[nv m.p, nv m.r, nv m.c, .slice A6 m.e.length c6] 27)] ++ (N16 ++ (N17 ++ (N14 ++ (N7 ++ (N8 ++ (N6 ++ []))))))) (by repeat first | exact trivial | refine ⟨rfl, ?_⟩) (by (repeat' first | exact HSub.refl _ | exact HSub.nil _ | refine HSub.at 0 rfl ?_ | refine HSub.at 1 rfl ?_ | refine HSub.at 2 rfl ?_ | refine HSub.at 3 rfl ?_ | refine HSub.at 4 rfl ?_ | refine HSub.at 5 rfl ?_ | refine HSub.at 6 rfl ?_ | refine HSub.at 7 rfl ?_ | refine HSub.at 8 rfl ?_ | refine HSub.at 9 rfl ?_ | refine HSub.at 10 rfl ?_ | refine HSub.at 11 rfl ?_ | refine HSub.at 12 rfl ?_ | refine HSub.at 13 rfl ?_ | refine HSub.at 14 rfl ?_ | refine HSub.at 15 rfl ?_ | refine HSub.at 16 rfl ?_ | refine HSub.at 17 rfl ?_ | refine HSub.at 18 rfl ?_ | refine HSub.at 19 rfl ?_ | refine HSub.segH ?_ | refine HSub.skip ?_ | refine HSub.skipN ?_)) ?_
  refine JX.thenN ?_
  rcases o with _ | i
  · simp only [Option.isSome_none]
    (repeat' (first | refine JC.seq ?_ | refine JC.opsD ?_ | (apply r_move; exact rfl; exact rfl; exact rfl) | (apply r_loadN; exact rfl; exact rfl; exact rfl; exact rfl; (first | exact at0 | exact at1 | exact at2 | exact at3 | exact at4 | exact at5 | exact at6 | exact at7); exact rfl) | (apply r_len; exact rfl; exact rfl; exact rfl) | (apply r_pickT; exact rfl; exact rfl; exact rfl; exact rfl) | (apply r_not; exact rfl; exact rfl; exact rfl) | (apply r_skip; exact rfl; exact rfl; (first | (intro h; cases h; done) | (intro _; rfl)))))
    refine r_call0 trivial rfl rfl rfl (fun w hk hs => c_Rank w _ m.fm (IsM.int ⟨_, rfl, hO6.rd.at hk hs (by (repeat' first | exact HSub.nil _ | exact HSub.hd | exact HSub.in0 | exact HSub.refl _ | refine HSub.skip ?_ | refine HSub.skipN ?_))⟩) hm.flen) fun w v w' _ _ _ hR => ?_
    subst hR
    rw [rankF_fm hm, hgl]
    (repeat' (first | (apply r_move; exact rfl; exact rfl; exact rfl) | (apply r_loadN; exact rfl; exact rfl; exact rfl; exact rfl; (first | exact at0 | exact at1 | exact at2 | exact at3 | exact at4 | exact at5 | exact at6 | exact at7); exact rfl) | (apply r_pickT; exact rfl; exact rfl; exact rfl; exact rfl) | (apply r_eql; exact rfl; exact rfl; exact rfl; exact rfl; all_goals intro hc; all_goals try (exfalso; omega))))
    refine r_call0 trivial rfl rfl rfl (fun w hk hs => c_Rank w _ nm.fm (IsM.int ⟨_, rfl, hO14.rd.at hk hs (by (repeat' first | exact HSub.nil _ | exact HSub.hd | exact HSub.in0 | exact HSub.refl _ | refine HSub.skip ?_ | refine HSub.skipN ?_))⟩) hnm.flen) fun w v w' _ _ _ hR => ?_
    subst hR
    rw [rankF_fm hnm, hgk]
    skip
    refine r_call0 trivial rfl rfl rfl (fun w hk hs => c_Rank w _ m.fm (IsM.int ⟨_, rfl, hO6.rd.at hk hs (by (repeat' first | exact HSub.nil _ | exact HSub.hd | exact HSub.in0 | exact HSub.refl _ | refine HSub.skip ?_ | refine HSub.skipN ?_))⟩) hm.flen) fun w v w' _ _ _ hR => ?_
    subst hR
    rw [rankF_fm hm, hgl]
    (repeat' (first | refine JO.nil ?_ | refine JX.thenN ?_ | (apply r_assign; exact rfl; exact rfl; exact rfl) | (apply r_pickT; exact rfl; exact rfl; exact rfl; exact rfl) | (apply r_leq; exact rfl; exact rfl; exact rfl; exact rfl; all_goals intro hc; all_goals try (exfalso; omega)) | refine JC.ret ?_))
    exact JX.ret1 rfl (fun a w' st => ⟨st.kp, rfl⟩)
  · simp only [Option.isSome_some]
    obtain ⟨rfl, rfl⟩ : en = em ∧ k = l := hel i rfl
    (repeat' (first | refine JC.seq ?_ | refine JC.opsD ?_ | (apply r_move; exact rfl; exact rfl; exact rfl) | (apply r_loadN; exact rfl; exact rfl; exact rfl; exact rfl; (first | exact at0 | exact at1 | exact at2 | exact at3 | exact at4 | exact at5 | exact at6 | exact at7); exact rfl) | (apply r_not; exact rfl; exact rfl; exact rfl)))
    refine r_call0 trivial rfl rfl rfl (fun w hk hs => c_EqualT w _ _ en hME ⟨_, rfl, hO7.rd.at hk hs (by (repeat' first | exact HSub.nil _ | exact HSub.hd | exact HSub.in0 | exact HSub.refl _ | refine HSub.skip ?_ | refine HSub.skipN ?_))⟩ ⟨_, rfl, hO16.rd.at hk hs (by (repeat' first | exact HSub.nil _ | exact HSub.hd | exact HSub.in0 | exact HSub.refl _ | refine HSub.skip ?_ | refine HSub.skipN ?_))⟩) fun w v w' _ _ _ hR => ?_
    subst hR
    (repeat' (first | (apply r_move; exact rfl; exact rfl; exact rfl)))
    refine r_call0 trivial rfl rfl rfl (fun w hk hs => c_IntsT w _ _ k.length (ints k) (WN.int (hO8.rd.at hk hs (by (repeat' first | exact HSub.nil _ | exact HSub.hd | exact HSub.in0 | exact HSub.refl _ | refine HSub.skip ?_ | refine HSub.skipN ?_)))) (WN.int (hO17.rd.at hk hs (by (repeat' first | exact HSub.nil _ | exact HSub.hd | exact HSub.in0 | exact HSub.refl _ | refine HSub.skip ?_ | refine HSub.skipN ?_)))) (by omega)) fun w v w' _ _ _ hR => ?_
    subst hR
    (repeat' (first | (apply r_move; exact rfl; exact rfl; exact rfl) | (apply r_loadN; exact rfl; exact rfl; exact rfl; exact rfl; (first | exact at0 | exact at1 | exact at2 | exact at3 | exact at4 | exact at5 | exact at6 | exact at7); exact rfl) | (apply r_len; exact rfl; exact rfl; exact rfl) | (apply r_pickT; exact rfl; exact rfl; exact rfl; exact rfl) | (apply r_pickF; exact rfl; exact rfl; exact rfl; exact rfl)))
    refine r_call0 trivial rfl rfl rfl (fun w hk hs => c_Rank w _ m.fm (IsM.int ⟨_, rfl, hO6.rd.at hk hs (by (repeat' first | exact HSub.nil _ | exact HSub.hd | exact HSub.in0 | exact HSub.refl _ | refine HSub.skip ?_ | refine HSub.skipN ?_))⟩) hm.flen) fun w v w' _ _ _ hR => ?_
    subst hR
    rw [rankF_fm hm, hgl]
    (repeat' (first | (apply r_move; exact rfl; exact rfl; exact rfl) | (apply r_loadN; exact rfl; exact rfl; exact rfl; exact rfl; (first | exact at0 | exact at1 | exact at2 | exact at3 | exact at4 | exact at5 | exact at6 | exact at7); exact rfl) | (apply r_pickT; exact rfl; exact rfl; exact rfl; exact rfl) | (apply r_eql; exact rfl; exact rfl; exact rfl; exact rfl; all_goals intro hc; all_goals try (exfalso; omega))))
    refine r_call0 trivial rfl rfl rfl (fun w hk hs => c_Rank w _ nm.fm (IsM.int ⟨_, rfl, hO14.rd.at hk hs (by (repeat' first | exact HSub.nil _ | exact HSub.hd | exact HSub.in0 | exact HSub.refl _ | refine HSub.skip ?_ | refine HSub.skipN ?_))⟩) hnm.flen) fun w v w' _ _ _ hR => ?_
    subst hR
    rw [rankF_fm hnm, hgk]
    skip
    refine r_call0 trivial rfl rfl rfl (fun w hk hs => c_Rank w _ m.fm (IsM.int ⟨_, rfl, hO6.rd.at hk hs (by (repeat' first | exact HSub.nil _ | exact HSub.hd | exact HSub.in0 | exact HSub.refl _ | refine HSub.skip ?_ | refine HSub.skipN ?_))⟩) hm.flen) fun w v w' _ _ _ hR => ?_
    subst hR
    rw [rankF_fm hm, hgl]
    (repeat' (first | refine JO.nil ?_ | refine JX.thenN ?_ | (apply r_assign; exact rfl; exact rfl; exact rfl) | (apply r_pickT; exact rfl; exact rfl; exact rfl; exact rfl) | (apply r_leq; exact rfl; exact rfl; exact rfl; exact rfl; all_goals intro hc; all_goals try (exfalso; omega)) | refine JC.ret ?_))
    exact JX.ret1 rfl (fun a w' st => ⟨st.kp, rfl⟩)

end Go.Proofs.Ytdoogoglfbohaaa
