/- FieldSums: the walk. -/
import Derived.Test.YtdoogoglfbohaaaFldY0
namespace Go.Proofs.Ytdoogoglfbohaaa
open Go Go.RowKit
set_option linter.unusedSimpArgs false
set_option linter.unusedVariables false
set_option linter.unusedSectionVars false

theorem oF_len (o : Option NM) (h : ∀ m, o = some m → Rt m) : (oF o).E.length < 1000000000 := by
  cases o with
  | none => decide
  | some m => exact (h m rfl).flen
theorem addO_rt {m n : NM} (hm : Rt m) : ∀ x, addO m n = some x → Rt x := fun x h => by
  unfold addO at h
  split at h
  · cases h; exact hm.add
  · cases h
theorem mulO_rt {m n : NM} (hm : Rt m) (hn : Rt n) : ∀ x, mulO m n = some x → Rt x := fun x h => by
  unfold mulO at h
  split at h
  · cases h; exact hm.mul hn
  · cases h
theorem joinO_rt {m n : NM} (hm : Rt m) (hn : Rt n) : ∀ x, joinO m n = some x → Rt x := fun x h => by
  unfold joinO at h
  split at h
  · rename_i q; cases h; exact Rt.join hm hn q.1 q.2.2
  · cases h

/-- The k-th of four. -/
def pick4 {α : Type} (a b c d : α) (k : Nat) : α := match k with
  | 0 => a
  | 1 => b
  | 2 => c
  | _ => d

theorem pick4_cells {m0 m1 m2 m3 : NM} {E0 E1 E2 E3 : Value} {k : Nat} (hk : k < 4) : ∀ j, j < 4 → (⟨[nv m0.p, nv m0.r, nv m0.c, E0, nv m1.p, nv m1.r, nv m1.c, E1, nv m2.p, nv m2.r, nv m2.c, E2, nv m3.p, nv m3.r, nv m3.c, E3]⟩ : Array Value)[0 + k * 4 + j]? =
    (#[nv (pick4 m0 m1 m2 m3 k).p, nv (pick4 m0 m1 m2 m3 k).r, nv (pick4 m0 m1 m2 m3 k).c, pick4 E0 E1 E2 E3 k])[j]? := by
  intro j hj
  rcases (show k = 0 ∨ k = 1 ∨ k = 2 ∨ k = 3 by omega) with rfl | rfl | rfl | rfl <;> rcases (show j = 0 ∨ j = 1 ∨ j = 2 ∨ j = 3 by omega) with rfl | rfl | rfl | rfl <;> rfl

set_option maxHeartbeats 8000000 in
theorem c_FieldSums (w : World) (v u : Value) (P R C P' R' C' : Nat) (L L' : List Int) (hv : IsS w v P R C L) (hu : IsS w u P' R' C' L') :
    Calls Try.prog 10 #[v, u] w (Ret fun v w' => Kp [] w w' ∧ v = .bool true) := by
  have hv0 := hv
  have hu0 := hu
  obtain ⟨h1, h2, h3, E, rfl, hE⟩ := hv
  obtain ⟨h1', h2', h3', E', rfl, hE'⟩ := hu
  have hm := Rt.shMat P R C L
  have hn0 := Rt.shMat P' R' C' L'
  have hc7 : C' % 7 < 7 := Nat.mod_lt _ (by omega)
  refine calls_of_S [⟨3, 1, [0, 2, 3, 4, 5, 6, 7, 8, 10, 11, 12, 13, 14, 15, 16, 17, 18, 20, 21, 22, 23, 24, 1, 9, 19, 25, 26, 27], []⟩, ⟨7, 2, [], []⟩, ⟨8, 2, [], []⟩, ⟨9, 2, [], []⟩, ⟨10, 2, [], []⟩, ⟨11, 2, [], []⟩, ⟨12, 2, [], []⟩, ⟨15, 1, [0, 1, 2, 4, 3, 5, 6, 7, 8], []⟩] [] (by simp) [] Try.func10 rfl mixed (by kernel_rfl) Try.ntmps10 Try.results10 rfl ⟨by simp, by simp⟩ (by simp) ?_
  simp only [toS, textOps, toSOp, kindAt, kindOf, odAt, sopsAt, ordOf, zipF]
  (repeat' (first | refine JC.seq ?_ | refine JC.ops ?_ | refine JO.nil ?_ | refine JX.thenN ?_ | (apply r_assign; exact rfl; exact rfl; exact rfl) | (apply r_boxA; exact rfl; exact rfl; exact rfl; exact rfl; intro _)))
  refine r_call0 trivial rfl rfl rfl (fun w _ _ => c_sanity w) fun w v w' _ _ _ hR => ?_
  subst hR
  (repeat' (first | refine JC.seq ?_ | refine JC.ops ?_ | refine JO.nil ?_ | refine JX.thenN ?_ | (apply r_assign; exact rfl; exact rfl; exact rfl) | (apply r_loadN; exact rfl; exact rfl; exact rfl; exact rfl; (first | exact at0 | exact at1 | exact at2 | exact at3 | exact at4 | exact at5 | exact at6 | exact at7); exact rfl)))
  refine r_callA (A := [_, _]) (B := []) rfl trivial rfl rfl rfl (fun w hk _ => c_Mat w _ P R C L (hv0.mono hk)) fun w v w' _ _ _ hR => ?_
  generalize shMat P R C L = m at *
  obtain ⟨N, hN, Em, rfl, hO⟩ := hR
  obtain ⟨Am, cm, rfl⟩ := hO.form
  refine ⟨N, hN, ?_⟩
  (repeat' (first | refine JC.seq ?_ | refine JC.opsD ?_ | refine JO.nil ?_ | refine JX.thenN ?_ | (apply r_fieldAddr; exact rfl; exact rfl; exact rfl) | (apply r_load; exact rfl; exact rfl; exact rfl; exact rfl; (first | exact at0 | exact at1 | exact at2 | exact at3 | exact at4 | exact at5 | exact at6 | exact at7); exact rfl) | (apply r_loadN; exact rfl; exact rfl; exact rfl; exact rfl; (first | exact at0 | exact at1 | exact at2 | exact at3 | exact at4 | exact at5 | exact at6 | exact at7); exact rfl) | (apply r_allocZ; exact rfl; exact rfl; exact rfl; intro _) | (apply r_storeN; exact rfl; (first | exact trivial | exact ⟨rfl, rfl⟩); exact rfl; exact rfl; (first | exact at0 | exact at1 | exact at2 | exact at3 | exact at4 | exact at5 | exact at6 | exact at7); exact rfl; exact rfl; exact rfl)))
  rename_i b6
  refine r_modK (i := C') 7 rfl rfl rfl rfl (by omega) ?_
  (repeat' (first | (apply r_fieldAddr; exact rfl; exact rfl; exact rfl) | (apply r_load; exact rfl; exact rfl; exact rfl; exact rfl; (first | exact at0 | exact at1 | exact at2 | exact at3 | exact at4 | exact at5 | exact at6 | exact at7); exact rfl) | (apply r_loadN; exact rfl; exact rfl; exact rfl; exact rfl; (first | exact at0 | exact at1 | exact at2 | exact at3 | exact at4 | exact at5 | exact at6 | exact at7); exact rfl) | (apply r_convN; exact rfl; exact rfl; exact rfl; omega)))
  refine r_callA (A := [_, _, _]) rfl trivial rfl rfl rfl (fun w hk _ => c_Mat w _ P' R' C' L' (hu0.mono hk)) fun w v w' _ _ _ hR => ?_
  generalize shMat P' R' C' L' = m0 at *
  obtain ⟨N0, hN0, E0, rfl, hO0⟩ := hR
  obtain ⟨A0, c0, rfl⟩ := hO0.form
  refine ⟨N0, hN0, ?_⟩
  skip
  refine r_callA (A := [_, _, _]) rfl trivial rfl rfl rfl (fun w hk _ => c_With w _ P' R' C' m.p m.r m.c L' (hu0.mono hk) hm.pr hm.r hm.c) fun w v w' _ _ _ hR => ?_
  have hn1 := Rt.sh (L := L') hm.pr hm.r hm.c
  generalize shM L' m.p m.r m.c = m1 at *
  obtain ⟨N1, hN1, E1, rfl, hO1⟩ := hR
  obtain ⟨A1, c1, rfl⟩ := hO1.form
  refine ⟨N1, hN1, ?_⟩
  skip
  refine r_callA (A := [_, _, _]) rfl trivial rfl rfl rfl (fun w hk _ => c_With w _ P' R' C' m.p m.c (C' % 7) L' (hu0.mono hk) hm.pr hm.c (by omega)) fun w v w' _ _ _ hR => ?_
  have hn2 := Rt.sh (L := L') (c := C' % 7) hm.pr hm.c (by omega)
  generalize shM L' m.p m.c (C' % 7) = m2 at *
  obtain ⟨N2, hN2, E2, rfl, hO2⟩ := hR
  obtain ⟨A2, c2, rfl⟩ := hO2.form
  refine ⟨N2, hN2, ?_⟩
  skip
  refine r_callA (A := [_, _, _]) rfl trivial rfl rfl rfl (fun w hk _ => c_With w _ P' R' C' m.p m.r 398 L' (hu0.mono hk) hm.pr hm.r (by omega)) fun w v w' _ _ _ hR => ?_
  have hn3 := Rt.sh (L := L') (c := 398) hm.pr hm.r (by omega)
  generalize shM L' m.p m.r 398 = m3 at *
  obtain ⟨N3, hN3, E3, rfl, hO3⟩ := hR
  obtain ⟨A3, c3, rfl⟩ := hO3.form
  refine ⟨N3, hN3, ?_⟩
  skip
  refine r_buildG (sz := 4) (vs := [.agg #[nv m0.p, nv m0.r, nv m0.c, .slice A0 m0.e.length c0], .agg #[nv m1.p, nv m1.r, nv m1.c, .slice A1 m1.e.length c1], .agg #[nv m2.p, nv m2.r, nv m2.c, .slice A2 m2.e.length c2], .agg #[nv m3.p, nv m3.r, nv m3.c, .slice A3 m3.e.length c3]])
    (cl := [nv m0.p, nv m0.r, nv m0.c, .slice A0 m0.e.length c0, nv m1.p, nv m1.r, nv m1.c, .slice A1 m1.e.length c1, nv m2.p, nv m2.r, nv m2.c, .slice A2 m2.e.length c2, nv m3.p, nv m3.r, nv m3.c, .slice A3 m3.e.length c3]) rfl rfl rfl rfl rfl
    (fun v hv => by
      simp only [List.mem_cons, List.not_mem_nil, or_false] at hv
      rcases hv with rfl | rfl | rfl | rfl <;> rfl) rfl (by decide) (by decide) (fun b7 => ?_)
  (repeat' (first | refine JO.nil ?_ | (apply r_assign; exact rfl; exact rfl; exact rfl)))
  have hrm : ∀ c, RdN c (N3 ++ (N2 ++ (N1 ++ (N0 ++ (N ++ []))))) (.slice Am m.e.length cm) m.e.length m.e := fun c => hO.rd.up (by (repeat' first | exact HSub.nil _ | exact HSub.hd | exact HSub.in0 | exact HSub.refl _ | refine HSub.skip ?_ | refine HSub.skipN ?_))
  have hrd : ∀ k, k < 4 → ∀ c, RdN c (N3 ++ (N2 ++ (N1 ++ (N0 ++ (N ++ []))))) (pick4 (Value.slice A0 m0.e.length c0) (.slice A1 m1.e.length c1) (.slice A2 m2.e.length c2) (.slice A3 m3.e.length c3) k) (pick4 m0 m1 m2 m3 k).e.length (pick4 m0 m1 m2 m3 k).e := fun k hk c => by
    rcases (show k = 0 ∨ k = 1 ∨ k = 2 ∨ k = 3 by omega) with rfl | rfl | rfl | rfl
    · exact hO0.rd.up (by (repeat' first | exact HSub.nil _ | exact HSub.hd | exact HSub.in0 | exact HSub.refl _ | refine HSub.skip ?_ | refine HSub.skipN ?_))
    · exact hO1.rd.up (by (repeat' first | exact HSub.nil _ | exact HSub.hd | exact HSub.in0 | exact HSub.refl _ | refine HSub.skip ?_ | refine HSub.skipN ?_))
    · exact hO2.rd.up (by (repeat' first | exact HSub.nil _ | exact HSub.hd | exact HSub.in0 | exact HSub.refl _ | refine HSub.skip ?_ | refine HSub.skipN ?_))
    · exact hO3.rd.up (by (repeat' first | exact HSub.nil _ | exact HSub.hd | exact HSub.in0 | exact HSub.refl _ | refine HSub.skip ?_ | refine HSub.skipN ?_))
  have hrt : ∀ k, k < 4 → Rt (pick4 m0 m1 m2 m3 k) := fun k hk => by
    rcases (show k = 0 ∨ k = 1 ∨ k = 2 ∨ k = 3 by omega) with rfl | rfl | rfl | rfl
    · exact hn0
    · exact hn1
    · exact hn2
    · exact hn3
  have hcl := fun k (hk : k < 4) => pick4_cells (m0 := m0) (m1 := m1) (m2 := m2) (m3 := m3) (E0 := .slice A0 m0.e.length c0) (E1 := .slice A1 m1.e.length c1) (E2 := .slice A2 m2.e.length c2) (E3 := .slice A3 m3.e.length c3) (k := k) hk
  have hform : ∀ k, k < 4 → ∃ A n c, pick4 (Value.slice A0 m0.e.length c0) (.slice A1 m1.e.length c1) (.slice A2 m2.e.length c2) (.slice A3 m3.e.length c3) k = .slice A n c := fun k hk => by
    rcases (show k = 0 ∨ k = 1 ∨ k = 2 ∨ k = 3 by omega) with rfl | rfl | rfl | rfl <;> exact ⟨_, _, _, rfl⟩
  generalize N3 ++ (N2 ++ (N1 ++ (N0 ++ (N ++ [])))) = T at *
  generalize hcells : [nv m0.p, nv m0.r, nv m0.c, .slice A0 m0.e.length c0, nv m1.p, nv m1.r, nv m1.c, .slice A1 m1.e.length c1, nv m2.p, nv m2.r, nv m2.c, .slice A2 m2.e.length c2, nv m3.p, nv m3.r, nv m3.c, .slice A3 m3.e.length c3] = cl at *
  generalize pick4 (Value.slice A0 m0.e.length c0) (.slice A1 m1.e.length c1) (.slice A2 m2.e.length c2) (.slice A3 m3.e.length c3) = pE at *
  generalize pick4 m0 m1 m2 m3 = pm at *
  refine JX.part (F' := [(7, .slice (some ⟨b7, 0, none⟩) 4 4), (6, .pointer (some ⟨b6, 0, none⟩)), (5, .bool true)]) (H' := [(b7, .cells ⟨cl⟩ 27), (b6, .cells #[nv m.p, nv m.r, nv m.c, .slice Am m.e.length cm] 27)] ++ T) (by repeat first | exact trivial | refine ⟨rfl, ?_⟩) (by (repeat' first | exact HSub.refl _ | exact HSub.nil _ | refine HSub.at 0 rfl ?_ | refine HSub.at 1 rfl ?_ | refine HSub.at 2 rfl ?_ | refine HSub.at 3 rfl ?_ | refine HSub.at 4 rfl ?_ | refine HSub.at 5 rfl ?_ | refine HSub.at 6 rfl ?_ | refine HSub.at 7 rfl ?_ | refine HSub.at 8 rfl ?_ | refine HSub.at 9 rfl ?_ | refine HSub.at 10 rfl ?_ | refine HSub.at 11 rfl ?_ | refine HSub.at 12 rfl ?_ | refine HSub.at 13 rfl ?_ | refine HSub.at 14 rfl ?_ | refine HSub.at 15 rfl ?_ | refine HSub.at 16 rfl ?_ | refine HSub.at 17 rfl ?_ | refine HSub.at 18 rfl ?_ | refine HSub.at 19 rfl ?_ | refine HSub.segH ?_ | refine HSub.skip ?_ | refine HSub.skipN ?_)) ?_
  clear hO hO0 hO1 hO2 hO3
  refine JX.thenN ?_
  (repeat' (first | refine JC.seq ?_ | refine JC.ops ?_ | refine JO.nil ?_ | refine JX.thenN ?_ | (apply r_assign; exact rfl; exact rfl; exact rfl) | refine JC.block ?_))
  refine JC.loopH (ι := Nat) ⟨fun k => [(8, nv k), (7, .slice (some ⟨b7, 0, none⟩) 4 4), (6, .pointer (some ⟨b6, 0, none⟩)), (5, .bool true)], fun _ => [(b7, .cells ⟨cl⟩ 27), (b6, .cells #[nv m.p, nv m.r, nv m.c, .slice Am m.e.length cm] 27)] ++ T,
    fun k => k ≤ 4, fun k => 4 - k⟩ 0 (by dsimp only; omega) (by repeat first | exact trivial | refine ⟨rfl, ?_⟩) (HSub.refl _) (fun k hk => ?_)
  dsimp only at hk ⊢
  by_cases hk4 : k < 4
  · have hmk := hrt k hk4
    have hrk := hrd k hk4
    have hck := hcl k hk4
    obtain ⟨Ak, nk, ck, hEk⟩ := hform k hk4
    rw [hEk] at hrk hck
    generalize pm k = n at *
    (repeat' (first | refine JC.seq ?_ | refine JC.ops ?_ | refine JC.opsD ?_ | refine JO.nil ?_ | refine JX.thenN ?_ | (apply r_move; exact rfl; exact rfl; exact rfl) | (apply r_loadN; exact rfl; exact rfl; exact rfl; exact rfl; (first | exact at0 | exact at1 | exact at2 | exact at3 | exact at4 | exact at5 | exact at6 | exact at7); exact rfl) | (apply r_index; exact rfl; exact rfl; exact rfl; exact fun _ => rfl; exact rfl; omega) | (apply r_len; exact rfl; exact rfl; exact rfl) | (apply r_lss; exact rfl; exact rfl; exact rfl; exact rfl; all_goals intro hc; all_goals try (exfalso; omega)) | refine JC.skip ?_ | refine JC.condT rfl ?_ | refine JC.block ?_))
    refine r_loadM (n := 4) (vs := #[nv n.p, nv n.r, nv n.c, .slice Ak nk ck]) 0 rfl rfl rfl rfl rfl rfl hck ?_
    skip
    refine r_callA (A := [_, _]) rfl trivial rfl rfl rfl (fun w hk hs => c_AddG w _ _ m.fm n.fm (IsM.int ⟨_, rfl, (hrm _).at hk hs (by (repeat' first | exact HSub.nil _ | exact HSub.hd | exact HSub.in0 | exact HSub.refl _ | refine HSub.skip ?_ | refine HSub.skipN ?_))⟩) (IsM.int ⟨_, rfl, (hrk _).at hk hs (by (repeat' first | exact HSub.nil _ | exact HSub.hd | exact HSub.in0 | exact HSub.refl _ | refine HSub.skip ?_ | refine HSub.skipN ?_))⟩) hm.flen hmk.flen) fun w v w' _ _ _ hR => ?_
    rw [lift2_fm hm hmk] at hR
    obtain ⟨M9, _, rfl, hM9, F9, rfl, hP9⟩ := hR
    obtain ⟨B9, d9, rfl⟩ := hP9.form
    unfold fmV
    refine ⟨M9, hM9, ?_⟩
    (repeat' (first | refine JO.nil ?_ | (apply r_move; exact rfl; exact rfl; exact rfl) | (apply r_assign; exact rfl; exact rfl; exact rfl) | (apply r_extract; exact rfl; exact rfl; exact rfl; exact rfl) | (apply r_allocZ; exact rfl; exact rfl; exact rfl; intro _) | (apply r_storeN; exact rfl; (first | exact trivial | exact ⟨rfl, rfl⟩); exact rfl; exact rfl; (first | exact at0 | exact at1 | exact at2 | exact at3 | exact at4 | exact at5 | exact at6 | exact at7); exact rfl; exact rfl; exact rfl)))
    rename_i b9
    refine JX.part (F' := [(10, .bool (addO m n).isSome), (9, .pointer (some ⟨b9, 0, none⟩)), (8, nv k), (7, .slice (some ⟨b7, 0, none⟩) 4 4), (6, .pointer (some ⟨b6, 0, none⟩)), (5, .bool true)]) (H' := [(b9, .cells #[iv (oF (addO m n)).P, iv (oF (addO m n)).R, iv (oF (addO m n)).C, .slice B9 (oF (addO m n)).E.length d9] 27), (b7, .cells ⟨cl⟩ 27), (b6, .cells #[nv m.p, nv m.r, nv m.c, .slice Am m.e.length cm] 27)] ++ (M9 ++ T)) (by repeat first | exact trivial | refine ⟨rfl, ?_⟩) (by (repeat' first | exact HSub.refl _ | exact HSub.nil _ | refine HSub.at 0 rfl ?_ | refine HSub.at 1 rfl ?_ | refine HSub.at 2 rfl ?_ | refine HSub.at 3 rfl ?_ | refine HSub.at 4 rfl ?_ | refine HSub.at 5 rfl ?_ | refine HSub.at 6 rfl ?_ | refine HSub.at 7 rfl ?_ | refine HSub.at 8 rfl ?_ | refine HSub.at 9 rfl ?_ | refine HSub.at 10 rfl ?_ | refine HSub.at 11 rfl ?_ | refine HSub.at 12 rfl ?_ | refine HSub.at 13 rfl ?_ | refine HSub.at 14 rfl ?_ | refine HSub.at 15 rfl ?_ | refine HSub.at 16 rfl ?_ | refine HSub.at 17 rfl ?_ | refine HSub.at 18 rfl ?_ | refine HSub.at 19 rfl ?_ | refine HSub.segH ?_ | refine HSub.skip ?_ | refine HSub.skipN ?_)) ?_
    refine JX.thenN ?_
    (repeat' (first | refine JC.seq ?_ | refine JC.opsD ?_ | (apply r_move; exact rfl; exact rfl; exact rfl) | (apply r_loadN; exact rfl; exact rfl; exact rfl; exact rfl; (first | exact at0 | exact at1 | exact at2 | exact at3 | exact at4 | exact at5 | exact at6 | exact at7); exact rfl) | (apply r_index; exact rfl; exact rfl; exact rfl; exact fun _ => rfl; exact rfl; omega)))
    refine r_loadM (n := 4) (vs := #[nv n.p, nv n.r, nv n.c, .slice Ak nk ck]) 1 rfl rfl rfl rfl rfl rfl hck ?_
    skip
    refine r_callA (A := [_, _, _]) rfl trivial rfl rfl rfl (fun w hk hs => c_refAddG w _ _ m.fm n.fm (IsM.int ⟨_, rfl, (hrm _).at hk hs (by (repeat' first | exact HSub.nil _ | exact HSub.hd | exact HSub.in0 | exact HSub.refl _ | refine HSub.skip ?_ | refine HSub.skipN ?_))⟩) (IsM.int ⟨_, rfl, (hrk _).at hk hs (by (repeat' first | exact HSub.nil _ | exact HSub.hd | exact HSub.in0 | exact HSub.refl _ | refine HSub.skip ?_ | refine HSub.skipN ?_))⟩) hm.flen hmk.flen) fun w v w' _ _ _ hR => ?_
    rw [lift2_fm hm hmk] at hR
    obtain ⟨M11, _, rfl, hM11, F11, rfl, hP11⟩ := hR
    obtain ⟨B11, d11, rfl⟩ := hP11.form
    unfold fmV
    refine ⟨M11, hM11, ?_⟩
    (repeat' (first | refine JO.nil ?_ | (apply r_move; exact rfl; exact rfl; exact rfl) | (apply r_assign; exact rfl; exact rfl; exact rfl) | (apply r_extract; exact rfl; exact rfl; exact rfl; exact rfl) | (apply r_allocZ; exact rfl; exact rfl; exact rfl; intro _) | (apply r_storeN; exact rfl; (first | exact trivial | exact ⟨rfl, rfl⟩); exact rfl; exact rfl; (first | exact at0 | exact at1 | exact at2 | exact at3 | exact at4 | exact at5 | exact at6 | exact at7); exact rfl; exact rfl; exact rfl)))
    rename_i b11
    refine JX.part (F' := [(12, .bool (addO m n).isSome), (11, .pointer (some ⟨b11, 0, none⟩)), (10, .bool (addO m n).isSome), (9, .pointer (some ⟨b9, 0, none⟩)), (8, nv k), (7, .slice (some ⟨b7, 0, none⟩) 4 4), (6, .pointer (some ⟨b6, 0, none⟩)), (5, .bool true)]) (H' := [(b11, .cells #[iv (oF (addO m n)).P, iv (oF (addO m n)).R, iv (oF (addO m n)).C, .slice B11 (oF (addO m n)).E.length d11] 27), (b9, .cells #[iv (oF (addO m n)).P, iv (oF (addO m n)).R, iv (oF (addO m n)).C, .slice B9 (oF (addO m n)).E.length d9] 27), (b7, .cells ⟨cl⟩ 27), (b6, .cells #[nv m.p, nv m.r, nv m.c, .slice Am m.e.length cm] 27)] ++ (M11 ++ (M9 ++ T))) (by repeat first | exact trivial | refine ⟨rfl, ?_⟩) (by (repeat' first | exact HSub.refl _ | exact HSub.nil _ | refine HSub.at 0 rfl ?_ | refine HSub.at 1 rfl ?_ | refine HSub.at 2 rfl ?_ | refine HSub.at 3 rfl ?_ | refine HSub.at 4 rfl ?_ | refine HSub.at 5 rfl ?_ | refine HSub.at 6 rfl ?_ | refine HSub.at 7 rfl ?_ | refine HSub.at 8 rfl ?_ | refine HSub.at 9 rfl ?_ | refine HSub.at 10 rfl ?_ | refine HSub.at 11 rfl ?_ | refine HSub.at 12 rfl ?_ | refine HSub.at 13 rfl ?_ | refine HSub.at 14 rfl ?_ | refine HSub.at 15 rfl ?_ | refine HSub.at 16 rfl ?_ | refine HSub.at 17 rfl ?_ | refine HSub.at 18 rfl ?_ | refine HSub.at 19 rfl ?_ | refine HSub.segH ?_ | refine HSub.skip ?_ | refine HSub.skipN ?_)) ?_
    refine JX.thenN ?_
    (repeat' (first | refine JC.seq ?_ | refine JC.opsD ?_ | (apply r_move; exact rfl; exact rfl; exact rfl) | (apply r_loadN; exact rfl; exact rfl; exact rfl; exact rfl; (first | exact at0 | exact at1 | exact at2 | exact at3 | exact at4 | exact at5 | exact at6 | exact at7); exact rfl) | (apply r_index; exact rfl; exact rfl; exact rfl; exact fun _ => rfl; exact rfl; omega)))
    refine r_loadM (n := 4) (vs := #[nv n.p, nv n.r, nv n.c, .slice Ak nk ck]) 2 rfl rfl rfl rfl rfl rfl hck ?_
    skip
    refine r_callA (A := [_, _, _, _]) rfl trivial rfl rfl rfl (fun w hk hs => c_MulG w _ _ m.fm n.fm (IsM.int ⟨_, rfl, (hrm _).at hk hs (by (repeat' first | exact HSub.nil _ | exact HSub.hd | exact HSub.in0 | exact HSub.refl _ | refine HSub.skip ?_ | refine HSub.skipN ?_))⟩) (IsM.int ⟨_, rfl, (hrk _).at hk hs (by (repeat' first | exact HSub.nil _ | exact HSub.hd | exact HSub.in0 | exact HSub.refl _ | refine HSub.skip ?_ | refine HSub.skipN ?_))⟩) hm.flen hmk.flen) fun w v w' _ _ _ hR => ?_
    rw [lift2_fm hm hmk] at hR
    obtain ⟨M13, _, rfl, hM13, F13, rfl, hP13⟩ := hR
    obtain ⟨B13, d13, rfl⟩ := hP13.form
    unfold fmV
    refine ⟨M13, hM13, ?_⟩
    (repeat' (first | refine JO.nil ?_ | (apply r_move; exact rfl; exact rfl; exact rfl) | (apply r_assign; exact rfl; exact rfl; exact rfl) | (apply r_extract; exact rfl; exact rfl; exact rfl; exact rfl) | (apply r_allocZ; exact rfl; exact rfl; exact rfl; intro _) | (apply r_storeN; exact rfl; (first | exact trivial | exact ⟨rfl, rfl⟩); exact rfl; exact rfl; (first | exact at0 | exact at1 | exact at2 | exact at3 | exact at4 | exact at5 | exact at6 | exact at7); exact rfl; exact rfl; exact rfl)))
    rename_i b13
    refine JX.part (F' := [(14, .bool (mulO m n).isSome), (13, .pointer (some ⟨b13, 0, none⟩)), (12, .bool (addO m n).isSome), (11, .pointer (some ⟨b11, 0, none⟩)), (10, .bool (addO m n).isSome), (9, .pointer (some ⟨b9, 0, none⟩)), (8, nv k), (7, .slice (some ⟨b7, 0, none⟩) 4 4), (6, .pointer (some ⟨b6, 0, none⟩)), (5, .bool true)]) (H' := [(b13, .cells #[iv (oF (mulO m n)).P, iv (oF (mulO m n)).R, iv (oF (mulO m n)).C, .slice B13 (oF (mulO m n)).E.length d13] 27), (b11, .cells #[iv (oF (addO m n)).P, iv (oF (addO m n)).R, iv (oF (addO m n)).C, .slice B11 (oF (addO m n)).E.length d11] 27), (b9, .cells #[iv (oF (addO m n)).P, iv (oF (addO m n)).R, iv (oF (addO m n)).C, .slice B9 (oF (addO m n)).E.length d9] 27), (b7, .cells ⟨cl⟩ 27), (b6, .cells #[nv m.p, nv m.r, nv m.c, .slice Am m.e.length cm] 27)] ++ (M13 ++ (M11 ++ (M9 ++ T)))) (by repeat first | exact trivial | refine ⟨rfl, ?_⟩) (by (repeat' first | exact HSub.refl _ | exact HSub.nil _ | refine HSub.at 0 rfl ?_ | refine HSub.at 1 rfl ?_ | refine HSub.at 2 rfl ?_ | refine HSub.at 3 rfl ?_ | refine HSub.at 4 rfl ?_ | refine HSub.at 5 rfl ?_ | refine HSub.at 6 rfl ?_ | refine HSub.at 7 rfl ?_ | refine HSub.at 8 rfl ?_ | refine HSub.at 9 rfl ?_ | refine HSub.at 10 rfl ?_ | refine HSub.at 11 rfl ?_ | refine HSub.at 12 rfl ?_ | refine HSub.at 13 rfl ?_ | refine HSub.at 14 rfl ?_ | refine HSub.at 15 rfl ?_ | refine HSub.at 16 rfl ?_ | refine HSub.at 17 rfl ?_ | refine HSub.at 18 rfl ?_ | refine HSub.at 19 rfl ?_ | refine HSub.segH ?_ | refine HSub.skip ?_ | refine HSub.skipN ?_)) ?_
    refine JX.thenN ?_
    (repeat' (first | refine JC.seq ?_ | refine JC.opsD ?_ | (apply r_move; exact rfl; exact rfl; exact rfl) | (apply r_loadN; exact rfl; exact rfl; exact rfl; exact rfl; (first | exact at0 | exact at1 | exact at2 | exact at3 | exact at4 | exact at5 | exact at6 | exact at7); exact rfl) | (apply r_index; exact rfl; exact rfl; exact rfl; exact fun _ => rfl; exact rfl; omega)))
    refine r_loadM (n := 4) (vs := #[nv n.p, nv n.r, nv n.c, .slice Ak nk ck]) 3 rfl rfl rfl rfl rfl rfl hck ?_
    skip
    refine r_callA (A := [_, _, _, _, _]) rfl trivial rfl rfl rfl (fun w hk hs => c_refMulG w _ _ m.fm n.fm (IsM.int ⟨_, rfl, (hrm _).at hk hs (by (repeat' first | exact HSub.nil _ | exact HSub.hd | exact HSub.in0 | exact HSub.refl _ | refine HSub.skip ?_ | refine HSub.skipN ?_))⟩) (IsM.int ⟨_, rfl, (hrk _).at hk hs (by (repeat' first | exact HSub.nil _ | exact HSub.hd | exact HSub.in0 | exact HSub.refl _ | refine HSub.skip ?_ | refine HSub.skipN ?_))⟩) hm.flen hmk.flen) fun w v w' _ _ _ hR => ?_
    rw [lift2_fm hm hmk] at hR
    obtain ⟨M15, _, rfl, hM15, F15, rfl, hP15⟩ := hR
    obtain ⟨B15, d15, rfl⟩ := hP15.form
    unfold fmV
    refine ⟨M15, hM15, ?_⟩
    (repeat' (first | refine JO.nil ?_ | (apply r_move; exact rfl; exact rfl; exact rfl) | (apply r_assign; exact rfl; exact rfl; exact rfl) | (apply r_extract; exact rfl; exact rfl; exact rfl; exact rfl) | (apply r_allocZ; exact rfl; exact rfl; exact rfl; intro _) | (apply r_storeN; exact rfl; (first | exact trivial | exact ⟨rfl, rfl⟩); exact rfl; exact rfl; (first | exact at0 | exact at1 | exact at2 | exact at3 | exact at4 | exact at5 | exact at6 | exact at7); exact rfl; exact rfl; exact rfl)))
    rename_i b15
    refine JX.part (F' := [(16, .bool (mulO m n).isSome), (15, .pointer (some ⟨b15, 0, none⟩)), (14, .bool (mulO m n).isSome), (13, .pointer (some ⟨b13, 0, none⟩)), (12, .bool (addO m n).isSome), (11, .pointer (some ⟨b11, 0, none⟩)), (10, .bool (addO m n).isSome), (9, .pointer (some ⟨b9, 0, none⟩)), (8, nv k), (7, .slice (some ⟨b7, 0, none⟩) 4 4), (6, .pointer (some ⟨b6, 0, none⟩)), (5, .bool true)]) (H' := [(b15, .cells #[iv (oF (mulO m n)).P, iv (oF (mulO m n)).R, iv (oF (mulO m n)).C, .slice B15 (oF (mulO m n)).E.length d15] 27), (b13, .cells #[iv (oF (mulO m n)).P, iv (oF (mulO m n)).R, iv (oF (mulO m n)).C, .slice B13 (oF (mulO m n)).E.length d13] 27), (b11, .cells #[iv (oF (addO m n)).P, iv (oF (addO m n)).R, iv (oF (addO m n)).C, .slice B11 (oF (addO m n)).E.length d11] 27), (b9, .cells #[iv (oF (addO m n)).P, iv (oF (addO m n)).R, iv (oF (addO m n)).C, .slice B9 (oF (addO m n)).E.length d9] 27), (b7, .cells ⟨cl⟩ 27), (b6, .cells #[nv m.p, nv m.r, nv m.c, .slice Am m.e.length cm] 27)] ++ (M15 ++ (M13 ++ (M11 ++ (M9 ++ T))))) (by repeat first | exact trivial | refine ⟨rfl, ?_⟩) (by (repeat' first | exact HSub.refl _ | exact HSub.nil _ | refine HSub.at 0 rfl ?_ | refine HSub.at 1 rfl ?_ | refine HSub.at 2 rfl ?_ | refine HSub.at 3 rfl ?_ | refine HSub.at 4 rfl ?_ | refine HSub.at 5 rfl ?_ | refine HSub.at 6 rfl ?_ | refine HSub.at 7 rfl ?_ | refine HSub.at 8 rfl ?_ | refine HSub.at 9 rfl ?_ | refine HSub.at 10 rfl ?_ | refine HSub.at 11 rfl ?_ | refine HSub.at 12 rfl ?_ | refine HSub.at 13 rfl ?_ | refine HSub.at 14 rfl ?_ | refine HSub.at 15 rfl ?_ | refine HSub.at 16 rfl ?_ | refine HSub.at 17 rfl ?_ | refine HSub.at 18 rfl ?_ | refine HSub.at 19 rfl ?_ | refine HSub.segH ?_ | refine HSub.skip ?_ | refine HSub.skipN ?_)) ?_
    refine JX.thenN ?_
    (repeat' (first | refine JC.seq ?_ | refine JC.opsD ?_ | (apply r_move; exact rfl; exact rfl; exact rfl) | (apply r_loadN; exact rfl; exact rfl; exact rfl; exact rfl; (first | exact at0 | exact at1 | exact at2 | exact at3 | exact at4 | exact at5 | exact at6 | exact at7); exact rfl) | (apply r_index; exact rfl; exact rfl; exact rfl; exact fun _ => rfl; exact rfl; omega)))
    refine r_loadM (n := 4) (vs := #[nv n.p, nv n.r, nv n.c, .slice Ak nk ck]) 4 rfl rfl rfl rfl rfl rfl hck ?_
    skip
    refine r_callA (A := [_, _, _, _, _, _]) rfl trivial rfl rfl rfl (fun w hk hs => c_JoinG w _ _ m.fm n.fm (IsM.int ⟨_, rfl, (hrm _).at hk hs (by (repeat' first | exact HSub.nil _ | exact HSub.hd | exact HSub.in0 | exact HSub.refl _ | refine HSub.skip ?_ | refine HSub.skipN ?_))⟩) (IsM.int ⟨_, rfl, (hrk _).at hk hs (by (repeat' first | exact HSub.nil _ | exact HSub.hd | exact HSub.in0 | exact HSub.refl _ | refine HSub.skip ?_ | refine HSub.skipN ?_))⟩) hm.flen hmk.flen) fun w v w' _ _ _ hR => ?_
    rw [lift2_fm hm hmk] at hR
    obtain ⟨M17, _, rfl, hM17, F17, rfl, hP17⟩ := hR
    obtain ⟨B17, d17, rfl⟩ := hP17.form
    unfold fmV
    refine ⟨M17, hM17, ?_⟩
    (repeat' (first | refine JO.nil ?_ | (apply r_move; exact rfl; exact rfl; exact rfl) | (apply r_assign; exact rfl; exact rfl; exact rfl) | (apply r_extract; exact rfl; exact rfl; exact rfl; exact rfl) | (apply r_allocZ; exact rfl; exact rfl; exact rfl; intro _) | (apply r_storeN; exact rfl; (first | exact trivial | exact ⟨rfl, rfl⟩); exact rfl; exact rfl; (first | exact at0 | exact at1 | exact at2 | exact at3 | exact at4 | exact at5 | exact at6 | exact at7); exact rfl; exact rfl; exact rfl)))
    rename_i b17
    refine JX.part (F' := [(18, .bool (joinO m n).isSome), (17, .pointer (some ⟨b17, 0, none⟩)), (16, .bool (mulO m n).isSome), (15, .pointer (some ⟨b15, 0, none⟩)), (14, .bool (mulO m n).isSome), (13, .pointer (some ⟨b13, 0, none⟩)), (12, .bool (addO m n).isSome), (11, .pointer (some ⟨b11, 0, none⟩)), (10, .bool (addO m n).isSome), (9, .pointer (some ⟨b9, 0, none⟩)), (8, nv k), (7, .slice (some ⟨b7, 0, none⟩) 4 4), (6, .pointer (some ⟨b6, 0, none⟩)), (5, .bool true)]) (H' := [(b17, .cells #[iv (oF (joinO m n)).P, iv (oF (joinO m n)).R, iv (oF (joinO m n)).C, .slice B17 (oF (joinO m n)).E.length d17] 27), (b15, .cells #[iv (oF (mulO m n)).P, iv (oF (mulO m n)).R, iv (oF (mulO m n)).C, .slice B15 (oF (mulO m n)).E.length d15] 27), (b13, .cells #[iv (oF (mulO m n)).P, iv (oF (mulO m n)).R, iv (oF (mulO m n)).C, .slice B13 (oF (mulO m n)).E.length d13] 27), (b11, .cells #[iv (oF (addO m n)).P, iv (oF (addO m n)).R, iv (oF (addO m n)).C, .slice B11 (oF (addO m n)).E.length d11] 27), (b9, .cells #[iv (oF (addO m n)).P, iv (oF (addO m n)).R, iv (oF (addO m n)).C, .slice B9 (oF (addO m n)).E.length d9] 27), (b7, .cells ⟨cl⟩ 27), (b6, .cells #[nv m.p, nv m.r, nv m.c, .slice Am m.e.length cm] 27)] ++ (M17 ++ (M15 ++ (M13 ++ (M11 ++ (M9 ++ T)))))) (by repeat first | exact trivial | refine ⟨rfl, ?_⟩) (by (repeat' first | exact HSub.refl _ | exact HSub.nil _ | refine HSub.at 0 rfl ?_ | refine HSub.at 1 rfl ?_ | refine HSub.at 2 rfl ?_ | refine HSub.at 3 rfl ?_ | refine HSub.at 4 rfl ?_ | refine HSub.at 5 rfl ?_ | refine HSub.at 6 rfl ?_ | refine HSub.at 7 rfl ?_ | refine HSub.at 8 rfl ?_ | refine HSub.at 9 rfl ?_ | refine HSub.at 10 rfl ?_ | refine HSub.at 11 rfl ?_ | refine HSub.at 12 rfl ?_ | refine HSub.at 13 rfl ?_ | refine HSub.at 14 rfl ?_ | refine HSub.at 15 rfl ?_ | refine HSub.at 16 rfl ?_ | refine HSub.at 17 rfl ?_ | refine HSub.at 18 rfl ?_ | refine HSub.at 19 rfl ?_ | refine HSub.segH ?_ | refine HSub.skip ?_ | refine HSub.skipN ?_)) ?_
    refine JX.thenN ?_
    (repeat' (first | refine JC.seq ?_ | refine JC.opsD ?_ | (apply r_move; exact rfl; exact rfl; exact rfl) | (apply r_loadN; exact rfl; exact rfl; exact rfl; exact rfl; (first | exact at0 | exact at1 | exact at2 | exact at3 | exact at4 | exact at5 | exact at6 | exact at7); exact rfl) | (apply r_index; exact rfl; exact rfl; exact rfl; exact fun _ => rfl; exact rfl; omega)))
    refine r_loadM (n := 4) (vs := #[nv n.p, nv n.r, nv n.c, .slice Ak nk ck]) 5 rfl rfl rfl rfl rfl rfl hck ?_
    skip
    refine r_callA (A := [_, _, _, _, _, _, _]) rfl trivial rfl rfl rfl (fun w hk hs => c_refJoinG w _ _ m.fm n.fm (IsM.int ⟨_, rfl, (hrm _).at hk hs (by (repeat' first | exact HSub.nil _ | exact HSub.hd | exact HSub.in0 | exact HSub.refl _ | refine HSub.skip ?_ | refine HSub.skipN ?_))⟩) (IsM.int ⟨_, rfl, (hrk _).at hk hs (by (repeat' first | exact HSub.nil _ | exact HSub.hd | exact HSub.in0 | exact HSub.refl _ | refine HSub.skip ?_ | refine HSub.skipN ?_))⟩) hm.flen hmk.flen) fun w v w' _ _ _ hR => ?_
    rw [lift2_fm hm hmk] at hR
    obtain ⟨M19, _, rfl, hM19, F19, rfl, hP19⟩ := hR
    obtain ⟨B19, d19, rfl⟩ := hP19.form
    unfold fmV
    refine ⟨M19, hM19, ?_⟩
    (repeat' (first | refine JO.nil ?_ | (apply r_move; exact rfl; exact rfl; exact rfl) | (apply r_assign; exact rfl; exact rfl; exact rfl) | (apply r_extract; exact rfl; exact rfl; exact rfl; exact rfl) | (apply r_allocZ; exact rfl; exact rfl; exact rfl; intro _) | (apply r_storeN; exact rfl; (first | exact trivial | exact ⟨rfl, rfl⟩); exact rfl; exact rfl; (first | exact at0 | exact at1 | exact at2 | exact at3 | exact at4 | exact at5 | exact at6 | exact at7); exact rfl; exact rfl; exact rfl)))
    rename_i b19
    refine JX.part (F' := [(20, .bool (joinO m n).isSome), (19, .pointer (some ⟨b19, 0, none⟩)), (18, .bool (joinO m n).isSome), (17, .pointer (some ⟨b17, 0, none⟩)), (16, .bool (mulO m n).isSome), (15, .pointer (some ⟨b15, 0, none⟩)), (14, .bool (mulO m n).isSome), (13, .pointer (some ⟨b13, 0, none⟩)), (12, .bool (addO m n).isSome), (11, .pointer (some ⟨b11, 0, none⟩)), (10, .bool (addO m n).isSome), (9, .pointer (some ⟨b9, 0, none⟩)), (8, nv k), (7, .slice (some ⟨b7, 0, none⟩) 4 4), (6, .pointer (some ⟨b6, 0, none⟩)), (5, .bool true)]) (H' := [(b19, .cells #[iv (oF (joinO m n)).P, iv (oF (joinO m n)).R, iv (oF (joinO m n)).C, .slice B19 (oF (joinO m n)).E.length d19] 27), (b17, .cells #[iv (oF (joinO m n)).P, iv (oF (joinO m n)).R, iv (oF (joinO m n)).C, .slice B17 (oF (joinO m n)).E.length d17] 27), (b15, .cells #[iv (oF (mulO m n)).P, iv (oF (mulO m n)).R, iv (oF (mulO m n)).C, .slice B15 (oF (mulO m n)).E.length d15] 27), (b13, .cells #[iv (oF (mulO m n)).P, iv (oF (mulO m n)).R, iv (oF (mulO m n)).C, .slice B13 (oF (mulO m n)).E.length d13] 27), (b11, .cells #[iv (oF (addO m n)).P, iv (oF (addO m n)).R, iv (oF (addO m n)).C, .slice B11 (oF (addO m n)).E.length d11] 27), (b9, .cells #[iv (oF (addO m n)).P, iv (oF (addO m n)).R, iv (oF (addO m n)).C, .slice B9 (oF (addO m n)).E.length d9] 27), (b7, .cells ⟨cl⟩ 27), (b6, .cells #[nv m.p, nv m.r, nv m.c, .slice Am m.e.length cm] 27)] ++ (M19 ++ (M17 ++ (M15 ++ (M13 ++ (M11 ++ (M9 ++ T))))))) (by repeat first | exact trivial | refine ⟨rfl, ?_⟩) (by (repeat' first | exact HSub.refl _ | exact HSub.nil _ | refine HSub.at 0 rfl ?_ | refine HSub.at 1 rfl ?_ | refine HSub.at 2 rfl ?_ | refine HSub.at 3 rfl ?_ | refine HSub.at 4 rfl ?_ | refine HSub.at 5 rfl ?_ | refine HSub.at 6 rfl ?_ | refine HSub.at 7 rfl ?_ | refine HSub.at 8 rfl ?_ | refine HSub.at 9 rfl ?_ | refine HSub.at 10 rfl ?_ | refine HSub.at 11 rfl ?_ | refine HSub.at 12 rfl ?_ | refine HSub.at 13 rfl ?_ | refine HSub.at 14 rfl ?_ | refine HSub.at 15 rfl ?_ | refine HSub.at 16 rfl ?_ | refine HSub.at 17 rfl ?_ | refine HSub.at 18 rfl ?_ | refine HSub.at 19 rfl ?_ | refine HSub.segH ?_ | refine HSub.skip ?_ | refine HSub.skipN ?_)) ?_
    refine JX.thenN ?_
    (repeat' (first | refine JC.seq ?_ | refine JC.ops ?_ | (apply r_loadN; exact rfl; exact rfl; exact rfl; exact rfl; (first | exact at0 | exact at1 | exact at2 | exact at3 | exact at4 | exact at5 | exact at6 | exact at7); exact rfl)))
    refine r_call0 trivial rfl rfl rfl (fun w hk hs => c_SameT w _ _ _ _ ⟨_, rfl, hP9.rd.at hk hs (by (repeat' first | exact HSub.nil _ | exact HSub.hd | exact HSub.in0 | exact HSub.refl _ | refine HSub.skip ?_ | refine HSub.skipN ?_))⟩ ⟨_, rfl, hP11.rd.at hk hs (by (repeat' first | exact HSub.nil _ | exact HSub.hd | exact HSub.in0 | exact HSub.refl _ | refine HSub.skip ?_ | refine HSub.skipN ?_))⟩ (oF_len _ (addO_rt hm)) (oF_len _ (addO_rt hm)) rfl) fun w v w' _ _ _ hR => ?_
    subst hR
    (repeat' (first | (apply r_move; exact rfl; exact rfl; exact rfl) | (apply r_loadN; exact rfl; exact rfl; exact rfl; exact rfl; (first | exact at0 | exact at1 | exact at2 | exact at3 | exact at4 | exact at5 | exact at6 | exact at7); exact rfl) | (apply r_pickF; exact rfl; exact rfl; exact rfl; exact rfl) | (apply r_not; exact rfl; exact rfl; exact rfl) | (apply r_neBS; exact rfl; exact rfl; exact rfl; exact rfl)))
    refine r_call0 trivial rfl rfl rfl (fun w hk hs => c_SameT w _ _ _ _ ⟨_, rfl, hP13.rd.at hk hs (by (repeat' first | exact HSub.nil _ | exact HSub.hd | exact HSub.in0 | exact HSub.refl _ | refine HSub.skip ?_ | refine HSub.skipN ?_))⟩ ⟨_, rfl, hP15.rd.at hk hs (by (repeat' first | exact HSub.nil _ | exact HSub.hd | exact HSub.in0 | exact HSub.refl _ | refine HSub.skip ?_ | refine HSub.skipN ?_))⟩ (oF_len _ (mulO_rt hm hmk)) (oF_len _ (mulO_rt hm hmk)) rfl) fun w v w' _ _ _ hR => ?_
    subst hR
    (repeat' (first | (apply r_move; exact rfl; exact rfl; exact rfl) | (apply r_loadN; exact rfl; exact rfl; exact rfl; exact rfl; (first | exact at0 | exact at1 | exact at2 | exact at3 | exact at4 | exact at5 | exact at6 | exact at7); exact rfl) | (apply r_pickF; exact rfl; exact rfl; exact rfl; exact rfl) | (apply r_not; exact rfl; exact rfl; exact rfl) | (apply r_neBS; exact rfl; exact rfl; exact rfl; exact rfl)))
    refine r_call0 trivial rfl rfl rfl (fun w hk hs => c_SameT w _ _ _ _ ⟨_, rfl, hP17.rd.at hk hs (by (repeat' first | exact HSub.nil _ | exact HSub.hd | exact HSub.in0 | exact HSub.refl _ | refine HSub.skip ?_ | refine HSub.skipN ?_))⟩ ⟨_, rfl, hP19.rd.at hk hs (by (repeat' first | exact HSub.nil _ | exact HSub.hd | exact HSub.in0 | exact HSub.refl _ | refine HSub.skip ?_ | refine HSub.skipN ?_))⟩ (oF_len _ (joinO_rt hm hmk)) (oF_len _ (joinO_rt hm hmk)) rfl) fun w v w' _ _ _ hR => ?_
    subst hR
    (repeat' (first | refine JC.ops ?_ | refine JO.nil ?_ | refine JX.thenN ?_ | (apply r_move; exact rfl; exact rfl; exact rfl) | (apply r_assign; exact rfl; exact rfl; exact rfl) | (apply r_add1; exact rfl; exact rfl; exact rfl; exact rfl; omega) | (apply r_pickF; exact rfl; exact rfl; exact rfl; exact rfl) | (apply r_not; exact rfl; exact rfl; exact rfl) | (apply r_neBS; exact rfl; exact rfl; exact rfl; exact rfl) | refine JC.skip ?_ | refine JC.condF rfl ?_ | refine JX.blockN ?_))
    exact JX.roundH (k + 1) (by dsimp only; omega) (by dsimp only; omega) (by repeat first | exact trivial | refine ⟨rfl, ?_⟩) (by (repeat' first | exact HSub.refl _ | exact HSub.nil _ | refine HSub.at 0 rfl ?_ | refine HSub.at 1 rfl ?_ | refine HSub.at 2 rfl ?_ | refine HSub.at 3 rfl ?_ | refine HSub.at 4 rfl ?_ | refine HSub.at 5 rfl ?_ | refine HSub.at 6 rfl ?_ | refine HSub.at 7 rfl ?_ | refine HSub.at 8 rfl ?_ | refine HSub.at 9 rfl ?_ | refine HSub.at 10 rfl ?_ | refine HSub.at 11 rfl ?_ | refine HSub.at 12 rfl ?_ | refine HSub.at 13 rfl ?_ | refine HSub.at 14 rfl ?_ | refine HSub.at 15 rfl ?_ | refine HSub.at 16 rfl ?_ | refine HSub.at 17 rfl ?_ | refine HSub.at 18 rfl ?_ | refine HSub.at 19 rfl ?_ | refine HSub.segH ?_ | refine HSub.skip ?_ | refine HSub.skipN ?_))
  · (repeat' (first | refine JC.seq ?_ | refine JC.ops ?_ | refine JC.opsD ?_ | refine JO.nil ?_ | refine JX.thenN ?_ | (apply r_move; exact rfl; exact rfl; exact rfl) | (apply r_loadN; exact rfl; exact rfl; exact rfl; exact rfl; (first | exact at0 | exact at1 | exact at2 | exact at3 | exact at4 | exact at5 | exact at6 | exact at7); exact rfl) | (apply r_len; exact rfl; exact rfl; exact rfl) | (apply r_lss; exact rfl; exact rfl; exact rfl; exact rfl; all_goals intro hc; all_goals try (exfalso; omega)) | refine JX.thenE ?_ | refine JC.exit ?_ | refine JC.condF rfl ?_ | refine JX.blockE ?_))
    refine r_callA (A := [_, _]) rfl trivial rfl rfl rfl (fun w hk hs => c_TransposeG w _ m.fm (IsM.int ⟨_, rfl, (hrm _).at hk hs (by (repeat' first | exact HSub.nil _ | exact HSub.hd | exact HSub.in0 | exact HSub.refl _ | refine HSub.skip ?_ | refine HSub.skipN ?_))⟩) hm.flen) fun w v w' _ _ _ hR => ?_
    rw [lift1_fm hm] at hR
    obtain ⟨M1, hM1, F1, rfl, hP1⟩ := hR
    unfold fmV
    refine ⟨M1, hM1, ?_⟩
    skip
    refine r_callA (A := [_, _]) rfl trivial rfl rfl rfl (fun w hk hs => c_refTransposeG w _ m.fm (IsM.int ⟨_, rfl, (hrm _).at hk hs (by (repeat' first | exact HSub.nil _ | exact HSub.hd | exact HSub.in0 | exact HSub.refl _ | refine HSub.skip ?_ | refine HSub.skipN ?_))⟩) hm.flen) fun w v w' _ _ _ hR => ?_
    rw [lift1_fm hm] at hR
    obtain ⟨M2, hM2, F2, rfl, hP2⟩ := hR
    unfold fmV
    refine ⟨M2, hM2, ?_⟩
    skip
    refine r_call0 trivial rfl rfl rfl (fun w hk hs => c_SameT w _ _ _ _ ⟨_, rfl, hP1.rd.at hk hs (by (repeat' first | exact HSub.nil _ | exact HSub.hd | exact HSub.in0 | exact HSub.refl _ | refine HSub.skip ?_ | refine HSub.skipN ?_))⟩ ⟨_, rfl, hP2.rd.at hk hs (by (repeat' first | exact HSub.nil _ | exact HSub.hd | exact HSub.in0 | exact HSub.refl _ | refine HSub.skip ?_ | refine HSub.skipN ?_))⟩ hm.tr.flen hm.tr.flen rfl) fun w v w' _ _ _ hR => ?_
    subst hR
    (repeat' (first | refine JO.nil ?_ | refine JX.thenN ?_ | (apply r_assign; exact rfl; exact rfl; exact rfl) | (apply r_pickT; exact rfl; exact rfl; exact rfl; exact rfl) | refine JC.ret ?_))
    exact JX.ret1 rfl (fun a w' st => ⟨st.kp, rfl⟩)

end Go.Proofs.Ytdoogoglfbohaaa
