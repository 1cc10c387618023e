/- FieldWrong: the walk. -/
import Derived.Test.YtdoogoglfbohaaaFldX4
import Derived.Test.YtdoogoglfbohaaaFldL2
namespace Go.Proofs.Ytdoogoglfbohaaa
open Go Go.RowKit
set_option linter.unusedSimpArgs false
set_option linter.unusedVariables false
set_option linter.unusedSectionVars false

theorem lift1_rt {f : NM → Option NM} {a : FM} (h : ∀ m, Rt m → ∀ x, f m = some x → Rt x) : ∀ x, lift1 f a = some x → Rt x := fun x hx => by
  unfold lift1 at hx
  cases ha : toN a with
  | none => rw [ha] at hx; cases hx
  | some m => rw [ha] at hx; exact h m (toN_some ha).2 x hx
theorem pivG_len (a : FM) : (pivG a).length < 1000000000 := by
  unfold pivG lift1
  cases ha : toN a with
  | none => decide
  | some m =>
    have hm := (toN_some ha).2
    have h1 := (Pvs.of hm.big).r
    have h2 := hm.r
    show (pivM m).length < _
    omega
theorem Rt.ech2 {m : NM} (hm : Rt m) : Rt (echM m) := by
  haveI := hm.pr.nz
  exact ⟨hm.pr, hm.r, hm.c, (ech_els hm.big).len, (ech_els hm.big).lt⟩
theorem addO_rt2 {m n : NM} (hm : Rt m) : ∀ x, addO m n = some x → Rt x := fun x h => by
  unfold addO at h
  split at h
  · cases h; exact hm.add
  · cases h
theorem joinO_rt2 {m n : NM} (hm : Rt m) (hn : Rt n) : ∀ x, joinO m n = some x → Rt x := fun x h => by
  unfold joinO at h
  split at h
  · rename_i q; cases h; exact Rt.join hm hn q.1 q.2.2
  · cases h
theorem l_ech (a : FM) : (oF (lift1 (fun m => some (echM m)) a)).E.length < 1000000000 := oFlen (lift1_rt fun m hm x h => by cases h; exact hm.ech2)
theorem l_inv (a : FM) : (oF (lift1 invM a)).E.length < 1000000000 := oFlen (lift1_rt fun m hm x h => inv_rt hm x h)
theorem l_tr (a : FM) : (oF (lift1 (fun m => some (trM m)) a)).E.length < 1000000000 := oFlen (lift1_rt fun m hm x h => by cases h; exact hm.tr)
theorem l_ker (a : FM) : (oF (lift1 (fun m => some (kerM m)) a)).E.length < 1000000000 := oFlen (lift1_rt fun m hm x h => by cases h; exact hm.ker)
theorem l_img (a : FM) : (oF (lift1 (fun m => some (imgM m)) a)).E.length < 1000000000 := oFlen (lift1_rt fun m hm x h => by cases h; exact hm.img)
theorem l_add (a b : FM) : (oF (lift2 addO a b)).E.length < 1000000000 := oFlen (lift2_rt fun m n hm _ x h => addO_rt2 hm x h)
theorem l_join (a b : FM) : (oF (lift2 joinO a b)).E.length < 1000000000 := oFlen (lift2_rt fun m n hm hn x h => joinO_rt2 hm hn x h)

theorem BoolIs.same {p : Prop} {v u : Value} (h : BoolIs p v) (k : BoolIs p u) : ∃ b, v = .bool b ∧ u = .bool b := by
  obtain ⟨b, rfl, hb⟩ := h
  obtain ⟨b', rfl, hb'⟩ := k
  refine ⟨b, rfl, ?_⟩
  congr 1
  cases b <;> cases b' <;> simp_all

/-- The k-th of three. -/
def pick3 {α : Type} (a b c : α) (k : Nat) : α := match k with
  | 0 => a
  | 1 => b
  | _ => c
theorem pick3_cells {m0 m1 m2 : FM} {E0 E1 E2 : Value} {k : Nat} (hk : k < 3) : ∀ j, j < 4 → (⟨[iv m0.P, iv m0.R, iv m0.C, E0, iv m1.P, iv m1.R, iv m1.C, E1, iv m2.P, iv m2.R, iv m2.C, E2]⟩ : Array Value)[0 + k * 4 + j]? =
    (#[iv (pick3 m0 m1 m2 k).P, iv (pick3 m0 m1 m2 k).R, iv (pick3 m0 m1 m2 k).C, pick3 E0 E1 E2 k])[j]? := by
  intro j hj
  rcases (show k = 0 ∨ k = 1 ∨ k = 2 by omega) with rfl | rfl | rfl <;> rcases (show j = 0 ∨ j = 1 ∨ j = 2 ∨ j = 3 by omega) with rfl | rfl | rfl | rfl <;> rfl

set_option maxHeartbeats 16000000 in
theorem c_FieldWrong (w : World) (v : Value) (P R C : Nat) (L : List Int) (q0 q1 r0 r1 : Int) (hv : IsS w v P R C L) :
    Calls Try.prog 9 #[v, .agg #[iv q0, iv q1], .agg #[iv r0, iv r1]] w (Ret fun v w' => Kp [] w w' ∧ v = .bool true) := by
  have hv0 := hv
  obtain ⟨h1, h2, h3, E, rfl, hE⟩ := hv
  have hm := Rt.shMat P R C L
  refine calls_of_S [⟨4, 1, [], []⟩, ⟨13, 0, [0, 2, 1, 3, 4, 5, 6, 7, 8, 9, 10, 11, 12, 13, 14, 15, 16, 17, 18, 19, 20, 21, 22, 23, 24, 25, 26, 27, 28, 29, 31, 30, 32, 33, 34, 35, 36, 37, 39, 38, 40, 41, 42, 43, 44, 45, 47, 46, 48, 49, 50, 51, 52, 53, 55, 54, 56, 57, 58], []⟩, ⟨23, 0, [0, 1, 2, 3, 4, 5, 6, 7, 8, 9, 10, 11, 12, 13, 14, 15, 16, 17, 18, 19, 20, 21, 22, 24, 25, 23, 26, 27, 28], []⟩] [] (by simp) [] Try.func9 rfl mixed (by kernel_rfl) Try.ntmps9 Try.results9 rfl ⟨by simp, by simp⟩ (by simp) ?_
  simp only [toS, textOps, toSOp, kindAt, kindOf, odAt, sopsAt, ordOf, zipF]
  (repeat' (first | refine JC.seq ?_ | refine JC.ops ?_ | refine JO.nil ?_ | refine JX.thenN ?_ | (apply r_assign; exact rfl; exact rfl; exact rfl) | (apply r_boxA; exact rfl; exact rfl; exact rfl; exact rfl; intro _)))
  rename_i b3 b4 b5
  refine r_call0 trivial rfl rfl rfl (fun w hk hs => c_sanity w) fun w v w' _ _ _ hR => ?_
  subst hR
  (repeat' (first | refine JC.seq ?_ | refine JC.ops ?_ | refine JO.nil ?_ | refine JX.thenN ?_ | (apply r_assign; exact rfl; exact rfl; exact rfl) | (apply r_loadN; exact rfl; exact rfl; exact rfl; exact rfl; (first | exact at0 | exact at1 | exact at2 | exact at3 | exact at4 | exact at5 | exact at6 | exact at7); exact rfl)))
  refine r_callA (A := [_, _, _]) (B := []) rfl trivial rfl rfl rfl (fun w hk _ => c_Mat w _ P R C L (hv0.mono hk)) fun w v w' _ _ _ hR => ?_
  generalize shMat P R C L = m at *
  obtain ⟨N8, hN8, E8, rfl, hO8⟩ := hR
  obtain ⟨A8, c8, rfl⟩ := hO8.form
  refine ⟨N8, hN8, ?_⟩
  (repeat' (first | refine JO.nil ?_ | (apply r_allocZ; exact rfl; exact rfl; exact rfl; intro _) | (apply r_storeN; exact rfl; (first | exact trivial | exact ⟨rfl, rfl⟩); exact rfl; exact rfl; (first | exact at0 | exact at1 | exact at2 | exact at3 | exact at4 | exact at5 | exact at6 | exact at7); exact rfl; exact rfl; exact rfl)))
  rename_i b8
  refine JX.part (F' := [(8, .pointer (some ⟨b8, 0, none⟩)), (5, .pointer (some ⟨b5, 0, none⟩)), (4, .pointer (some ⟨b4, 0, none⟩)), (7, .bool true)]) (H' := [(b8, .cells #[nv m.p, nv m.r, nv m.c, .slice A8 m.e.length c8] 27), (b5, .cells #[iv r0, iv r1] 47), (b4, .cells #[iv q0, iv q1] 47)] ++ (N8 ++ [])) (by repeat first | exact trivial | refine ⟨rfl, ?_⟩) (by (repeat' first | exact HSub.refl _ | exact HSub.nil _ | refine HSub.at 0 rfl ?_ | refine HSub.at 1 rfl ?_ | refine HSub.at 2 rfl ?_ | refine HSub.at 3 rfl ?_ | refine HSub.at 4 rfl ?_ | refine HSub.at 5 rfl ?_ | refine HSub.at 6 rfl ?_ | refine HSub.at 7 rfl ?_ | refine HSub.at 8 rfl ?_ | refine HSub.at 9 rfl ?_ | refine HSub.at 10 rfl ?_ | refine HSub.at 11 rfl ?_ | refine HSub.at 12 rfl ?_ | refine HSub.at 13 rfl ?_ | refine HSub.at 14 rfl ?_ | refine HSub.at 15 rfl ?_ | refine HSub.at 16 rfl ?_ | refine HSub.at 17 rfl ?_ | refine HSub.at 18 rfl ?_ | refine HSub.at 19 rfl ?_ | refine HSub.segH ?_ | refine HSub.skip ?_ | refine HSub.skipN ?_)) ?_
  refine JX.thenN ?_
  have hml := hm.le
  have hmi : (ints m.e).length = m.e.length := ints_len _
  (repeat' (first | refine JC.seq ?_ | refine JC.ops ?_ | (apply r_loadN; exact rfl; exact rfl; exact rfl; exact rfl; (first | exact at0 | exact at1 | exact at2 | exact at3 | exact at4 | exact at5 | exact at6 | exact at7); exact rfl)))
  refine r_callA (A := [_, _, _]) rfl trivial rfl rfl rfl (fun w hk hs => c_Bent w _ m.fm q0 q1 (IsM.int ⟨_, rfl, hO8.rd.at hk hs (by (repeat' first | exact HSub.nil _ | exact HSub.hd | exact HSub.in0 | exact HSub.refl _ | refine HSub.skip ?_ | refine HSub.skipN ?_))⟩) (by show (ints m.e).length < _; omega)) fun w v w' _ _ _ hR => ?_
  obtain ⟨a1, hal1, N9, hN9, E9, rfl, hO9⟩ := hR
  have hal1 : a1.E.length ≤ (ints m.e).length + 1 := hal1
  obtain ⟨A9, c9, rfl⟩ := hO9.form
  unfold fmV
  refine ⟨N9, hN9, ?_⟩
  (repeat' (first | refine JO.nil ?_ | (apply r_allocZ; exact rfl; exact rfl; exact rfl; intro _) | (apply r_storeN; exact rfl; (first | exact trivial | exact ⟨rfl, rfl⟩); exact rfl; exact rfl; (first | exact at0 | exact at1 | exact at2 | exact at3 | exact at4 | exact at5 | exact at6 | exact at7); exact rfl; exact rfl; exact rfl)))
  rename_i b9
  refine JX.part (F' := [(9, .pointer (some ⟨b9, 0, none⟩)), (8, .pointer (some ⟨b8, 0, none⟩)), (5, .pointer (some ⟨b5, 0, none⟩)), (4, .pointer (some ⟨b4, 0, none⟩)), (7, .bool true)]) (H' := [(b9, .cells #[iv a1.P, iv a1.R, iv a1.C, .slice A9 a1.E.length c9] 27), (b8, .cells #[nv m.p, nv m.r, nv m.c, .slice A8 m.e.length c8] 27), (b5, .cells #[iv r0, iv r1] 47), (b4, .cells #[iv q0, iv q1] 47)] ++ (N9 ++ (N8 ++ []))) (by repeat first | exact trivial | refine ⟨rfl, ?_⟩) (by (repeat' first | exact HSub.refl _ | exact HSub.nil _ | refine HSub.at 0 rfl ?_ | refine HSub.at 1 rfl ?_ | refine HSub.at 2 rfl ?_ | refine HSub.at 3 rfl ?_ | refine HSub.at 4 rfl ?_ | refine HSub.at 5 rfl ?_ | refine HSub.at 6 rfl ?_ | refine HSub.at 7 rfl ?_ | refine HSub.at 8 rfl ?_ | refine HSub.at 9 rfl ?_ | refine HSub.at 10 rfl ?_ | refine HSub.at 11 rfl ?_ | refine HSub.at 12 rfl ?_ | refine HSub.at 13 rfl ?_ | refine HSub.at 14 rfl ?_ | refine HSub.at 15 rfl ?_ | refine HSub.at 16 rfl ?_ | refine HSub.at 17 rfl ?_ | refine HSub.at 18 rfl ?_ | refine HSub.at 19 rfl ?_ | refine HSub.segH ?_ | refine HSub.skip ?_ | refine HSub.skipN ?_)) ?_
  refine JX.thenN ?_
  (repeat' (first | refine JC.seq ?_ | refine JC.opsD ?_ | (apply r_loadN; exact rfl; exact rfl; exact rfl; exact rfl; (first | exact at0 | exact at1 | exact at2 | exact at3 | exact at4 | exact at5 | exact at6 | exact at7); exact rfl)))
  refine r_callA (A := [_, _, _, _]) rfl trivial rfl rfl rfl (fun w hk hs => c_Bent w _ a1 r0 r1 ⟨_, rfl, hO9.rd.at hk hs (by (repeat' first | exact HSub.nil _ | exact HSub.hd | exact HSub.in0 | exact HSub.refl _ | refine HSub.skip ?_ | refine HSub.skipN ?_))⟩ (by omega)) fun w v w' _ _ _ hR => ?_
  obtain ⟨a2, hal2, N2, hN2, E2, rfl, hO2⟩ := hR
  obtain ⟨A2, c2, rfl⟩ := hO2.form
  unfold fmV
  refine ⟨N2, hN2, ?_⟩
  skip
  refine r_buildG (sz := 4) (vs := [.agg #[iv m.fm.P, iv m.fm.R, iv m.fm.C, .slice A8 m.e.length c8], .agg #[iv a1.P, iv a1.R, iv a1.C, .slice A9 a1.E.length c9], .agg #[iv a2.P, iv a2.R, iv a2.C, .slice A2 a2.E.length c2]]) (cl := [iv m.fm.P, iv m.fm.R, iv m.fm.C, .slice A8 m.e.length c8, iv a1.P, iv a1.R, iv a1.C, .slice A9 a1.E.length c9, iv a2.P, iv a2.R, iv a2.C, .slice A2 a2.E.length c2]) rfl rfl rfl rfl rfl
    (fun v hv => by
      simp only [List.mem_cons, List.not_mem_nil, or_false] at hv
      rcases hv with rfl | rfl | rfl <;> rfl) rfl (by decide) (by decide) (fun b10 => ?_)
  (repeat' (first | refine JO.nil ?_ | (apply r_assign; exact rfl; exact rfl; exact rfl)))
  have hrd : ∀ k, k < 3 → ∀ c, RdI c (N2 ++ (N9 ++ (N8 ++ []))) (pick3 (Value.slice A8 m.e.length c8) (.slice A9 a1.E.length c9) (.slice A2 a2.E.length c2) k) (pick3 m.fm a1 a2 k).E.length (pick3 m.fm a1 a2 k).E := fun k hk c => by
    rcases (show k = 0 ∨ k = 1 ∨ k = 2 by omega) with rfl | rfl | rfl
    · show RdI c _ (.slice A8 m.e.length c8) (ints m.e).length (ints m.e)
      rw [hmi]
      exact (hO8.rd.int).up (by (repeat' first | exact HSub.nil _ | exact HSub.hd | exact HSub.in0 | exact HSub.refl _ | refine HSub.skip ?_ | refine HSub.skipN ?_))
    · exact hO9.rd.up (by (repeat' first | exact HSub.nil _ | exact HSub.hd | exact HSub.in0 | exact HSub.refl _ | refine HSub.skip ?_ | refine HSub.skipN ?_))
    · exact hO2.rd.up (by (repeat' first | exact HSub.nil _ | exact HSub.hd | exact HSub.in0 | exact HSub.refl _ | refine HSub.skip ?_ | refine HSub.skipN ?_))
  have hcl := fun k (hk : k < 3) => pick3_cells (m0 := m.fm) (m1 := a1) (m2 := a2) (E0 := .slice A8 m.e.length c8) (E1 := .slice A9 a1.E.length c9) (E2 := .slice A2 a2.E.length c2) (k := k) hk
  have hform : ∀ k, k < 3 → ∃ A n c, pick3 (Value.slice A8 m.e.length c8) (.slice A9 a1.E.length c9) (.slice A2 a2.E.length c2) k = .slice A n c := fun k hk => by
    rcases (show k = 0 ∨ k = 1 ∨ k = 2 by omega) with rfl | rfl | rfl <;> exact ⟨_, _, _, rfl⟩
  have hlen : ∀ k, k < 3 → (pick3 m.fm a1 a2 k).E.length < 1000000000 := fun k hk => by
    rcases (show k = 0 ∨ k = 1 ∨ k = 2 by omega) with rfl | rfl | rfl
    · show (ints m.e).length < _; omega
    · show a1.E.length < _; omega
    · show a2.E.length < _; omega
  generalize N2 ++ (N9 ++ (N8 ++ [])) = T at *
  generalize hcells : [iv m.fm.P, iv m.fm.R, iv m.fm.C, .slice A8 m.e.length c8, iv a1.P, iv a1.R, iv a1.C, .slice A9 a1.E.length c9, iv a2.P, iv a2.R, iv a2.C, .slice A2 a2.E.length c2] = cl at *
  generalize pick3 (Value.slice A8 m.e.length c8) (.slice A9 a1.E.length c9) (.slice A2 a2.E.length c2) = pE at *
  generalize pick3 m.fm a1 a2 = pm at *
  refine JX.part (F' := [(10, .slice (some ⟨b10, 0, none⟩) 3 3), (7, .bool true)]) (H' := [(b10, .cells ⟨cl⟩ 27)] ++ T) (by repeat first | exact trivial | refine ⟨rfl, ?_⟩) (by (repeat' first | exact HSub.refl _ | exact HSub.nil _ | refine HSub.at 0 rfl ?_ | refine HSub.at 1 rfl ?_ | refine HSub.at 2 rfl ?_ | refine HSub.at 3 rfl ?_ | refine HSub.at 4 rfl ?_ | refine HSub.at 5 rfl ?_ | refine HSub.at 6 rfl ?_ | refine HSub.at 7 rfl ?_ | refine HSub.at 8 rfl ?_ | refine HSub.at 9 rfl ?_ | refine HSub.at 10 rfl ?_ | refine HSub.at 11 rfl ?_ | refine HSub.at 12 rfl ?_ | refine HSub.at 13 rfl ?_ | refine HSub.at 14 rfl ?_ | refine HSub.at 15 rfl ?_ | refine HSub.at 16 rfl ?_ | refine HSub.at 17 rfl ?_ | refine HSub.at 18 rfl ?_ | refine HSub.at 19 rfl ?_ | refine HSub.segH ?_ | refine HSub.skip ?_ | refine HSub.skipN ?_)) ?_
  refine JX.thenN ?_
  clear hO8 hO9 hO2
  (repeat' (first | refine JC.seq ?_ | refine JC.ops ?_ | refine JO.nil ?_ | refine JX.thenN ?_ | (apply r_assign; exact rfl; exact rfl; exact rfl) | refine JC.block ?_))
  refine JC.loopH (ι := Nat) ⟨fun k => [(11, nv k), (10, .slice (some ⟨b10, 0, none⟩) 3 3), (7, .bool true)], fun _ => [(b10, .cells ⟨cl⟩ 27)] ++ T, fun k => k ≤ 3, fun k => 3 - k⟩ 0 (by dsimp only; omega) (by repeat first | exact trivial | refine ⟨rfl, ?_⟩) (HSub.refl _) (fun k hk => ?_)
  dsimp only at hk ⊢
  by_cases hk3 : k < 3
  · have hrk := hrd k hk3
    have hlk := hlen k hk3
    have hck := hcl k hk3
    obtain ⟨Ak, nk, ck, hEk⟩ := hform k hk3
    rw [hEk] at hrk hck
    generalize pm k = a at *
    (repeat' (first | refine JC.seq ?_ | refine JC.ops ?_ | refine JO.nil ?_ | refine JX.thenN ?_ | (apply r_move; exact rfl; exact rfl; exact rfl) | (apply r_index; exact rfl; exact rfl; exact rfl; exact fun _ => rfl; exact rfl; omega) | (apply r_lss; exact rfl; exact rfl; exact rfl; exact rfl; all_goals intro hc; all_goals try (exfalso; omega)) | refine JC.skip ?_ | refine JC.condT rfl ?_ | refine JC.block ?_))
    refine r_loadM (n := 4) (vs := #[iv a.P, iv a.R, iv a.C, .slice Ak nk ck]) 0 rfl rfl rfl rfl rfl rfl hck ?_
    (repeat' (first | refine JO.nil ?_ | (apply r_allocZ; exact rfl; exact rfl; exact rfl; intro _) | (apply r_storeN; exact rfl; (first | exact trivial | exact ⟨rfl, rfl⟩); exact rfl; exact rfl; (first | exact at0 | exact at1 | exact at2 | exact at3 | exact at4 | exact at5 | exact at6 | exact at7); exact rfl; exact rfl; exact rfl)))
    rename_i b12
    refine JX.part (F' := [(12, .pointer (some ⟨b12, 0, none⟩)), (11, nv k), (10, .slice (some ⟨b10, 0, none⟩) 3 3), (7, .bool true)]) (H' := [(b12, .cells #[iv a.P, iv a.R, iv a.C, .slice Ak nk ck] 27), (b10, .cells ⟨cl⟩ 27)] ++ T) (by repeat first | exact trivial | refine ⟨rfl, ?_⟩) (by (repeat' first | exact HSub.refl _ | exact HSub.nil _ | refine HSub.at 0 rfl ?_ | refine HSub.at 1 rfl ?_ | refine HSub.at 2 rfl ?_ | refine HSub.at 3 rfl ?_ | refine HSub.at 4 rfl ?_ | refine HSub.at 5 rfl ?_ | refine HSub.at 6 rfl ?_ | refine HSub.at 7 rfl ?_ | refine HSub.at 8 rfl ?_ | refine HSub.at 9 rfl ?_ | refine HSub.at 10 rfl ?_ | refine HSub.at 11 rfl ?_ | refine HSub.at 12 rfl ?_ | refine HSub.at 13 rfl ?_ | refine HSub.at 14 rfl ?_ | refine HSub.at 15 rfl ?_ | refine HSub.at 16 rfl ?_ | refine HSub.at 17 rfl ?_ | refine HSub.at 18 rfl ?_ | refine HSub.at 19 rfl ?_ | refine HSub.segH ?_ | refine HSub.skip ?_ | refine HSub.skipN ?_)) ?_
    refine JX.thenN ?_
    (repeat' (first | refine JC.seq ?_ | refine JC.ops ?_ | (apply r_loadN; exact rfl; exact rfl; exact rfl; exact rfl; (first | exact at0 | exact at1 | exact at2 | exact at3 | exact at4 | exact at5 | exact at6 | exact at7); exact rfl)))
    refine r_callA (A := [_, _]) rfl trivial rfl rfl rfl (fun w hk hs => c_EchelonG w _ a ⟨_, rfl, (hrk _).at hk hs (by (repeat' first | exact HSub.nil _ | exact HSub.hd | exact HSub.in0 | exact HSub.refl _ | refine HSub.skip ?_ | refine HSub.skipN ?_))⟩ hlk) fun w v w' _ _ _ hR => ?_
    obtain ⟨N13, N14, u, x, rfl, hN13, ⟨E13, rfl, hO13⟩, hO14⟩ := hR
    obtain ⟨A13, c13, rfl⟩ := hO13.form
    obtain ⟨A14, c14, rfl⟩ := hO14.form
    unfold fmV
    refine ⟨N13 ++ N14, hN13, ?_⟩
    rw [List.append_assoc]
    (repeat' (first | refine JO.nil ?_ | (apply r_move; exact rfl; exact rfl; exact rfl) | (apply r_assign; exact rfl; exact rfl; exact rfl) | (apply r_extract; exact rfl; exact rfl; exact rfl; exact rfl) | (apply r_allocZ; exact rfl; exact rfl; exact rfl; intro _) | (apply r_storeN; exact rfl; (first | exact trivial | exact ⟨rfl, rfl⟩); exact rfl; exact rfl; (first | exact at0 | exact at1 | exact at2 | exact at3 | exact at4 | exact at5 | exact at6 | exact at7); exact rfl; exact rfl; exact rfl)))
    rename_i b13
    refine JX.part (F' := [(14, .slice A14 (pivG a).length c14), (13, .pointer (some ⟨b13, 0, none⟩)), (12, .pointer (some ⟨b12, 0, none⟩)), (11, nv k), (10, .slice (some ⟨b10, 0, none⟩) 3 3), (7, .bool true)]) (H' := [(b13, .cells #[iv (oF (lift1 (fun m => some (echM m)) a)).P, iv (oF (lift1 (fun m => some (echM m)) a)).R, iv (oF (lift1 (fun m => some (echM m)) a)).C, .slice A13 (oF (lift1 (fun m => some (echM m)) a)).E.length c13] 27), (b12, .cells #[iv a.P, iv a.R, iv a.C, .slice Ak nk ck] 27), (b10, .cells ⟨cl⟩ 27)] ++ (N13 ++ (N14 ++ T))) (by repeat first | exact trivial | refine ⟨rfl, ?_⟩) (by (repeat' first | exact HSub.refl _ | exact HSub.nil _ | refine HSub.at 0 rfl ?_ | refine HSub.at 1 rfl ?_ | refine HSub.at 2 rfl ?_ | refine HSub.at 3 rfl ?_ | refine HSub.at 4 rfl ?_ | refine HSub.at 5 rfl ?_ | refine HSub.at 6 rfl ?_ | refine HSub.at 7 rfl ?_ | refine HSub.at 8 rfl ?_ | refine HSub.at 9 rfl ?_ | refine HSub.at 10 rfl ?_ | refine HSub.at 11 rfl ?_ | refine HSub.at 12 rfl ?_ | refine HSub.at 13 rfl ?_ | refine HSub.at 14 rfl ?_ | refine HSub.at 15 rfl ?_ | refine HSub.at 16 rfl ?_ | refine HSub.at 17 rfl ?_ | refine HSub.at 18 rfl ?_ | refine HSub.at 19 rfl ?_ | refine HSub.segH ?_ | refine HSub.skip ?_ | refine HSub.skipN ?_)) ?_
    refine JX.thenN ?_
    (repeat' (first | refine JC.seq ?_ | refine JC.ops ?_ | (apply r_loadN; exact rfl; exact rfl; exact rfl; exact rfl; (first | exact at0 | exact at1 | exact at2 | exact at3 | exact at4 | exact at5 | exact at6 | exact at7); exact rfl)))
    refine r_callA (A := [_, _, _]) rfl trivial rfl rfl rfl (fun w hk hs => c_refEchelonG w _ a ⟨_, rfl, (hrk _).at hk hs (by (repeat' first | exact HSub.nil _ | exact HSub.hd | exact HSub.in0 | exact HSub.refl _ | refine HSub.skip ?_ | refine HSub.skipN ?_))⟩ hlk) fun w v w' _ _ _ hR => ?_
    obtain ⟨N15, N16, u, x, rfl, hN15, ⟨E15, rfl, hO15⟩, hO16⟩ := hR
    obtain ⟨A15, c15, rfl⟩ := hO15.form
    obtain ⟨A16, c16, rfl⟩ := hO16.form
    unfold fmV
    refine ⟨N15 ++ N16, hN15, ?_⟩
    rw [List.append_assoc]
    (repeat' (first | refine JO.nil ?_ | (apply r_move; exact rfl; exact rfl; exact rfl) | (apply r_assign; exact rfl; exact rfl; exact rfl) | (apply r_extract; exact rfl; exact rfl; exact rfl; exact rfl) | (apply r_allocZ; exact rfl; exact rfl; exact rfl; intro _) | (apply r_storeN; exact rfl; (first | exact trivial | exact ⟨rfl, rfl⟩); exact rfl; exact rfl; (first | exact at0 | exact at1 | exact at2 | exact at3 | exact at4 | exact at5 | exact at6 | exact at7); exact rfl; exact rfl; exact rfl)))
    rename_i b15
    refine JX.part (F' := [(16, .slice A16 (pivG a).length c16), (15, .pointer (some ⟨b15, 0, none⟩)), (14, .slice A14 (pivG a).length c14), (13, .pointer (some ⟨b13, 0, none⟩)), (12, .pointer (some ⟨b12, 0, none⟩)), (11, nv k), (10, .slice (some ⟨b10, 0, none⟩) 3 3), (7, .bool true)]) (H' := [(b15, .cells #[iv (oF (lift1 (fun m => some (echM m)) a)).P, iv (oF (lift1 (fun m => some (echM m)) a)).R, iv (oF (lift1 (fun m => some (echM m)) a)).C, .slice A15 (oF (lift1 (fun m => some (echM m)) a)).E.length c15] 27), (b13, .cells #[iv (oF (lift1 (fun m => some (echM m)) a)).P, iv (oF (lift1 (fun m => some (echM m)) a)).R, iv (oF (lift1 (fun m => some (echM m)) a)).C, .slice A13 (oF (lift1 (fun m => some (echM m)) a)).E.length c13] 27), (b12, .cells #[iv a.P, iv a.R, iv a.C, .slice Ak nk ck] 27), (b10, .cells ⟨cl⟩ 27)] ++ (N15 ++ (N16 ++ (N13 ++ (N14 ++ T))))) (by repeat first | exact trivial | refine ⟨rfl, ?_⟩) (by (repeat' first | exact HSub.refl _ | exact HSub.nil _ | refine HSub.at 0 rfl ?_ | refine HSub.at 1 rfl ?_ | refine HSub.at 2 rfl ?_ | refine HSub.at 3 rfl ?_ | refine HSub.at 4 rfl ?_ | refine HSub.at 5 rfl ?_ | refine HSub.at 6 rfl ?_ | refine HSub.at 7 rfl ?_ | refine HSub.at 8 rfl ?_ | refine HSub.at 9 rfl ?_ | refine HSub.at 10 rfl ?_ | refine HSub.at 11 rfl ?_ | refine HSub.at 12 rfl ?_ | refine HSub.at 13 rfl ?_ | refine HSub.at 14 rfl ?_ | refine HSub.at 15 rfl ?_ | refine HSub.at 16 rfl ?_ | refine HSub.at 17 rfl ?_ | refine HSub.at 18 rfl ?_ | refine HSub.at 19 rfl ?_ | refine HSub.segH ?_ | refine HSub.skip ?_ | refine HSub.skipN ?_)) ?_
    refine JX.thenN ?_
    (repeat' (first | refine JC.seq ?_ | refine JC.ops ?_ | (apply r_loadN; exact rfl; exact rfl; exact rfl; exact rfl; (first | exact at0 | exact at1 | exact at2 | exact at3 | exact at4 | exact at5 | exact at6 | exact at7); exact rfl)))
    refine r_callA (A := [_, _, _, _]) rfl trivial rfl rfl rfl (fun w hk hs => c_InverseG w _ a ⟨_, rfl, (hrk _).at hk hs (by (repeat' first | exact HSub.nil _ | exact HSub.hd | exact HSub.in0 | exact HSub.refl _ | refine HSub.skip ?_ | refine HSub.skipN ?_))⟩ hlk) fun w v w' _ _ _ hR => ?_
    obtain ⟨N17, u, rfl, hN17, E17, rfl, hO17⟩ := hR
    obtain ⟨A17, c17, rfl⟩ := hO17.form
    unfold fmV
    refine ⟨N17, hN17, ?_⟩
    (repeat' (first | refine JO.nil ?_ | (apply r_move; exact rfl; exact rfl; exact rfl) | (apply r_assign; exact rfl; exact rfl; exact rfl) | (apply r_extract; exact rfl; exact rfl; exact rfl; exact rfl) | (apply r_allocZ; exact rfl; exact rfl; exact rfl; intro _) | (apply r_storeN; exact rfl; (first | exact trivial | exact ⟨rfl, rfl⟩); exact rfl; exact rfl; (first | exact at0 | exact at1 | exact at2 | exact at3 | exact at4 | exact at5 | exact at6 | exact at7); exact rfl; exact rfl; exact rfl)))
    rename_i b17
    refine JX.part (F' := [(18, .bool (lift1 invM a).isSome), (17, .pointer (some ⟨b17, 0, none⟩)), (16, .slice A16 (pivG a).length c16), (15, .pointer (some ⟨b15, 0, none⟩)), (14, .slice A14 (pivG a).length c14), (13, .pointer (some ⟨b13, 0, none⟩)), (12, .pointer (some ⟨b12, 0, none⟩)), (11, nv k), (10, .slice (some ⟨b10, 0, none⟩) 3 3), (7, .bool true)]) (H' := [(b17, .cells #[iv (oF (lift1 invM a)).P, iv (oF (lift1 invM a)).R, iv (oF (lift1 invM a)).C, .slice A17 (oF (lift1 invM a)).E.length c17] 27), (b15, .cells #[iv (oF (lift1 (fun m => some (echM m)) a)).P, iv (oF (lift1 (fun m => some (echM m)) a)).R, iv (oF (lift1 (fun m => some (echM m)) a)).C, .slice A15 (oF (lift1 (fun m => some (echM m)) a)).E.length c15] 27), (b13, .cells #[iv (oF (lift1 (fun m => some (echM m)) a)).P, iv (oF (lift1 (fun m => some (echM m)) a)).R, iv (oF (lift1 (fun m => some (echM m)) a)).C, .slice A13 (oF (lift1 (fun m => some (echM m)) a)).E.length c13] 27), (b12, .cells #[iv a.P, iv a.R, iv a.C, .slice Ak nk ck] 27), (b10, .cells ⟨cl⟩ 27)] ++ (N17 ++ (N15 ++ (N16 ++ (N13 ++ (N14 ++ T)))))) (by repeat first | exact trivial | refine ⟨rfl, ?_⟩) (by (repeat' first | exact HSub.refl _ | exact HSub.nil _ | refine HSub.at 0 rfl ?_ | refine HSub.at 1 rfl ?_ | refine HSub.at 2 rfl ?_ | refine HSub.at 3 rfl ?_ | refine HSub.at 4 rfl ?_ | refine HSub.at 5 rfl ?_ | refine HSub.at 6 rfl ?_ | refine HSub.at 7 rfl ?_ | refine HSub.at 8 rfl ?_ | refine HSub.at 9 rfl ?_ | refine HSub.at 10 rfl ?_ | refine HSub.at 11 rfl ?_ | refine HSub.at 12 rfl ?_ | refine HSub.at 13 rfl ?_ | refine HSub.at 14 rfl ?_ | refine HSub.at 15 rfl ?_ | refine HSub.at 16 rfl ?_ | refine HSub.at 17 rfl ?_ | refine HSub.at 18 rfl ?_ | refine HSub.at 19 rfl ?_ | refine HSub.segH ?_ | refine HSub.skip ?_ | refine HSub.skipN ?_)) ?_
    refine JX.thenN ?_
    (repeat' (first | refine JC.seq ?_ | refine JC.ops ?_ | (apply r_loadN; exact rfl; exact rfl; exact rfl; exact rfl; (first | exact at0 | exact at1 | exact at2 | exact at3 | exact at4 | exact at5 | exact at6 | exact at7); exact rfl)))
    refine r_callA (A := [_, _, _, _, _]) rfl trivial rfl rfl rfl (fun w hk hs => c_refInverseG w _ a ⟨_, rfl, (hrk _).at hk hs (by (repeat' first | exact HSub.nil _ | exact HSub.hd | exact HSub.in0 | exact HSub.refl _ | refine HSub.skip ?_ | refine HSub.skipN ?_))⟩ hlk) fun w v w' _ _ _ hR => ?_
    obtain ⟨N19, u, rfl, hN19, E19, rfl, hO19⟩ := hR
    obtain ⟨A19, c19, rfl⟩ := hO19.form
    unfold fmV
    refine ⟨N19, hN19, ?_⟩
    (repeat' (first | refine JO.nil ?_ | (apply r_move; exact rfl; exact rfl; exact rfl) | (apply r_assign; exact rfl; exact rfl; exact rfl) | (apply r_extract; exact rfl; exact rfl; exact rfl; exact rfl) | (apply r_allocZ; exact rfl; exact rfl; exact rfl; intro _) | (apply r_storeN; exact rfl; (first | exact trivial | exact ⟨rfl, rfl⟩); exact rfl; exact rfl; (first | exact at0 | exact at1 | exact at2 | exact at3 | exact at4 | exact at5 | exact at6 | exact at7); exact rfl; exact rfl; exact rfl)))
    rename_i b19
    refine JX.part (F' := [(20, .bool (lift1 invM a).isSome), (19, .pointer (some ⟨b19, 0, none⟩)), (18, .bool (lift1 invM a).isSome), (17, .pointer (some ⟨b17, 0, none⟩)), (16, .slice A16 (pivG a).length c16), (15, .pointer (some ⟨b15, 0, none⟩)), (14, .slice A14 (pivG a).length c14), (13, .pointer (some ⟨b13, 0, none⟩)), (12, .pointer (some ⟨b12, 0, none⟩)), (11, nv k), (10, .slice (some ⟨b10, 0, none⟩) 3 3), (7, .bool true)]) (H' := [(b19, .cells #[iv (oF (lift1 invM a)).P, iv (oF (lift1 invM a)).R, iv (oF (lift1 invM a)).C, .slice A19 (oF (lift1 invM a)).E.length c19] 27), (b17, .cells #[iv (oF (lift1 invM a)).P, iv (oF (lift1 invM a)).R, iv (oF (lift1 invM a)).C, .slice A17 (oF (lift1 invM a)).E.length c17] 27), (b15, .cells #[iv (oF (lift1 (fun m => some (echM m)) a)).P, iv (oF (lift1 (fun m => some (echM m)) a)).R, iv (oF (lift1 (fun m => some (echM m)) a)).C, .slice A15 (oF (lift1 (fun m => some (echM m)) a)).E.length c15] 27), (b13, .cells #[iv (oF (lift1 (fun m => some (echM m)) a)).P, iv (oF (lift1 (fun m => some (echM m)) a)).R, iv (oF (lift1 (fun m => some (echM m)) a)).C, .slice A13 (oF (lift1 (fun m => some (echM m)) a)).E.length c13] 27), (b12, .cells #[iv a.P, iv a.R, iv a.C, .slice Ak nk ck] 27), (b10, .cells ⟨cl⟩ 27)] ++ (N19 ++ (N17 ++ (N15 ++ (N16 ++ (N13 ++ (N14 ++ T))))))) (by repeat first | exact trivial | refine ⟨rfl, ?_⟩) (by (repeat' first | exact HSub.refl _ | exact HSub.nil _ | refine HSub.at 0 rfl ?_ | refine HSub.at 1 rfl ?_ | refine HSub.at 2 rfl ?_ | refine HSub.at 3 rfl ?_ | refine HSub.at 4 rfl ?_ | refine HSub.at 5 rfl ?_ | refine HSub.at 6 rfl ?_ | refine HSub.at 7 rfl ?_ | refine HSub.at 8 rfl ?_ | refine HSub.at 9 rfl ?_ | refine HSub.at 10 rfl ?_ | refine HSub.at 11 rfl ?_ | refine HSub.at 12 rfl ?_ | refine HSub.at 13 rfl ?_ | refine HSub.at 14 rfl ?_ | refine HSub.at 15 rfl ?_ | refine HSub.at 16 rfl ?_ | refine HSub.at 17 rfl ?_ | refine HSub.at 18 rfl ?_ | refine HSub.at 19 rfl ?_ | refine HSub.segH ?_ | refine HSub.skip ?_ | refine HSub.skipN ?_)) ?_
    refine JX.thenN ?_
    (repeat' (first | refine JC.seq ?_ | refine JC.opsD ?_ | (apply r_loadN; exact rfl; exact rfl; exact rfl; exact rfl; (first | exact at0 | exact at1 | exact at2 | exact at3 | exact at4 | exact at5 | exact at6 | exact at7); exact rfl)))
    refine r_call0 trivial rfl rfl rfl (fun w hk hs => c_Right w _ a ⟨_, rfl, (hrk _).at hk hs (by (repeat' first | exact HSub.nil _ | exact HSub.hd | exact HSub.in0 | exact HSub.refl _ | refine HSub.skip ?_ | refine HSub.skipN ?_))⟩ (by omega)) fun w v1 w' _ _ _ hR1 => ?_
    have hB1 := hR1
    obtain ⟨x1, rfl, _⟩ := hR1
    skip
    refine r_call0 trivial rfl rfl rfl (fun w hk hs => c_refRight w _ a ⟨_, rfl, (hrk _).at hk hs (by (repeat' first | exact HSub.nil _ | exact HSub.hd | exact HSub.in0 | exact HSub.refl _ | refine HSub.skip ?_ | refine HSub.skipN ?_))⟩ hlk) fun w v2 w' _ _ _ hR2 => ?_
    obtain ⟨x2, hx2, rfl⟩ := BoolIs.same hB1 hR2
    obtain rfl : x1 = x2 := by cases hx2; rfl
    (repeat' (first | (apply r_move; exact rfl; exact rfl; exact rfl) | (apply r_loadN; exact rfl; exact rfl; exact rfl; exact rfl; (first | exact at0 | exact at1 | exact at2 | exact at3 | exact at4 | exact at5 | exact at6 | exact at7); exact rfl) | (apply r_neBS; exact rfl; exact rfl; exact rfl; exact rfl)))
    refine r_call0 trivial rfl rfl rfl (fun w hk hs => c_SameT w _ _ _ _ ⟨_, rfl, hO13.rd.at hk hs (by (repeat' first | exact HSub.nil _ | exact HSub.hd | exact HSub.in0 | exact HSub.refl _ | refine HSub.skip ?_ | refine HSub.skipN ?_))⟩ ⟨_, rfl, hO15.rd.at hk hs (by (repeat' first | exact HSub.nil _ | exact HSub.hd | exact HSub.in0 | exact HSub.refl _ | refine HSub.skip ?_ | refine HSub.skipN ?_))⟩ (l_ech a) (l_ech a) rfl) fun w v w' _ _ _ hR => ?_
    subst hR
    (repeat' (first | (apply r_move; exact rfl; exact rfl; exact rfl) | (apply r_pickF; exact rfl; exact rfl; exact rfl; exact rfl) | (apply r_not; exact rfl; exact rfl; exact rfl)))
    refine r_call0 trivial rfl rfl rfl (fun w hk hs => c_IntsT w _ _ (pivG a).length (ints (pivG a)) (WN.int (hO14.rd.at hk hs (by (repeat' first | exact HSub.nil _ | exact HSub.hd | exact HSub.in0 | exact HSub.refl _ | refine HSub.skip ?_ | refine HSub.skipN ?_)))) (WN.int (hO16.rd.at hk hs (by (repeat' first | exact HSub.nil _ | exact HSub.hd | exact HSub.in0 | exact HSub.refl _ | refine HSub.skip ?_ | refine HSub.skipN ?_)))) (pivG_len a)) fun w v w' _ _ _ hR => ?_
    subst hR
    (repeat' (first | (apply r_move; exact rfl; exact rfl; exact rfl) | (apply r_loadN; exact rfl; exact rfl; exact rfl; exact rfl; (first | exact at0 | exact at1 | exact at2 | exact at3 | exact at4 | exact at5 | exact at6 | exact at7); exact rfl) | (apply r_pickF; exact rfl; exact rfl; exact rfl; exact rfl) | (apply r_not; exact rfl; exact rfl; exact rfl)))
    refine r_call0 trivial rfl rfl rfl (fun w hk hs => c_SameT w _ _ _ _ ⟨_, rfl, hO17.rd.at hk hs (by (repeat' first | exact HSub.nil _ | exact HSub.hd | exact HSub.in0 | exact HSub.refl _ | refine HSub.skip ?_ | refine HSub.skipN ?_))⟩ ⟨_, rfl, hO19.rd.at hk hs (by (repeat' first | exact HSub.nil _ | exact HSub.hd | exact HSub.in0 | exact HSub.refl _ | refine HSub.skip ?_ | refine HSub.skipN ?_))⟩ (l_inv a) (l_inv a) rfl) fun w v w' _ _ _ hR => ?_
    subst hR
    (repeat' (first | (apply r_move; exact rfl; exact rfl; exact rfl) | (apply r_loadN; exact rfl; exact rfl; exact rfl; exact rfl; (first | exact at0 | exact at1 | exact at2 | exact at3 | exact at4 | exact at5 | exact at6 | exact at7); exact rfl) | (apply r_pickF; exact rfl; exact rfl; exact rfl; exact rfl) | (apply r_not; exact rfl; exact rfl; exact rfl) | (apply r_neBS; exact rfl; exact rfl; exact rfl; exact rfl)))
    refine r_callA (A := [_, _, _, _, _, _]) rfl trivial rfl rfl rfl (fun w hk hs => c_TransposeG w _ a ⟨_, rfl, (hrk _).at hk hs (by (repeat' first | exact HSub.nil _ | exact HSub.hd | exact HSub.in0 | exact HSub.refl _ | refine HSub.skip ?_ | refine HSub.skipN ?_))⟩ hlk) fun w v w' _ _ _ hR => ?_
    obtain ⟨M1, hM1, F1, rfl, hP1⟩ := hR
    unfold fmV
    refine ⟨M1, hM1, ?_⟩
    skip
    refine r_callA (A := [_, _, _, _, _, _]) rfl trivial rfl rfl rfl (fun w hk hs => c_refTransposeG w _ a ⟨_, rfl, (hrk _).at hk hs (by (repeat' first | exact HSub.nil _ | exact HSub.hd | exact HSub.in0 | exact HSub.refl _ | refine HSub.skip ?_ | refine HSub.skipN ?_))⟩ hlk) fun w v w' _ _ _ hR => ?_
    obtain ⟨M2, hM2, F2, rfl, hP2⟩ := hR
    unfold fmV
    refine ⟨M2, hM2, ?_⟩
    skip
    refine r_call0 trivial rfl rfl rfl (fun w hk hs => c_SameT w _ _ _ _ ⟨_, rfl, hP1.rd.at hk hs (by (repeat' first | exact HSub.nil _ | exact HSub.hd | exact HSub.in0 | exact HSub.refl _ | refine HSub.skip ?_ | refine HSub.skipN ?_))⟩ ⟨_, rfl, hP2.rd.at hk hs (by (repeat' first | exact HSub.nil _ | exact HSub.hd | exact HSub.in0 | exact HSub.refl _ | refine HSub.skip ?_ | refine HSub.skipN ?_))⟩ (l_tr a) (l_tr a) rfl) fun w v w' _ _ _ hR => ?_
    subst hR
    (repeat' (first | (apply r_move; exact rfl; exact rfl; exact rfl) | (apply r_loadN; exact rfl; exact rfl; exact rfl; exact rfl; (first | exact at0 | exact at1 | exact at2 | exact at3 | exact at4 | exact at5 | exact at6 | exact at7); exact rfl) | (apply r_pickF; exact rfl; exact rfl; exact rfl; exact rfl) | (apply r_not; exact rfl; exact rfl; exact rfl)))
    refine r_callA (A := [_, _, _, _, _, _]) rfl trivial rfl rfl rfl (fun w hk hs => c_KernelG w _ a ⟨_, rfl, (hrk _).at hk hs (by (repeat' first | exact HSub.nil _ | exact HSub.hd | exact HSub.in0 | exact HSub.refl _ | refine HSub.skip ?_ | refine HSub.skipN ?_))⟩ hlk) fun w v w' _ _ _ hR => ?_
    obtain ⟨M3, hM3, F3, rfl, hP3⟩ := hR
    unfold fmV
    refine ⟨M3, hM3, ?_⟩
    skip
    refine r_callA (A := [_, _, _, _, _, _]) rfl trivial rfl rfl rfl (fun w hk hs => c_refKernelG w _ a ⟨_, rfl, (hrk _).at hk hs (by (repeat' first | exact HSub.nil _ | exact HSub.hd | exact HSub.in0 | exact HSub.refl _ | refine HSub.skip ?_ | refine HSub.skipN ?_))⟩ hlk) fun w v w' _ _ _ hR => ?_
    obtain ⟨M4, hM4, F4, rfl, hP4⟩ := hR
    unfold fmV
    refine ⟨M4, hM4, ?_⟩
    skip
    refine r_call0 trivial rfl rfl rfl (fun w hk hs => c_SameT w _ _ _ _ ⟨_, rfl, hP3.rd.at hk hs (by (repeat' first | exact HSub.nil _ | exact HSub.hd | exact HSub.in0 | exact HSub.refl _ | refine HSub.skip ?_ | refine HSub.skipN ?_))⟩ ⟨_, rfl, hP4.rd.at hk hs (by (repeat' first | exact HSub.nil _ | exact HSub.hd | exact HSub.in0 | exact HSub.refl _ | refine HSub.skip ?_ | refine HSub.skipN ?_))⟩ (l_ker a) (l_ker a) rfl) fun w v w' _ _ _ hR => ?_
    subst hR
    (repeat' (first | (apply r_move; exact rfl; exact rfl; exact rfl) | (apply r_loadN; exact rfl; exact rfl; exact rfl; exact rfl; (first | exact at0 | exact at1 | exact at2 | exact at3 | exact at4 | exact at5 | exact at6 | exact at7); exact rfl) | (apply r_pickF; exact rfl; exact rfl; exact rfl; exact rfl) | (apply r_not; exact rfl; exact rfl; exact rfl)))
    refine r_callA (A := [_, _, _, _, _, _]) rfl trivial rfl rfl rfl (fun w hk hs => c_ImageG w _ a ⟨_, rfl, (hrk _).at hk hs (by (repeat' first | exact HSub.nil _ | exact HSub.hd | exact HSub.in0 | exact HSub.refl _ | refine HSub.skip ?_ | refine HSub.skipN ?_))⟩ hlk) fun w v w' _ _ _ hR => ?_
    obtain ⟨M5, hM5, F5, rfl, hP5⟩ := hR
    unfold fmV
    refine ⟨M5, hM5, ?_⟩
    skip
    refine r_callA (A := [_, _, _, _, _, _]) rfl trivial rfl rfl rfl (fun w hk hs => c_refImageG w _ a ⟨_, rfl, (hrk _).at hk hs (by (repeat' first | exact HSub.nil _ | exact HSub.hd | exact HSub.in0 | exact HSub.refl _ | refine HSub.skip ?_ | refine HSub.skipN ?_))⟩ hlk) fun w v w' _ _ _ hR => ?_
    obtain ⟨M6, hM6, F6, rfl, hP6⟩ := hR
    unfold fmV
    refine ⟨M6, hM6, ?_⟩
    skip
    refine r_call0 trivial rfl rfl rfl (fun w hk hs => c_SameT w _ _ _ _ ⟨_, rfl, hP5.rd.at hk hs (by (repeat' first | exact HSub.nil _ | exact HSub.hd | exact HSub.in0 | exact HSub.refl _ | refine HSub.skip ?_ | refine HSub.skipN ?_))⟩ ⟨_, rfl, hP6.rd.at hk hs (by (repeat' first | exact HSub.nil _ | exact HSub.hd | exact HSub.in0 | exact HSub.refl _ | refine HSub.skip ?_ | refine HSub.skipN ?_))⟩ (l_img a) (l_img a) rfl) fun w v w' _ _ _ hR => ?_
    subst hR
    (repeat' (first | (apply r_move; exact rfl; exact rfl; exact rfl) | (apply r_loadN; exact rfl; exact rfl; exact rfl; exact rfl; (first | exact at0 | exact at1 | exact at2 | exact at3 | exact at4 | exact at5 | exact at6 | exact at7); exact rfl) | (apply r_pickF; exact rfl; exact rfl; exact rfl; exact rfl) | (apply r_not; exact rfl; exact rfl; exact rfl)))
    refine r_call0 trivial rfl rfl rfl (fun w hk hs => c_Rank w _ a ⟨_, rfl, (hrk _).at hk hs (by (repeat' first | exact HSub.nil _ | exact HSub.hd | exact HSub.in0 | exact HSub.refl _ | refine HSub.skip ?_ | refine HSub.skipN ?_))⟩ hlk) fun w v w' _ _ _ hR => ?_
    subst hR
    skip
    refine r_call0 trivial rfl rfl rfl (fun w hk hs => c_refRank w _ a ⟨_, rfl, (hrk _).at hk hs (by (repeat' first | exact HSub.nil _ | exact HSub.hd | exact HSub.in0 | exact HSub.refl _ | refine HSub.skip ?_ | refine HSub.skipN ?_))⟩ hlk) fun w v w' _ _ _ hR => ?_
    subst hR
    (repeat' (first | refine JC.seq ?_ | refine JC.ops ?_ | refine JO.nil ?_ | refine JX.thenN ?_ | (apply r_assign; exact rfl; exact rfl; exact rfl) | (apply r_pickF; exact rfl; exact rfl; exact rfl; exact rfl) | (apply r_neq; exact rfl; exact rfl; exact rfl; exact rfl; all_goals intro hc; all_goals try (exfalso; omega)) | refine JC.skip ?_ | refine JC.condF rfl ?_ | refine JC.block ?_))
    refine JC.loopH (ι := Nat) ⟨fun t => [(21, nv t), (12, .pointer (some ⟨b12, 0, none⟩)), (11, nv k), (10, .slice (some ⟨b10, 0, none⟩) 3 3), (7, .bool true)], fun _ => [(b12, .cells #[iv a.P, iv a.R, iv a.C, .slice Ak nk ck] 27), (b10, .cells ⟨cl⟩ 27)] ++ T, fun t => t ≤ 3, fun t => 3 - t⟩ 0 (by dsimp only; omega) (by repeat first | exact trivial | refine ⟨rfl, ?_⟩) (by (repeat' first | exact HSub.refl _ | exact HSub.nil _ | refine HSub.at 0 rfl ?_ | refine HSub.at 1 rfl ?_ | refine HSub.at 2 rfl ?_ | refine HSub.at 3 rfl ?_ | refine HSub.at 4 rfl ?_ | refine HSub.at 5 rfl ?_ | refine HSub.at 6 rfl ?_ | refine HSub.at 7 rfl ?_ | refine HSub.at 8 rfl ?_ | refine HSub.at 9 rfl ?_ | refine HSub.at 10 rfl ?_ | refine HSub.at 11 rfl ?_ | refine HSub.at 12 rfl ?_ | refine HSub.at 13 rfl ?_ | refine HSub.at 14 rfl ?_ | refine HSub.at 15 rfl ?_ | refine HSub.at 16 rfl ?_ | refine HSub.at 17 rfl ?_ | refine HSub.at 18 rfl ?_ | refine HSub.at 19 rfl ?_ | refine HSub.segH ?_ | refine HSub.skip ?_ | refine HSub.skipN ?_)) (fun q hq => ?_)
    dsimp only at hq ⊢
    by_cases hq3 : q < 3
    · have hrq := hrd q hq3
      have hlq := hlen q hq3
      have hcq := hcl q hq3
      obtain ⟨Aq, nq, cq, hEq⟩ := hform q hq3
      rw [hEq] at hrq hcq
      generalize pm q = b at *
      (repeat' (first | refine JC.seq ?_ | refine JC.ops ?_ | refine JO.nil ?_ | refine JX.thenN ?_ | (apply r_move; exact rfl; exact rfl; exact rfl) | (apply r_index; exact rfl; exact rfl; exact rfl; exact fun _ => rfl; exact rfl; omega) | (apply r_lss; exact rfl; exact rfl; exact rfl; exact rfl; all_goals intro hc; all_goals try (exfalso; omega)) | refine JC.skip ?_ | refine JC.condT rfl ?_ | refine JC.block ?_))
      refine r_loadM (n := 4) (vs := #[iv b.P, iv b.R, iv b.C, .slice Aq nq cq]) 1 rfl rfl rfl rfl rfl rfl hcq ?_
      (repeat' (first | refine JO.nil ?_ | (apply r_allocZ; exact rfl; exact rfl; exact rfl; intro _) | (apply r_storeN; exact rfl; (first | exact trivial | exact ⟨rfl, rfl⟩); exact rfl; exact rfl; (first | exact at0 | exact at1 | exact at2 | exact at3 | exact at4 | exact at5 | exact at6 | exact at7); exact rfl; exact rfl; exact rfl)))
      rename_i b22
      refine JX.part (F' := [(22, .pointer (some ⟨b22, 0, none⟩)), (21, nv q), (12, .pointer (some ⟨b12, 0, none⟩)), (11, nv k), (10, .slice (some ⟨b10, 0, none⟩) 3 3), (7, .bool true)]) (H' := [(b22, .cells #[iv b.P, iv b.R, iv b.C, .slice Aq nq cq] 27), (b12, .cells #[iv a.P, iv a.R, iv a.C, .slice Ak nk ck] 27), (b10, .cells ⟨cl⟩ 27)] ++ T) (by repeat first | exact trivial | refine ⟨rfl, ?_⟩) (by (repeat' first | exact HSub.refl _ | exact HSub.nil _ | refine HSub.at 0 rfl ?_ | refine HSub.at 1 rfl ?_ | refine HSub.at 2 rfl ?_ | refine HSub.at 3 rfl ?_ | refine HSub.at 4 rfl ?_ | refine HSub.at 5 rfl ?_ | refine HSub.at 6 rfl ?_ | refine HSub.at 7 rfl ?_ | refine HSub.at 8 rfl ?_ | refine HSub.at 9 rfl ?_ | refine HSub.at 10 rfl ?_ | refine HSub.at 11 rfl ?_ | refine HSub.at 12 rfl ?_ | refine HSub.at 13 rfl ?_ | refine HSub.at 14 rfl ?_ | refine HSub.at 15 rfl ?_ | refine HSub.at 16 rfl ?_ | refine HSub.at 17 rfl ?_ | refine HSub.at 18 rfl ?_ | refine HSub.at 19 rfl ?_ | refine HSub.segH ?_ | refine HSub.skip ?_ | refine HSub.skipN ?_)) ?_
      refine JX.thenN ?_
      (repeat' (first | refine JC.seq ?_ | refine JC.ops ?_ | (apply r_loadN; exact rfl; exact rfl; exact rfl; exact rfl; (first | exact at0 | exact at1 | exact at2 | exact at3 | exact at4 | exact at5 | exact at6 | exact at7); exact rfl)))
      refine r_callA (A := [_, _, _]) rfl trivial rfl rfl rfl (fun w hk hs => c_AddG w _ _ a b ⟨_, rfl, (hrk _).at hk hs (by (repeat' first | exact HSub.nil _ | exact HSub.hd | exact HSub.in0 | exact HSub.refl _ | refine HSub.skip ?_ | refine HSub.skipN ?_))⟩ ⟨_, rfl, (hrq _).at hk hs (by (repeat' first | exact HSub.nil _ | exact HSub.hd | exact HSub.in0 | exact HSub.refl _ | refine HSub.skip ?_ | refine HSub.skipN ?_))⟩ hlk hlq) fun w v w' _ _ _ hR => ?_
      obtain ⟨N23, u, rfl, hN23, E23, rfl, hO23⟩ := hR
      obtain ⟨A23, c23, rfl⟩ := hO23.form
      unfold fmV
      refine ⟨N23, hN23, ?_⟩
      (repeat' (first | refine JO.nil ?_ | (apply r_move; exact rfl; exact rfl; exact rfl) | (apply r_assign; exact rfl; exact rfl; exact rfl) | (apply r_extract; exact rfl; exact rfl; exact rfl; exact rfl) | (apply r_allocZ; exact rfl; exact rfl; exact rfl; intro _) | (apply r_storeN; exact rfl; (first | exact trivial | exact ⟨rfl, rfl⟩); exact rfl; exact rfl; (first | exact at0 | exact at1 | exact at2 | exact at3 | exact at4 | exact at5 | exact at6 | exact at7); exact rfl; exact rfl; exact rfl)))
      rename_i b23
      refine JX.part (F' := [(24, .bool (lift2 addO a b).isSome), (23, .pointer (some ⟨b23, 0, none⟩)), (22, .pointer (some ⟨b22, 0, none⟩)), (21, nv q), (12, .pointer (some ⟨b12, 0, none⟩)), (11, nv k), (10, .slice (some ⟨b10, 0, none⟩) 3 3), (7, .bool true)]) (H' := [(b23, .cells #[iv (oF (lift2 addO a b)).P, iv (oF (lift2 addO a b)).R, iv (oF (lift2 addO a b)).C, .slice A23 (oF (lift2 addO a b)).E.length c23] 27), (b22, .cells #[iv b.P, iv b.R, iv b.C, .slice Aq nq cq] 27), (b12, .cells #[iv a.P, iv a.R, iv a.C, .slice Ak nk ck] 27), (b10, .cells ⟨cl⟩ 27)] ++ (N23 ++ T)) (by repeat first | exact trivial | refine ⟨rfl, ?_⟩) (by (repeat' first | exact HSub.refl _ | exact HSub.nil _ | refine HSub.at 0 rfl ?_ | refine HSub.at 1 rfl ?_ | refine HSub.at 2 rfl ?_ | refine HSub.at 3 rfl ?_ | refine HSub.at 4 rfl ?_ | refine HSub.at 5 rfl ?_ | refine HSub.at 6 rfl ?_ | refine HSub.at 7 rfl ?_ | refine HSub.at 8 rfl ?_ | refine HSub.at 9 rfl ?_ | refine HSub.at 10 rfl ?_ | refine HSub.at 11 rfl ?_ | refine HSub.at 12 rfl ?_ | refine HSub.at 13 rfl ?_ | refine HSub.at 14 rfl ?_ | refine HSub.at 15 rfl ?_ | refine HSub.at 16 rfl ?_ | refine HSub.at 17 rfl ?_ | refine HSub.at 18 rfl ?_ | refine HSub.at 19 rfl ?_ | refine HSub.segH ?_ | refine HSub.skip ?_ | refine HSub.skipN ?_)) ?_
      refine JX.thenN ?_
      (repeat' (first | refine JC.seq ?_ | refine JC.ops ?_ | (apply r_loadN; exact rfl; exact rfl; exact rfl; exact rfl; (first | exact at0 | exact at1 | exact at2 | exact at3 | exact at4 | exact at5 | exact at6 | exact at7); exact rfl)))
      refine r_callA (A := [_, _, _, _]) rfl trivial rfl rfl rfl (fun w hk hs => c_refAddG w _ _ a b ⟨_, rfl, (hrk _).at hk hs (by (repeat' first | exact HSub.nil _ | exact HSub.hd | exact HSub.in0 | exact HSub.refl _ | refine HSub.skip ?_ | refine HSub.skipN ?_))⟩ ⟨_, rfl, (hrq _).at hk hs (by (repeat' first | exact HSub.nil _ | exact HSub.hd | exact HSub.in0 | exact HSub.refl _ | refine HSub.skip ?_ | refine HSub.skipN ?_))⟩ hlk hlq) fun w v w' _ _ _ hR => ?_
      obtain ⟨N25, u, rfl, hN25, E25, rfl, hO25⟩ := hR
      obtain ⟨A25, c25, rfl⟩ := hO25.form
      unfold fmV
      refine ⟨N25, hN25, ?_⟩
      (repeat' (first | refine JO.nil ?_ | (apply r_move; exact rfl; exact rfl; exact rfl) | (apply r_assign; exact rfl; exact rfl; exact rfl) | (apply r_extract; exact rfl; exact rfl; exact rfl; exact rfl) | (apply r_allocZ; exact rfl; exact rfl; exact rfl; intro _) | (apply r_storeN; exact rfl; (first | exact trivial | exact ⟨rfl, rfl⟩); exact rfl; exact rfl; (first | exact at0 | exact at1 | exact at2 | exact at3 | exact at4 | exact at5 | exact at6 | exact at7); exact rfl; exact rfl; exact rfl)))
      rename_i b25
      refine JX.part (F' := [(26, .bool (lift2 addO a b).isSome), (25, .pointer (some ⟨b25, 0, none⟩)), (24, .bool (lift2 addO a b).isSome), (23, .pointer (some ⟨b23, 0, none⟩)), (22, .pointer (some ⟨b22, 0, none⟩)), (21, nv q), (12, .pointer (some ⟨b12, 0, none⟩)), (11, nv k), (10, .slice (some ⟨b10, 0, none⟩) 3 3), (7, .bool true)]) (H' := [(b25, .cells #[iv (oF (lift2 addO a b)).P, iv (oF (lift2 addO a b)).R, iv (oF (lift2 addO a b)).C, .slice A25 (oF (lift2 addO a b)).E.length c25] 27), (b23, .cells #[iv (oF (lift2 addO a b)).P, iv (oF (lift2 addO a b)).R, iv (oF (lift2 addO a b)).C, .slice A23 (oF (lift2 addO a b)).E.length c23] 27), (b22, .cells #[iv b.P, iv b.R, iv b.C, .slice Aq nq cq] 27), (b12, .cells #[iv a.P, iv a.R, iv a.C, .slice Ak nk ck] 27), (b10, .cells ⟨cl⟩ 27)] ++ (N25 ++ (N23 ++ T))) (by repeat first | exact trivial | refine ⟨rfl, ?_⟩) (by (repeat' first | exact HSub.refl _ | exact HSub.nil _ | refine HSub.at 0 rfl ?_ | refine HSub.at 1 rfl ?_ | refine HSub.at 2 rfl ?_ | refine HSub.at 3 rfl ?_ | refine HSub.at 4 rfl ?_ | refine HSub.at 5 rfl ?_ | refine HSub.at 6 rfl ?_ | refine HSub.at 7 rfl ?_ | refine HSub.at 8 rfl ?_ | refine HSub.at 9 rfl ?_ | refine HSub.at 10 rfl ?_ | refine HSub.at 11 rfl ?_ | refine HSub.at 12 rfl ?_ | refine HSub.at 13 rfl ?_ | refine HSub.at 14 rfl ?_ | refine HSub.at 15 rfl ?_ | refine HSub.at 16 rfl ?_ | refine HSub.at 17 rfl ?_ | refine HSub.at 18 rfl ?_ | refine HSub.at 19 rfl ?_ | refine HSub.segH ?_ | refine HSub.skip ?_ | refine HSub.skipN ?_)) ?_
      refine JX.thenN ?_
      (repeat' (first | refine JC.seq ?_ | refine JC.ops ?_ | (apply r_loadN; exact rfl; exact rfl; exact rfl; exact rfl; (first | exact at0 | exact at1 | exact at2 | exact at3 | exact at4 | exact at5 | exact at6 | exact at7); exact rfl)))
      refine r_callA (A := [_, _, _, _, _]) rfl trivial rfl rfl rfl (fun w hk hs => c_JoinG w _ _ a b ⟨_, rfl, (hrk _).at hk hs (by (repeat' first | exact HSub.nil _ | exact HSub.hd | exact HSub.in0 | exact HSub.refl _ | refine HSub.skip ?_ | refine HSub.skipN ?_))⟩ ⟨_, rfl, (hrq _).at hk hs (by (repeat' first | exact HSub.nil _ | exact HSub.hd | exact HSub.in0 | exact HSub.refl _ | refine HSub.skip ?_ | refine HSub.skipN ?_))⟩ hlk hlq) fun w v w' _ _ _ hR => ?_
      obtain ⟨N27, u, rfl, hN27, E27, rfl, hO27⟩ := hR
      obtain ⟨A27, c27, rfl⟩ := hO27.form
      unfold fmV
      refine ⟨N27, hN27, ?_⟩
      (repeat' (first | refine JO.nil ?_ | (apply r_move; exact rfl; exact rfl; exact rfl) | (apply r_assign; exact rfl; exact rfl; exact rfl) | (apply r_extract; exact rfl; exact rfl; exact rfl; exact rfl) | (apply r_allocZ; exact rfl; exact rfl; exact rfl; intro _) | (apply r_storeN; exact rfl; (first | exact trivial | exact ⟨rfl, rfl⟩); exact rfl; exact rfl; (first | exact at0 | exact at1 | exact at2 | exact at3 | exact at4 | exact at5 | exact at6 | exact at7); exact rfl; exact rfl; exact rfl)))
      rename_i b27
      refine JX.part (F' := [(28, .bool (lift2 joinO a b).isSome), (27, .pointer (some ⟨b27, 0, none⟩)), (26, .bool (lift2 addO a b).isSome), (25, .pointer (some ⟨b25, 0, none⟩)), (24, .bool (lift2 addO a b).isSome), (23, .pointer (some ⟨b23, 0, none⟩)), (22, .pointer (some ⟨b22, 0, none⟩)), (21, nv q), (12, .pointer (some ⟨b12, 0, none⟩)), (11, nv k), (10, .slice (some ⟨b10, 0, none⟩) 3 3), (7, .bool true)]) (H' := [(b27, .cells #[iv (oF (lift2 joinO a b)).P, iv (oF (lift2 joinO a b)).R, iv (oF (lift2 joinO a b)).C, .slice A27 (oF (lift2 joinO a b)).E.length c27] 27), (b25, .cells #[iv (oF (lift2 addO a b)).P, iv (oF (lift2 addO a b)).R, iv (oF (lift2 addO a b)).C, .slice A25 (oF (lift2 addO a b)).E.length c25] 27), (b23, .cells #[iv (oF (lift2 addO a b)).P, iv (oF (lift2 addO a b)).R, iv (oF (lift2 addO a b)).C, .slice A23 (oF (lift2 addO a b)).E.length c23] 27), (b22, .cells #[iv b.P, iv b.R, iv b.C, .slice Aq nq cq] 27), (b12, .cells #[iv a.P, iv a.R, iv a.C, .slice Ak nk ck] 27), (b10, .cells ⟨cl⟩ 27)] ++ (N27 ++ (N25 ++ (N23 ++ T)))) (by repeat first | exact trivial | refine ⟨rfl, ?_⟩) (by (repeat' first | exact HSub.refl _ | exact HSub.nil _ | refine HSub.at 0 rfl ?_ | refine HSub.at 1 rfl ?_ | refine HSub.at 2 rfl ?_ | refine HSub.at 3 rfl ?_ | refine HSub.at 4 rfl ?_ | refine HSub.at 5 rfl ?_ | refine HSub.at 6 rfl ?_ | refine HSub.at 7 rfl ?_ | refine HSub.at 8 rfl ?_ | refine HSub.at 9 rfl ?_ | refine HSub.at 10 rfl ?_ | refine HSub.at 11 rfl ?_ | refine HSub.at 12 rfl ?_ | refine HSub.at 13 rfl ?_ | refine HSub.at 14 rfl ?_ | refine HSub.at 15 rfl ?_ | refine HSub.at 16 rfl ?_ | refine HSub.at 17 rfl ?_ | refine HSub.at 18 rfl ?_ | refine HSub.at 19 rfl ?_ | refine HSub.segH ?_ | refine HSub.skip ?_ | refine HSub.skipN ?_)) ?_
      refine JX.thenN ?_
      (repeat' (first | refine JC.seq ?_ | refine JC.ops ?_ | (apply r_loadN; exact rfl; exact rfl; exact rfl; exact rfl; (first | exact at0 | exact at1 | exact at2 | exact at3 | exact at4 | exact at5 | exact at6 | exact at7); exact rfl)))
      refine r_callA (A := [_, _, _, _, _, _]) rfl trivial rfl rfl rfl (fun w hk hs => c_refJoinG w _ _ a b ⟨_, rfl, (hrk _).at hk hs (by (repeat' first | exact HSub.nil _ | exact HSub.hd | exact HSub.in0 | exact HSub.refl _ | refine HSub.skip ?_ | refine HSub.skipN ?_))⟩ ⟨_, rfl, (hrq _).at hk hs (by (repeat' first | exact HSub.nil _ | exact HSub.hd | exact HSub.in0 | exact HSub.refl _ | refine HSub.skip ?_ | refine HSub.skipN ?_))⟩ hlk hlq) fun w v w' _ _ _ hR => ?_
      obtain ⟨N29, u, rfl, hN29, E29, rfl, hO29⟩ := hR
      obtain ⟨A29, c29, rfl⟩ := hO29.form
      unfold fmV
      refine ⟨N29, hN29, ?_⟩
      (repeat' (first | refine JO.nil ?_ | (apply r_move; exact rfl; exact rfl; exact rfl) | (apply r_assign; exact rfl; exact rfl; exact rfl) | (apply r_extract; exact rfl; exact rfl; exact rfl; exact rfl) | (apply r_allocZ; exact rfl; exact rfl; exact rfl; intro _) | (apply r_storeN; exact rfl; (first | exact trivial | exact ⟨rfl, rfl⟩); exact rfl; exact rfl; (first | exact at0 | exact at1 | exact at2 | exact at3 | exact at4 | exact at5 | exact at6 | exact at7); exact rfl; exact rfl; exact rfl)))
      rename_i b29
      refine JX.part (F' := [(30, .bool (lift2 joinO a b).isSome), (29, .pointer (some ⟨b29, 0, none⟩)), (28, .bool (lift2 joinO a b).isSome), (27, .pointer (some ⟨b27, 0, none⟩)), (26, .bool (lift2 addO a b).isSome), (25, .pointer (some ⟨b25, 0, none⟩)), (24, .bool (lift2 addO a b).isSome), (23, .pointer (some ⟨b23, 0, none⟩)), (22, .pointer (some ⟨b22, 0, none⟩)), (21, nv q), (12, .pointer (some ⟨b12, 0, none⟩)), (11, nv k), (10, .slice (some ⟨b10, 0, none⟩) 3 3), (7, .bool true)]) (H' := [(b29, .cells #[iv (oF (lift2 joinO a b)).P, iv (oF (lift2 joinO a b)).R, iv (oF (lift2 joinO a b)).C, .slice A29 (oF (lift2 joinO a b)).E.length c29] 27), (b27, .cells #[iv (oF (lift2 joinO a b)).P, iv (oF (lift2 joinO a b)).R, iv (oF (lift2 joinO a b)).C, .slice A27 (oF (lift2 joinO a b)).E.length c27] 27), (b25, .cells #[iv (oF (lift2 addO a b)).P, iv (oF (lift2 addO a b)).R, iv (oF (lift2 addO a b)).C, .slice A25 (oF (lift2 addO a b)).E.length c25] 27), (b23, .cells #[iv (oF (lift2 addO a b)).P, iv (oF (lift2 addO a b)).R, iv (oF (lift2 addO a b)).C, .slice A23 (oF (lift2 addO a b)).E.length c23] 27), (b22, .cells #[iv b.P, iv b.R, iv b.C, .slice Aq nq cq] 27), (b12, .cells #[iv a.P, iv a.R, iv a.C, .slice Ak nk ck] 27), (b10, .cells ⟨cl⟩ 27)] ++ (N29 ++ (N27 ++ (N25 ++ (N23 ++ T))))) (by repeat first | exact trivial | refine ⟨rfl, ?_⟩) (by (repeat' first | exact HSub.refl _ | exact HSub.nil _ | refine HSub.at 0 rfl ?_ | refine HSub.at 1 rfl ?_ | refine HSub.at 2 rfl ?_ | refine HSub.at 3 rfl ?_ | refine HSub.at 4 rfl ?_ | refine HSub.at 5 rfl ?_ | refine HSub.at 6 rfl ?_ | refine HSub.at 7 rfl ?_ | refine HSub.at 8 rfl ?_ | refine HSub.at 9 rfl ?_ | refine HSub.at 10 rfl ?_ | refine HSub.at 11 rfl ?_ | refine HSub.at 12 rfl ?_ | refine HSub.at 13 rfl ?_ | refine HSub.at 14 rfl ?_ | refine HSub.at 15 rfl ?_ | refine HSub.at 16 rfl ?_ | refine HSub.at 17 rfl ?_ | refine HSub.at 18 rfl ?_ | refine HSub.at 19 rfl ?_ | refine HSub.segH ?_ | refine HSub.skip ?_ | refine HSub.skipN ?_)) ?_
      refine JX.thenN ?_
      (repeat' (first | refine JC.seq ?_ | refine JC.opsD ?_ | (apply r_loadN; exact rfl; exact rfl; exact rfl; exact rfl; (first | exact at0 | exact at1 | exact at2 | exact at3 | exact at4 | exact at5 | exact at6 | exact at7); exact rfl)))
      refine r_call0 trivial rfl rfl rfl (fun w hk hs => c_SameT w _ _ _ _ ⟨_, rfl, hO23.rd.at hk hs (by (repeat' first | exact HSub.nil _ | exact HSub.hd | exact HSub.in0 | exact HSub.refl _ | refine HSub.skip ?_ | refine HSub.skipN ?_))⟩ ⟨_, rfl, hO25.rd.at hk hs (by (repeat' first | exact HSub.nil _ | exact HSub.hd | exact HSub.in0 | exact HSub.refl _ | refine HSub.skip ?_ | refine HSub.skipN ?_))⟩ (l_add a b) (l_add a b) rfl) fun w v w' _ _ _ hR => ?_
      subst hR
      (repeat' (first | (apply r_move; exact rfl; exact rfl; exact rfl) | (apply r_loadN; exact rfl; exact rfl; exact rfl; exact rfl; (first | exact at0 | exact at1 | exact at2 | exact at3 | exact at4 | exact at5 | exact at6 | exact at7); exact rfl) | (apply r_pickF; exact rfl; exact rfl; exact rfl; exact rfl) | (apply r_not; exact rfl; exact rfl; exact rfl) | (apply r_neBS; exact rfl; exact rfl; exact rfl; exact rfl)))
      refine r_call0 trivial rfl rfl rfl (fun w hk hs => c_SameT w _ _ _ _ ⟨_, rfl, hO27.rd.at hk hs (by (repeat' first | exact HSub.nil _ | exact HSub.hd | exact HSub.in0 | exact HSub.refl _ | refine HSub.skip ?_ | refine HSub.skipN ?_))⟩ ⟨_, rfl, hO29.rd.at hk hs (by (repeat' first | exact HSub.nil _ | exact HSub.hd | exact HSub.in0 | exact HSub.refl _ | refine HSub.skip ?_ | refine HSub.skipN ?_))⟩ (l_join a b) (l_join a b) rfl) fun w v w' _ _ _ hR => ?_
      subst hR
      (repeat' (first | (apply r_move; exact rfl; exact rfl; exact rfl) | (apply r_loadN; exact rfl; exact rfl; exact rfl; exact rfl; (first | exact at0 | exact at1 | exact at2 | exact at3 | exact at4 | exact at5 | exact at6 | exact at7); exact rfl) | (apply r_pickF; exact rfl; exact rfl; exact rfl; exact rfl) | (apply r_not; exact rfl; exact rfl; exact rfl) | (apply r_neBS; exact rfl; exact rfl; exact rfl; exact rfl)))
      refine r_call0 trivial rfl rfl rfl (fun w hk hs => c_Equal w _ _ a b ⟨_, rfl, (hrk _).at hk hs (by (repeat' first | exact HSub.nil _ | exact HSub.hd | exact HSub.in0 | exact HSub.refl _ | refine HSub.skip ?_ | refine HSub.skipN ?_))⟩ ⟨_, rfl, (hrq _).at hk hs (by (repeat' first | exact HSub.nil _ | exact HSub.hd | exact HSub.in0 | exact HSub.refl _ | refine HSub.skip ?_ | refine HSub.skipN ?_))⟩ hlk hlq) fun w v1 w' _ _ _ hR1 => ?_
      have hB1 := hR1
      obtain ⟨x1, rfl, _⟩ := hR1
      skip
      refine r_call0 trivial rfl rfl rfl (fun w hk hs => c_refEqual w _ _ a b ⟨_, rfl, (hrk _).at hk hs (by (repeat' first | exact HSub.nil _ | exact HSub.hd | exact HSub.in0 | exact HSub.refl _ | refine HSub.skip ?_ | refine HSub.skipN ?_))⟩ ⟨_, rfl, (hrq _).at hk hs (by (repeat' first | exact HSub.nil _ | exact HSub.hd | exact HSub.in0 | exact HSub.refl _ | refine HSub.skip ?_ | refine HSub.skipN ?_))⟩ hlk hlq) fun w v2 w' _ _ _ hR2 => ?_
      obtain ⟨x2, hx2, rfl⟩ := BoolIs.same hB1 hR2
      obtain rfl : x1 = x2 := by cases hx2; rfl
      (repeat' (first | refine JC.ops ?_ | refine JO.nil ?_ | refine JX.thenN ?_ | (apply r_move; exact rfl; exact rfl; exact rfl) | (apply r_assign; exact rfl; exact rfl; exact rfl) | (apply r_add1; exact rfl; exact rfl; exact rfl; exact rfl; omega) | (apply r_pickF; exact rfl; exact rfl; exact rfl; exact rfl) | (apply r_neBS; exact rfl; exact rfl; exact rfl; exact rfl) | refine JC.skip ?_ | refine JC.condF rfl ?_ | refine JX.blockN ?_))
      exact JX.roundH (q + 1) (by dsimp only; omega) (by dsimp only; omega) (by repeat first | exact trivial | refine ⟨rfl, ?_⟩) (by (repeat' first | exact HSub.refl _ | exact HSub.nil _ | refine HSub.at 0 rfl ?_ | refine HSub.at 1 rfl ?_ | refine HSub.at 2 rfl ?_ | refine HSub.at 3 rfl ?_ | refine HSub.at 4 rfl ?_ | refine HSub.at 5 rfl ?_ | refine HSub.at 6 rfl ?_ | refine HSub.at 7 rfl ?_ | refine HSub.at 8 rfl ?_ | refine HSub.at 9 rfl ?_ | refine HSub.at 10 rfl ?_ | refine HSub.at 11 rfl ?_ | refine HSub.at 12 rfl ?_ | refine HSub.at 13 rfl ?_ | refine HSub.at 14 rfl ?_ | refine HSub.at 15 rfl ?_ | refine HSub.at 16 rfl ?_ | refine HSub.at 17 rfl ?_ | refine HSub.at 18 rfl ?_ | refine HSub.at 19 rfl ?_ | refine HSub.segH ?_ | refine HSub.skip ?_ | refine HSub.skipN ?_))
    · (repeat' (first | refine JC.seq ?_ | refine JC.ops ?_ | refine JO.nil ?_ | refine JX.thenN ?_ | (apply r_move; exact rfl; exact rfl; exact rfl) | (apply r_assign; exact rfl; exact rfl; exact rfl) | (apply r_add1; exact rfl; exact rfl; exact rfl; exact rfl; omega) | (apply r_lss; exact rfl; exact rfl; exact rfl; exact rfl; all_goals intro hc; all_goals try (exfalso; omega)) | refine JX.thenE ?_ | refine JC.exit ?_ | refine JC.condF rfl ?_ | refine JX.blockN ?_ | refine JX.blockE ?_))
      exact JX.roundH (k + 1) (by dsimp only; omega) (by dsimp only; omega) (by repeat first | exact trivial | refine ⟨rfl, ?_⟩) (by (repeat' first | exact HSub.refl _ | exact HSub.nil _ | refine HSub.at 0 rfl ?_ | refine HSub.at 1 rfl ?_ | refine HSub.at 2 rfl ?_ | refine HSub.at 3 rfl ?_ | refine HSub.at 4 rfl ?_ | refine HSub.at 5 rfl ?_ | refine HSub.at 6 rfl ?_ | refine HSub.at 7 rfl ?_ | refine HSub.at 8 rfl ?_ | refine HSub.at 9 rfl ?_ | refine HSub.at 10 rfl ?_ | refine HSub.at 11 rfl ?_ | refine HSub.at 12 rfl ?_ | refine HSub.at 13 rfl ?_ | refine HSub.at 14 rfl ?_ | refine HSub.at 15 rfl ?_ | refine HSub.at 16 rfl ?_ | refine HSub.at 17 rfl ?_ | refine HSub.at 18 rfl ?_ | refine HSub.at 19 rfl ?_ | refine HSub.segH ?_ | refine HSub.skip ?_ | refine HSub.skipN ?_))
  · (repeat' (first | refine JC.seq ?_ | refine JC.ops ?_ | refine JO.nil ?_ | refine JX.thenN ?_ | (apply r_move; exact rfl; exact rfl; exact rfl) | (apply r_assign; exact rfl; exact rfl; exact rfl) | (apply r_lss; exact rfl; exact rfl; exact rfl; exact rfl; all_goals intro hc; all_goals try (exfalso; omega)) | refine JX.thenE ?_ | refine JC.exit ?_ | refine JC.ret ?_ | refine JC.condF rfl ?_ | refine JX.blockE ?_))
    exact JX.ret1 rfl (fun a w' st => ⟨st.kp, rfl⟩)

end Go.Proofs.Ytdoogoglfbohaaa
