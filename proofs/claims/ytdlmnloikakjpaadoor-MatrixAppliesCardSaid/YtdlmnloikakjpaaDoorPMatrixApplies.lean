import Derived.Test.YtdlmnloikakjpaaDoorMh
import Derived.Test.YtdlmnloikakjpaaDoorMi
import Derived.Test.YtdlmnloikakjpaaDoorMj
import Derived.Test.YtdlmnloikakjpaaDoorTie
import Derived.Test.YtdlmnloikakjpaaDoorCards
import Derived.Shelf.Lay
import Derived.Lay
import Derived.LaidOnce
import Derived.SevenTiedAt
/- The law MatrixApplies. ROWZ -/
namespace Go.Proofs.YtdlmnloikakjpaaDoor
open Go Go.RowKit
set_option linter.unusedSimpArgs false
set_option linter.unusedVariables false
set_option linter.unusedSectionVars false

theorem shc (C : Nat) : C % 7 ≤ 6 := by have := Nat.mod_lt C (show 0 < 7 by omega); omega
theorem min_iv (a b : Nat) : (if (b : Int) < (a : Int) then (b : Int) else (a : Int)) = ((min a b : Nat) : Int) := by
  split <;> omega
theorem take_i64 {L : List Int} {k : Nat} (h : ∀ i, I64 (L.getD i 0)) : ∀ i, I64 ((L.take k).getD i 0) := fun i => by
  rw [List.getD, List.getElem?_take]
  split
  · exact h i
  · exact ⟨by decide, by decide⟩
theorem BdL.i64 {L : List Int} (h : ∀ i, I64 (L.getD i 0)) : BdL 8 L := fun i => by
  have h2 : (256 : Nat) ^ 8 = 18446744073709551616 := by decide
  have := h i
  unfold I64 at this
  omega
theorem wz_len8 {z : Int} (h : z.natAbs < 256 ^ 8) : (wz z).2.length ≤ 8 := magU_len h
theorem bad_set {xs : List WR} {i : Nat} {b : Bool} {l : List UInt8} {zs : List Int} (hi : i < xs.length) : ¬ xs.set i (b, [0] ++ l) = zs.map wz := fun h => by
  have h1 : (xs.set i (b, [0] ++ l)).getD i w0x = (b, [0] ++ l) := by rw [List.getD, List.getElem?_set_self hi]; rfl
  rw [h, map_wz_getD] at h1
  have h2 := good_wz (zs.getD i 0)
  rw [h1] at h2
  simp [badW] at h2
theorem applyA_mul {m : ZM} {zs : List Int} : (applyA m (zs.map wz)).1 = (mulA m (colZ zs)).1.e ∧ (applyA m (zs.map wz)).2 = (mulA m (colZ zs)).2 ∧ (mulA m (colZ zs)).2 = decide (zs.length = m.c) := by
  by_cases h : m.c = zs.length
  · rw [applyA_t h, show mulA m (colZ zs) = (mulZ m (colZ zs), true) from if_pos h]
    exact ⟨rfl, rfl, (decide_eq_true h.symm).symm⟩
  · rw [applyA_f (fun h2 => h (by simpa using h2.2)), show mulA m (colZ zs) = (zM, false) from if_neg h]
    exact ⟨rfl, rfl, (decide_eq_false (fun e => h e.symm)).symm⟩
theorem Lists_t {w : World} {v u : Value} {zs : List Int} (hz : zs.length < 1000000000) (hv : WZ w v zs.length zs) (hu : WZ w u zs.length zs) : Calls Tryd.prog 33 #[v, u] w (Ret fun v w' => Kp [] w w' ∧ v = .bool true) :=
  calls_mono (c_Lists w v u zs.length zs.length _ _ hv hu hz hz) fun v w' h => ⟨h.1, by obtain ⟨b, rfl, hb⟩ := h.2; rw [hb.2 rfl]⟩
theorem applyA_len {m : ZM} {xs : List WR} (hm : RtZ m) : (applyA m xs).1.length ≤ 200 := by
  by_cases h : Canon xs ∧ m.c = xs.length
  · obtain ⟨⟨zs, rfl⟩, h2⟩ := h
    rw [applyA_t (by simpa using h2)]
    have : (mulZ m (colZ zs)).e.length = m.r * 1 := tbz_len _ _ _
    have := hm.r
    show (mulZ m (colZ zs)).e.length ≤ 200
    omega
  · rw [applyA_f h]; exact Nat.zero_le _

set_option maxHeartbeats 16000000 in
theorem c_MatrixApplies (w : World) (v0 : Value) (R0 C0 : Nat) (L0 : List Int) (vl : Value) (Ll : List Int) (hv0 : IsS w v0 R0 C0 L0) (hvl : IsL w vl Ll) :
    Calls Tryd.prog 5 #[v0, vl] w (Ret fun v w' => Kp [] w w' ∧ v = .bool true) := by
  have hs0 := hv0
  have hc0 := shc C0
  have hr0 := shc R0
  have hL0 := hv0.2.2.1
  obtain ⟨_, _, _, E0, rfl, _⟩ := hv0
  refine calls_of_S [] [] (by simp) [] Tryd.func5 rfl mixed (by kernel_rfl) Tryd.ntmps5 Tryd.results5 rfl ⟨by simp, by simp⟩ (by simp) ?_
  simp only [toS, textOps, toSOp, kindAt, kindOf, odAt, sopsAt, ordOf, zipF]
  have hRl : RdI ⟨Tryd.prog, 116, w, [], by simp⟩ [] vl Ll.length Ll := hvl.2.1.rd rfl []
  have hLl := hvl.2.2
  (repeat' (first | refine JC.seq ?_ | refine JC.ops ?_ | refine JO.nil ?_ | (apply r_assign; (iterate 3 exact rfl)) | (apply r_boxA; (iterate 4 exact rfl); intro _)))
  rename_i bs0
  refine JX.thenN ?_
  (repeat' (first | refine JC.seq ?_ | refine JC.ops ?_))
  refine r_call0 trivial rfl rfl rfl (fun w _ _ => c_sanity w) fun w v w' _ _ _ hR => ?_
  subst hR
  (repeat' (first | refine JO.nil ?_ | (apply r_assign; (iterate 3 exact rfl))))
  refine JX.part (F' := [(5, .bool true), (2, .pointer (some ⟨bs0, 0, none⟩)), (1, vl)]) (H' := [(bs0, .cells #[.int .u8 (R0 : Int), .int .u8 (C0 : Int), E0] 24)] ++ ([])) (by repeat first | exact trivial | refine ⟨rfl, ?_⟩) (by (repeat' first | exact HSub.refl _ | exact HSub.nil _ | refine HSub.at 0 rfl ?_ | refine HSub.at 1 rfl ?_ | refine HSub.at 2 rfl ?_ | refine HSub.at 3 rfl ?_ | refine HSub.at 4 rfl ?_ | refine HSub.at 5 rfl ?_ | refine HSub.at 6 rfl ?_ | refine HSub.at 7 rfl ?_ | refine HSub.at 8 rfl ?_ | refine HSub.at 9 rfl ?_ | refine HSub.at 10 rfl ?_ | refine HSub.at 11 rfl ?_ | refine HSub.at 12 rfl ?_ | refine HSub.at 13 rfl ?_ | refine HSub.at 14 rfl ?_ | refine HSub.at 15 rfl ?_ | refine HSub.at 16 rfl ?_ | refine HSub.at 17 rfl ?_ | refine HSub.at 18 rfl ?_ | refine HSub.at 19 rfl ?_ | refine HSub.segH ?_ | refine HSub.skip ?_ | refine HSub.skipN ?_)) ?_
  refine JX.thenN ?_
  (repeat' (first | refine JC.seq ?_ | refine JC.ops ?_ | (apply r_loadN; (iterate 4 exact rfl); exact at0; exact rfl)))
  refine r_callA (A := [_]) (B := []) rfl (by first | trivial | exact ⟨rfl, rfl⟩) rfl (by first | rfl | exact ⟨rfl, rfl⟩) rfl (fun w hk hs => c_Mat w _ R0 C0 L0 (hs0.mono hk)) fun w v w' _ _ _ hR => ?_
  obtain ⟨ma, hma⟩ : ∃ m, m = shMat R0 C0 L0 := ⟨_, rfl⟩
  have rta : RtZ ma := by rw [hma]; exact RtZ.shMat _ _ _
  have bda : BdZ 8 ma := by rw [hma]; exact BdZ.sh hL0 _ _
  rw [← hma] at hR
  obtain ⟨Na, hNa, Ea, rfl, hOa⟩ := hR
  obtain ⟨Aa, ca, rfl⟩ := hOa.form
  refine ⟨Na, hNa, ?_⟩
  (repeat' (first | refine JO.nil ?_ | (apply r_storeN; exact rfl; (first | exact trivial | exact ⟨rfl, rfl⟩); exact rfl; exact rfl; exact at0; (iterate 3 exact rfl)) | (apply r_allocZ; (iterate 3 exact rfl); intro _) | (apply r_storeN; exact rfl; (first | exact trivial | exact ⟨rfl, rfl⟩); exact rfl; exact rfl; exact at0; (iterate 3 exact rfl))))
  rename_i ba
  refine JX.part (F' := [(6, .pointer (some ⟨ba, 0, none⟩)), (5, .bool true), (1, vl)]) (H' := [(ba, .cells #[nv ma.r, nv ma.c, .slice Aa ma.e.length ca] 29)] ++ (Na ++ ([]))) (by repeat first | exact trivial | refine ⟨rfl, ?_⟩) (by (repeat' first | exact HSub.refl _ | exact HSub.nil _ | refine HSub.at 0 rfl ?_ | refine HSub.at 1 rfl ?_ | refine HSub.at 2 rfl ?_ | refine HSub.at 3 rfl ?_ | refine HSub.at 4 rfl ?_ | refine HSub.at 5 rfl ?_ | refine HSub.at 6 rfl ?_ | refine HSub.at 7 rfl ?_ | refine HSub.at 8 rfl ?_ | refine HSub.at 9 rfl ?_ | refine HSub.at 10 rfl ?_ | refine HSub.at 11 rfl ?_ | refine HSub.at 12 rfl ?_ | refine HSub.at 13 rfl ?_ | refine HSub.at 14 rfl ?_ | refine HSub.at 15 rfl ?_ | refine HSub.at 16 rfl ?_ | refine HSub.at 17 rfl ?_ | refine HSub.at 18 rfl ?_ | refine HSub.at 19 rfl ?_ | refine HSub.segH ?_ | refine HSub.skip ?_ | refine HSub.skipN ?_)) ?_
  refine JX.thenN ?_
  (repeat' (first | refine JC.seq ?_ | refine JC.ops ?_ | (apply r_move; (iterate 3 exact rfl)) | (apply r_lenI; (iterate 3 exact rfl); (first | assumption | exact WI.rd (by assumption) rfl [] | exact OwnI.rd (by assumption))) | (apply r_min; (iterate 4 exact rfl))))
  have car : ma.r = R0 % 7 := by rw [hma]; rfl
  have cac : ma.c = C0 % 7 := by rw [hma]; rfl
  skip
  refine r_sliceR (l := 0) (h' := min Ll.length 7) rfl rfl rfl hRl rfl rfl (.inr ⟨rfl, rfl⟩) rfl rfl (.inl (congrArg (fun z => some (Value.int .i64 z)) (min_iv Ll.length 7))) (Nat.zero_le _) (Nat.min_le_left _ _) (fun v24 hv24 _ => ?_)
  skip
  refine r_callA (A := [_]) (B := Na ++ ([])) rfl (by first | trivial | exact ⟨rfl, rfl⟩) rfl (by first | rfl | exact ⟨rfl, rfl⟩) rfl (fun w hk hs => c_Numbers w _ (min Ll.length 7) (Ll.take (min Ll.length 7)) (by have := Rd.at hv24 hk hs (by (repeat' first | exact HSub.nil _ | exact HSub.hd | exact HSub.in0 | exact HSub.refl _ | refine HSub.skip ?_ | refine HSub.skipN ?_)); simpa [WI, List.map_take] using this) (by omega) (take_i64 hvl.1)) fun w v w' _ _ _ hR => ?_
  obtain ⟨Nx, hNx, hOx⟩ := hR
  refine ⟨Nx, hNx, ?_⟩
  clear hv24
  have hLb : BdL 8 (Ll.take (min Ll.length 7)) := BdL.i64 (take_i64 hvl.1)
  generalize hLx : Ll.take (min Ll.length 7) = Lx at hOx hLb
  clear hLx
  obtain ⟨nx, hnx⟩ : ∃ n, n = min Ll.length 7 := ⟨_, rfl⟩
  rw [← hnx] at hOx
  obtain ⟨Ax, cx, rfl⟩ := hOx.form
  (repeat' (first | refine JO.nil ?_ | (apply r_assign; (iterate 3 exact rfl))))
  refine JX.part (F' := [(7, .slice Ax nx cx), (6, .pointer (some ⟨ba, 0, none⟩)), (5, .bool true), (1, vl)]) (H' := [(ba, .cells #[nv ma.r, nv ma.c, .slice Aa ma.e.length ca] 29)] ++ (Nx ++ (Na ++ ([])))) (by repeat first | exact trivial | refine ⟨rfl, ?_⟩) (by (repeat' first | exact HSub.refl _ | exact HSub.nil _ | refine HSub.at 0 rfl ?_ | refine HSub.at 1 rfl ?_ | refine HSub.at 2 rfl ?_ | refine HSub.at 3 rfl ?_ | refine HSub.at 4 rfl ?_ | refine HSub.at 5 rfl ?_ | refine HSub.at 6 rfl ?_ | refine HSub.at 7 rfl ?_ | refine HSub.at 8 rfl ?_ | refine HSub.at 9 rfl ?_ | refine HSub.at 10 rfl ?_ | refine HSub.at 11 rfl ?_ | refine HSub.at 12 rfl ?_ | refine HSub.at 13 rfl ?_ | refine HSub.at 14 rfl ?_ | refine HSub.at 15 rfl ?_ | refine HSub.at 16 rfl ?_ | refine HSub.at 17 rfl ?_ | refine HSub.at 18 rfl ?_ | refine HSub.at 19 rfl ?_ | refine HSub.segH ?_ | refine HSub.skip ?_ | refine HSub.skipN ?_)) ?_
  refine JX.thenN ?_
  (repeat' (first | refine JC.seq ?_ | refine JC.ops ?_ | refine JO.nil ?_ | (apply r_move; (iterate 3 exact rfl)) | (apply r_lenZ; (iterate 3 exact rfl); (first | assumption | exact WZ.rd (by assumption) rfl [] | exact OwnZ.rd (by assumption))) | (apply r_pickF; (iterate 4 exact rfl)) | (apply r_gtr; (iterate 4 exact rfl); all_goals intro hc; all_goals try (exfalso; omega)) | (apply r_skip; exact rfl; exact rfl; (first | (intro h; cases h; done) | (intro _; rfl)))))
  all_goals have hOX : OwnX Nx (.slice Ax nx cx) nx (Lx.map wz) := hOx
  all_goals have hlx : Lx.length = nx := hOx.len
  refine r_idxI (j := 0) rfl rfl rfl rfl hRl (by omega) ?_
  (repeat' (first | refine JO.nil ?_ | (apply r_ldI; (iterate 4 exact rfl); (first | assumption | exact WI.rd (by assumption) rfl [] | exact OwnI.rd (by assumption)); (repeat' first | exact HSub.nil _ | exact HSub.hd | exact HSub.in0 | exact HSub.refl _ | refine HSub.skip ?_ | refine HSub.skipN ?_); (first | assumption | omega)) | (apply r_pickT; (iterate 4 exact rfl)) | (apply r_mod; (iterate 4 exact rfl); omega) | (apply r_eql; (iterate 4 exact rfl); all_goals intro hc; all_goals try (exfalso; omega))))
  all_goals have mkb : ∀ zs, Lx.map wz = zs.map wz → BdL 8 zs := fun zs h => by rw [← map_wz_inj h]; exact hLb
  refine JX.thenN ?_
  (repeat' (first | refine JC.ops ?_ | (apply r_move; (iterate 3 exact rfl)) | (apply r_idxZ; (iterate 4 exact rfl); (first | assumption | exact WZ.rd (by assumption) rfl [] | exact OwnZ.rd (by assumption)); (first | assumption | omega)) | (apply r_ldXm; (iterate 4 exact rfl); (first | assumption | exact WX.rd (by assumption) rfl [] | exact OwnX.rd (by assumption)); (repeat' first | exact HSub.nil _ | exact HSub.hd | exact HSub.in0 | exact HSub.refl _ | refine HSub.skip ?_ | refine HSub.skipN ?_); (first | assumption | omega)) | (apply r_fieldX; (iterate 3 exact rfl); (first | assumption | exact WX.rd (by assumption) rfl [] | exact OwnX.rd (by assumption)); omega) | (apply r_lenZ; (iterate 3 exact rfl); (first | assumption | exact WZ.rd (by assumption) rfl [] | exact OwnZ.rd (by assumption))) | (apply r_sub1; (iterate 4 exact rfl); omega) | refine JC.condT rfl ?_))
  have hl8 : ((List.map wz Lx).getD (nx - 1) w0x).snd.length ≤ 8 := by rw [map_wz_getD]; exact wz_len8 (hLb _)
  refine r_addS (l := [0]) rfl rfl rfl rfl (by rw [List.length_singleton]; omega) ?_
  (repeat' (first | (apply r_idxZ; (iterate 4 exact rfl); (first | assumption | exact WZ.rd (by assumption) rfl [] | exact OwnZ.rd (by assumption)); (first | assumption | omega)) | (apply r_fieldX; (iterate 3 exact rfl); (first | assumption | exact WX.rd (by assumption) rfl [] | exact OwnX.rd (by assumption)); omega)))
  refine r_stXm (A := [_]) hOX rfl rfl (by first | trivial | exact ⟨rfl, rfl⟩) rfl rfl (by omega) (fun Nx hO2 => ?_)
  have hX : ∃ xs, OwnX Nx (.slice Ax nx cx) nx xs ∧ ∀ zs, xs = zs.map wz → BdL 8 zs := ⟨_, hO2, fun zs h => absurd h (bad_set (by rw [List.length_map]; omega))⟩
  (repeat' (first | refine JO.nil ?_))
  rotate_left
  refine JX.thenN ?_
  (repeat' (first | refine JC.skip ?_ | refine JC.condF rfl ?_))
  have hX : ∃ xs, OwnX Nx (.slice Ax nx cx) nx xs ∧ ∀ zs, xs = zs.map wz → BdL 8 zs := ⟨_, hOX, mkb⟩
  rotate_left
  refine JX.thenN ?_
  (repeat' (first | refine JC.skip ?_ | refine JC.condF rfl ?_))
  have hX : ∃ xs, OwnX Nx (.slice Ax nx cx) nx xs ∧ ∀ zs, xs = zs.map wz → BdL 8 zs := ⟨_, hOX, mkb⟩
  rotate_left
  all_goals
    clear hOX mkb hOx
    obtain ⟨xs, hOX, mkb⟩ := hX
    have hlx2 := hOX.len
    refine JX.part (F' := [(7, .slice Ax nx cx), (6, .pointer (some ⟨ba, 0, none⟩)), (5, .bool true), (1, vl)]) (H' := [(ba, .cells #[nv ma.r, nv ma.c, .slice Aa ma.e.length ca] 29)] ++ (Nx ++ (Na ++ ([])))) (by repeat first | exact trivial | refine ⟨rfl, ?_⟩) (by (repeat' first | exact HSub.refl _ | exact HSub.nil _ | refine HSub.at 0 rfl ?_ | refine HSub.at 1 rfl ?_ | refine HSub.at 2 rfl ?_ | refine HSub.at 3 rfl ?_ | refine HSub.at 4 rfl ?_ | refine HSub.at 5 rfl ?_ | refine HSub.at 6 rfl ?_ | refine HSub.at 7 rfl ?_ | refine HSub.at 8 rfl ?_ | refine HSub.at 9 rfl ?_ | refine HSub.at 10 rfl ?_ | refine HSub.at 11 rfl ?_ | refine HSub.at 12 rfl ?_ | refine HSub.at 13 rfl ?_ | refine HSub.at 14 rfl ?_ | refine HSub.at 15 rfl ?_ | refine HSub.at 16 rfl ?_ | refine HSub.at 17 rfl ?_ | refine HSub.at 18 rfl ?_ | refine HSub.at 19 rfl ?_ | refine HSub.segH ?_ | refine HSub.skip ?_ | refine HSub.skipN ?_)) ?_
    refine JX.thenN ?_
    (repeat' (first | refine JC.seq ?_ | refine JC.ops ?_ | (apply r_move; (iterate 3 exact rfl)) | (apply r_fieldAddr; (iterate 3 exact rfl)) | (apply r_load; (iterate 4 exact rfl); exact at0; exact rfl) | (apply r_lenI; (iterate 3 exact rfl); (first | assumption | exact WI.rd (by assumption) rfl [] | exact OwnI.rd (by assumption))) | (apply r_min; (iterate 4 exact rfl))))
    refine r_sliceR (l := 0) (h' := min Ll.length ma.c) rfl rfl rfl hRl rfl rfl (.inr ⟨rfl, rfl⟩) rfl rfl (.inl (congrArg (fun z => some (Value.int .i64 z)) (min_iv Ll.length ma.c))) (Nat.zero_le _) (Nat.min_le_left _ _) (fun v56 hv56 _ => ?_)
    skip
    refine r_callA (A := [_]) (B := Nx ++ (Na ++ ([]))) rfl (by first | trivial | exact ⟨rfl, rfl⟩) rfl (by first | rfl | exact ⟨rfl, rfl⟩) rfl (fun w hk hs => c_Numbers w _ (min Ll.length ma.c) (Ll.take (min Ll.length ma.c)) (by have := Rd.at hv56 hk hs (by (repeat' first | exact HSub.nil _ | exact HSub.hd | exact HSub.in0 | exact HSub.refl _ | refine HSub.skip ?_ | refine HSub.skipN ?_)); simpa [WI, List.map_take] using this) (by omega) (take_i64 hvl.1)) fun w v w' _ _ _ hR => ?_
    obtain ⟨Ny, hNy, hOy⟩ := hR
    refine ⟨Ny, hNy, ?_⟩
    clear hv56
    have hYb : BdL 8 (Ll.take (min Ll.length ma.c)) := BdL.i64 (take_i64 hvl.1)
    generalize hLy : Ll.take (min Ll.length ma.c) = Ly at hOy hYb
    clear hLy
    obtain ⟨ny, hny⟩ : ∃ n, n = min Ll.length ma.c := ⟨_, rfl⟩
    rw [← hny] at hOy
    obtain ⟨Ay, cy, rfl⟩ := hOy.form
    have hly : Ly.length = ny := hOy.len
    subst hly
    (repeat' (first | refine JO.nil ?_ | (apply r_assign; (iterate 3 exact rfl))))
    refine JX.part (F' := [(8, .slice Ay Ly.length cy), (7, .slice Ax nx cx), (6, .pointer (some ⟨ba, 0, none⟩)), (5, .bool true), (1, vl)]) (H' := [(ba, .cells #[nv ma.r, nv ma.c, .slice Aa ma.e.length ca] 29)] ++ (Ny ++ (Nx ++ (Na ++ ([]))))) (by repeat first | exact trivial | refine ⟨rfl, ?_⟩) (by (repeat' first | exact HSub.refl _ | exact HSub.nil _ | refine HSub.at 0 rfl ?_ | refine HSub.at 1 rfl ?_ | refine HSub.at 2 rfl ?_ | refine HSub.at 3 rfl ?_ | refine HSub.at 4 rfl ?_ | refine HSub.at 5 rfl ?_ | refine HSub.at 6 rfl ?_ | refine HSub.at 7 rfl ?_ | refine HSub.at 8 rfl ?_ | refine HSub.at 9 rfl ?_ | refine HSub.at 10 rfl ?_ | refine HSub.at 11 rfl ?_ | refine HSub.at 12 rfl ?_ | refine HSub.at 13 rfl ?_ | refine HSub.at 14 rfl ?_ | refine HSub.at 15 rfl ?_ | refine HSub.at 16 rfl ?_ | refine HSub.at 17 rfl ?_ | refine HSub.at 18 rfl ?_ | refine HSub.at 19 rfl ?_ | refine HSub.segH ?_ | refine HSub.skip ?_ | refine HSub.skipN ?_)) ?_
    refine JX.thenN ?_
    (repeat' (first | refine JC.seq ?_ | refine JC.ops ?_ | (apply r_move; (iterate 3 exact rfl)) | (apply r_loadN; (iterate 4 exact rfl); exact at0; exact rfl)))
    refine r_callA (A := [_]) (B := Ny ++ (Nx ++ (Na ++ ([])))) rfl (by first | trivial | exact ⟨rfl, rfl⟩) rfl (by first | rfl | exact ⟨rfl, rfl⟩) rfl (fun w hk hs => c_ApplyA 8 8 w _ _ ma xs rta (by omega) (by omega) bda mkb ⟨_, rfl, hOa.rd.at hk hs (by (repeat' first | exact HSub.nil _ | exact HSub.hd | exact HSub.in0 | exact HSub.refl _ | refine HSub.skip ?_ | refine HSub.skipN ?_))⟩ (by rw [hlx2]; exact hOX.rd.at hk hs (by (repeat' first | exact HSub.nil _ | exact HSub.hd | exact HSub.in0 | exact HSub.refl _ | refine HSub.skip ?_ | refine HSub.skipN ?_)))) fun w v w' _ _ _ hR => ?_
    obtain ⟨lb, hlb⟩ : ∃ l, l = (applyA ma xs).1 := ⟨_, rfl⟩
    obtain ⟨zb, hzb⟩ : ∃ z, z = (applyA ma xs).2 := ⟨_, rfl⟩
    rw [← hlb, ← hzb] at hR
    obtain ⟨Nb, Eb, hNb, rfl, hOb⟩ := hR
    obtain ⟨Ab, cb, rfl⟩ := hOb.form
    refine ⟨Nb, hNb, ?_⟩
    (repeat' (first | refine JO.nil ?_ | (apply r_move; (iterate 3 exact rfl)) | (apply r_assign; (iterate 3 exact rfl)) | (apply r_extract; (iterate 4 exact rfl))))
    refine JX.part (F' := [(10, .bool zb), (9, .slice Ab lb.length cb), (8, .slice Ay Ly.length cy), (7, .slice Ax nx cx), (6, .pointer (some ⟨ba, 0, none⟩)), (5, .bool true), (1, vl)]) (H' := [(ba, .cells #[nv ma.r, nv ma.c, .slice Aa ma.e.length ca] 29)] ++ (Nb ++ (Ny ++ (Nx ++ (Na ++ ([])))))) (by repeat first | exact trivial | refine ⟨rfl, ?_⟩) (by (repeat' first | exact HSub.refl _ | exact HSub.nil _ | refine HSub.at 0 rfl ?_ | refine HSub.at 1 rfl ?_ | refine HSub.at 2 rfl ?_ | refine HSub.at 3 rfl ?_ | refine HSub.at 4 rfl ?_ | refine HSub.at 5 rfl ?_ | refine HSub.at 6 rfl ?_ | refine HSub.at 7 rfl ?_ | refine HSub.at 8 rfl ?_ | refine HSub.at 9 rfl ?_ | refine HSub.at 10 rfl ?_ | refine HSub.at 11 rfl ?_ | refine HSub.at 12 rfl ?_ | refine HSub.at 13 rfl ?_ | refine HSub.at 14 rfl ?_ | refine HSub.at 15 rfl ?_ | refine HSub.at 16 rfl ?_ | refine HSub.at 17 rfl ?_ | refine HSub.at 18 rfl ?_ | refine HSub.at 19 rfl ?_ | refine HSub.segH ?_ | refine HSub.skip ?_ | refine HSub.skipN ?_)) ?_
    refine JX.thenN ?_
    (repeat' (first | refine JC.seq ?_ | refine JC.ops ?_ | (apply r_move; (iterate 3 exact rfl)) | (apply r_loadN; (iterate 4 exact rfl); exact at0; exact rfl)))
    refine r_callA (A := [_]) (B := Nb ++ (Ny ++ (Nx ++ (Na ++ ([]))))) rfl (by first | trivial | exact ⟨rfl, rfl⟩) rfl (by first | rfl | exact ⟨rfl, rfl⟩) rfl (fun w hk hs => c_refApplyA 8 8 w _ _ ma xs rta (by omega) (by omega) bda mkb ⟨_, rfl, hOa.rd.at hk hs (by (repeat' first | exact HSub.nil _ | exact HSub.hd | exact HSub.in0 | exact HSub.refl _ | refine HSub.skip ?_ | refine HSub.skipN ?_))⟩ (by rw [hlx2]; exact hOX.rd.at hk hs (by (repeat' first | exact HSub.nil _ | exact HSub.hd | exact HSub.in0 | exact HSub.refl _ | refine HSub.skip ?_ | refine HSub.skipN ?_)))) fun w v w' _ _ _ hR => ?_
    obtain ⟨lc, hlc⟩ : ∃ l, l = (applyA ma xs).1 := ⟨_, rfl⟩
    obtain ⟨zc, hzc⟩ : ∃ z, z = (applyA ma xs).2 := ⟨_, rfl⟩
    rw [← hlc, ← hzc] at hR
    obtain ⟨Nc, Ec, hNc, rfl, hOc⟩ := hR
    obtain ⟨Ac, cc, rfl⟩ := hOc.form
    refine ⟨Nc, hNc, ?_⟩
    (repeat' (first | refine JO.nil ?_ | (apply r_move; (iterate 3 exact rfl)) | (apply r_assign; (iterate 3 exact rfl)) | (apply r_extract; (iterate 4 exact rfl))))
    refine JX.part (F' := [(12, .bool zc), (11, .slice Ac lc.length cc), (10, .bool zb), (9, .slice Ab lb.length cb), (8, .slice Ay Ly.length cy), (7, .slice Ax nx cx), (6, .pointer (some ⟨ba, 0, none⟩)), (5, .bool true), (1, vl)]) (H' := [(ba, .cells #[nv ma.r, nv ma.c, .slice Aa ma.e.length ca] 29)] ++ (Nc ++ (Nb ++ (Ny ++ (Nx ++ (Na ++ ([]))))))) (by repeat first | exact trivial | refine ⟨rfl, ?_⟩) (by (repeat' first | exact HSub.refl _ | exact HSub.nil _ | refine HSub.at 0 rfl ?_ | refine HSub.at 1 rfl ?_ | refine HSub.at 2 rfl ?_ | refine HSub.at 3 rfl ?_ | refine HSub.at 4 rfl ?_ | refine HSub.at 5 rfl ?_ | refine HSub.at 6 rfl ?_ | refine HSub.at 7 rfl ?_ | refine HSub.at 8 rfl ?_ | refine HSub.at 9 rfl ?_ | refine HSub.at 10 rfl ?_ | refine HSub.at 11 rfl ?_ | refine HSub.at 12 rfl ?_ | refine HSub.at 13 rfl ?_ | refine HSub.at 14 rfl ?_ | refine HSub.at 15 rfl ?_ | refine HSub.at 16 rfl ?_ | refine HSub.at 17 rfl ?_ | refine HSub.at 18 rfl ?_ | refine HSub.at 19 rfl ?_ | refine HSub.segH ?_ | refine HSub.skip ?_ | refine HSub.skipN ?_)) ?_
    refine JX.thenN ?_
    (repeat' (first | refine JC.seq ?_ | refine JC.ops ?_ | (apply r_move; (iterate 3 exact rfl)) | (apply r_loadN; (iterate 4 exact rfl); exact at0; exact rfl)))
    refine r_callA (A := [_]) (B := Nc ++ (Nb ++ (Ny ++ (Nx ++ (Na ++ ([])))))) rfl (by first | trivial | exact ⟨rfl, rfl⟩) rfl (by first | rfl | exact ⟨rfl, rfl⟩) rfl (fun w hk hs => c_ApplyA 8 8 w _ _ ma (Ly.map wz) rta (by rw [List.length_map]; omega) (by omega) bda (fun zs h => by rw [← map_wz_inj h]; exact hYb) ⟨_, rfl, hOa.rd.at hk hs (by (repeat' first | exact HSub.nil _ | exact HSub.hd | exact HSub.in0 | exact HSub.refl _ | refine HSub.skip ?_ | refine HSub.skipN ?_))⟩ (by rw [List.length_map]; exact OwnX.rd hOy |>.at hk hs (by (repeat' first | exact HSub.nil _ | exact HSub.hd | exact HSub.in0 | exact HSub.refl _ | refine HSub.skip ?_ | refine HSub.skipN ?_)))) fun w v w' _ _ _ hR => ?_
    obtain ⟨ld, hld⟩ : ∃ l, l = (applyA ma (Ly.map wz)).1 := ⟨_, rfl⟩
    obtain ⟨zd, hzd⟩ : ∃ z, z = (applyA ma (Ly.map wz)).2 := ⟨_, rfl⟩
    rw [← hld, ← hzd] at hR
    obtain ⟨Nd, Ed, hNd, rfl, hOd⟩ := hR
    obtain ⟨Ad, cd, rfl⟩ := hOd.form
    refine ⟨Nd, hNd, ?_⟩
    (repeat' (first | refine JO.nil ?_ | (apply r_move; (iterate 3 exact rfl)) | (apply r_assign; (iterate 3 exact rfl)) | (apply r_extract; (iterate 4 exact rfl))))
    refine JX.part (F' := [(14, .bool zd), (13, .slice Ad ld.length cd), (12, .bool zc), (11, .slice Ac lc.length cc), (10, .bool zb), (9, .slice Ab lb.length cb), (8, .slice Ay Ly.length cy), (7, .slice Ax nx cx), (6, .pointer (some ⟨ba, 0, none⟩)), (5, .bool true), (1, vl)]) (H' := [(ba, .cells #[nv ma.r, nv ma.c, .slice Aa ma.e.length ca] 29)] ++ (Nd ++ (Nc ++ (Nb ++ (Ny ++ (Nx ++ (Na ++ ([])))))))) (by repeat first | exact trivial | refine ⟨rfl, ?_⟩) (by (repeat' first | exact HSub.refl _ | exact HSub.nil _ | refine HSub.at 0 rfl ?_ | refine HSub.at 1 rfl ?_ | refine HSub.at 2 rfl ?_ | refine HSub.at 3 rfl ?_ | refine HSub.at 4 rfl ?_ | refine HSub.at 5 rfl ?_ | refine HSub.at 6 rfl ?_ | refine HSub.at 7 rfl ?_ | refine HSub.at 8 rfl ?_ | refine HSub.at 9 rfl ?_ | refine HSub.at 10 rfl ?_ | refine HSub.at 11 rfl ?_ | refine HSub.at 12 rfl ?_ | refine HSub.at 13 rfl ?_ | refine HSub.at 14 rfl ?_ | refine HSub.at 15 rfl ?_ | refine HSub.at 16 rfl ?_ | refine HSub.at 17 rfl ?_ | refine HSub.at 18 rfl ?_ | refine HSub.at 19 rfl ?_ | refine HSub.segH ?_ | refine HSub.skip ?_ | refine HSub.skipN ?_)) ?_
    refine JX.thenN ?_
    (repeat' (first | refine JC.seq ?_ | refine JC.ops ?_ | (apply r_move; (iterate 3 exact rfl)) | (apply r_loadN; (iterate 4 exact rfl); exact at0; exact rfl) | (apply r_lenZ; (iterate 3 exact rfl); (first | assumption | exact WZ.rd (by assumption) rfl [] | exact OwnZ.rd (by assumption))) | (apply r_buildL; (iterate 5 exact rfl))))
    refine r_callA (A := [_]) (B := Nd ++ (Nc ++ (Nb ++ (Ny ++ (Nx ++ (Na ++ ([]))))))) rfl (by first | trivial | exact ⟨rfl, rfl⟩) rfl (by first | rfl | exact ⟨rfl, rfl⟩) rfl (fun w hk hs => c_MulA 8 8 w _ _ ma (colZ Ly) rta (colZ_rt (by omega)) (by omega) bda hYb ⟨_, rfl, hOa.rd.at hk hs (by (repeat' first | exact HSub.nil _ | exact HSub.hd | exact HSub.in0 | exact HSub.refl _ | refine HSub.skip ?_ | refine HSub.skipN ?_))⟩ ⟨_, rfl, hOy.rd.at hk hs (by (repeat' first | exact HSub.nil _ | exact HSub.hd | exact HSub.in0 | exact HSub.refl _ | refine HSub.skip ?_ | refine HSub.skipN ?_))⟩) fun w v w' _ _ _ hR => ?_
    obtain ⟨mm, hmm⟩ : ∃ m, m = (mulA ma (colZ Ly)).1 := ⟨_, rfl⟩
    obtain ⟨zm, hzm⟩ : ∃ z, z = (mulA ma (colZ Ly)).2 := ⟨_, rfl⟩
    rw [← hmm, ← hzm] at hR
    obtain ⟨Nm, um, rfl, hNm, Em, rfl, hOm⟩ := hR
    obtain ⟨Am, cm, rfl⟩ := hOm.form
    refine ⟨Nm, hNm, ?_⟩
    (repeat' (first | refine JO.nil ?_ | (apply r_move; (iterate 3 exact rfl)) | (apply r_assign; (iterate 3 exact rfl)) | (apply r_extract; (iterate 4 exact rfl)) | (apply r_storeN; exact rfl; (first | exact trivial | exact ⟨rfl, rfl⟩); exact rfl; exact rfl; exact at0; (iterate 3 exact rfl)) | (apply r_allocZ; (iterate 3 exact rfl); intro _) | (apply r_storeN; exact rfl; (first | exact trivial | exact ⟨rfl, rfl⟩); exact rfl; exact rfl; exact at0; (iterate 3 exact rfl))))
    rename_i bm
    obtain ⟨e1, e2, e3⟩ := applyA_mul (m := ma) (zs := Ly)
    rw [← hld, ← hmm] at e1
    rw [← hzd, ← hzm] at e2
    rw [← hzm] at e3
    have ebc : lb = lc := by rw [hlb, hlc]
    have zbc : zb = zc := by rw [hzb, hzc]
    have blb : lb.length ≤ 200 := by rw [hlb]; exact applyA_len rta
    have bld : ld.length ≤ 200 := by rw [hld]; exact applyA_len rta
    refine JX.part (F' := [(16, .bool zm), (15, .pointer (some ⟨bm, 0, none⟩)), (14, .bool zd), (13, .slice Ad ld.length cd), (12, .bool zc), (11, .slice Ac lc.length cc), (10, .bool zb), (9, .slice Ab lb.length cb), (8, .slice Ay Ly.length cy), (7, .slice Ax nx cx), (6, .pointer (some ⟨ba, 0, none⟩)), (5, .bool true), (1, vl)]) (H' := [(bm, .cells #[nv mm.r, nv mm.c, .slice Am mm.e.length cm] 29), (ba, .cells #[nv ma.r, nv ma.c, .slice Aa ma.e.length ca] 29)] ++ (Nm ++ (Nd ++ (Nc ++ (Nb ++ (Ny ++ (Nx ++ (Na ++ ([]))))))))) (by repeat first | exact trivial | refine ⟨rfl, ?_⟩) (by (repeat' first | exact HSub.refl _ | exact HSub.nil _ | refine HSub.at 0 rfl ?_ | refine HSub.at 1 rfl ?_ | refine HSub.at 2 rfl ?_ | refine HSub.at 3 rfl ?_ | refine HSub.at 4 rfl ?_ | refine HSub.at 5 rfl ?_ | refine HSub.at 6 rfl ?_ | refine HSub.at 7 rfl ?_ | refine HSub.at 8 rfl ?_ | refine HSub.at 9 rfl ?_ | refine HSub.at 10 rfl ?_ | refine HSub.at 11 rfl ?_ | refine HSub.at 12 rfl ?_ | refine HSub.at 13 rfl ?_ | refine HSub.at 14 rfl ?_ | refine HSub.at 15 rfl ?_ | refine HSub.at 16 rfl ?_ | refine HSub.at 17 rfl ?_ | refine HSub.at 18 rfl ?_ | refine HSub.at 19 rfl ?_ | refine HSub.segH ?_ | refine HSub.skip ?_ | refine HSub.skipN ?_)) ?_
    refine JX.thenN ?_
    (repeat' (first | refine JC.seq ?_ | refine JC.ops ?_ | (apply r_move; (iterate 3 exact rfl))))
    refine r_call0 (by first | trivial | exact ⟨rfl, rfl⟩) rfl (by first | rfl | exact ⟨rfl, rfl⟩) rfl (fun w hk hs => Lists_t (zs := lb) (by omega) (hOb.rd.at hk hs (by (repeat' first | exact HSub.nil _ | exact HSub.hd | exact HSub.in0 | exact HSub.refl _ | refine HSub.skip ?_ | refine HSub.skipN ?_))) (by rw [ebc]; exact hOc.rd.at hk hs (by (repeat' first | exact HSub.nil _ | exact HSub.hd | exact HSub.in0 | exact HSub.refl _ | refine HSub.skip ?_ | refine HSub.skipN ?_)))) fun w v w' _ _ _ hR => ?_
    subst hR
    (repeat' (first | (apply r_move; (iterate 3 exact rfl)) | (apply r_pickT; (iterate 4 exact rfl)) | (apply r_eqB; (iterate 4 exact rfl))))
    rw [zbc]
    simp only [BEq.rfl]
    (repeat' (first | (apply r_move; (iterate 3 exact rfl)) | (apply r_pickT; (iterate 4 exact rfl)) | (apply r_eqB; (iterate 4 exact rfl))))
    rw [e2]
    simp only [BEq.rfl]
    (repeat' (first | (apply r_move; (iterate 3 exact rfl)) | (apply r_fieldAddr; (iterate 3 exact rfl)) | (apply r_load; (iterate 4 exact rfl); exact at0; exact rfl)))
    refine r_call0 (by first | trivial | exact ⟨rfl, rfl⟩) rfl (by first | rfl | exact ⟨rfl, rfl⟩) rfl (fun w hk hs => Lists_t (zs := ld) (by omega) (hOd.rd.at hk hs (by (repeat' first | exact HSub.nil _ | exact HSub.hd | exact HSub.in0 | exact HSub.refl _ | refine HSub.skip ?_ | refine HSub.skipN ?_))) (by rw [e1]; exact hOm.rd.at hk hs (by (repeat' first | exact HSub.nil _ | exact HSub.hd | exact HSub.in0 | exact HSub.refl _ | refine HSub.skip ?_ | refine HSub.skipN ?_)))) fun w v w' _ _ _ hR => ?_
    subst hR
    (repeat' (first | refine JO.nil ?_ | (apply r_move; (iterate 3 exact rfl)) | (apply r_fieldAddr; (iterate 3 exact rfl)) | (apply r_assign; (iterate 3 exact rfl)) | (apply r_load; (iterate 4 exact rfl); exact at1; exact rfl) | (apply r_lenZ; (iterate 3 exact rfl); (first | assumption | exact WZ.rd (by assumption) rfl [] | exact OwnZ.rd (by assumption))) | (apply r_pickT; (iterate 4 exact rfl)) | (apply r_eql; (iterate 4 exact rfl); all_goals intro hc; all_goals try (exfalso; omega)) | (apply r_eqB; (iterate 4 exact rfl))))
    all_goals
      first
        | rw [e3, decide_eq_true (by omega)]
        | rw [e3, decide_eq_false (by omega)]
      skip
      refine JX.thenN ?_
      (repeat' (first | refine JC.ret ?_))
      exact JX.ret1 rfl (fun a w' st => ⟨st.kp, rfl⟩)

end Go.Proofs.YtdlmnloikakjpaaDoor

/-
  LawMatrixApplies: for every input the call of 'cocycle/cocyclelaw02.MatrixApplies' returns true, and every argument reads afterwards as it read before. Conditions: none. The card.
-/
namespace Go.Proofs.YtdlmnloikakjpaaDoor.matrixApplies
open Go Go.RowKit Go.ChangeShapes Go.WideShapes Go.ChangeAt
set_option linter.unusedSimpArgs false
set_option linter.unusedVariables false
set_option linter.unusedSectionVars false

set_option maxRecDepth 100000 in
theorem lifted (os : Os) (started : os.Started) (H : Type) (enc : TypeId × Value → H) :
    ReturnsInHanded {} Tryd.checked os 5 .any (fun w args => (Rows.matrixAppliesSpec.pre enc Tryd.prog Tryd.f5 [] false w args ∧ laidMetH Tryd.prog Rows.matrixAppliesRow.laid w) ∧ sizedMet enc Tryd.prog Tryd.f5 (OpenSpec.ofChange Rows.matrixAppliesSpec) false w args)
      (Rows.matrixAppliesSpec.post enc Tryd.prog Tryd.f5 false true false false) := by
  refine returnsInHanded_of_change_and (C := Tryd.checked) (X := fun w _ => laidMetH Tryd.prog Rows.matrixAppliesRow.laid w) (fun _ _ _ hh h => h.of_heap hh) own started (by kernel_rfl) Tryd.func5
    (ChangeSpec.witness_shaped (enc := enc) (C := Tryd.checked) (os := os) (X := fun w _ => laidMetH Tryd.prog Rows.matrixAppliesRow.laid w) false (World.laidAll Tryd.prog os Rows.matrixAppliesRow.laid) #[.agg #[.int .u8 0, .int .u8 0, .slice none 0 0], .slice none 0 0] 8 (World.laidAll_os _ _ _)
      (World.shaped_of_ZipB (by kernel_rfl) (by kernel_rfl)) (by kernel_rfl) (by kernel_rfl) (by kernel_rfl)
      (by rw [MakeChecks.laidMetH_plain _ _ _ (by kernel_rfl)]; exact laidMet_laidAll _ (by kernel_rfl) (by kernel_rfl))) ?_
  intro W base args ds gs before hval0 hW _ hwt0 hL _
  have hval : ∀ (j : Nat) t v, Tryd.f5.params[j]? = some t → args[j]? = some v → Value.okWide Tryd.prog W .any base t v := hval0
  have hW' := hW
  obtain ⟨p, q, hA0, hV, rfl, hfz, hnd⟩ := hW
  have hA : DataW.TrodAll enc Tryd.prog W 0 (fun _ => true) true Tryd.f5.params.toList args.toList ds p := hA0
  have hwt : (DataW.weightsEach Tryd.prog (Tryd.f5.params.toList ++ Rows.matrixAppliesSpec.plain.varTypes Tryd.prog) (ds ++ gs)).all (· ≤ reachBytes) = true := hwt0
  have hwt1 := fun n hn => of_decide_eq_true (List.all_eq_true.1 hwt n hn)
  rw [Tryd.params5] at hA hval hwt1
  obtain ⟨v0, vs0, d0, ds0, p0, q0, hargs, rfl, rfl, h0, r0⟩ := trodAll_cons hA
  obtain ⟨v1, vs1, d1, ds1, p1, q1, rfl, rfl, rfl, h1, r1⟩ := trodAll_cons r0
  obtain ⟨rfl, rfl, rfl⟩ := trodAll_nil r1
  obtain rfl : args = #[v0, v1] := by cases args; simp_all
  obtain ⟨rfl, rfl⟩ := trodVars_none hV
  have k0 := h0
  have lt0 : ∀ x ∈ p0, x.block < W.heap.size := by obtain ⟨m, hm⟩ := k0; exact DataW.trod_lt m _ _ _ hm
  obtain ⟨R0, C0, L0, s0⟩ := open_shape (hval 0 24 v0 rfl rfl) h0
  have k1 := h1
  have lt1 : ∀ x ∈ p1, x.block < W.heap.size := by obtain ⟨m, hm⟩ := k1; exact DataW.trod_lt m _ _ _ hm
  obtain ⟨L1, s1⟩ := open_list (hval 1 22 v1 rfl rfl) h1
  clear hA0 hval0
  refine (c_MatrixApplies W v0 R0 C0 L0 v1 L1 s0 s1).mono fun e W' he => ?_
  cases e with
  | panicked _ => exact he.elim
  | outgrown => exact he.elim
  | returned u =>
    obtain ⟨hk, rfl⟩ := he
    have bel := hk.below
    exact ⟨_, rfl, _, _, _, [], _, [], hW', trodAll_mk1 (shut_bool Tryd.underlying4 _), (trodAll_cons_mk (Below.trod laidOut (by kernel_rfl) (of_decide_eq_true (by kernel_rfl)) k0 bel lt0) (trodAll_cons_mk (Below.trod laidOut (by kernel_rfl) (of_decide_eq_true (by kernel_rfl)) k1 bel lt1) trodAll_mk0)), rfl, bel.frame _, fun h => by cases h⟩

theorem holds : Rows.MatrixAppliesSaid :=
  OpenClaim.holds_of_wide 5 Tryd.f5 rfl rfl rfl rfl rfl rfl rfl ⟨rfl, rfl, rfl, rfl, rfl⟩ rfl rfl rfl rfl rfl (by kernel_rfl) Tryd.func5 (by kernel_rfl)
    (of_decide_eq_true (by kernel_rfl)) (by unfold Func.isWrapper; first | (rw [if_pos (by decide +kernel)]; kernel_rfl) | (rw [if_neg (by decide +kernel)]; exact ⟨rfl, rfl⟩))
    (fun os started H enc _ => lifted os started H enc)

theorem proved : Rows.MatrixAppliesCardSaid :=
  Claim7.holds_tied_plain_at .later [] [.data, .pinned] true (true, "1e720b878859d18141ea40e2dc597df34bde83979d72dc5a8b5bc54d7198a929") false holds (fun _ h => by cases h) (by kernel_rfl) (fun _ h => by cases h) matrixApplies_row_tie rfl ⟨rfl, rfl⟩ (by kernel_rfl) rfl
    (fun f fn hf hfn => by
      obtain rfl : f = 5 := Option.some.inj ((show Tryd.prog.funcNamed "cocycle/cocyclelaw02.MatrixApplies" = some 5 by kernel_rfl).symm.trans hf) |>.symm
      obtain rfl : fn = Tryd.f5 := (Option.some.inj (Tryd.func5.symm.trans hfn)).symm
      exact ⟨by kernel_rfl, fun j t ht => by
        rw [Tryd.params5] at ht
        have hm : t ∈ [24, 22] := by simpa using Array.mem_of_getElem? ht
        have hall : ([24, 22].all fun u => !Tryd.prog.wantsStandIn u) = true := by kernel_rfl
        exact (show Tryd.prog.wantsStandIn t = false by simpa using List.all_eq_true.1 hall t hm)⟩)
    (by kernel_rfl)

end Go.Proofs.YtdlmnloikakjpaaDoor.matrixApplies

