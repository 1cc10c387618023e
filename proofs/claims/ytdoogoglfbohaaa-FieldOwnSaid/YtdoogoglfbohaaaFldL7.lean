/- FieldOwn: the walk. -/
import Derived.Test.YtdoogoglfbohaaaFldC
namespace Go.Proofs.Ytdoogoglfbohaaa
open Go Go.RowKit
set_option linter.unusedSimpArgs false
set_option linter.unusedVariables false
set_option linter.unusedSectionVars false

theorem rows_nil {c : Cx} {H : SHeap} {w : World} {b r : Nat} (hk : Kp c.M c.w0 w) (hs : Hsat H w) (hH : HSub [(b, .cells (zerosOf #[.slice none 0 0] (r * 1)) 22)] H) (hr : r ≤ 400) : IsRows w (.slice (some ⟨b, 0, none⟩) r r) (List.replicate r []) := by
  have h := OwnRow.mk' (e := 22) (sz := 1) (n := r) (b := b) (cs := zerosOf #[.slice none 0 0] (r * 1)) (by rw [zeros1]; simp) (by unfold maxLen; omega)
  have h2 := h.rd.at hk hs hH
  rw [zeros1] at h2
  refine ⟨List.replicate r (.slice none 0 0), by simpa using h2, fun i hi => ?_⟩
  have hi : i < r := by simpa using hi
  simp only [List.getD, List.getElem?_replicate, if_pos hi, Option.getD_some]
  exact ⟨rfl, none, 0, rfl, Nat.le_refl _, fun h => absurd h (Nat.lt_irrefl _)⟩
theorem nil_getD {r i : Nat} : (List.replicate r ([] : List Int)).getD i [] = [] := by
  simp only [List.getD, List.getElem?_replicate]
  split <;> rfl
theorem ofC_nil {r : Nat} : ∀ k, ofC (List.replicate r []) k = 0
  | 0 => rfl
  | k + 1 => by
    show max (ofC (List.replicate r []) k) ((List.replicate r ([] : List Int)).getD k []).length = 0
    rw [ofC_nil k, nil_getD]; rfl
theorem ofM_nil (p r : Nat) : (ofM p (List.replicate r [])).p = p ∧ (ofM p (List.replicate r [])).r = r ∧ (ofM p (List.replicate r [])).c = 0 := ⟨rfl, by show (List.replicate r ([] : List Int)).length = r; simp, ofC_nil _⟩
def Ow (N : SHeap) (A : Option Addr) (n c : Nat) : Prop := ∃ xs : List Nat, OwnN N (.slice A n c) n xs
theorem Rt.ech' {m : NM} (hm : Rt m) : Rt (echM m) := by
  haveI := hm.pr.nz
  exact ⟨hm.pr, hm.r, hm.c, (ech_els hm.big).len, (ech_els hm.big).lt⟩

set_option maxHeartbeats 8000000 in
theorem c_FieldOwn (w : World) (v : Value) (P R C : Nat) (L : List Int) (hv : IsS w v P R C L) :
    Calls Try.prog 8 #[v] w (Ret fun v w' => Kp [] w w' ∧ v = .bool true) := by
  have hv0 := hv
  obtain ⟨h1, h2, h3, E, rfl, hE⟩ := hv
  have hm := Rt.shMat P R C L
  have hmc : (shMat P R C L).c ≤ 6 := by
    have := Nat.mod_lt C (show 0 < 7 by omega)
    show C % 7 ≤ 6
    omega
  refine calls_of_S [⟨4, 2, [], []⟩, ⟨5, 1, [0, 1, 2, 4, 6, 3, 5, 7, 8, 9], []⟩, ⟨13, 1, [], []⟩] [] (by simp) [] Try.func8 rfl mixed (by kernel_rfl) Try.ntmps8 Try.results8 rfl ⟨by simp, by simp⟩ (by simp) ?_
  simp only [toS, textOps, toSOp, kindAt, kindOf, odAt, sopsAt, ordOf, zipF]
  (repeat' (first | refine JC.seq ?_ | refine JC.ops ?_ | refine JO.nil ?_ | refine JX.thenN ?_ | (apply r_assign; exact rfl; exact rfl; exact rfl) | (apply r_boxA; exact rfl; exact rfl; exact rfl; exact rfl; intro _)))
  rename_i b1
  refine r_call0 trivial rfl rfl rfl (fun w hk hs => c_sanity w) fun w v w' _ _ _ hR => ?_
  subst hR
  (repeat' (first | refine JC.seq ?_ | refine JC.ops ?_ | refine JO.nil ?_ | refine JX.thenN ?_ | (apply r_assign; exact rfl; exact rfl; exact rfl) | (apply r_loadN; exact rfl; exact rfl; exact rfl; exact rfl; (first | exact at0 | exact at1 | exact at2 | exact at3 | exact at4 | exact at5 | exact at6 | exact at7); exact rfl)))
  refine r_callA (A := [_]) (B := []) rfl trivial rfl rfl rfl (fun w hk _ => c_Mat w _ P R C L (hv0.mono hk)) fun w v w' _ _ _ hR => ?_
  generalize hgm : shMat P R C L = m at *
  obtain ⟨N4, hN4, E4, rfl, hO4⟩ := hR
  obtain ⟨A4, c4, rfl⟩ := hO4.form
  refine ⟨N4, hN4, ?_⟩
  (repeat' (first | refine JO.nil ?_ | (apply r_allocZ; exact rfl; exact rfl; exact rfl; intro _) | (apply r_storeN; exact rfl; (first | exact trivial | exact ⟨rfl, rfl⟩); exact rfl; exact rfl; (first | exact at0 | exact at1 | exact at2 | exact at3 | exact at4 | exact at5 | exact at6 | exact at7); exact rfl; exact rfl; exact rfl)))
  rename_i b4
  refine JX.part (F' := [(4, .pointer (some ⟨b4, 0, none⟩)), (3, .bool true), (1, .pointer (some ⟨b1, 0, none⟩))]) (H' := [(b4, .cells #[nv m.p, nv m.r, nv m.c, .slice A4 m.e.length c4] 27), (b1, .cells #[.int .u8 (P : Int), .int .u8 (R : Int), .int .u8 (C : Int), E] 24)] ++ (N4 ++ [])) (by repeat first | exact trivial | refine ⟨rfl, ?_⟩) (by (repeat' first | exact HSub.refl _ | exact HSub.nil _ | refine HSub.at 0 rfl ?_ | refine HSub.at 1 rfl ?_ | refine HSub.at 2 rfl ?_ | refine HSub.at 3 rfl ?_ | refine HSub.at 4 rfl ?_ | refine HSub.at 5 rfl ?_ | refine HSub.at 6 rfl ?_ | refine HSub.at 7 rfl ?_ | refine HSub.at 8 rfl ?_ | refine HSub.at 9 rfl ?_ | refine HSub.at 10 rfl ?_ | refine HSub.at 11 rfl ?_ | refine HSub.at 12 rfl ?_ | refine HSub.at 13 rfl ?_ | refine HSub.at 14 rfl ?_ | refine HSub.at 15 rfl ?_ | refine HSub.at 16 rfl ?_ | refine HSub.at 17 rfl ?_ | refine HSub.at 18 rfl ?_ | refine HSub.at 19 rfl ?_ | refine HSub.segH ?_ | refine HSub.skip ?_ | refine HSub.skipN ?_)) ?_
  refine JX.thenN ?_
  (repeat' (first | refine JC.seq ?_ | refine JC.ops ?_ | (apply r_loadN; exact rfl; exact rfl; exact rfl; exact rfl; (first | exact at0 | exact at1 | exact at2 | exact at3 | exact at4 | exact at5 | exact at6 | exact at7); exact rfl)))
  refine r_callA (A := [_, _]) rfl trivial rfl rfl rfl (fun w hk hs => c_Echelon w _ m hm ⟨_, rfl, hO4.rd.at hk hs (by (repeat' first | exact HSub.nil _ | exact HSub.hd | exact HSub.in0 | exact HSub.refl _ | refine HSub.skip ?_ | refine HSub.skipN ?_))⟩) fun w v w' _ _ _ hR => ?_
  have hx5 := hm.ech'
  generalize echM m = x5 at *
  obtain ⟨N5, N6, u, x, rfl, hN5, ⟨E5, rfl, hO5⟩, hO6⟩ := hR
  obtain ⟨A5, c5, rfl⟩ := hO5.form
  obtain ⟨A6, c6, rfl⟩ := hO6.form
  refine ⟨N5 ++ N6, hN5, ?_⟩
  rw [List.append_assoc]
  (repeat' (first | refine JO.nil ?_ | (apply r_move; exact rfl; exact rfl; exact rfl) | (apply r_assign; exact rfl; exact rfl; exact rfl) | (apply r_extract; exact rfl; exact rfl; exact rfl; exact rfl) | (apply r_allocZ; exact rfl; exact rfl; exact rfl; intro _) | (apply r_storeN; exact rfl; (first | exact trivial | exact ⟨rfl, rfl⟩); exact rfl; exact rfl; (first | exact at0 | exact at1 | exact at2 | exact at3 | exact at4 | exact at5 | exact at6 | exact at7); exact rfl; exact rfl; exact rfl)))
  rename_i b5
  refine JX.part (F' := [(5, .pointer (some ⟨b5, 0, none⟩)), (4, .pointer (some ⟨b4, 0, none⟩)), (3, .bool true), (1, .pointer (some ⟨b1, 0, none⟩))]) (H' := [(b5, .cells #[nv x5.p, nv x5.r, nv x5.c, .slice A5 x5.e.length c5] 27), (b4, .cells #[nv m.p, nv m.r, nv m.c, .slice A4 m.e.length c4] 27), (b1, .cells #[.int .u8 (P : Int), .int .u8 (R : Int), .int .u8 (C : Int), E] 24)] ++ (N5 ++ (N4 ++ []))) (by repeat first | exact trivial | refine ⟨rfl, ?_⟩) (by (repeat' first | exact HSub.refl _ | exact HSub.nil _ | refine HSub.at 0 rfl ?_ | refine HSub.at 1 rfl ?_ | refine HSub.at 2 rfl ?_ | refine HSub.at 3 rfl ?_ | refine HSub.at 4 rfl ?_ | refine HSub.at 5 rfl ?_ | refine HSub.at 6 rfl ?_ | refine HSub.at 7 rfl ?_ | refine HSub.at 8 rfl ?_ | refine HSub.at 9 rfl ?_ | refine HSub.at 10 rfl ?_ | refine HSub.at 11 rfl ?_ | refine HSub.at 12 rfl ?_ | refine HSub.at 13 rfl ?_ | refine HSub.at 14 rfl ?_ | refine HSub.at 15 rfl ?_ | refine HSub.at 16 rfl ?_ | refine HSub.at 17 rfl ?_ | refine HSub.at 18 rfl ?_ | refine HSub.at 19 rfl ?_ | refine HSub.segH ?_ | refine HSub.skip ?_ | refine HSub.skipN ?_)) ?_
  refine JX.thenN ?_
  have hmr := hm.r
  (repeat' (first | refine JC.seq ?_ | refine JC.opsD ?_ | (apply r_fieldAddr; exact rfl; exact rfl; exact rfl) | (apply r_load; exact rfl; exact rfl; exact rfl; exact rfl; (first | exact at0 | exact at1 | exact at2 | exact at3 | exact at4 | exact at5 | exact at6 | exact at7); exact rfl) | (apply r_loadN; exact rfl; exact rfl; exact rfl; exact rfl; (first | exact at0 | exact at1 | exact at2 | exact at3 | exact at4 | exact at5 | exact at6 | exact at7); exact rfl)))
  refine r_make (n := m.r) rfl rfl rfl rfl rfl (by omega) (by omega) (fun b26 => ?_)
  skip
  refine r_callA (A := [_, _, _, _]) rfl trivial rfl rfl rfl (fun w hk hs => c_Of w _ m.p (List.replicate m.r []) (rows_nil hk hs (by (repeat' first | exact HSub.nil _ | exact HSub.hd | exact HSub.in0 | exact HSub.refl _ | refine HSub.skip ?_ | refine HSub.skipN ?_)) hmr) hm.pr (by simp; omega) (by rw [ofC_nil]; omega)) fun w v w' _ _ _ hR => ?_
  have hx0 := Rt.of (p := m.p) (xss := List.replicate m.r []) hm.pr (by simp; omega) (by rw [ofC_nil]; omega)
  obtain ⟨ho1, ho2, ho3⟩ := ofM_nil m.p m.r
  generalize ofM m.p (List.replicate m.r []) = x0 at *
  obtain ⟨N27, hN27, E27, rfl, hO27⟩ := hR
  obtain ⟨A27, c27, rfl⟩ := hO27.form
  refine ⟨N27, hN27, ?_⟩
  skip
  refine r_callA (A := [_, _, _, _]) rfl trivial rfl rfl rfl (fun w hk hs => c_Join w _ _ m x0 hm hx0 ho1.symm ho2.symm (by omega) ⟨_, rfl, hO4.rd.at hk hs (by (repeat' first | exact HSub.nil _ | exact HSub.hd | exact HSub.in0 | exact HSub.refl _ | refine HSub.skip ?_ | refine HSub.skipN ?_))⟩ ⟨_, rfl, hO27.rd.at hk hs (by (repeat' first | exact HSub.nil _ | exact HSub.hd | exact HSub.in0 | exact HSub.refl _ | refine HSub.skip ?_ | refine HSub.skipN ?_))⟩) fun w v w' _ _ _ hR => ?_
  have hx7 := hm.join hx0 ho1.symm (by omega)
  generalize joinM m x0 = x7 at *
  obtain ⟨N7, u, rfl, hN7, E7, rfl, hO7⟩ := hR
  obtain ⟨A7, c7, rfl⟩ := hO7.form
  refine ⟨N7, hN7, ?_⟩
  (repeat' (first | refine JO.nil ?_ | (apply r_move; exact rfl; exact rfl; exact rfl) | (apply r_assign; exact rfl; exact rfl; exact rfl) | (apply r_extract; exact rfl; exact rfl; exact rfl; exact rfl) | (apply r_allocZ; exact rfl; exact rfl; exact rfl; intro _) | (apply r_storeN; exact rfl; (first | exact trivial | exact ⟨rfl, rfl⟩); exact rfl; exact rfl; (first | exact at0 | exact at1 | exact at2 | exact at3 | exact at4 | exact at5 | exact at6 | exact at7); exact rfl; exact rfl; exact rfl)))
  rename_i b7
  refine JX.part (F' := [(7, .pointer (some ⟨b7, 0, none⟩)), (5, .pointer (some ⟨b5, 0, none⟩)), (4, .pointer (some ⟨b4, 0, none⟩)), (3, .bool true), (1, .pointer (some ⟨b1, 0, none⟩))]) (H' := [(b7, .cells #[nv x7.p, nv x7.r, nv x7.c, .slice A7 x7.e.length c7] 27), (b5, .cells #[nv x5.p, nv x5.r, nv x5.c, .slice A5 x5.e.length c5] 27), (b4, .cells #[nv m.p, nv m.r, nv m.c, .slice A4 m.e.length c4] 27), (b1, .cells #[.int .u8 (P : Int), .int .u8 (R : Int), .int .u8 (C : Int), E] 24)] ++ (N7 ++ (N5 ++ (N4 ++ [])))) (by repeat first | exact trivial | refine ⟨rfl, ?_⟩) (by (repeat' first | exact HSub.refl _ | exact HSub.nil _ | refine HSub.at 0 rfl ?_ | refine HSub.at 1 rfl ?_ | refine HSub.at 2 rfl ?_ | refine HSub.at 3 rfl ?_ | refine HSub.at 4 rfl ?_ | refine HSub.at 5 rfl ?_ | refine HSub.at 6 rfl ?_ | refine HSub.at 7 rfl ?_ | refine HSub.at 8 rfl ?_ | refine HSub.at 9 rfl ?_ | refine HSub.at 10 rfl ?_ | refine HSub.at 11 rfl ?_ | refine HSub.at 12 rfl ?_ | refine HSub.at 13 rfl ?_ | refine HSub.at 14 rfl ?_ | refine HSub.at 15 rfl ?_ | refine HSub.at 16 rfl ?_ | refine HSub.at 17 rfl ?_ | refine HSub.at 18 rfl ?_ | refine HSub.at 19 rfl ?_ | refine HSub.segH ?_ | refine HSub.skip ?_ | refine HSub.skipN ?_)) ?_
  refine JX.thenN ?_
  (repeat' (first | refine JC.seq ?_ | refine JC.opsD ?_ | (apply r_loadN; exact rfl; exact rfl; exact rfl; exact rfl; (first | exact at0 | exact at1 | exact at2 | exact at3 | exact at4 | exact at5 | exact at6 | exact at7); exact rfl)))
  refine r_callA (A := [_, _, _, _]) rfl trivial rfl rfl rfl (fun w hk hs => c_Transpose w _ m hm ⟨_, rfl, hO4.rd.at hk hs (by (repeat' first | exact HSub.nil _ | exact HSub.hd | exact HSub.in0 | exact HSub.refl _ | refine HSub.skip ?_ | refine HSub.skipN ?_))⟩) fun w v w' _ _ _ hR => ?_
  have hx8 := hm.tr
  generalize trM m = x8 at *
  obtain ⟨N8, hN8, E8, rfl, hO8⟩ := hR
  obtain ⟨A8, c8, rfl⟩ := hO8.form
  refine ⟨N8, hN8, ?_⟩
  skip
  refine r_callA (A := [_, _, _, _]) rfl trivial rfl rfl rfl (fun w hk hs => c_Image w _ m hm ⟨_, rfl, hO4.rd.at hk hs (by (repeat' first | exact HSub.nil _ | exact HSub.hd | exact HSub.in0 | exact HSub.refl _ | refine HSub.skip ?_ | refine HSub.skipN ?_))⟩) fun w v w' _ _ _ hR => ?_
  have hx9 := hm.img
  generalize imgM m = x9 at *
  obtain ⟨N9, hN9, E9, rfl, hO9⟩ := hR
  obtain ⟨A9, c9, rfl⟩ := hO9.form
  refine ⟨N9, hN9, ?_⟩
  skip
  refine r_callA (A := [_, _, _, _]) rfl trivial rfl rfl rfl (fun w hk hs => c_Kernel w _ m hm ⟨_, rfl, hO4.rd.at hk hs (by (repeat' first | exact HSub.nil _ | exact HSub.hd | exact HSub.in0 | exact HSub.refl _ | refine HSub.skip ?_ | refine HSub.skipN ?_))⟩) fun w v w' _ _ _ hR => ?_
  have hx10 := hm.ker
  generalize kerM m = x10 at *
  obtain ⟨N10, hN10, E10, rfl, hO10⟩ := hR
  obtain ⟨A10, c10, rfl⟩ := hO10.form
  refine ⟨N10, hN10, ?_⟩
  skip
  refine r_buildG (sz := 4) (vs := [.agg #[nv x5.p, nv x5.r, nv x5.c, .slice A5 x5.e.length c5], .agg #[nv x7.p, nv x7.r, nv x7.c, .slice A7 x7.e.length c7], .agg #[nv x8.p, nv x8.r, nv x8.c, .slice A8 x8.e.length c8], .agg #[nv x9.p, nv x9.r, nv x9.c, .slice A9 x9.e.length c9], .agg #[nv x10.p, nv x10.r, nv x10.c, .slice A10 x10.e.length c10]]) (cl := [nv x5.p, nv x5.r, nv x5.c, .slice A5 x5.e.length c5, nv x7.p, nv x7.r, nv x7.c, .slice A7 x7.e.length c7, nv x8.p, nv x8.r, nv x8.c, .slice A8 x8.e.length c8, nv x9.p, nv x9.r, nv x9.c, .slice A9 x9.e.length c9, nv x10.p, nv x10.r, nv x10.c, .slice A10 x10.e.length c10]) rfl rfl rfl rfl rfl
    (fun v hv => by
      simp only [List.mem_cons, List.not_mem_nil, or_false] at hv
      rcases hv with rfl | rfl | rfl | rfl | rfl <;> rfl) rfl (by decide) (by decide) (fun b9 => ?_)
  (repeat' (first | refine JO.nil ?_ | (apply r_assign; exact rfl; exact rfl; exact rfl)))
  refine JX.part (F' := [(9, .slice (some ⟨b9, 0, none⟩) 5 5), (4, .pointer (some ⟨b4, 0, none⟩)), (3, .bool true), (1, .pointer (some ⟨b1, 0, none⟩))]) (H' := [(b9, .cells ⟨[nv x5.p, nv x5.r, nv x5.c, .slice A5 x5.e.length c5, nv x7.p, nv x7.r, nv x7.c, .slice A7 x7.e.length c7, nv x8.p, nv x8.r, nv x8.c, .slice A8 x8.e.length c8, nv x9.p, nv x9.r, nv x9.c, .slice A9 x9.e.length c9, nv x10.p, nv x10.r, nv x10.c, .slice A10 x10.e.length c10]⟩ 27), (b4, .cells #[nv m.p, nv m.r, nv m.c, .slice A4 m.e.length c4] 27), (b1, .cells #[.int .u8 (P : Int), .int .u8 (R : Int), .int .u8 (C : Int), E] 24)] ++ (N10 ++ (N9 ++ (N8 ++ (N7 ++ (N5 ++ (N4 ++ []))))))) (by repeat first | exact trivial | refine ⟨rfl, ?_⟩) (by (repeat' first | exact HSub.refl _ | exact HSub.nil _ | refine HSub.at 0 rfl ?_ | refine HSub.at 1 rfl ?_ | refine HSub.at 2 rfl ?_ | refine HSub.at 3 rfl ?_ | refine HSub.at 4 rfl ?_ | refine HSub.at 5 rfl ?_ | refine HSub.at 6 rfl ?_ | refine HSub.at 7 rfl ?_ | refine HSub.at 8 rfl ?_ | refine HSub.at 9 rfl ?_ | refine HSub.at 10 rfl ?_ | refine HSub.at 11 rfl ?_ | refine HSub.at 12 rfl ?_ | refine HSub.at 13 rfl ?_ | refine HSub.at 14 rfl ?_ | refine HSub.at 15 rfl ?_ | refine HSub.at 16 rfl ?_ | refine HSub.at 17 rfl ?_ | refine HSub.at 18 rfl ?_ | refine HSub.at 19 rfl ?_ | refine HSub.segH ?_ | refine HSub.skip ?_ | refine HSub.skipN ?_)) ?_
  refine JX.thenN ?_
  have hw5 : Ow N5 A5 x5.e.length c5 := ⟨_, hO5⟩
  have hle5 := hx5.le
  clear hO5
  have hw7 : Ow N7 A7 x7.e.length c7 := ⟨_, hO7⟩
  have hle7 := hx7.le
  clear hO7
  have hw8 : Ow N8 A8 x8.e.length c8 := ⟨_, hO8⟩
  have hle8 := hx8.le
  clear hO8
  have hw9 : Ow N9 A9 x9.e.length c9 := ⟨_, hO9⟩
  have hle9 := hx9.le
  clear hO9
  have hw10 : Ow N10 A10 x10.e.length c10 := ⟨_, hO10⟩
  have hle10 := hx10.le
  clear hO10
  generalize x5.e.length = n5 at *
  generalize x7.e.length = n7 at *
  generalize x8.e.length = n8 at *
  generalize x9.e.length = n9 at *
  generalize x10.e.length = n10 at *
  (repeat' (first | refine JC.seq ?_ | refine JC.ops ?_ | refine JO.nil ?_ | refine JX.thenN ?_ | (apply r_assign; exact rfl; exact rfl; exact rfl) | refine JC.block ?_))
  refine JC.loopH (ι := Nat × SHeap × SHeap × SHeap × SHeap × SHeap) ⟨fun z => [(10, nv z.1), (9, .slice (some ⟨b9, 0, none⟩) 5 5), (4, .pointer (some ⟨b4, 0, none⟩)), (3, .bool true), (1, .pointer (some ⟨b1, 0, none⟩))], fun z => [(b9, .cells ⟨[nv x5.p, nv x5.r, nv x5.c, .slice A5 n5 c5, nv x7.p, nv x7.r, nv x7.c, .slice A7 n7 c7, nv x8.p, nv x8.r, nv x8.c, .slice A8 n8 c8, nv x9.p, nv x9.r, nv x9.c, .slice A9 n9 c9, nv x10.p, nv x10.r, nv x10.c, .slice A10 n10 c10]⟩ 27), (b4, .cells #[nv m.p, nv m.r, nv m.c, .slice A4 m.e.length c4] 27), (b1, .cells #[.int .u8 (P : Int), .int .u8 (R : Int), .int .u8 (C : Int), E] 24)] ++ (z.2.1 ++ (z.2.2.1 ++ (z.2.2.2.1 ++ (z.2.2.2.2.1 ++ (z.2.2.2.2.2 ++ (N4 ++ [])))))), fun z => z.1 ≤ 5 ∧ Ow z.2.1 A10 n10 c10 ∧ Ow z.2.2.1 A9 n9 c9 ∧ Ow z.2.2.2.1 A8 n8 c8 ∧ Ow z.2.2.2.2.1 A7 n7 c7 ∧ Ow z.2.2.2.2.2 A5 n5 c5, fun z => 5 - z.1⟩ (0, N10, N9, N8, N7, N5) ⟨by dsimp only; omega, hw10, hw9, hw8, hw7, hw5⟩ (by repeat first | exact trivial | refine ⟨rfl, ?_⟩) (by (first | exact HSub.refl _ | (repeat' first | exact HSub.nil _ | exact HSub.refl _ | refine HSub.at 0 rfl ?_ | refine HSub.at 1 rfl ?_ | refine HSub.at 2 rfl ?_ | refine HSub.at 3 rfl ?_ | refine HSub.at 4 rfl ?_ | refine HSub.at 5 rfl ?_ | refine HSub.at 6 rfl ?_ | refine HSub.at 7 rfl ?_))) (fun z hz => ?_)
  clear hw5 hw7 hw8 hw9 hw10
  obtain ⟨k, N10, N9, N8, N7, N5⟩ := z
  obtain ⟨hk, hw10, hw9, hw8, hw7, hw5⟩ := hz
  dsimp only at hk hw10 hw9 hw8 hw7 hw5 ⊢
  rcases (show k = 0 ∨ k = 1 ∨ k = 2 ∨ k = 3 ∨ k = 4 ∨ k = 5 by omega) with rfl | rfl | rfl | rfl | rfl | rfl
  · (repeat' (first | refine JC.seq ?_ | refine JC.ops ?_ | refine JO.nil ?_ | refine JX.thenN ?_ | (apply r_move; exact rfl; exact rfl; exact rfl) | (apply r_assign; exact rfl; exact rfl; exact rfl) | (apply r_len; exact rfl; exact rfl; exact rfl) | (apply r_lss; exact rfl; exact rfl; exact rfl; exact rfl; all_goals intro hc; all_goals try (exfalso; omega)) | refine JC.skip ?_ | refine JC.condT rfl ?_ | refine JC.block ?_))
    refine JC.loopH (ι := Nat × SHeap) ⟨fun z => [(11, nv z.1), (10, nv 0), (9, .slice (some ⟨b9, 0, none⟩) 5 5), (4, .pointer (some ⟨b4, 0, none⟩)), (3, .bool true), (1, .pointer (some ⟨b1, 0, none⟩))], fun z => [(b9, .cells ⟨[nv x5.p, nv x5.r, nv x5.c, .slice A5 n5 c5, nv x7.p, nv x7.r, nv x7.c, .slice A7 n7 c7, nv x8.p, nv x8.r, nv x8.c, .slice A8 n8 c8, nv x9.p, nv x9.r, nv x9.c, .slice A9 n9 c9, nv x10.p, nv x10.r, nv x10.c, .slice A10 n10 c10]⟩ 27), (b4, .cells #[nv m.p, nv m.r, nv m.c, .slice A4 m.e.length c4] 27), (b1, .cells #[.int .u8 (P : Int), .int .u8 (R : Int), .int .u8 (C : Int), E] 24)] ++ (N10 ++ (N9 ++ (N8 ++ (N7 ++ (z.2 ++ (N4 ++ [])))))), fun z => z.1 ≤ n5 ∧ Ow z.2 A5 n5 c5, fun z => n5 - z.1⟩ (0, N5) ⟨Nat.zero_le _, hw5⟩ (by repeat first | exact trivial | refine ⟨rfl, ?_⟩) (by (first | exact HSub.refl _ | (repeat' first | exact HSub.nil _ | exact HSub.refl _ | refine HSub.at 0 rfl ?_ | refine HSub.at 1 rfl ?_ | refine HSub.at 2 rfl ?_ | refine HSub.at 3 rfl ?_ | refine HSub.at 4 rfl ?_ | refine HSub.at 5 rfl ?_ | refine HSub.at 6 rfl ?_ | refine HSub.at 7 rfl ?_))) (fun z hz => ?_)
    clear hw5
    obtain ⟨q, N5⟩ := z
    obtain ⟨hq, xs, hO⟩ := hz
    dsimp only at hq hO ⊢
    by_cases hqn : q < n5
    · (repeat' (first | refine JC.seq ?_ | refine JC.ops ?_ | refine JO.nil ?_ | refine JX.thenN ?_ | (apply r_move; exact rfl; exact rfl; exact rfl) | (apply r_fieldAddr; exact rfl; exact rfl; exact rfl) | (apply r_load; exact rfl; exact rfl; exact rfl; exact rfl; (first | exact at0 | exact at1 | exact at2 | exact at3 | exact at4 | exact at5 | exact at6 | exact at7); exact rfl) | (apply r_idxN; exact rfl; exact rfl; exact rfl; exact rfl; (first | assumption | exact WN.rd (by assumption) rfl [] | exact OwnN.rd (by assumption)); (first | assumption | omega)) | (apply r_index; exact rfl; exact rfl; exact rfl; exact fun _ => rfl; exact rfl; omega) | (apply r_len; exact rfl; exact rfl; exact rfl) | (apply r_lss; exact rfl; exact rfl; exact rfl; exact rfl; all_goals intro hc; all_goals try (exfalso; omega)) | refine JC.skip ?_ | refine JC.condT rfl ?_ | refine JC.block ?_))
      refine r_stN (A := [_, _, _] ++ (N10 ++ N9 ++ N8 ++ N7)) (u := 55) hO (by simp only [List.append_assoc]; rfl) rfl (by first | trivial | exact ⟨rfl, rfl⟩) rfl rfl hqn (fun N' hO' => ?_)
      simp only [List.append_assoc]
      (repeat' (first | refine JC.ops ?_ | refine JO.nil ?_ | refine JX.thenN ?_ | (apply r_move; exact rfl; exact rfl; exact rfl) | (apply r_assign; exact rfl; exact rfl; exact rfl) | (apply r_add1; exact rfl; exact rfl; exact rfl; exact rfl; omega) | refine JX.blockN ?_))
      exact JX.roundH (q + 1, N') ⟨by dsimp only; omega, _, hO'⟩ (by dsimp only; omega) (by repeat first | exact trivial | refine ⟨rfl, ?_⟩) (by (first | exact HSub.refl _ | (repeat' first | exact HSub.nil _ | exact HSub.refl _ | refine HSub.at 0 rfl ?_ | refine HSub.at 1 rfl ?_ | refine HSub.at 2 rfl ?_ | refine HSub.at 3 rfl ?_ | refine HSub.at 4 rfl ?_ | refine HSub.at 5 rfl ?_ | refine HSub.at 6 rfl ?_ | refine HSub.at 7 rfl ?_)))
    · (repeat' (first | refine JC.seq ?_ | refine JC.ops ?_ | refine JO.nil ?_ | refine JX.thenN ?_ | (apply r_move; exact rfl; exact rfl; exact rfl) | (apply r_fieldAddr; exact rfl; exact rfl; exact rfl) | (apply r_assign; exact rfl; exact rfl; exact rfl) | (apply r_load; exact rfl; exact rfl; exact rfl; exact rfl; (first | exact at0 | exact at1 | exact at2 | exact at3 | exact at4 | exact at5 | exact at6 | exact at7); exact rfl) | (apply r_index; exact rfl; exact rfl; exact rfl; exact fun _ => rfl; exact rfl; omega) | (apply r_len; exact rfl; exact rfl; exact rfl) | (apply r_add1; exact rfl; exact rfl; exact rfl; exact rfl; omega) | (apply r_lss; exact rfl; exact rfl; exact rfl; exact rfl; all_goals intro hc; all_goals try (exfalso; omega)) | refine JX.thenE ?_ | refine JC.exit ?_ | refine JC.condF rfl ?_ | refine JX.blockN ?_ | refine JX.blockE ?_))
      exact JX.roundH (1, N10, N9, N8, N7, N5) ⟨by dsimp only; omega, hw10, hw9, hw8, hw7, ⟨xs, hO⟩⟩ (by dsimp only; omega) (by repeat first | exact trivial | refine ⟨rfl, ?_⟩) (by (first | exact HSub.refl _ | (repeat' first | exact HSub.nil _ | exact HSub.refl _ | refine HSub.at 0 rfl ?_ | refine HSub.at 1 rfl ?_ | refine HSub.at 2 rfl ?_ | refine HSub.at 3 rfl ?_ | refine HSub.at 4 rfl ?_ | refine HSub.at 5 rfl ?_ | refine HSub.at 6 rfl ?_ | refine HSub.at 7 rfl ?_)))
  · (repeat' (first | refine JC.seq ?_ | refine JC.ops ?_ | refine JO.nil ?_ | refine JX.thenN ?_ | (apply r_move; exact rfl; exact rfl; exact rfl) | (apply r_assign; exact rfl; exact rfl; exact rfl) | (apply r_len; exact rfl; exact rfl; exact rfl) | (apply r_lss; exact rfl; exact rfl; exact rfl; exact rfl; all_goals intro hc; all_goals try (exfalso; omega)) | refine JC.skip ?_ | refine JC.condT rfl ?_ | refine JC.block ?_))
    refine JC.loopH (ι := Nat × SHeap) ⟨fun z => [(11, nv z.1), (10, nv 1), (9, .slice (some ⟨b9, 0, none⟩) 5 5), (4, .pointer (some ⟨b4, 0, none⟩)), (3, .bool true), (1, .pointer (some ⟨b1, 0, none⟩))], fun z => [(b9, .cells ⟨[nv x5.p, nv x5.r, nv x5.c, .slice A5 n5 c5, nv x7.p, nv x7.r, nv x7.c, .slice A7 n7 c7, nv x8.p, nv x8.r, nv x8.c, .slice A8 n8 c8, nv x9.p, nv x9.r, nv x9.c, .slice A9 n9 c9, nv x10.p, nv x10.r, nv x10.c, .slice A10 n10 c10]⟩ 27), (b4, .cells #[nv m.p, nv m.r, nv m.c, .slice A4 m.e.length c4] 27), (b1, .cells #[.int .u8 (P : Int), .int .u8 (R : Int), .int .u8 (C : Int), E] 24)] ++ (N10 ++ (N9 ++ (N8 ++ (z.2 ++ (N5 ++ (N4 ++ [])))))), fun z => z.1 ≤ n7 ∧ Ow z.2 A7 n7 c7, fun z => n7 - z.1⟩ (0, N7) ⟨Nat.zero_le _, hw7⟩ (by repeat first | exact trivial | refine ⟨rfl, ?_⟩) (by (first | exact HSub.refl _ | (repeat' first | exact HSub.nil _ | exact HSub.refl _ | refine HSub.at 0 rfl ?_ | refine HSub.at 1 rfl ?_ | refine HSub.at 2 rfl ?_ | refine HSub.at 3 rfl ?_ | refine HSub.at 4 rfl ?_ | refine HSub.at 5 rfl ?_ | refine HSub.at 6 rfl ?_ | refine HSub.at 7 rfl ?_))) (fun z hz => ?_)
    clear hw7
    obtain ⟨q, N7⟩ := z
    obtain ⟨hq, xs, hO⟩ := hz
    dsimp only at hq hO ⊢
    by_cases hqn : q < n7
    · (repeat' (first | refine JC.seq ?_ | refine JC.ops ?_ | refine JO.nil ?_ | refine JX.thenN ?_ | (apply r_move; exact rfl; exact rfl; exact rfl) | (apply r_fieldAddr; exact rfl; exact rfl; exact rfl) | (apply r_load; exact rfl; exact rfl; exact rfl; exact rfl; (first | exact at0 | exact at1 | exact at2 | exact at3 | exact at4 | exact at5 | exact at6 | exact at7); exact rfl) | (apply r_idxN; exact rfl; exact rfl; exact rfl; exact rfl; (first | assumption | exact WN.rd (by assumption) rfl [] | exact OwnN.rd (by assumption)); (first | assumption | omega)) | (apply r_index; exact rfl; exact rfl; exact rfl; exact fun _ => rfl; exact rfl; omega) | (apply r_len; exact rfl; exact rfl; exact rfl) | (apply r_lss; exact rfl; exact rfl; exact rfl; exact rfl; all_goals intro hc; all_goals try (exfalso; omega)) | refine JC.skip ?_ | refine JC.condT rfl ?_ | refine JC.block ?_))
      refine r_stN (A := [_, _, _] ++ (N10 ++ N9 ++ N8)) (u := 55) hO (by simp only [List.append_assoc]; rfl) rfl (by first | trivial | exact ⟨rfl, rfl⟩) rfl rfl hqn (fun N' hO' => ?_)
      simp only [List.append_assoc]
      (repeat' (first | refine JC.ops ?_ | refine JO.nil ?_ | refine JX.thenN ?_ | (apply r_move; exact rfl; exact rfl; exact rfl) | (apply r_assign; exact rfl; exact rfl; exact rfl) | (apply r_add1; exact rfl; exact rfl; exact rfl; exact rfl; omega) | refine JX.blockN ?_))
      exact JX.roundH (q + 1, N') ⟨by dsimp only; omega, _, hO'⟩ (by dsimp only; omega) (by repeat first | exact trivial | refine ⟨rfl, ?_⟩) (by (first | exact HSub.refl _ | (repeat' first | exact HSub.nil _ | exact HSub.refl _ | refine HSub.at 0 rfl ?_ | refine HSub.at 1 rfl ?_ | refine HSub.at 2 rfl ?_ | refine HSub.at 3 rfl ?_ | refine HSub.at 4 rfl ?_ | refine HSub.at 5 rfl ?_ | refine HSub.at 6 rfl ?_ | refine HSub.at 7 rfl ?_)))
    · (repeat' (first | refine JC.seq ?_ | refine JC.ops ?_ | refine JO.nil ?_ | refine JX.thenN ?_ | (apply r_move; exact rfl; exact rfl; exact rfl) | (apply r_fieldAddr; exact rfl; exact rfl; exact rfl) | (apply r_assign; exact rfl; exact rfl; exact rfl) | (apply r_load; exact rfl; exact rfl; exact rfl; exact rfl; (first | exact at0 | exact at1 | exact at2 | exact at3 | exact at4 | exact at5 | exact at6 | exact at7); exact rfl) | (apply r_index; exact rfl; exact rfl; exact rfl; exact fun _ => rfl; exact rfl; omega) | (apply r_len; exact rfl; exact rfl; exact rfl) | (apply r_add1; exact rfl; exact rfl; exact rfl; exact rfl; omega) | (apply r_lss; exact rfl; exact rfl; exact rfl; exact rfl; all_goals intro hc; all_goals try (exfalso; omega)) | refine JX.thenE ?_ | refine JC.exit ?_ | refine JC.condF rfl ?_ | refine JX.blockN ?_ | refine JX.blockE ?_))
      exact JX.roundH (2, N10, N9, N8, N7, N5) ⟨by dsimp only; omega, hw10, hw9, hw8, ⟨xs, hO⟩, hw5⟩ (by dsimp only; omega) (by repeat first | exact trivial | refine ⟨rfl, ?_⟩) (by (first | exact HSub.refl _ | (repeat' first | exact HSub.nil _ | exact HSub.refl _ | refine HSub.at 0 rfl ?_ | refine HSub.at 1 rfl ?_ | refine HSub.at 2 rfl ?_ | refine HSub.at 3 rfl ?_ | refine HSub.at 4 rfl ?_ | refine HSub.at 5 rfl ?_ | refine HSub.at 6 rfl ?_ | refine HSub.at 7 rfl ?_)))
  · (repeat' (first | refine JC.seq ?_ | refine JC.ops ?_ | refine JO.nil ?_ | refine JX.thenN ?_ | (apply r_move; exact rfl; exact rfl; exact rfl) | (apply r_assign; exact rfl; exact rfl; exact rfl) | (apply r_len; exact rfl; exact rfl; exact rfl) | (apply r_lss; exact rfl; exact rfl; exact rfl; exact rfl; all_goals intro hc; all_goals try (exfalso; omega)) | refine JC.skip ?_ | refine JC.condT rfl ?_ | refine JC.block ?_))
    refine JC.loopH (ι := Nat × SHeap) ⟨fun z => [(11, nv z.1), (10, nv 2), (9, .slice (some ⟨b9, 0, none⟩) 5 5), (4, .pointer (some ⟨b4, 0, none⟩)), (3, .bool true), (1, .pointer (some ⟨b1, 0, none⟩))], fun z => [(b9, .cells ⟨[nv x5.p, nv x5.r, nv x5.c, .slice A5 n5 c5, nv x7.p, nv x7.r, nv x7.c, .slice A7 n7 c7, nv x8.p, nv x8.r, nv x8.c, .slice A8 n8 c8, nv x9.p, nv x9.r, nv x9.c, .slice A9 n9 c9, nv x10.p, nv x10.r, nv x10.c, .slice A10 n10 c10]⟩ 27), (b4, .cells #[nv m.p, nv m.r, nv m.c, .slice A4 m.e.length c4] 27), (b1, .cells #[.int .u8 (P : Int), .int .u8 (R : Int), .int .u8 (C : Int), E] 24)] ++ (N10 ++ (N9 ++ (z.2 ++ (N7 ++ (N5 ++ (N4 ++ [])))))), fun z => z.1 ≤ n8 ∧ Ow z.2 A8 n8 c8, fun z => n8 - z.1⟩ (0, N8) ⟨Nat.zero_le _, hw8⟩ (by repeat first | exact trivial | refine ⟨rfl, ?_⟩) (by (first | exact HSub.refl _ | (repeat' first | exact HSub.nil _ | exact HSub.refl _ | refine HSub.at 0 rfl ?_ | refine HSub.at 1 rfl ?_ | refine HSub.at 2 rfl ?_ | refine HSub.at 3 rfl ?_ | refine HSub.at 4 rfl ?_ | refine HSub.at 5 rfl ?_ | refine HSub.at 6 rfl ?_ | refine HSub.at 7 rfl ?_))) (fun z hz => ?_)
    clear hw8
    obtain ⟨q, N8⟩ := z
    obtain ⟨hq, xs, hO⟩ := hz
    dsimp only at hq hO ⊢
    by_cases hqn : q < n8
    · (repeat' (first | refine JC.seq ?_ | refine JC.ops ?_ | refine JO.nil ?_ | refine JX.thenN ?_ | (apply r_move; exact rfl; exact rfl; exact rfl) | (apply r_fieldAddr; exact rfl; exact rfl; exact rfl) | (apply r_load; exact rfl; exact rfl; exact rfl; exact rfl; (first | exact at0 | exact at1 | exact at2 | exact at3 | exact at4 | exact at5 | exact at6 | exact at7); exact rfl) | (apply r_idxN; exact rfl; exact rfl; exact rfl; exact rfl; (first | assumption | exact WN.rd (by assumption) rfl [] | exact OwnN.rd (by assumption)); (first | assumption | omega)) | (apply r_index; exact rfl; exact rfl; exact rfl; exact fun _ => rfl; exact rfl; omega) | (apply r_len; exact rfl; exact rfl; exact rfl) | (apply r_lss; exact rfl; exact rfl; exact rfl; exact rfl; all_goals intro hc; all_goals try (exfalso; omega)) | refine JC.skip ?_ | refine JC.condT rfl ?_ | refine JC.block ?_))
      refine r_stN (A := [_, _, _] ++ (N10 ++ N9)) (u := 55) hO (by simp only [List.append_assoc]; rfl) rfl (by first | trivial | exact ⟨rfl, rfl⟩) rfl rfl hqn (fun N' hO' => ?_)
      simp only [List.append_assoc]
      (repeat' (first | refine JC.ops ?_ | refine JO.nil ?_ | refine JX.thenN ?_ | (apply r_move; exact rfl; exact rfl; exact rfl) | (apply r_assign; exact rfl; exact rfl; exact rfl) | (apply r_add1; exact rfl; exact rfl; exact rfl; exact rfl; omega) | refine JX.blockN ?_))
      exact JX.roundH (q + 1, N') ⟨by dsimp only; omega, _, hO'⟩ (by dsimp only; omega) (by repeat first | exact trivial | refine ⟨rfl, ?_⟩) (by (first | exact HSub.refl _ | (repeat' first | exact HSub.nil _ | exact HSub.refl _ | refine HSub.at 0 rfl ?_ | refine HSub.at 1 rfl ?_ | refine HSub.at 2 rfl ?_ | refine HSub.at 3 rfl ?_ | refine HSub.at 4 rfl ?_ | refine HSub.at 5 rfl ?_ | refine HSub.at 6 rfl ?_ | refine HSub.at 7 rfl ?_)))
    · (repeat' (first | refine JC.seq ?_ | refine JC.ops ?_ | refine JO.nil ?_ | refine JX.thenN ?_ | (apply r_move; exact rfl; exact rfl; exact rfl) | (apply r_fieldAddr; exact rfl; exact rfl; exact rfl) | (apply r_assign; exact rfl; exact rfl; exact rfl) | (apply r_load; exact rfl; exact rfl; exact rfl; exact rfl; (first | exact at0 | exact at1 | exact at2 | exact at3 | exact at4 | exact at5 | exact at6 | exact at7); exact rfl) | (apply r_index; exact rfl; exact rfl; exact rfl; exact fun _ => rfl; exact rfl; omega) | (apply r_len; exact rfl; exact rfl; exact rfl) | (apply r_add1; exact rfl; exact rfl; exact rfl; exact rfl; omega) | (apply r_lss; exact rfl; exact rfl; exact rfl; exact rfl; all_goals intro hc; all_goals try (exfalso; omega)) | refine JX.thenE ?_ | refine JC.exit ?_ | refine JC.condF rfl ?_ | refine JX.blockN ?_ | refine JX.blockE ?_))
      exact JX.roundH (3, N10, N9, N8, N7, N5) ⟨by dsimp only; omega, hw10, hw9, ⟨xs, hO⟩, hw7, hw5⟩ (by dsimp only; omega) (by repeat first | exact trivial | refine ⟨rfl, ?_⟩) (by (first | exact HSub.refl _ | (repeat' first | exact HSub.nil _ | exact HSub.refl _ | refine HSub.at 0 rfl ?_ | refine HSub.at 1 rfl ?_ | refine HSub.at 2 rfl ?_ | refine HSub.at 3 rfl ?_ | refine HSub.at 4 rfl ?_ | refine HSub.at 5 rfl ?_ | refine HSub.at 6 rfl ?_ | refine HSub.at 7 rfl ?_)))
  · (repeat' (first | refine JC.seq ?_ | refine JC.ops ?_ | refine JO.nil ?_ | refine JX.thenN ?_ | (apply r_move; exact rfl; exact rfl; exact rfl) | (apply r_assign; exact rfl; exact rfl; exact rfl) | (apply r_len; exact rfl; exact rfl; exact rfl) | (apply r_lss; exact rfl; exact rfl; exact rfl; exact rfl; all_goals intro hc; all_goals try (exfalso; omega)) | refine JC.skip ?_ | refine JC.condT rfl ?_ | refine JC.block ?_))
    refine JC.loopH (ι := Nat × SHeap) ⟨fun z => [(11, nv z.1), (10, nv 3), (9, .slice (some ⟨b9, 0, none⟩) 5 5), (4, .pointer (some ⟨b4, 0, none⟩)), (3, .bool true), (1, .pointer (some ⟨b1, 0, none⟩))], fun z => [(b9, .cells ⟨[nv x5.p, nv x5.r, nv x5.c, .slice A5 n5 c5, nv x7.p, nv x7.r, nv x7.c, .slice A7 n7 c7, nv x8.p, nv x8.r, nv x8.c, .slice A8 n8 c8, nv x9.p, nv x9.r, nv x9.c, .slice A9 n9 c9, nv x10.p, nv x10.r, nv x10.c, .slice A10 n10 c10]⟩ 27), (b4, .cells #[nv m.p, nv m.r, nv m.c, .slice A4 m.e.length c4] 27), (b1, .cells #[.int .u8 (P : Int), .int .u8 (R : Int), .int .u8 (C : Int), E] 24)] ++ (N10 ++ (z.2 ++ (N8 ++ (N7 ++ (N5 ++ (N4 ++ [])))))), fun z => z.1 ≤ n9 ∧ Ow z.2 A9 n9 c9, fun z => n9 - z.1⟩ (0, N9) ⟨Nat.zero_le _, hw9⟩ (by repeat first | exact trivial | refine ⟨rfl, ?_⟩) (by (first | exact HSub.refl _ | (repeat' first | exact HSub.nil _ | exact HSub.refl _ | refine HSub.at 0 rfl ?_ | refine HSub.at 1 rfl ?_ | refine HSub.at 2 rfl ?_ | refine HSub.at 3 rfl ?_ | refine HSub.at 4 rfl ?_ | refine HSub.at 5 rfl ?_ | refine HSub.at 6 rfl ?_ | refine HSub.at 7 rfl ?_))) (fun z hz => ?_)
    clear hw9
    obtain ⟨q, N9⟩ := z
    obtain ⟨hq, xs, hO⟩ := hz
    dsimp only at hq hO ⊢
    by_cases hqn : q < n9
    · (repeat' (first | refine JC.seq ?_ | refine JC.ops ?_ | refine JO.nil ?_ | refine JX.thenN ?_ | (apply r_move; exact rfl; exact rfl; exact rfl) | (apply r_fieldAddr; exact rfl; exact rfl; exact rfl) | (apply r_load; exact rfl; exact rfl; exact rfl; exact rfl; (first | exact at0 | exact at1 | exact at2 | exact at3 | exact at4 | exact at5 | exact at6 | exact at7); exact rfl) | (apply r_idxN; exact rfl; exact rfl; exact rfl; exact rfl; (first | assumption | exact WN.rd (by assumption) rfl [] | exact OwnN.rd (by assumption)); (first | assumption | omega)) | (apply r_index; exact rfl; exact rfl; exact rfl; exact fun _ => rfl; exact rfl; omega) | (apply r_len; exact rfl; exact rfl; exact rfl) | (apply r_lss; exact rfl; exact rfl; exact rfl; exact rfl; all_goals intro hc; all_goals try (exfalso; omega)) | refine JC.skip ?_ | refine JC.condT rfl ?_ | refine JC.block ?_))
      refine r_stN (A := [_, _, _] ++ N10) (u := 55) hO (by simp only [List.append_assoc]; rfl) rfl (by first | trivial | exact ⟨rfl, rfl⟩) rfl rfl hqn (fun N' hO' => ?_)
      simp only [List.append_assoc]
      (repeat' (first | refine JC.ops ?_ | refine JO.nil ?_ | refine JX.thenN ?_ | (apply r_move; exact rfl; exact rfl; exact rfl) | (apply r_assign; exact rfl; exact rfl; exact rfl) | (apply r_add1; exact rfl; exact rfl; exact rfl; exact rfl; omega) | refine JX.blockN ?_))
      exact JX.roundH (q + 1, N') ⟨by dsimp only; omega, _, hO'⟩ (by dsimp only; omega) (by repeat first | exact trivial | refine ⟨rfl, ?_⟩) (by (first | exact HSub.refl _ | (repeat' first | exact HSub.nil _ | exact HSub.refl _ | refine HSub.at 0 rfl ?_ | refine HSub.at 1 rfl ?_ | refine HSub.at 2 rfl ?_ | refine HSub.at 3 rfl ?_ | refine HSub.at 4 rfl ?_ | refine HSub.at 5 rfl ?_ | refine HSub.at 6 rfl ?_ | refine HSub.at 7 rfl ?_)))
    · (repeat' (first | refine JC.seq ?_ | refine JC.ops ?_ | refine JO.nil ?_ | refine JX.thenN ?_ | (apply r_move; exact rfl; exact rfl; exact rfl) | (apply r_fieldAddr; exact rfl; exact rfl; exact rfl) | (apply r_assign; exact rfl; exact rfl; exact rfl) | (apply r_load; exact rfl; exact rfl; exact rfl; exact rfl; (first | exact at0 | exact at1 | exact at2 | exact at3 | exact at4 | exact at5 | exact at6 | exact at7); exact rfl) | (apply r_index; exact rfl; exact rfl; exact rfl; exact fun _ => rfl; exact rfl; omega) | (apply r_len; exact rfl; exact rfl; exact rfl) | (apply r_add1; exact rfl; exact rfl; exact rfl; exact rfl; omega) | (apply r_lss; exact rfl; exact rfl; exact rfl; exact rfl; all_goals intro hc; all_goals try (exfalso; omega)) | refine JX.thenE ?_ | refine JC.exit ?_ | refine JC.condF rfl ?_ | refine JX.blockN ?_ | refine JX.blockE ?_))
      exact JX.roundH (4, N10, N9, N8, N7, N5) ⟨by dsimp only; omega, hw10, ⟨xs, hO⟩, hw8, hw7, hw5⟩ (by dsimp only; omega) (by repeat first | exact trivial | refine ⟨rfl, ?_⟩) (by (first | exact HSub.refl _ | (repeat' first | exact HSub.nil _ | exact HSub.refl _ | refine HSub.at 0 rfl ?_ | refine HSub.at 1 rfl ?_ | refine HSub.at 2 rfl ?_ | refine HSub.at 3 rfl ?_ | refine HSub.at 4 rfl ?_ | refine HSub.at 5 rfl ?_ | refine HSub.at 6 rfl ?_ | refine HSub.at 7 rfl ?_)))
  · (repeat' (first | refine JC.seq ?_ | refine JC.ops ?_ | refine JO.nil ?_ | refine JX.thenN ?_ | (apply r_move; exact rfl; exact rfl; exact rfl) | (apply r_assign; exact rfl; exact rfl; exact rfl) | (apply r_len; exact rfl; exact rfl; exact rfl) | (apply r_lss; exact rfl; exact rfl; exact rfl; exact rfl; all_goals intro hc; all_goals try (exfalso; omega)) | refine JC.skip ?_ | refine JC.condT rfl ?_ | refine JC.block ?_))
    refine JC.loopH (ι := Nat × SHeap) ⟨fun z => [(11, nv z.1), (10, nv 4), (9, .slice (some ⟨b9, 0, none⟩) 5 5), (4, .pointer (some ⟨b4, 0, none⟩)), (3, .bool true), (1, .pointer (some ⟨b1, 0, none⟩))], fun z => [(b9, .cells ⟨[nv x5.p, nv x5.r, nv x5.c, .slice A5 n5 c5, nv x7.p, nv x7.r, nv x7.c, .slice A7 n7 c7, nv x8.p, nv x8.r, nv x8.c, .slice A8 n8 c8, nv x9.p, nv x9.r, nv x9.c, .slice A9 n9 c9, nv x10.p, nv x10.r, nv x10.c, .slice A10 n10 c10]⟩ 27), (b4, .cells #[nv m.p, nv m.r, nv m.c, .slice A4 m.e.length c4] 27), (b1, .cells #[.int .u8 (P : Int), .int .u8 (R : Int), .int .u8 (C : Int), E] 24)] ++ (z.2 ++ (N9 ++ (N8 ++ (N7 ++ (N5 ++ (N4 ++ [])))))), fun z => z.1 ≤ n10 ∧ Ow z.2 A10 n10 c10, fun z => n10 - z.1⟩ (0, N10) ⟨Nat.zero_le _, hw10⟩ (by repeat first | exact trivial | refine ⟨rfl, ?_⟩) (by (first | exact HSub.refl _ | (repeat' first | exact HSub.nil _ | exact HSub.refl _ | refine HSub.at 0 rfl ?_ | refine HSub.at 1 rfl ?_ | refine HSub.at 2 rfl ?_ | refine HSub.at 3 rfl ?_ | refine HSub.at 4 rfl ?_ | refine HSub.at 5 rfl ?_ | refine HSub.at 6 rfl ?_ | refine HSub.at 7 rfl ?_))) (fun z hz => ?_)
    clear hw10
    obtain ⟨q, N10⟩ := z
    obtain ⟨hq, xs, hO⟩ := hz
    dsimp only at hq hO ⊢
    by_cases hqn : q < n10
    · (repeat' (first | refine JC.seq ?_ | refine JC.ops ?_ | refine JO.nil ?_ | refine JX.thenN ?_ | (apply r_move; exact rfl; exact rfl; exact rfl) | (apply r_fieldAddr; exact rfl; exact rfl; exact rfl) | (apply r_load; exact rfl; exact rfl; exact rfl; exact rfl; (first | exact at0 | exact at1 | exact at2 | exact at3 | exact at4 | exact at5 | exact at6 | exact at7); exact rfl) | (apply r_idxN; exact rfl; exact rfl; exact rfl; exact rfl; (first | assumption | exact WN.rd (by assumption) rfl [] | exact OwnN.rd (by assumption)); (first | assumption | omega)) | (apply r_index; exact rfl; exact rfl; exact rfl; exact fun _ => rfl; exact rfl; omega) | (apply r_len; exact rfl; exact rfl; exact rfl) | (apply r_lss; exact rfl; exact rfl; exact rfl; exact rfl; all_goals intro hc; all_goals try (exfalso; omega)) | refine JC.skip ?_ | refine JC.condT rfl ?_ | refine JC.block ?_))
      refine r_stN (A := [_, _, _]) (u := 55) hO rfl rfl (by first | trivial | exact ⟨rfl, rfl⟩) rfl rfl hqn (fun N' hO' => ?_)
      (repeat' (first | refine JC.ops ?_ | refine JO.nil ?_ | refine JX.thenN ?_ | (apply r_move; exact rfl; exact rfl; exact rfl) | (apply r_assign; exact rfl; exact rfl; exact rfl) | (apply r_add1; exact rfl; exact rfl; exact rfl; exact rfl; omega) | refine JX.blockN ?_))
      exact JX.roundH (q + 1, N') ⟨by dsimp only; omega, _, hO'⟩ (by dsimp only; omega) (by repeat first | exact trivial | refine ⟨rfl, ?_⟩) (by (first | exact HSub.refl _ | (repeat' first | exact HSub.nil _ | exact HSub.refl _ | refine HSub.at 0 rfl ?_ | refine HSub.at 1 rfl ?_ | refine HSub.at 2 rfl ?_ | refine HSub.at 3 rfl ?_ | refine HSub.at 4 rfl ?_ | refine HSub.at 5 rfl ?_ | refine HSub.at 6 rfl ?_ | refine HSub.at 7 rfl ?_)))
    · (repeat' (first | refine JC.seq ?_ | refine JC.ops ?_ | refine JO.nil ?_ | refine JX.thenN ?_ | (apply r_move; exact rfl; exact rfl; exact rfl) | (apply r_fieldAddr; exact rfl; exact rfl; exact rfl) | (apply r_assign; exact rfl; exact rfl; exact rfl) | (apply r_load; exact rfl; exact rfl; exact rfl; exact rfl; (first | exact at0 | exact at1 | exact at2 | exact at3 | exact at4 | exact at5 | exact at6 | exact at7); exact rfl) | (apply r_index; exact rfl; exact rfl; exact rfl; exact fun _ => rfl; exact rfl; omega) | (apply r_len; exact rfl; exact rfl; exact rfl) | (apply r_add1; exact rfl; exact rfl; exact rfl; exact rfl; omega) | (apply r_lss; exact rfl; exact rfl; exact rfl; exact rfl; all_goals intro hc; all_goals try (exfalso; omega)) | refine JX.thenE ?_ | refine JC.exit ?_ | refine JC.condF rfl ?_ | refine JX.blockN ?_ | refine JX.blockE ?_))
      exact JX.roundH (5, N10, N9, N8, N7, N5) ⟨by dsimp only; omega, ⟨xs, hO⟩, hw9, hw8, hw7, hw5⟩ (by dsimp only; omega) (by repeat first | exact trivial | refine ⟨rfl, ?_⟩) (by (first | exact HSub.refl _ | (repeat' first | exact HSub.nil _ | exact HSub.refl _ | refine HSub.at 0 rfl ?_ | refine HSub.at 1 rfl ?_ | refine HSub.at 2 rfl ?_ | refine HSub.at 3 rfl ?_ | refine HSub.at 4 rfl ?_ | refine HSub.at 5 rfl ?_ | refine HSub.at 6 rfl ?_ | refine HSub.at 7 rfl ?_)))
  · (repeat' (first | refine JC.seq ?_ | refine JC.ops ?_ | refine JC.opsD ?_ | refine JO.nil ?_ | refine JX.thenN ?_ | (apply r_move; exact rfl; exact rfl; exact rfl) | (apply r_loadN; exact rfl; exact rfl; exact rfl; exact rfl; (first | exact at0 | exact at1 | exact at2 | exact at3 | exact at4 | exact at5 | exact at6 | exact at7); exact rfl) | (apply r_len; exact rfl; exact rfl; exact rfl) | (apply r_lss; exact rfl; exact rfl; exact rfl; exact rfl; all_goals intro hc; all_goals try (exfalso; omega)) | refine JX.thenE ?_ | refine JC.exit ?_ | refine JC.condF rfl ?_ | refine JX.blockE ?_))
    refine r_callA (A := [_, _, _]) rfl trivial rfl rfl rfl (fun w hk hs => c_Mat w _ P R C L (hv0.mono hk)) fun w v w' _ _ _ hR => ?_
    rw [hgm] at hR
    obtain ⟨N11, hN11, E11, rfl, hO11⟩ := hR
    obtain ⟨A11, c11, rfl⟩ := hO11.form
    refine ⟨N11, hN11, ?_⟩
    skip
    refine r_call0 trivial rfl rfl rfl (fun w hk hs => c_SameT w _ _ m.fm m.fm (IsM.int ⟨_, rfl, hO4.rd.at hk hs (by (repeat' first | exact HSub.nil _ | exact HSub.hd | exact HSub.in0 | exact HSub.refl _ | refine HSub.skip ?_ | refine HSub.skipN ?_))⟩) (IsM.int ⟨_, rfl, hO11.rd.at hk hs (by (repeat' first | exact HSub.nil _ | exact HSub.hd | exact HSub.in0 | exact HSub.refl _ | refine HSub.skip ?_ | refine HSub.skipN ?_))⟩) hm.flen hm.flen rfl) fun w v w' _ _ _ hR => ?_
    subst hR
    (repeat' (first | refine JO.nil ?_ | refine JX.thenN ?_ | (apply r_assign; exact rfl; exact rfl; exact rfl) | (apply r_pickT; exact rfl; exact rfl; exact rfl; exact rfl) | refine JC.ret ?_))
    exact JX.ret1 rfl (fun a w' st => ⟨st.kp, rfl⟩)

end Go.Proofs.Ytdoogoglfbohaaa
