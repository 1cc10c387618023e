import Derived.Test.YtdlmnloikakjpaaDoorMh
import Derived.Test.YtdlmnloikakjpaaDoorMi
import Derived.Test.YtdlmnloikakjpaaDoorMk
import Derived.Test.YtdlmnloikakjpaaDoorMj
import Derived.Test.YtdlmnloikakjpaaDoorTie
import Derived.Test.YtdlmnloikakjpaaDoorCards
import Derived.Shelf.Lay
import Derived.Lay
import Derived.LaidOnce
import Derived.SevenTiedAt
/- The law MatrixInverse. ROWZ -/
namespace Go.Proofs.YtdlmnloikakjpaaDoor
open Go Go.RowKit
set_option linter.unusedSimpArgs false
set_option linter.unusedVariables false
set_option linter.unusedSectionVars false

theorem shc (C : Nat) : C % 7 ≤ 6 := by have := Nat.mod_lt C (show 0 < 7 by omega); omega
theorem same_t {w : World} {v u : Value} {m : ZM} (hm : RtZ m) (hv : IsM w v m) (hu : IsM w u m) : Calls Tryd.prog 22 #[v, u] w (Ret fun v w' => Kp [] w w' ∧ v = .bool true) :=
  calls_mono (c_same w v u m.xm m.xm hv.x hu.x (xm_len hm) (xm_len hm)) fun v w' h => ⟨h.1, by obtain ⟨b, rfl, hb⟩ := h.2; rw [hb.2 rfl]⟩
theorem p440 : (4 : Nat) ^ 40 ≤ 256 ^ 11 := by decide
theorem BdZ.uni {m : ZM} (hm : RtZ m) (hsq : m.r = m.c) (h : UnI m.r 40 m.at) : BdZ 12 m := fun i => by
  have h0 : (4 : Nat) ^ 40 < 256 ^ 12 := by decide
  by_cases hi : i < m.r * m.c
  · obtain ⟨h1, h2, h3⟩ := zx_split hi
    have := h.bd (i / m.c) (i % m.c) h1 (by omega)
    have e : m.at (i / m.c) (i % m.c) = m.e.getD i 0 := by show m.e.getD _ 0 = _; rw [← h3]
    rw [e] at this
    omega
  · rw [List.getD, List.getElem?_eq_none (by rw [hm.len]; omega)]; exact Nat.pow_pos (by decide)
open Classical in
noncomputable def invA (m : ZM) : ZM × Bool := if (det m.r m.at).natAbs = 1 then (adjZ m, true) else (zM, false)
theorem invA_rt {m : ZM} (hm : RtZ m) : RtZ (invA m).1 := by
  unfold invA
  split
  · exact zof_rt hm.r hm.r
  · exact RtZ.zM
theorem invA_of {m : ZM} {w w' : World} {v : Value} (h : if (det m.r m.at).natAbs = 1 then GivesMB (adjZ m) true w v w' else v = .tuple #[zeroM, .bool false]) : GivesMB (invA m).1 (invA m).2 w v w' := by
  by_cases hd : (det m.r m.at).natAbs = 1
  · rw [if_pos hd] at h
    rw [show invA m = (adjZ m, true) from if_pos hd]
    exact h
  · rw [if_neg hd] at h
    rw [show invA m = (zM, false) from if_neg hd]
    exact gives_z h
theorem invA_two {m : ZM} : (invA m).2 = decide ((det m.r m.at).natAbs = 1) := by
  unfold invA
  split
  · rename_i h; exact (decide_eq_true h).symm
  · rename_i h; exact (decide_eq_false h).symm
section
variable {c : Cx} {Q : Exit → Act → World → Prop} {m : Mode} {F : SFrame} {H : SHeap} {r : List SOp} {g : Option (Option Tmp × Bool)} {ns : Bool} {d : Tmp} {ty t t' : TypeId} {x y : Operand}
theorem r_eqV {a b : Int} [TWide c.P t] (hd : dstOk c.n (some d) = true) (hg : guardF F g = some true) (hx : ev F x = some (Wv a)) (hy : ev F y = some (Wv b)) {v : Bool} (hv : decide (a = b) = v)
    (h : JO c Q m r ((d, .bool v) :: F) H) : JO c Q m (⟨some d, .binOp .eql t x y t', ty, g, .mov, ns⟩ :: r) F H :=
  r_eqW hd hg hx hy (by rw [Wv_eq, hv]; exact h)
end

set_option maxHeartbeats 16000000 in
theorem c_MatrixInverse (w : World) (v0 : Value) (q : Nat) (vl : Value) (Ll : List Int) (R0 C0 : Nat) (L0 : List Int) (hq : q < 256) (hvl : IsL w vl Ll) (hv0 : IsS w v0 R0 C0 L0) :
    Calls Tryd.prog 4 #[.int .u8 (q : Int), vl, v0] w (Ret fun v w' => Kp [] w w' ∧ v = .bool true) := by
  have hs0 := hv0
  have hc0 := shc C0
  have hr0 := shc R0
  have hL0 := hv0.2.2.1
  obtain ⟨_, _, _, E0, rfl, _⟩ := hv0
  refine calls_of_S [⟨12, 1, [], []⟩] [] (by simp) [] Tryd.func4 rfl mixed (by kernel_rfl) Tryd.ntmps4 Tryd.results4 rfl ⟨by simp, by simp⟩ (by simp) ?_
  simp only [toS, textOps, toSOp, kindAt, kindOf, odAt, sopsAt, ordOf, zipF]
  (repeat' (first | refine JC.seq ?_ | refine JC.ops ?_ | refine JO.nil ?_ | (apply r_assign; (iterate 3 exact rfl)) | (apply r_boxA; (iterate 4 exact rfl); intro _)))
  rename_i bs0
  refine JX.thenN ?_
  (repeat' (first | refine JC.seq ?_ | refine JC.ops ?_))
  refine r_call0 trivial rfl rfl rfl (fun w _ _ => c_sanity w) fun w v w' _ _ _ hR => ?_
  subst hR
  (repeat' (first | refine JO.nil ?_ | (apply r_assign; (iterate 3 exact rfl))))
  refine JX.part (F' := [(7, .bool true), (5, .pointer (some ⟨bs0, 0, none⟩)), (0, .int .u8 (q : Int)), (1, vl)]) (H' := [(bs0, .cells #[.int .u8 (R0 : Int), .int .u8 (C0 : Int), E0] 24)] ++ ([])) (by repeat first | exact trivial | refine ⟨rfl, ?_⟩) (by (repeat' first | exact HSub.refl _ | exact HSub.nil _ | refine HSub.at 0 rfl ?_ | refine HSub.at 1 rfl ?_ | refine HSub.at 2 rfl ?_ | refine HSub.at 3 rfl ?_ | refine HSub.at 4 rfl ?_ | refine HSub.at 5 rfl ?_ | refine HSub.at 6 rfl ?_ | refine HSub.at 7 rfl ?_ | refine HSub.at 8 rfl ?_ | refine HSub.at 9 rfl ?_ | refine HSub.at 10 rfl ?_ | refine HSub.at 11 rfl ?_ | refine HSub.at 12 rfl ?_ | refine HSub.at 13 rfl ?_ | refine HSub.at 14 rfl ?_ | refine HSub.at 15 rfl ?_ | refine HSub.at 16 rfl ?_ | refine HSub.at 17 rfl ?_ | refine HSub.at 18 rfl ?_ | refine HSub.at 19 rfl ?_ | refine HSub.segH ?_ | refine HSub.skip ?_ | refine HSub.skipN ?_)) ?_
  refine JX.thenN ?_
  (repeat' (first | refine JC.seq ?_ | refine JC.ops ?_ | (apply r_move; (iterate 3 exact rfl))))
  refine r_modK (i := q) 7 rfl rfl rfl rfl (by omega) ?_
  (repeat' (first | (apply r_move; (iterate 3 exact rfl)) | (apply r_convN; (iterate 3 exact rfl); omega)))
  refine r_callA (A := [_]) (B := []) rfl (by first | trivial | exact ⟨rfl, rfl⟩) rfl (by first | rfl | exact ⟨rfl, rfl⟩) rfl (fun w hk hs => c_Unimodular w (q % 7) _ Ll (hvl.mono hk) (by omega)) fun w v w' _ _ _ hR => ?_
  obtain ⟨ma, rta, car, cac, hU, Na, hNa, Ea, rfl, hOa⟩ := hR
  obtain ⟨Aa, ca, rfl⟩ := hOa.form
  refine ⟨Na, hNa, ?_⟩
  have hUa : UnI ma.r 40 ma.at := by rw [car]; exact hU
  have bda : BdZ 12 ma := BdZ.uni rta (by omega) hUa
  have hda := hUa.dt
  have hba : ∀ i j, i < ma.r → j < ma.r → (ma.at i j).natAbs ≤ 256 ^ 11 := fun i j hi hj => Nat.le_trans (hUa.bd i j hi hj) p440
  clear hU hUa
  (repeat' (first | refine JO.nil ?_ | (apply r_storeN; exact rfl; (first | exact trivial | exact ⟨rfl, rfl⟩); exact rfl; exact rfl; exact at0; (iterate 3 exact rfl)) | (apply r_allocZ; (iterate 3 exact rfl); intro _) | (apply r_storeN; exact rfl; (first | exact trivial | exact ⟨rfl, rfl⟩); exact rfl; exact rfl; exact at0; (iterate 3 exact rfl))))
  rename_i ba
  refine JX.part (F' := [(8, .pointer (some ⟨ba, 0, none⟩)), (7, .bool true), (5, .pointer (some ⟨bs0, 0, none⟩))]) (H' := [(ba, .cells #[nv ma.r, nv ma.c, .slice Aa ma.e.length ca] 29), (bs0, .cells #[.int .u8 (R0 : Int), .int .u8 (C0 : Int), E0] 24)] ++ (Na ++ ([]))) (by repeat first | exact trivial | refine ⟨rfl, ?_⟩) (by (repeat' first | exact HSub.refl _ | exact HSub.nil _ | refine HSub.at 0 rfl ?_ | refine HSub.at 1 rfl ?_ | refine HSub.at 2 rfl ?_ | refine HSub.at 3 rfl ?_ | refine HSub.at 4 rfl ?_ | refine HSub.at 5 rfl ?_ | refine HSub.at 6 rfl ?_ | refine HSub.at 7 rfl ?_ | refine HSub.at 8 rfl ?_ | refine HSub.at 9 rfl ?_ | refine HSub.at 10 rfl ?_ | refine HSub.at 11 rfl ?_ | refine HSub.at 12 rfl ?_ | refine HSub.at 13 rfl ?_ | refine HSub.at 14 rfl ?_ | refine HSub.at 15 rfl ?_ | refine HSub.at 16 rfl ?_ | refine HSub.at 17 rfl ?_ | refine HSub.at 18 rfl ?_ | refine HSub.at 19 rfl ?_ | refine HSub.segH ?_ | refine HSub.skip ?_ | refine HSub.skipN ?_)) ?_
  refine JX.thenN ?_
  (repeat' (first | refine JC.seq ?_ | refine JC.ops ?_ | (apply r_loadN; (iterate 4 exact rfl); exact at0; exact rfl)))
  refine r_callA (A := [_, _]) (B := Na ++ ([])) rfl (by first | trivial | exact ⟨rfl, rfl⟩) rfl (by first | rfl | exact ⟨rfl, rfl⟩) rfl (fun w hk hs => c_InvN w _ ma rta (by omega) (by omega) bda hba ⟨_, rfl, hOa.rd.at hk hs (by (repeat' first | exact HSub.nil _ | exact HSub.hd | exact HSub.in0 | exact HSub.refl _ | refine HSub.skip ?_ | refine HSub.skipN ?_))⟩) fun w v w' _ _ _ hR => ?_
  rw [if_pos hda] at hR
  obtain ⟨mb, hmb⟩ : ∃ m, m = adjZ ma := ⟨_, rfl⟩
  have rtb : RtZ mb := by rw [hmb]; exact zof_rt rta.r rta.r
  have bdb : BdZ 91 mb := by rw [hmb]; exact adjZ_bd (K := 12) (by omega) hda bda
  have cbr : mb.r = ma.r := by rw [hmb]; rfl
  have cbc : mb.c = ma.r := by rw [hmb]; rfl
  rw [← hmb] at hR
  obtain ⟨Nb, ub, rfl, hNb, Eb, rfl, hOb⟩ := hR
  obtain ⟨Ab, cb, rfl⟩ := hOb.form
  refine ⟨Nb, hNb, ?_⟩
  (repeat' (first | refine JO.nil ?_ | (apply r_move; (iterate 3 exact rfl)) | (apply r_assign; (iterate 3 exact rfl)) | (apply r_extract; (iterate 4 exact rfl)) | (apply r_storeN; exact rfl; (first | exact trivial | exact ⟨rfl, rfl⟩); exact rfl; exact rfl; exact at0; (iterate 3 exact rfl)) | (apply r_allocZ; (iterate 3 exact rfl); intro _) | (apply r_storeN; exact rfl; (first | exact trivial | exact ⟨rfl, rfl⟩); exact rfl; exact rfl; exact at0; (iterate 3 exact rfl))))
  rename_i bb
  refine JX.part (F' := [(10, .bool true), (9, .pointer (some ⟨bb, 0, none⟩)), (8, .pointer (some ⟨ba, 0, none⟩)), (7, .bool true), (5, .pointer (some ⟨bs0, 0, none⟩))]) (H' := [(bb, .cells #[nv mb.r, nv mb.c, .slice Ab mb.e.length cb] 29), (ba, .cells #[nv ma.r, nv ma.c, .slice Aa ma.e.length ca] 29), (bs0, .cells #[.int .u8 (R0 : Int), .int .u8 (C0 : Int), E0] 24)] ++ (Nb ++ (Na ++ ([])))) (by repeat first | exact trivial | refine ⟨rfl, ?_⟩) (by (repeat' first | exact HSub.refl _ | exact HSub.nil _ | refine HSub.at 0 rfl ?_ | refine HSub.at 1 rfl ?_ | refine HSub.at 2 rfl ?_ | refine HSub.at 3 rfl ?_ | refine HSub.at 4 rfl ?_ | refine HSub.at 5 rfl ?_ | refine HSub.at 6 rfl ?_ | refine HSub.at 7 rfl ?_ | refine HSub.at 8 rfl ?_ | refine HSub.at 9 rfl ?_ | refine HSub.at 10 rfl ?_ | refine HSub.at 11 rfl ?_ | refine HSub.at 12 rfl ?_ | refine HSub.at 13 rfl ?_ | refine HSub.at 14 rfl ?_ | refine HSub.at 15 rfl ?_ | refine HSub.at 16 rfl ?_ | refine HSub.at 17 rfl ?_ | refine HSub.at 18 rfl ?_ | refine HSub.at 19 rfl ?_ | refine HSub.segH ?_ | refine HSub.skip ?_ | refine HSub.skipN ?_)) ?_
  refine JX.thenN ?_
  (repeat' (first | refine JC.seq ?_ | refine JC.ops ?_ | (apply r_loadN; (iterate 4 exact rfl); (first | exact at0 | exact at1); exact rfl)))
  refine r_callA (A := [_, _, _]) (B := Nb ++ (Na ++ ([]))) rfl (by first | trivial | exact ⟨rfl, rfl⟩) rfl (by first | rfl | exact ⟨rfl, rfl⟩) rfl (fun w hk hs => c_MMul 12 91 w _ _ ma mb rta rtb (by omega) (by omega) bda bdb ⟨_, rfl, hOa.rd.at hk hs (by (repeat' first | exact HSub.nil _ | exact HSub.hd | exact HSub.in0 | exact HSub.refl _ | refine HSub.skip ?_ | refine HSub.skipN ?_))⟩ ⟨_, rfl, hOb.rd.at hk hs (by (repeat' first | exact HSub.nil _ | exact HSub.hd | exact HSub.in0 | exact HSub.refl _ | refine HSub.skip ?_ | refine HSub.skipN ?_))⟩) fun w v w' _ _ _ hR => ?_
  obtain ⟨mx, hmx⟩ : ∃ m, m = mulZ ma mb := ⟨_, rfl⟩
  have rtx : RtZ mx := by rw [hmx]; exact zof_rt rta.r rtb.c
  have bdx : BdZ 104 mx := by rw [hmx]; exact (BdZ.mul rta.c bda bdb).mono (by decide)
  rw [← hmx] at hR
  obtain ⟨Nx, ux, rfl, hNx, Ex, rfl, hOx⟩ := hR
  obtain ⟨Ax, cx, rfl⟩ := hOx.form
  refine ⟨Nx, hNx, ?_⟩
  (repeat' (first | refine JO.nil ?_ | (apply r_move; (iterate 3 exact rfl)) | (apply r_assign; (iterate 3 exact rfl)) | (apply r_extract; (iterate 4 exact rfl)) | (apply r_storeN; exact rfl; (first | exact trivial | exact ⟨rfl, rfl⟩); exact rfl; exact rfl; exact at0; (iterate 3 exact rfl)) | (apply r_allocZ; (iterate 3 exact rfl); intro _) | (apply r_storeN; exact rfl; (first | exact trivial | exact ⟨rfl, rfl⟩); exact rfl; exact rfl; exact at0; (iterate 3 exact rfl))))
  rename_i bx
  refine JX.part (F' := [(12, .bool true), (11, .pointer (some ⟨bx, 0, none⟩)), (10, .bool true), (9, .pointer (some ⟨bb, 0, none⟩)), (8, .pointer (some ⟨ba, 0, none⟩)), (7, .bool true), (5, .pointer (some ⟨bs0, 0, none⟩))]) (H' := [(bx, .cells #[nv mx.r, nv mx.c, .slice Ax mx.e.length cx] 29), (bb, .cells #[nv mb.r, nv mb.c, .slice Ab mb.e.length cb] 29), (ba, .cells #[nv ma.r, nv ma.c, .slice Aa ma.e.length ca] 29), (bs0, .cells #[.int .u8 (R0 : Int), .int .u8 (C0 : Int), E0] 24)] ++ (Nx ++ (Nb ++ (Na ++ ([]))))) (by repeat first | exact trivial | refine ⟨rfl, ?_⟩) (by (repeat' first | exact HSub.refl _ | exact HSub.nil _ | refine HSub.at 0 rfl ?_ | refine HSub.at 1 rfl ?_ | refine HSub.at 2 rfl ?_ | refine HSub.at 3 rfl ?_ | refine HSub.at 4 rfl ?_ | refine HSub.at 5 rfl ?_ | refine HSub.at 6 rfl ?_ | refine HSub.at 7 rfl ?_ | refine HSub.at 8 rfl ?_ | refine HSub.at 9 rfl ?_ | refine HSub.at 10 rfl ?_ | refine HSub.at 11 rfl ?_ | refine HSub.at 12 rfl ?_ | refine HSub.at 13 rfl ?_ | refine HSub.at 14 rfl ?_ | refine HSub.at 15 rfl ?_ | refine HSub.at 16 rfl ?_ | refine HSub.at 17 rfl ?_ | refine HSub.at 18 rfl ?_ | refine HSub.at 19 rfl ?_ | refine HSub.segH ?_ | refine HSub.skip ?_ | refine HSub.skipN ?_)) ?_
  refine JX.thenN ?_
  (repeat' (first | refine JC.seq ?_ | refine JC.ops ?_ | (apply r_loadN; (iterate 4 exact rfl); (first | exact at1 | exact at2); exact rfl)))
  have cxr : mx.r = ma.r := by rw [hmx]; rfl
  have cxc : mx.c = mb.c := by rw [hmx]; rfl
  refine r_callA (A := [_, _, _, _]) (B := Nx ++ (Nb ++ (Na ++ ([])))) rfl (by first | trivial | exact ⟨rfl, rfl⟩) rfl (by first | rfl | exact ⟨rfl, rfl⟩) rfl (fun w hk hs => c_MMul 91 12 w _ _ mb ma rtb rta (by omega) (by omega) bdb bda ⟨_, rfl, hOb.rd.at hk hs (by (repeat' first | exact HSub.nil _ | exact HSub.hd | exact HSub.in0 | exact HSub.refl _ | refine HSub.skip ?_ | refine HSub.skipN ?_))⟩ ⟨_, rfl, hOa.rd.at hk hs (by (repeat' first | exact HSub.nil _ | exact HSub.hd | exact HSub.in0 | exact HSub.refl _ | refine HSub.skip ?_ | refine HSub.skipN ?_))⟩) fun w v w' _ _ _ hR => ?_
  obtain ⟨mz, hmz⟩ : ∃ m, m = mulZ mb ma := ⟨_, rfl⟩
  have rtz : RtZ mz := by rw [hmz]; exact zof_rt rtb.r rta.c
  have bdz : BdZ 104 mz := by rw [hmz]; exact (BdZ.mul rtb.c bdb bda).mono (by decide)
  rw [← hmz] at hR
  obtain ⟨Nz, uz, rfl, hNz, Ez, rfl, hOz⟩ := hR
  obtain ⟨Az, cz, rfl⟩ := hOz.form
  refine ⟨Nz, hNz, ?_⟩
  (repeat' (first | refine JO.nil ?_ | (apply r_move; (iterate 3 exact rfl)) | (apply r_assign; (iterate 3 exact rfl)) | (apply r_extract; (iterate 4 exact rfl)) | (apply r_storeN; exact rfl; (first | exact trivial | exact ⟨rfl, rfl⟩); exact rfl; exact rfl; exact at0; (iterate 3 exact rfl)) | (apply r_allocZ; (iterate 3 exact rfl); intro _) | (apply r_storeN; exact rfl; (first | exact trivial | exact ⟨rfl, rfl⟩); exact rfl; exact rfl; exact at0; (iterate 3 exact rfl))))
  rename_i bz
  refine JX.part (F' := [(14, .bool true), (13, .pointer (some ⟨bz, 0, none⟩)), (12, .bool true), (11, .pointer (some ⟨bx, 0, none⟩)), (10, .bool true), (9, .pointer (some ⟨bb, 0, none⟩)), (8, .pointer (some ⟨ba, 0, none⟩)), (7, .bool true), (5, .pointer (some ⟨bs0, 0, none⟩))]) (H' := [(bz, .cells #[nv mz.r, nv mz.c, .slice Az mz.e.length cz] 29), (bx, .cells #[nv mx.r, nv mx.c, .slice Ax mx.e.length cx] 29), (bb, .cells #[nv mb.r, nv mb.c, .slice Ab mb.e.length cb] 29), (ba, .cells #[nv ma.r, nv ma.c, .slice Aa ma.e.length ca] 29), (bs0, .cells #[.int .u8 (R0 : Int), .int .u8 (C0 : Int), E0] 24)] ++ (Nz ++ (Nx ++ (Nb ++ (Na ++ ([])))))) (by repeat first | exact trivial | refine ⟨rfl, ?_⟩) (by (repeat' first | exact HSub.refl _ | exact HSub.nil _ | refine HSub.at 0 rfl ?_ | refine HSub.at 1 rfl ?_ | refine HSub.at 2 rfl ?_ | refine HSub.at 3 rfl ?_ | refine HSub.at 4 rfl ?_ | refine HSub.at 5 rfl ?_ | refine HSub.at 6 rfl ?_ | refine HSub.at 7 rfl ?_ | refine HSub.at 8 rfl ?_ | refine HSub.at 9 rfl ?_ | refine HSub.at 10 rfl ?_ | refine HSub.at 11 rfl ?_ | refine HSub.at 12 rfl ?_ | refine HSub.at 13 rfl ?_ | refine HSub.at 14 rfl ?_ | refine HSub.at 15 rfl ?_ | refine HSub.at 16 rfl ?_ | refine HSub.at 17 rfl ?_ | refine HSub.at 18 rfl ?_ | refine HSub.at 19 rfl ?_ | refine HSub.segH ?_ | refine HSub.skip ?_ | refine HSub.skipN ?_)) ?_
  refine JX.thenN ?_
  (repeat' (first | refine JC.seq ?_ | refine JC.opsD ?_ | (apply r_move; (iterate 3 exact rfl)) | (apply r_fieldAddr; (iterate 3 exact rfl)) | (apply r_load; (iterate 4 exact rfl); (first | exact at1 | exact at3); exact rfl) | (apply r_loadN; (iterate 4 exact rfl); (first | exact at1 | exact at3); exact rfl) | (apply r_not; (iterate 3 exact rfl))))
  have czr : mz.r = mb.r := by rw [hmz]; rfl
  have czc : mz.c = ma.c := by rw [hmz]; rfl
  have hx1 : mx = oneZ ma.r := by rw [hmx, hmb]; exact mul_adjZ (by omega) hda
  have hz1 : mz = oneZ ma.r := by rw [hmz, hmb]; exact adjZ_mul (by omega) hda
  refine r_callA (A := [_, _, _, _, _]) (B := Nz ++ (Nx ++ (Nb ++ (Na ++ ([]))))) rfl (by first | trivial | exact ⟨rfl, rfl⟩) rfl (by first | rfl | exact ⟨rfl, rfl⟩) rfl (fun w hk hs => c_One ma.r (by omega) w) fun w v w' _ _ _ hR => ?_
  obtain ⟨Nqx, hNqx, Eqx, rfl, hOqx⟩ := hR
  obtain ⟨Aqx, cqx, rfl⟩ := hOqx.form
  refine ⟨Nqx, hNqx, ?_⟩
  skip
  refine r_call0 (by first | trivial | exact ⟨rfl, rfl⟩) rfl (by first | rfl | exact ⟨rfl, rfl⟩) rfl (fun w hk hs => c_EqualT w _ _ mx rtx ⟨_, rfl, hOx.rd.at hk hs (by (repeat' first | exact HSub.nil _ | exact HSub.hd | exact HSub.in0 | exact HSub.refl _ | refine HSub.skip ?_ | refine HSub.skipN ?_))⟩ (by rw [hx1]; exact ⟨_, rfl, hOqx.rd.at hk hs (by (repeat' first | exact HSub.nil _ | exact HSub.hd | exact HSub.in0 | exact HSub.refl _ | refine HSub.skip ?_ | refine HSub.skipN ?_))⟩)) fun w v w' _ _ _ hR => ?_
  subst hR
  (repeat' (first | (apply r_move; (iterate 3 exact rfl)) | (apply r_fieldAddr; (iterate 3 exact rfl)) | (apply r_load; (iterate 4 exact rfl); (first | exact at0 | exact at3); exact rfl) | (apply r_loadN; (iterate 4 exact rfl); (first | exact at0 | exact at3); exact rfl) | (apply r_pickF; (iterate 4 exact rfl)) | (apply r_not; (iterate 3 exact rfl))))
  refine r_callA (A := [_, _, _, _, _]) (B := Nqx ++ (Nz ++ (Nx ++ (Nb ++ (Na ++ ([])))))) rfl (by first | trivial | exact ⟨rfl, rfl⟩) rfl (by first | rfl | exact ⟨rfl, rfl⟩) rfl (fun w hk hs => c_One ma.r (by omega) w) fun w v w' _ _ _ hR => ?_
  obtain ⟨Nqz, hNqz, Eqz, rfl, hOqz⟩ := hR
  obtain ⟨Aqz, cqz, rfl⟩ := hOqz.form
  refine ⟨Nqz, hNqz, ?_⟩
  skip
  refine r_call0 (by first | trivial | exact ⟨rfl, rfl⟩) rfl (by first | rfl | exact ⟨rfl, rfl⟩) rfl (fun w hk hs => c_EqualT w _ _ mz rtz ⟨_, rfl, hOz.rd.at hk hs (by (repeat' first | exact HSub.nil _ | exact HSub.hd | exact HSub.in0 | exact HSub.refl _ | refine HSub.skip ?_ | refine HSub.skipN ?_))⟩ (by rw [hz1]; exact ⟨_, rfl, hOqz.rd.at hk hs (by (repeat' first | exact HSub.nil _ | exact HSub.hd | exact HSub.in0 | exact HSub.refl _ | refine HSub.skip ?_ | refine HSub.skipN ?_))⟩)) fun w v w' _ _ _ hR => ?_
  subst hR
  (repeat' (first | refine JO.nil ?_ | (apply r_pickF; (iterate 4 exact rfl)) | (apply r_not; (iterate 3 exact rfl))))
  refine JX.thenN ?_
  (repeat' (first | refine JC.skip ?_ | refine JC.condF rfl ?_))
  refine JX.part (F' := [(7, .bool true), (5, .pointer (some ⟨bs0, 0, none⟩))]) (H' := [(bs0, .cells #[.int .u8 (R0 : Int), .int .u8 (C0 : Int), E0] 24)] ++ ([])) (by repeat first | exact trivial | refine ⟨rfl, ?_⟩) (by (repeat' first | exact HSub.refl _ | exact HSub.nil _ | refine HSub.at 0 rfl ?_ | refine HSub.at 1 rfl ?_ | refine HSub.at 2 rfl ?_ | refine HSub.at 3 rfl ?_ | refine HSub.at 4 rfl ?_ | refine HSub.at 5 rfl ?_ | refine HSub.at 6 rfl ?_ | refine HSub.at 7 rfl ?_ | refine HSub.at 8 rfl ?_ | refine HSub.at 9 rfl ?_ | refine HSub.at 10 rfl ?_ | refine HSub.at 11 rfl ?_ | refine HSub.at 12 rfl ?_ | refine HSub.at 13 rfl ?_ | refine HSub.at 14 rfl ?_ | refine HSub.at 15 rfl ?_ | refine HSub.at 16 rfl ?_ | refine HSub.at 17 rfl ?_ | refine HSub.at 18 rfl ?_ | refine HSub.at 19 rfl ?_ | refine HSub.segH ?_ | refine HSub.skip ?_ | refine HSub.skipN ?_)) ?_
  refine JX.thenN ?_
  (repeat' (first | refine JC.seq ?_ | refine JC.ops ?_ | (apply r_fieldAddr; (iterate 3 exact rfl)) | (apply r_load; (iterate 4 exact rfl); exact at0; exact rfl) | (apply r_loadN; (iterate 4 exact rfl); exact at0; exact rfl)))
  refine r_modK (i := R0) 5 rfl rfl rfl rfl (by omega) ?_
  (repeat' (first | (apply r_fieldAddr; (iterate 3 exact rfl)) | (apply r_load; (iterate 4 exact rfl); exact at0; exact rfl) | (apply r_convN; (iterate 3 exact rfl); omega)))
  refine r_modK (i := R0) 5 rfl rfl rfl rfl (by omega) ?_
  (repeat' (first | (apply r_convN; (iterate 3 exact rfl); omega)))
  refine r_callA (A := [_]) (B := []) rfl (by first | trivial | exact ⟨rfl, rfl⟩) rfl (by first | rfl | exact ⟨rfl, rfl⟩) rfl (fun w hk hs => c_With w _ R0 C0 (R0 % 5) (R0 % 5) L0 (hs0.mono hk) (by omega) (by omega)) fun w v w' _ _ _ hR => ?_
  obtain ⟨mc, hmc⟩ : ∃ m, m = shZ L0 (R0 % 5) (R0 % 5) := ⟨_, rfl⟩
  have rtc : RtZ mc := by rw [hmc]; exact RtZ.sh _ (by omega) (by omega)
  have bdc : BdZ 8 mc := by rw [hmc]; exact BdZ.sh hL0 _ _
  rw [← hmc] at hR
  obtain ⟨Nc, hNc, Ec, rfl, hOc⟩ := hR
  obtain ⟨Ac, cc, rfl⟩ := hOc.form
  refine ⟨Nc, hNc, ?_⟩
  (repeat' (first | refine JO.nil ?_ | (apply r_storeN; exact rfl; (first | exact trivial | exact ⟨rfl, rfl⟩); exact rfl; exact rfl; exact at0; (iterate 3 exact rfl)) | (apply r_allocZ; (iterate 3 exact rfl); intro _) | (apply r_storeN; exact rfl; (first | exact trivial | exact ⟨rfl, rfl⟩); exact rfl; exact rfl; exact at0; (iterate 3 exact rfl))))
  rename_i bc
  refine JX.part (F' := [(15, .pointer (some ⟨bc, 0, none⟩)), (7, .bool true)]) (H' := [(bc, .cells #[nv mc.r, nv mc.c, .slice Ac mc.e.length cc] 29)] ++ (Nc ++ ([]))) (by repeat first | exact trivial | refine ⟨rfl, ?_⟩) (by (repeat' first | exact HSub.refl _ | exact HSub.nil _ | refine HSub.at 0 rfl ?_ | refine HSub.at 1 rfl ?_ | refine HSub.at 2 rfl ?_ | refine HSub.at 3 rfl ?_ | refine HSub.at 4 rfl ?_ | refine HSub.at 5 rfl ?_ | refine HSub.at 6 rfl ?_ | refine HSub.at 7 rfl ?_ | refine HSub.at 8 rfl ?_ | refine HSub.at 9 rfl ?_ | refine HSub.at 10 rfl ?_ | refine HSub.at 11 rfl ?_ | refine HSub.at 12 rfl ?_ | refine HSub.at 13 rfl ?_ | refine HSub.at 14 rfl ?_ | refine HSub.at 15 rfl ?_ | refine HSub.at 16 rfl ?_ | refine HSub.at 17 rfl ?_ | refine HSub.at 18 rfl ?_ | refine HSub.at 19 rfl ?_ | refine HSub.segH ?_ | refine HSub.skip ?_ | refine HSub.skipN ?_)) ?_
  refine JX.thenN ?_
  (repeat' (first | refine JC.seq ?_ | refine JC.ops ?_ | (apply r_loadN; (iterate 4 exact rfl); exact at0; exact rfl)))
  have ccr : mc.r = R0 % 5 := by rw [hmc]; rfl
  have ccc : mc.c = R0 % 5 := by rw [hmc]; rfl
  have bdc12 : BdZ 12 mc := bdc.mono (by decide)
  have hbc : ∀ i j, i < mc.r → j < mc.r → (mc.at i j).natAbs ≤ 256 ^ 11 := fun i j _ _ => Nat.le_of_lt (bd_up (bdc.at i j) (by omega))
  refine r_callA (A := [_]) (B := Nc ++ ([])) rfl (by first | trivial | exact ⟨rfl, rfl⟩) rfl (by first | rfl | exact ⟨rfl, rfl⟩) rfl (fun w hk hs => c_InvN w _ mc rtc (by omega) (by omega) bdc12 hbc ⟨_, rfl, hOc.rd.at hk hs (by (repeat' first | exact HSub.nil _ | exact HSub.hd | exact HSub.in0 | exact HSub.refl _ | refine HSub.skip ?_ | refine HSub.skipN ?_))⟩) fun w v w' _ _ _ hR => ?_
  replace hR := invA_of hR
  obtain ⟨md, hmd⟩ : ∃ m, m = (invA mc).1 := ⟨_, rfl⟩
  obtain ⟨zd, hzd⟩ : ∃ z, z = (invA mc).2 := ⟨_, rfl⟩
  have rtd : RtZ md := by rw [hmd]; exact invA_rt rtc
  rw [← hmd, ← hzd] at hR
  obtain ⟨Nd, ud, rfl, hNd, Ed, rfl, hOd⟩ := hR
  obtain ⟨Ad, cd, rfl⟩ := hOd.form
  refine ⟨Nd, hNd, ?_⟩
  (repeat' (first | refine JO.nil ?_ | (apply r_move; (iterate 3 exact rfl)) | (apply r_assign; (iterate 3 exact rfl)) | (apply r_extract; (iterate 4 exact rfl)) | (apply r_storeN; exact rfl; (first | exact trivial | exact ⟨rfl, rfl⟩); exact rfl; exact rfl; exact at0; (iterate 3 exact rfl)) | (apply r_allocZ; (iterate 3 exact rfl); intro _) | (apply r_storeN; exact rfl; (first | exact trivial | exact ⟨rfl, rfl⟩); exact rfl; exact rfl; exact at0; (iterate 3 exact rfl))))
  rename_i bd
  refine JX.part (F' := [(17, .bool zd), (16, .pointer (some ⟨bd, 0, none⟩)), (15, .pointer (some ⟨bc, 0, none⟩)), (7, .bool true)]) (H' := [(bd, .cells #[nv md.r, nv md.c, .slice Ad md.e.length cd] 29), (bc, .cells #[nv mc.r, nv mc.c, .slice Ac mc.e.length cc] 29)] ++ (Nd ++ (Nc ++ ([])))) (by repeat first | exact trivial | refine ⟨rfl, ?_⟩) (by (repeat' first | exact HSub.refl _ | exact HSub.nil _ | refine HSub.at 0 rfl ?_ | refine HSub.at 1 rfl ?_ | refine HSub.at 2 rfl ?_ | refine HSub.at 3 rfl ?_ | refine HSub.at 4 rfl ?_ | refine HSub.at 5 rfl ?_ | refine HSub.at 6 rfl ?_ | refine HSub.at 7 rfl ?_ | refine HSub.at 8 rfl ?_ | refine HSub.at 9 rfl ?_ | refine HSub.at 10 rfl ?_ | refine HSub.at 11 rfl ?_ | refine HSub.at 12 rfl ?_ | refine HSub.at 13 rfl ?_ | refine HSub.at 14 rfl ?_ | refine HSub.at 15 rfl ?_ | refine HSub.at 16 rfl ?_ | refine HSub.at 17 rfl ?_ | refine HSub.at 18 rfl ?_ | refine HSub.at 19 rfl ?_ | refine HSub.segH ?_ | refine HSub.skip ?_ | refine HSub.skipN ?_)) ?_
  refine JX.thenN ?_
  (repeat' (first | refine JC.seq ?_ | refine JC.ops ?_ | (apply r_loadN; (iterate 4 exact rfl); exact at1; exact rfl)))
  refine r_callA (A := [_, _]) (B := Nd ++ (Nc ++ ([]))) rfl (by first | trivial | exact ⟨rfl, rfl⟩) rfl (by first | rfl | exact ⟨rfl, rfl⟩) rfl (fun w hk hs => c_refInverse 8 w _ mc rtc (by omega) (Nat.le_trans (Nat.mul_le_mul_right _ (show mc.r + 1 ≤ 7 by omega)) (by decide)) bdc ⟨_, rfl, hOc.rd.at hk hs (by (repeat' first | exact HSub.nil _ | exact HSub.hd | exact HSub.in0 | exact HSub.refl _ | refine HSub.skip ?_ | refine HSub.skipN ?_))⟩) fun w v w' _ _ _ hR => ?_
  replace hR := invA_of hR
  obtain ⟨me, hme⟩ : ∃ m, m = (invA mc).1 := ⟨_, rfl⟩
  obtain ⟨ze, hze⟩ : ∃ z, z = (invA mc).2 := ⟨_, rfl⟩
  have rte : RtZ me := by rw [hme]; exact invA_rt rtc
  rw [← hme, ← hze] at hR
  obtain ⟨Ne, ue, rfl, hNe, Ee, rfl, hOe⟩ := hR
  obtain ⟨Ae, ce, rfl⟩ := hOe.form
  refine ⟨Ne, hNe, ?_⟩
  (repeat' (first | refine JO.nil ?_ | (apply r_move; (iterate 3 exact rfl)) | (apply r_assign; (iterate 3 exact rfl)) | (apply r_extract; (iterate 4 exact rfl)) | (apply r_storeN; exact rfl; (first | exact trivial | exact ⟨rfl, rfl⟩); exact rfl; exact rfl; exact at0; (iterate 3 exact rfl)) | (apply r_allocZ; (iterate 3 exact rfl); intro _) | (apply r_storeN; exact rfl; (first | exact trivial | exact ⟨rfl, rfl⟩); exact rfl; exact rfl; exact at0; (iterate 3 exact rfl))))
  rename_i be
  refine JX.part (F' := [(19, .bool ze), (18, .pointer (some ⟨be, 0, none⟩)), (17, .bool zd), (16, .pointer (some ⟨bd, 0, none⟩)), (15, .pointer (some ⟨bc, 0, none⟩)), (7, .bool true)]) (H' := [(be, .cells #[nv me.r, nv me.c, .slice Ae me.e.length ce] 29), (bd, .cells #[nv md.r, nv md.c, .slice Ad md.e.length cd] 29), (bc, .cells #[nv mc.r, nv mc.c, .slice Ac mc.e.length cc] 29)] ++ (Ne ++ (Nd ++ (Nc ++ ([]))))) (by repeat first | exact trivial | refine ⟨rfl, ?_⟩) (by (repeat' first | exact HSub.refl _ | exact HSub.nil _ | refine HSub.at 0 rfl ?_ | refine HSub.at 1 rfl ?_ | refine HSub.at 2 rfl ?_ | refine HSub.at 3 rfl ?_ | refine HSub.at 4 rfl ?_ | refine HSub.at 5 rfl ?_ | refine HSub.at 6 rfl ?_ | refine HSub.at 7 rfl ?_ | refine HSub.at 8 rfl ?_ | refine HSub.at 9 rfl ?_ | refine HSub.at 10 rfl ?_ | refine HSub.at 11 rfl ?_ | refine HSub.at 12 rfl ?_ | refine HSub.at 13 rfl ?_ | refine HSub.at 14 rfl ?_ | refine HSub.at 15 rfl ?_ | refine HSub.at 16 rfl ?_ | refine HSub.at 17 rfl ?_ | refine HSub.at 18 rfl ?_ | refine HSub.at 19 rfl ?_ | refine HSub.segH ?_ | refine HSub.skip ?_ | refine HSub.skipN ?_)) ?_
  refine JX.thenN ?_
  (repeat' (first | refine JC.seq ?_ | refine JC.ops ?_ | (apply r_loadN; (iterate 4 exact rfl); exact at2; exact rfl)))
  refine r_call0 (by first | trivial | exact ⟨rfl, rfl⟩) rfl (by first | rfl | exact ⟨rfl, rfl⟩) rfl (fun w hk hs => c_Det 8 w _ mc rtc (by omega) (Nat.le_trans (Nat.mul_le_mul_right _ (show mc.r + 1 ≤ 7 by omega)) (by decide)) bdc ⟨_, rfl, hOc.rd.at hk hs (by (repeat' first | exact HSub.nil _ | exact HSub.hd | exact HSub.in0 | exact HSub.refl _ | refine HSub.skip ?_ | refine HSub.skipN ?_))⟩) fun w v w' _ _ _ hR => ?_
  subst hR
  have hzd2 : zd = decide ((det mc.r mc.at).natAbs = 1) := by rw [hzd]; exact invA_two
  generalize det mc.r mc.at = dd at hzd2 ⊢
  (repeat' (first | refine JO.nil ?_ | (apply r_move; (iterate 3 exact rfl)) | (apply r_assign; (iterate 3 exact rfl)) | (apply r_extract; (iterate 4 exact rfl)) | (apply r_storeN; exact rfl; (first | exact trivial | exact ⟨rfl, rfl⟩); exact rfl; exact rfl; exact at0; (iterate 3 exact rfl)) | (apply r_allocZ; (iterate 3 exact rfl); intro _) | (apply r_storeN; exact rfl; (first | exact trivial | exact ⟨rfl, rfl⟩); exact rfl; exact rfl; exact at0; (iterate 3 exact rfl))))
  rename_i b20
  refine JX.part (F' := [(20, .pointer (some ⟨b20, 0, none⟩)), (19, .bool ze), (18, .pointer (some ⟨be, 0, none⟩)), (17, .bool zd), (16, .pointer (some ⟨bd, 0, none⟩)), (7, .bool true)]) (H' := [(b20, .cells (wc dd) 41), (be, .cells #[nv me.r, nv me.c, .slice Ae me.e.length ce] 29), (bd, .cells #[nv md.r, nv md.c, .slice Ad md.e.length cd] 29)] ++ (Ne ++ (Nd ++ ([])))) (by repeat first | exact trivial | refine ⟨rfl, ?_⟩) (by (repeat' first | exact HSub.refl _ | exact HSub.nil _ | refine HSub.at 0 rfl ?_ | refine HSub.at 1 rfl ?_ | refine HSub.at 2 rfl ?_ | refine HSub.at 3 rfl ?_ | refine HSub.at 4 rfl ?_ | refine HSub.at 5 rfl ?_ | refine HSub.at 6 rfl ?_ | refine HSub.at 7 rfl ?_ | refine HSub.at 8 rfl ?_ | refine HSub.at 9 rfl ?_ | refine HSub.at 10 rfl ?_ | refine HSub.at 11 rfl ?_ | refine HSub.at 12 rfl ?_ | refine HSub.at 13 rfl ?_ | refine HSub.at 14 rfl ?_ | refine HSub.at 15 rfl ?_ | refine HSub.at 16 rfl ?_ | refine HSub.at 17 rfl ?_ | refine HSub.at 18 rfl ?_ | refine HSub.at 19 rfl ?_ | refine HSub.segH ?_ | refine HSub.skip ?_ | refine HSub.skipN ?_)) ?_
  refine JX.thenN ?_
  (repeat' (first | refine JC.seq ?_ | refine JC.opsD ?_ | (apply r_move; (iterate 3 exact rfl)) | (apply r_pickT; (iterate 4 exact rfl)) | (apply r_eqB; (iterate 4 exact rfl))))
  have hde : md = me := by rw [hmd, hme]
  have zde : zd = ze := by rw [hzd, hze]
  clear hzd hze
  rw [← zde]
  simp only [BEq.rfl]
  (repeat' (first | (apply r_loadN; (iterate 4 exact rfl); (first | exact at1 | exact at2); exact rfl)))
  refine r_call0 (by first | trivial | exact ⟨rfl, rfl⟩) rfl (by first | rfl | exact ⟨rfl, rfl⟩) rfl (fun w hk hs => same_t (m := md) rtd ⟨_, rfl, hOd.rd.at hk hs (by (repeat' first | exact HSub.nil _ | exact HSub.hd | exact HSub.in0 | exact HSub.refl _ | refine HSub.skip ?_ | refine HSub.skipN ?_))⟩ (by rw [hde]; exact ⟨_, rfl, hOe.rd.at hk hs (by (repeat' first | exact HSub.nil _ | exact HSub.hd | exact HSub.in0 | exact HSub.refl _ | refine HSub.skip ?_ | refine HSub.skipN ?_))⟩)) fun w v w' _ _ _ hR => ?_
  obtain ⟨_, rfl⟩ := hR
  (repeat' (first | (apply r_move; (iterate 3 exact rfl)) | (apply r_loadN; (iterate 4 exact rfl); exact at0; exact rfl) | (apply r_pickT; (iterate 4 exact rfl))))
  refine r_call0 (by first | trivial | exact ⟨rfl, rfl⟩) rfl (by first | rfl | exact ⟨rfl, rfl⟩) rfl (fun w _ _ => c_From w 1 (by omega) (by omega)) fun w v w' _ _ _ hR => ?_
  subst hR
  skip
  by_cases h1 : dd = 1
  · refine r_eqV (a := dd) rfl (by first | rfl | exact ⟨rfl, rfl⟩) rfl rfl (decide_eq_true h1) ?_
    obtain rfl : zd = true := by rw [hzd2]; exact decide_eq_true (by omega)
    (repeat' (first | refine JO.nil ?_ | (apply r_move; (iterate 3 exact rfl)) | (apply r_assign; (iterate 3 exact rfl)) | (apply r_pickT; (iterate 4 exact rfl)) | (apply r_eqBS; (iterate 4 exact rfl)) | (apply r_skip; exact rfl; exact rfl; (first | (intro h; cases h; done) | (intro _; rfl)))))
    refine JX.thenN ?_
    (repeat' (first | refine JC.ret ?_))
    exact JX.ret1 rfl (fun a w' st => ⟨st.kp, rfl⟩)
  refine r_eqV (a := dd) rfl (by first | rfl | exact ⟨rfl, rfl⟩) rfl rfl (decide_eq_false h1) ?_
  (repeat' (first | (apply r_move; (iterate 3 exact rfl)) | (apply r_loadN; (iterate 4 exact rfl); exact at0; exact rfl)))
  refine r_call0 (by first | trivial | exact ⟨rfl, rfl⟩) rfl (by first | rfl | exact ⟨rfl, rfl⟩) rfl (fun w _ _ => c_From w (-1) (by omega) (by omega)) fun w v w' _ _ _ hR => ?_
  subst hR
  skip
  by_cases h2 : dd = -1
  · refine r_eqV (a := dd) rfl (by first | rfl | exact ⟨rfl, rfl⟩) rfl rfl (decide_eq_true h2) ?_
    obtain rfl : zd = true := by rw [hzd2]; exact decide_eq_true (by omega)
    (repeat' (first | refine JO.nil ?_ | (apply r_assign; (iterate 3 exact rfl)) | (apply r_pickT; (iterate 4 exact rfl)) | (apply r_pickF; (iterate 4 exact rfl)) | (apply r_eqBS; (iterate 4 exact rfl))))
    refine JX.thenN ?_
    (repeat' (first | refine JC.ret ?_))
    exact JX.ret1 rfl (fun a w' st => ⟨st.kp, rfl⟩)
  refine r_eqV (a := dd) rfl (by first | rfl | exact ⟨rfl, rfl⟩) rfl rfl (decide_eq_false h2) ?_
  obtain rfl : zd = false := by rw [hzd2]; exact decide_eq_false (by omega)
  (repeat' (first | refine JO.nil ?_ | (apply r_assign; (iterate 3 exact rfl)) | (apply r_pickT; (iterate 4 exact rfl)) | (apply r_pickF; (iterate 4 exact rfl)) | (apply r_eqBS; (iterate 4 exact rfl))))
  refine JX.thenN ?_
  (repeat' (first | refine JC.ret ?_))
  exact JX.ret1 rfl (fun a w' st => ⟨st.kp, rfl⟩)

end Go.Proofs.YtdlmnloikakjpaaDoor

/-
  LawMatrixInverse: for every input the call of 'cocycle/cocyclelaw02.MatrixInverse' returns true, and every argument reads afterwards as it read before. Conditions: none. The card.
-/
namespace Go.Proofs.YtdlmnloikakjpaaDoor.matrixInverse
open Go Go.RowKit Go.ChangeShapes Go.WideShapes Go.ChangeAt
set_option linter.unusedSimpArgs false
set_option linter.unusedVariables false
set_option linter.unusedSectionVars false

set_option maxRecDepth 100000 in
theorem lifted (os : Os) (started : os.Started) (H : Type) (enc : TypeId × Value → H) :
    ReturnsInHanded {} Tryd.checked os 4 .any (fun w args => (Rows.matrixInverseSpec.pre enc Tryd.prog Tryd.f4 [] false w args ∧ laidMetH Tryd.prog Rows.matrixInverseRow.laid w) ∧ sizedMet enc Tryd.prog Tryd.f4 (OpenSpec.ofChange Rows.matrixInverseSpec) false w args)
      (Rows.matrixInverseSpec.post enc Tryd.prog Tryd.f4 false true false false) := by
  refine returnsInHanded_of_change_and (C := Tryd.checked) (X := fun w _ => laidMetH Tryd.prog Rows.matrixInverseRow.laid w) (fun _ _ _ hh h => h.of_heap hh) own started (by kernel_rfl) Tryd.func4
    (ChangeSpec.witness_shaped (enc := enc) (C := Tryd.checked) (os := os) (X := fun w _ => laidMetH Tryd.prog Rows.matrixInverseRow.laid w) false (World.laidAll Tryd.prog os Rows.matrixInverseRow.laid) #[.int .u8 0, .slice none 0 0, .agg #[.int .u8 0, .int .u8 0, .slice none 0 0]] 8 (World.laidAll_os _ _ _)
      (World.shaped_of_ZipB (by kernel_rfl) (by kernel_rfl)) (by kernel_rfl) (by kernel_rfl) (by kernel_rfl)
      (by rw [MakeChecks.laidMetH_plain _ _ _ (by kernel_rfl)]; exact laidMet_laidAll _ (by kernel_rfl) (by kernel_rfl))) ?_
  intro W base args ds gs before hval0 hW _ hwt0 hL _
  have hval : ∀ (j : Nat) t v, Tryd.f4.params[j]? = some t → args[j]? = some v → Value.okWide Tryd.prog W .any base t v := hval0
  have hW' := hW
  obtain ⟨p, q, hA0, hV, rfl, hfz, hnd⟩ := hW
  have hA : DataW.TrodAll enc Tryd.prog W 0 (fun _ => true) true Tryd.f4.params.toList args.toList ds p := hA0
  have hwt : (DataW.weightsEach Tryd.prog (Tryd.f4.params.toList ++ Rows.matrixInverseSpec.plain.varTypes Tryd.prog) (ds ++ gs)).all (· ≤ reachBytes) = true := hwt0
  have hwt1 := fun n hn => of_decide_eq_true (List.all_eq_true.1 hwt n hn)
  rw [Tryd.params4] at hA hval hwt1
  obtain ⟨v0, vs0, d0, ds0, p0, q0, hargs, rfl, rfl, h0, r0⟩ := trodAll_cons hA
  obtain ⟨v1, vs1, d1, ds1, p1, q1, rfl, rfl, rfl, h1, r1⟩ := trodAll_cons r0
  obtain ⟨v2, vs2, d2, ds2, p2, q2, rfl, rfl, rfl, h2, r2⟩ := trodAll_cons r1
  obtain ⟨rfl, rfl, rfl⟩ := trodAll_nil r2
  obtain rfl : args = #[v0, v1, v2] := by cases args; simp_all
  obtain ⟨rfl, rfl⟩ := trodVars_none hV
  have k0 := h0
  have lt0 : ∀ x ∈ p0, x.block < W.heap.size := by obtain ⟨m, hm⟩ := k0; exact DataW.trod_lt m _ _ _ hm
  obtain ⟨q0, rfl, s0⟩ := open_u8 (hval 0 5 v0 rfl rfl) h0
  have k1 := h1
  have lt1 : ∀ x ∈ p1, x.block < W.heap.size := by obtain ⟨m, hm⟩ := k1; exact DataW.trod_lt m _ _ _ hm
  obtain ⟨L1, s1⟩ := open_list (hval 1 22 v1 rfl rfl) h1
  have k2 := h2
  have lt2 : ∀ x ∈ p2, x.block < W.heap.size := by obtain ⟨m, hm⟩ := k2; exact DataW.trod_lt m _ _ _ hm
  obtain ⟨R2, C2, L2, s2⟩ := open_shape (hval 2 24 v2 rfl rfl) h2
  clear hA0 hval0
  refine (c_MatrixInverse W v2 q0 v1 L1 R2 C2 L2 s0 s1 s2).mono fun e W' he => ?_
  cases e with
  | panicked _ => exact he.elim
  | outgrown => exact he.elim
  | returned u =>
    obtain ⟨hk, rfl⟩ := he
    have bel := hk.below
    exact ⟨_, rfl, _, _, _, [], _, [], hW', trodAll_mk1 (shut_bool Tryd.underlying4 _), (trodAll_cons_mk (Below.trod laidOut (by kernel_rfl) (of_decide_eq_true (by kernel_rfl)) k0 bel lt0) (trodAll_cons_mk (Below.trod laidOut (by kernel_rfl) (of_decide_eq_true (by kernel_rfl)) k1 bel lt1) (trodAll_cons_mk (Below.trod laidOut (by kernel_rfl) (of_decide_eq_true (by kernel_rfl)) k2 bel lt2) trodAll_mk0))), rfl, bel.frame _, fun h => by cases h⟩

theorem holds : Rows.MatrixInverseSaid :=
  OpenClaim.holds_of_wide 4 Tryd.f4 rfl rfl rfl rfl rfl rfl rfl ⟨rfl, rfl, rfl, rfl, rfl⟩ rfl rfl rfl rfl rfl (by kernel_rfl) Tryd.func4 (by kernel_rfl)
    (of_decide_eq_true (by kernel_rfl)) (by unfold Func.isWrapper; first | (rw [if_pos (by decide +kernel)]; kernel_rfl) | (rw [if_neg (by decide +kernel)]; exact ⟨rfl, rfl⟩))
    (fun os started H enc _ => lifted os started H enc)

theorem proved : Rows.MatrixInverseCardSaid :=
  Claim7.holds_tied_plain_at .later [] [.data, .pinned] true (true, "1e720b878859d18141ea40e2dc597df34bde83979d72dc5a8b5bc54d7198a929") false holds (fun _ h => by cases h) (by kernel_rfl) (fun _ h => by cases h) matrixInverse_row_tie rfl ⟨rfl, rfl⟩ (by kernel_rfl) rfl
    (fun f fn hf hfn => by
      obtain rfl : f = 4 := Option.some.inj ((show Tryd.prog.funcNamed "cocycle/cocyclelaw02.MatrixInverse" = some 4 by kernel_rfl).symm.trans hf) |>.symm
      obtain rfl : fn = Tryd.f4 := (Option.some.inj (Tryd.func4.symm.trans hfn)).symm
      exact ⟨by kernel_rfl, fun j t ht => by
        rw [Tryd.params4] at ht
        have hm : t ∈ [5, 22, 24] := by simpa using Array.mem_of_getElem? ht
        have hall : ([5, 22, 24].all fun u => !Tryd.prog.wantsStandIn u) = true := by kernel_rfl
        exact (show Tryd.prog.wantsStandIn t = false by simpa using List.all_eq_true.1 hall t hm)⟩)
    (by kernel_rfl)

end Go.Proofs.YtdlmnloikakjpaaDoor.matrixInverse

