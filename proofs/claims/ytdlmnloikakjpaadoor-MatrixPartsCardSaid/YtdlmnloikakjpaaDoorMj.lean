import Derived.Test.YtdlmnloikakjpaaDoorMi
import Derived.Test.YtdlmnloikakjpaaDoorMh
import Derived.Test.YtdlmnloikakjpaaDoorMe
/- Walks: the examples of the chapter. ROWZ -/
namespace Go.Proofs.YtdlmnloikakjpaaDoor
open Go Go.RowKit
set_option linter.unusedSimpArgs false
set_option linter.unusedVariables false
set_option linter.unusedSectionVars false

theorem WI.lit {w : World} {b n : Nat} {vs : List Value} (xs : List Int) (hb : w.heap[b]? = some (.cells ⟨vs⟩ 3)) (hv : vs = xs.map iv) (hn : xs.length = n) : WI w (.slice (some ⟨b, 0, none⟩) n n) n xs := by
  subst hv
  refine ⟨by simp [hn], _, _, rfl, Nat.le_refl _, fun _ => ⟨⟨b, 0, rfl⟩, fun j u hu => ?_⟩⟩
  simp only [vAt, Nat.zero_add]
  exact cell_of_blk hb (by simpa using hu)
theorem IsRows.lit {w : World} {b n : Nat} {ss : List Value} (xss : List (List Int)) (hb : w.heap[b]? = some (.cells ⟨ss⟩ 22)) (hl : ss.length = n) (hx : xss.length = n) (h : ∀ i, i < n → WI w (ss.getD i (iv 0)) (xss.getD i []).length (xss.getD i [])) : IsRows w (.slice (some ⟨b, 0, none⟩) n n) xss := by
  subst hx
  refine ⟨ss, ⟨by omega, _, _, rfl, Nat.le_refl _, fun _ => ⟨⟨b, 0, rfl⟩, fun j u hu => ?_⟩⟩, h⟩
  simp only [vAt, Nat.zero_add]
  exact cell_of_blk hb (by simpa using hu)
theorem IsRows.lit1 {w : World} {b : Nat} {s : Value} (xs : List Int) (hb : w.heap[b]? = some (.cells ⟨[s]⟩ 22)) (h : WI w s xs.length xs) : IsRows w (.slice (some ⟨b, 0, none⟩) 1 1) [xs] :=
  IsRows.lit [xs] hb rfl rfl fun i hi => by
    obtain rfl : i = 0 := by omega
    exact h
theorem IsRows.lit2 {w : World} {b : Nat} {s s' : Value} (xs xs' : List Int) (hb : w.heap[b]? = some (.cells ⟨[s, s']⟩ 22)) (h : WI w s xs.length xs) (h' : WI w s' xs'.length xs') : IsRows w (.slice (some ⟨b, 0, none⟩) 2 2) [xs, xs'] :=
  IsRows.lit [xs, xs'] hb rfl rfl fun i hi => by
    rcases (show i = 0 ∨ i = 1 by omega) with rfl | rfl
    · exact h
    · exact h'
theorem c_EqualT (w : World) (v u : Value) (m : ZM) (hm : RtZ m) (hv : IsM w v m) (hu : IsM w u m) : Calls Tryd.prog 18 #[v, u] w (Ret fun v w' => Kp [] w w' ∧ v = .bool true) :=
  (c_Equal w v u m m hm hm hv hu).mono fun e w' h => by
    cases e with
    | returned v =>
      obtain ⟨hk, hb⟩ := h
      exact ⟨hk, by obtain ⟨b, rfl, hb⟩ := hb; rw [hb.2 rfl]⟩
    | panicked _ => exact h
    | outgrown => exact h

theorem i64_lit {xss : List (List Int)} (h : ∀ l ∈ xss, ∀ x ∈ l, I64 x) : ∀ i j, I64 ((xss.getD i []).getD j 0) := fun i j => by
  have h0 : I64 0 := ⟨by decide, by decide⟩
  rw [List.getD]
  cases hj : (xss.getD i [])[j]? with
  | none => exact h0
  | some x =>
    have hx := List.mem_of_getElem? hj
    rw [List.getD] at hx
    cases hi : xss[i]? with
    | none => rw [hi] at hx; cases hx
    | some l => rw [hi] at hx; exact h l (List.mem_of_getElem? hi) x hx
instance (n : Int) : Decidable (I64 n) := by unfold I64; infer_instance

def sA : ZM := ⟨2, 2, [1, 2, 3, 4]⟩
theorem sA_rt : RtZ sA := ⟨by decide, by decide, rfl⟩
theorem sA_mul : mulZ sA ⟨2, 2, [0, 1, 1, 0]⟩ = ⟨2, 2, [2, 1, 4, 3]⟩ := by kernel_rfl
theorem sA_det : det 2 sA.at = -2 := by decide
theorem sI_det : det 2 (ZM.mk 2 2 [2, 1, 1, 1]).at = 1 := by decide
theorem sP_part : partZ ⟨2, 3, [1, 2, 3, 4, 5, 6]⟩ 1 1 1 2 = ⟨1, 2, [5, 6]⟩ := by kernel_rfl
theorem BdL.lit {K : Nat} {m : ZM} (h : ∀ x ∈ m.e, x.natAbs < 256 ^ K) : BdZ K m := fun i => by
  rw [List.getD]
  cases hi : m.e[i]? with
  | none => exact Nat.pow_pos (by decide)
  | some x => exact h x (List.mem_of_getElem? hi)
theorem at_lit {b : Nat} {m : ZM} (h : ∀ x ∈ m.e, x.natAbs ≤ b) : ∀ i j, i < m.r → j < m.r → (m.at i j).natAbs ≤ b := fun i j _ _ => by
  show (m.e.getD (i * m.c + j) 0).natAbs ≤ b
  rw [List.getD]
  cases hi : m.e[i * m.c + j]? with
  | none => exact Nat.zero_le _
  | some x => exact h x (List.mem_of_getElem? hi)
theorem inv_eq (x : ZM) (hx : RtZ x) (hr : x.r = 2) (hc : x.c = 2) (h : ∀ i j, i < 2 → j < 2 → mmI 2 x.at (ZM.mk 2 2 [2, 1, 1, 1]).at i j = idI i j) : ⟨2, 2, [1, -1, -1, 2]⟩ = x := by
  have h00 := h 0 0 (by decide) (by decide)
  have h01 := h 0 1 (by decide) (by decide)
  have h10 := h 1 0 (by decide) (by decide)
  have h11 := h 1 1 (by decide) (by decide)
  obtain ⟨r, c, e⟩ := x
  dsimp only at hr hc
  subst hr hc
  have hl := hx.len
  dsimp only at hl
  match e, hl with
  | [a, b, c, d], _ =>
    have e00 : 0 + a * 2 + b * 1 = 1 := h00
    have e01 : 0 + a * 1 + b * 1 = 0 := h01
    have e10 : 0 + c * 2 + d * 1 = 0 := h10
    have e11 : 0 + c * 1 + d * 1 = 1 := h11
    obtain rfl : a = 1 := by omega
    obtain rfl : b = -1 := by omega
    obtain rfl : c = -1 := by omega
    obtain rfl : d = 2 := by omega
    rfl

set_option maxHeartbeats 16000000 in
theorem c_sanity (w : World) : Calls Tryd.prog 13 #[] w (Ret fun v w' => Kp [] w w' ∧ v = .bool true) := by
  refine calls_of_R [7] [⟨2, 2, [], []⟩, ⟨8, 1, [], []⟩] [] (by simp) [] Tryd.func13 rfl mixed (by kernel_rfl) Tryd.ntmps13 Tryd.results13 rfl ⟨by simp, by simp⟩ (by simp) ?_
  simp only [toR, inR, cond_true, cond_false, Nat.reduceBEq, toS, textOps, toSOp, kindAt, kindOf, odAt, sopsAt, ordOf, zipF]
  (repeat' (first | refine JC.seq ?_ | refine JC.ops ?_ | refine JO.nil ?_ | refine JX.thenN ?_ | (apply r_assign; exact rfl; exact rfl; exact rfl) | (apply r_build1; exact rfl; exact rfl; exact rfl; exact rfl; exact rfl; (repeat first | exact trivial | refine ⟨rfl, ?_⟩); decide; decide; intro _)))
  refine r_callA (A := [_, _, _]) (B := []) rfl (by first | trivial | exact ⟨rfl, rfl⟩) rfl (by first | rfl | exact ⟨rfl, rfl⟩) rfl (fun w hk hs => c_Of w _ [[1, 2], [3, 4]] (IsRows.lit2 _ _ (hs_at hs 0 rfl) (WI.lit [1, 2] (hs_at hs 2 rfl) rfl rfl) (WI.lit [3, 4] (hs_at hs 1 rfl) rfl rfl)) (by decide) (by decide) (i64_lit (by decide))) fun w v w' _ _ _ hR => ?_
  rw [show ofZ [[1, 2], [3, 4]] = ⟨2, 2, [1, 2, 3, 4]⟩ by kernel_rfl] at hR
  obtain ⟨N1, hN1, E1, rfl, hO1⟩ := hR
  obtain ⟨A1, c1, rfl⟩ := hO1.form
  refine ⟨N1, hN1, ?_⟩
  (repeat' (first | refine JO.nil ?_ | (apply r_storeN; exact rfl; (first | exact trivial | exact ⟨rfl, rfl⟩); exact rfl; exact rfl; (first | exact at0 | exact at1 | exact at2 | exact at3 | exact at4 | exact at5 | exact at6 | exact at7 | exact at8 | exact at9); exact rfl; exact rfl; exact rfl) | (apply r_allocZ; exact rfl; exact rfl; exact rfl; intro _) | (apply r_storeN; exact rfl; (first | exact trivial | exact ⟨rfl, rfl⟩); exact rfl; exact rfl; (first | exact at0 | exact at1 | exact at2 | exact at3 | exact at4 | exact at5 | exact at6 | exact at7 | exact at8 | exact at9); exact rfl; exact rfl; exact rfl)))
  rename_i b1
  refine JX.part (F' := [(1, .pointer (some ⟨b1, 0, none⟩))]) (H' := [(b1, .cells #[nv 2, nv 2, .slice A1 4 c1] 29)] ++ (N1 ++ [])) (by repeat first | exact trivial | refine ⟨rfl, ?_⟩) (by (repeat' first | exact HSub.refl _ | exact HSub.nil _ | refine HSub.at 0 rfl ?_ | refine HSub.at 1 rfl ?_ | refine HSub.at 2 rfl ?_ | refine HSub.at 3 rfl ?_ | refine HSub.at 4 rfl ?_ | refine HSub.at 5 rfl ?_ | refine HSub.at 6 rfl ?_ | refine HSub.at 7 rfl ?_ | refine HSub.at 8 rfl ?_ | refine HSub.at 9 rfl ?_ | refine HSub.at 10 rfl ?_ | refine HSub.at 11 rfl ?_ | refine HSub.at 12 rfl ?_ | refine HSub.at 13 rfl ?_ | refine HSub.at 14 rfl ?_ | refine HSub.at 15 rfl ?_ | refine HSub.at 16 rfl ?_ | refine HSub.at 17 rfl ?_ | refine HSub.at 18 rfl ?_ | refine HSub.at 19 rfl ?_ | refine HSub.segH ?_ | refine HSub.skip ?_ | refine HSub.skipN ?_)) ?_
  refine JX.thenN ?_
  (repeat' (first | refine JC.seq ?_ | refine JC.opsD ?_ | (apply r_loadN; exact rfl; exact rfl; exact rfl; exact rfl; (first | exact at0 | exact at1 | exact at2 | exact at3 | exact at4 | exact at5 | exact at6 | exact at7 | exact at8 | exact at9); exact rfl) | (apply r_build1; exact rfl; exact rfl; exact rfl; exact rfl; exact rfl; (repeat first | exact trivial | refine ⟨rfl, ?_⟩); decide; decide; intro _)))
  refine r_callA (A := [_, _, _, _]) (B := N1 ++ []) rfl (by first | trivial | exact ⟨rfl, rfl⟩) rfl (by first | rfl | exact ⟨rfl, rfl⟩) rfl (fun w hk hs => c_Of w _ [[0, 1], [1, 0]] (IsRows.lit2 _ _ (hs_at hs 0 rfl) (WI.lit [0, 1] (hs_at hs 2 rfl) rfl rfl) (WI.lit [1, 0] (hs_at hs 1 rfl) rfl rfl)) (by decide) (by decide) (i64_lit (by decide))) fun w v w' _ _ _ hR => ?_
  rw [show ofZ [[0, 1], [1, 0]] = ⟨2, 2, [0, 1, 1, 0]⟩ by kernel_rfl] at hR
  obtain ⟨N2, hN2, Ez, rfl, hOz⟩ := hR
  obtain ⟨Az, cz, rfl⟩ := hOz.form
  refine ⟨N2, hN2, ?_⟩
  skip
  refine r_callA (A := [_, _, _, _]) (B := N2 ++ (N1 ++ [])) rfl (by first | trivial | exact ⟨rfl, rfl⟩) rfl rfl rfl (fun w hk hs => c_MMul 1 1 w _ _ sA ⟨2, 2, [0, 1, 1, 0]⟩ sA_rt ⟨by decide, by decide, rfl⟩ rfl (by decide) (BdL.lit (by decide)) (BdL.lit (by decide)) ⟨_, rfl, hO1.rd.at hk hs (by (repeat' first | exact HSub.nil _ | exact HSub.hd | exact HSub.in0 | exact HSub.refl _ | refine HSub.skip ?_ | refine HSub.skipN ?_))⟩ ⟨_, rfl, hOz.rd.at hk hs (by (repeat' first | exact HSub.nil _ | exact HSub.hd | exact HSub.in0 | exact HSub.refl _ | refine HSub.skip ?_ | refine HSub.skipN ?_))⟩) fun w v w' _ _ _ hR => ?_
  rw [sA_mul] at hR
  obtain ⟨N3, u2, rfl, hN3, E2, rfl, hO2⟩ := hR
  obtain ⟨A2, c2, rfl⟩ := hO2.form
  refine ⟨N3, hN3, ?_⟩
  (repeat' (first | refine JO.nil ?_ | (apply r_move; exact rfl; exact rfl; exact rfl) | (apply r_assign; exact rfl; exact rfl; exact rfl) | (apply r_extract; exact rfl; exact rfl; exact rfl; exact rfl) | (apply r_storeN; exact rfl; (first | exact trivial | exact ⟨rfl, rfl⟩); exact rfl; exact rfl; (first | exact at0 | exact at1 | exact at2 | exact at3 | exact at4 | exact at5 | exact at6 | exact at7 | exact at8 | exact at9); exact rfl; exact rfl; exact rfl) | (apply r_allocZ; exact rfl; exact rfl; exact rfl; intro _) | (apply r_storeN; exact rfl; (first | exact trivial | exact ⟨rfl, rfl⟩); exact rfl; exact rfl; (first | exact at0 | exact at1 | exact at2 | exact at3 | exact at4 | exact at5 | exact at6 | exact at7 | exact at8 | exact at9); exact rfl; exact rfl; exact rfl)))
  rename_i b2
  refine JX.part (F' := [(3, .bool true), (2, .pointer (some ⟨b2, 0, none⟩)), (1, .pointer (some ⟨b1, 0, none⟩))]) (H' := [(b2, .cells #[nv 2, nv 2, .slice A2 4 c2] 29), (b1, .cells #[nv 2, nv 2, .slice A1 4 c1] 29)] ++ (N3 ++ (N1 ++ []))) (by repeat first | exact trivial | refine ⟨rfl, ?_⟩) (by (repeat' first | exact HSub.refl _ | exact HSub.nil _ | refine HSub.at 0 rfl ?_ | refine HSub.at 1 rfl ?_ | refine HSub.at 2 rfl ?_ | refine HSub.at 3 rfl ?_ | refine HSub.at 4 rfl ?_ | refine HSub.at 5 rfl ?_ | refine HSub.at 6 rfl ?_ | refine HSub.at 7 rfl ?_ | refine HSub.at 8 rfl ?_ | refine HSub.at 9 rfl ?_ | refine HSub.at 10 rfl ?_ | refine HSub.at 11 rfl ?_ | refine HSub.at 12 rfl ?_ | refine HSub.at 13 rfl ?_ | refine HSub.at 14 rfl ?_ | refine HSub.at 15 rfl ?_ | refine HSub.at 16 rfl ?_ | refine HSub.at 17 rfl ?_ | refine HSub.at 18 rfl ?_ | refine HSub.at 19 rfl ?_ | refine HSub.segH ?_ | refine HSub.skip ?_ | refine HSub.skipN ?_)) ?_
  refine JX.thenN ?_
  (repeat' (first | refine JC.seq ?_ | refine JC.ops ?_ | (apply r_loadN; exact rfl; exact rfl; exact rfl; exact rfl; (first | exact at0 | exact at1 | exact at2 | exact at3 | exact at4 | exact at5 | exact at6 | exact at7 | exact at8 | exact at9); exact rfl)))
  refine r_call0 (by first | trivial | exact ⟨rfl, rfl⟩) rfl rfl rfl (fun w hk hs => c_Det 1 w _ sA sA_rt rfl (by decide) (BdL.lit (by decide)) ⟨_, rfl, hO1.rd.at hk hs (by (repeat' first | exact HSub.nil _ | exact HSub.hd | exact HSub.in0 | exact HSub.refl _ | refine HSub.skip ?_ | refine HSub.skipN ?_))⟩) fun w v w' _ _ _ hR => ?_
  rw [show det sA.r sA.at = -2 from sA_det] at hR
  subst hR
  (repeat' (first | refine JO.nil ?_ | (apply r_move; exact rfl; exact rfl; exact rfl) | (apply r_assign; exact rfl; exact rfl; exact rfl) | (apply r_extract; exact rfl; exact rfl; exact rfl; exact rfl) | (apply r_storeN; exact rfl; (first | exact trivial | exact ⟨rfl, rfl⟩); exact rfl; exact rfl; (first | exact at0 | exact at1 | exact at2 | exact at3 | exact at4 | exact at5 | exact at6 | exact at7 | exact at8 | exact at9); exact rfl; exact rfl; exact rfl) | (apply r_allocZ; exact rfl; exact rfl; exact rfl; intro _) | (apply r_storeN; exact rfl; (first | exact trivial | exact ⟨rfl, rfl⟩); exact rfl; exact rfl; (first | exact at0 | exact at1 | exact at2 | exact at3 | exact at4 | exact at5 | exact at6 | exact at7 | exact at8 | exact at9); exact rfl; exact rfl; exact rfl)))
  rename_i b4
  refine JX.part (F' := [(5, .bool true), (4, .pointer (some ⟨b4, 0, none⟩)), (3, .bool true), (2, .pointer (some ⟨b2, 0, none⟩)), (1, .pointer (some ⟨b1, 0, none⟩))]) (H' := [(b4, .cells (wc (-2)) 41), (b2, .cells #[nv 2, nv 2, .slice A2 4 c2] 29), (b1, .cells #[nv 2, nv 2, .slice A1 4 c1] 29)] ++ (N3 ++ (N1 ++ []))) (by repeat first | exact trivial | refine ⟨rfl, ?_⟩) (by (repeat' first | exact HSub.refl _ | exact HSub.nil _ | refine HSub.at 0 rfl ?_ | refine HSub.at 1 rfl ?_ | refine HSub.at 2 rfl ?_ | refine HSub.at 3 rfl ?_ | refine HSub.at 4 rfl ?_ | refine HSub.at 5 rfl ?_ | refine HSub.at 6 rfl ?_ | refine HSub.at 7 rfl ?_ | refine HSub.at 8 rfl ?_ | refine HSub.at 9 rfl ?_ | refine HSub.at 10 rfl ?_ | refine HSub.at 11 rfl ?_ | refine HSub.at 12 rfl ?_ | refine HSub.at 13 rfl ?_ | refine HSub.at 14 rfl ?_ | refine HSub.at 15 rfl ?_ | refine HSub.at 16 rfl ?_ | refine HSub.at 17 rfl ?_ | refine HSub.at 18 rfl ?_ | refine HSub.at 19 rfl ?_ | refine HSub.segH ?_ | refine HSub.skip ?_ | refine HSub.skipN ?_)) ?_
  refine JX.thenN ?_
  (repeat' (first | refine JC.seq ?_ | refine JC.ops ?_ | (apply r_build1; exact rfl; exact rfl; exact rfl; exact rfl; exact rfl; (repeat first | exact trivial | refine ⟨rfl, ?_⟩); decide; decide; intro _)))
  refine r_callA (A := [_, _, _, _, _, _]) (B := N3 ++ (N1 ++ [])) rfl (by first | trivial | exact ⟨rfl, rfl⟩) rfl (by first | rfl | exact ⟨rfl, rfl⟩) rfl (fun w hk hs => c_Of w _ [[2, 1], [1, 1]] (IsRows.lit2 _ _ (hs_at hs 0 rfl) (WI.lit [2, 1] (hs_at hs 2 rfl) rfl rfl) (WI.lit [1, 1] (hs_at hs 1 rfl) rfl rfl)) (by decide) (by decide) (i64_lit (by decide))) fun w v w' _ _ _ hR => ?_
  rw [show ofZ [[2, 1], [1, 1]] = ⟨2, 2, [2, 1, 1, 1]⟩ by kernel_rfl] at hR
  obtain ⟨N4, hN4, Ey, rfl, hOy⟩ := hR
  obtain ⟨Ay, cy, rfl⟩ := hOy.form
  refine ⟨N4, hN4, ?_⟩
  skip
  refine r_callA (A := [_, _, _, _, _, _]) (B := N4 ++ (N3 ++ (N1 ++ []))) rfl (by first | trivial | exact ⟨rfl, rfl⟩) rfl rfl rfl (fun w hk hs => c_Inverse 2 1 (fun k => if k = 0 then 2 else 162) (fun k => if k = 0 then 0 else if k = 1 then 162 else 26568) w _ ⟨2, 2, [2, 1, 1, 1]⟩ ⟨by decide, by decide, rfl⟩ rfl (by decide) (by decide) (BdL.lit (by decide)) ⟨_, rfl, hOy.rd.at hk hs (by (repeat' first | exact HSub.nil _ | exact HSub.hd | exact HSub.in0 | exact HSub.refl _ | refine HSub.skip ?_ | refine HSub.skipN ?_))⟩ (at_lit (by decide)) (by decide) (by decide) (by decide) (by decide) (by decide)) fun w v w' _ _ _ hR => ?_
  rw [if_pos (show (det (ZM.mk 2 2 [2, 1, 1, 1]).r (ZM.mk 2 2 [2, 1, 1, 1]).at).natAbs = 1 from congrArg Int.natAbs sI_det)] at hR
  obtain ⟨xi, hxi, hxr, hxc, hxm, hG⟩ := hR
  obtain rfl := inv_eq xi hxi hxr hxc hxm
  obtain ⟨N5, u6, rfl, hN5, E6, rfl, hO6⟩ := hG
  obtain ⟨A6, c6, rfl⟩ := hO6.form
  refine ⟨N5, hN5, ?_⟩
  (repeat' (first | refine JO.nil ?_ | (apply r_move; exact rfl; exact rfl; exact rfl) | (apply r_assign; exact rfl; exact rfl; exact rfl) | (apply r_extract; exact rfl; exact rfl; exact rfl; exact rfl) | (apply r_storeN; exact rfl; (first | exact trivial | exact ⟨rfl, rfl⟩); exact rfl; exact rfl; (first | exact at0 | exact at1 | exact at2 | exact at3 | exact at4 | exact at5 | exact at6 | exact at7 | exact at8 | exact at9); exact rfl; exact rfl; exact rfl) | (apply r_allocZ; exact rfl; exact rfl; exact rfl; intro _) | (apply r_storeN; exact rfl; (first | exact trivial | exact ⟨rfl, rfl⟩); exact rfl; exact rfl; (first | exact at0 | exact at1 | exact at2 | exact at3 | exact at4 | exact at5 | exact at6 | exact at7 | exact at8 | exact at9); exact rfl; exact rfl; exact rfl)))
  rename_i b6
  refine JX.part (F' := [(7, .bool true), (6, .pointer (some ⟨b6, 0, none⟩)), (5, .bool true), (4, .pointer (some ⟨b4, 0, none⟩)), (3, .bool true), (2, .pointer (some ⟨b2, 0, none⟩)), (1, .pointer (some ⟨b1, 0, none⟩))]) (H' := [(b6, .cells #[nv 2, nv 2, .slice A6 4 c6] 29), (b4, .cells (wc (-2)) 41), (b2, .cells #[nv 2, nv 2, .slice A2 4 c2] 29), (b1, .cells #[nv 2, nv 2, .slice A1 4 c1] 29)] ++ (N5 ++ (N3 ++ (N1 ++ [])))) (by repeat first | exact trivial | refine ⟨rfl, ?_⟩) (by (repeat' first | exact HSub.refl _ | exact HSub.nil _ | refine HSub.at 0 rfl ?_ | refine HSub.at 1 rfl ?_ | refine HSub.at 2 rfl ?_ | refine HSub.at 3 rfl ?_ | refine HSub.at 4 rfl ?_ | refine HSub.at 5 rfl ?_ | refine HSub.at 6 rfl ?_ | refine HSub.at 7 rfl ?_ | refine HSub.at 8 rfl ?_ | refine HSub.at 9 rfl ?_ | refine HSub.at 10 rfl ?_ | refine HSub.at 11 rfl ?_ | refine HSub.at 12 rfl ?_ | refine HSub.at 13 rfl ?_ | refine HSub.at 14 rfl ?_ | refine HSub.at 15 rfl ?_ | refine HSub.at 16 rfl ?_ | refine HSub.at 17 rfl ?_ | refine HSub.at 18 rfl ?_ | refine HSub.at 19 rfl ?_ | refine HSub.segH ?_ | refine HSub.skip ?_ | refine HSub.skipN ?_)) ?_
  refine JX.thenN ?_
  (repeat' (first | refine JC.seq ?_ | refine JC.ops ?_ | (apply r_loadN; exact rfl; exact rfl; exact rfl; exact rfl; (first | exact at0 | exact at1 | exact at2 | exact at3 | exact at4 | exact at5 | exact at6 | exact at7 | exact at8 | exact at9); exact rfl)))
  refine r_call0 (by first | trivial | exact ⟨rfl, rfl⟩) rfl rfl rfl (fun w hk hs => (c_Inverse 3 1 (fun k => if k = 0 then 4 else 900) (fun k => if k = 0 then 0 else if k = 1 then 900 else 811800) w _ sA sA_rt rfl (by decide) (by decide) (BdL.lit (by decide)) ⟨_, rfl, hO1.rd.at hk hs (by (repeat' first | exact HSub.nil _ | exact HSub.hd | exact HSub.in0 | exact HSub.refl _ | refine HSub.skip ?_ | refine HSub.skipN ?_))⟩ (at_lit (by decide)) (by decide) (by decide) (by decide) (by decide) (by decide)) ) fun w v w' _ _ _ hR => ?_
  rw [if_neg (show ¬ (det sA.r sA.at).natAbs = 1 by rw [show det sA.r sA.at = -2 from sA_det]; decide)] at hR
  subst hR
  (repeat' (first | refine JO.nil ?_ | (apply r_move; exact rfl; exact rfl; exact rfl) | (apply r_assign; exact rfl; exact rfl; exact rfl) | (apply r_extract; exact rfl; exact rfl; exact rfl; exact rfl) | (apply r_storeN; exact rfl; (first | exact trivial | exact ⟨rfl, rfl⟩); exact rfl; exact rfl; (first | exact at0 | exact at1 | exact at2 | exact at3 | exact at4 | exact at5 | exact at6 | exact at7 | exact at8 | exact at9); exact rfl; exact rfl; exact rfl) | (apply r_allocZ; exact rfl; exact rfl; exact rfl; intro _) | (apply r_storeN; exact rfl; (first | exact trivial | exact ⟨rfl, rfl⟩); exact rfl; exact rfl; (first | exact at0 | exact at1 | exact at2 | exact at3 | exact at4 | exact at5 | exact at6 | exact at7 | exact at8 | exact at9); exact rfl; exact rfl; exact rfl)))
  refine JX.part (F' := [(9, .bool false), (7, .bool true), (6, .pointer (some ⟨b6, 0, none⟩)), (5, .bool true), (4, .pointer (some ⟨b4, 0, none⟩)), (3, .bool true), (2, .pointer (some ⟨b2, 0, none⟩))]) (H' := [(b6, .cells #[nv 2, nv 2, .slice A6 4 c6] 29), (b4, .cells (wc (-2)) 41), (b2, .cells #[nv 2, nv 2, .slice A2 4 c2] 29)] ++ (N5 ++ (N3 ++ []))) (by repeat first | exact trivial | refine ⟨rfl, ?_⟩) (by (repeat' first | exact HSub.refl _ | exact HSub.nil _ | refine HSub.at 0 rfl ?_ | refine HSub.at 1 rfl ?_ | refine HSub.at 2 rfl ?_ | refine HSub.at 3 rfl ?_ | refine HSub.at 4 rfl ?_ | refine HSub.at 5 rfl ?_ | refine HSub.at 6 rfl ?_ | refine HSub.at 7 rfl ?_ | refine HSub.at 8 rfl ?_ | refine HSub.at 9 rfl ?_ | refine HSub.at 10 rfl ?_ | refine HSub.at 11 rfl ?_ | refine HSub.at 12 rfl ?_ | refine HSub.at 13 rfl ?_ | refine HSub.at 14 rfl ?_ | refine HSub.at 15 rfl ?_ | refine HSub.at 16 rfl ?_ | refine HSub.at 17 rfl ?_ | refine HSub.at 18 rfl ?_ | refine HSub.at 19 rfl ?_ | refine HSub.segH ?_ | refine HSub.skip ?_ | refine HSub.skipN ?_)) ?_
  refine JX.thenN ?_
  (repeat' (first | refine JC.seq ?_ | refine JC.ops ?_ | (apply r_build1; exact rfl; exact rfl; exact rfl; exact rfl; exact rfl; (repeat first | exact trivial | refine ⟨rfl, ?_⟩); decide; decide; intro _)))
  refine r_callA (A := [_, _, _, _, _, _]) (B := N5 ++ (N3 ++ [])) rfl (by first | trivial | exact ⟨rfl, rfl⟩) rfl (by first | rfl | exact ⟨rfl, rfl⟩) rfl (fun w hk hs => c_Of w _ [[1, 2, 3], [4, 5, 6]] (IsRows.lit2 _ _ (hs_at hs 0 rfl) (WI.lit [1, 2, 3] (hs_at hs 2 rfl) rfl rfl) (WI.lit [4, 5, 6] (hs_at hs 1 rfl) rfl rfl)) (by decide) (by decide) (i64_lit (by decide))) fun w v w' _ _ _ hR => ?_
  rw [show ofZ [[1, 2, 3], [4, 5, 6]] = ⟨2, 3, [1, 2, 3, 4, 5, 6]⟩ by kernel_rfl] at hR
  obtain ⟨N6, hN6, Ex, rfl, hOx⟩ := hR
  obtain ⟨Ax, cx, rfl⟩ := hOx.form
  refine ⟨N6, hN6, ?_⟩
  skip
  refine r_callA (A := [_, _, _, _, _, _]) (B := N6 ++ (N5 ++ (N3 ++ []))) rfl (by first | trivial | exact ⟨rfl, rfl⟩) rfl rfl rfl (fun w hk hs => c_Part w _ ⟨2, 3, [1, 2, 3, 4, 5, 6]⟩ 1 1 1 2 ⟨by decide, by decide, rfl⟩ (by decide) (by decide) ⟨_, rfl, hOx.rd.at hk hs (by (repeat' first | exact HSub.nil _ | exact HSub.hd | exact HSub.in0 | exact HSub.refl _ | refine HSub.skip ?_ | refine HSub.skipN ?_))⟩) fun w v w' _ _ _ hR => ?_
  rw [sP_part] at hR
  obtain ⟨N7, u7, rfl, hN7, E10, rfl, hO10⟩ := hR
  obtain ⟨A10, c10, rfl⟩ := hO10.form
  refine ⟨N7, hN7, ?_⟩
  (repeat' (first | refine JO.nil ?_ | (apply r_move; exact rfl; exact rfl; exact rfl) | (apply r_assign; exact rfl; exact rfl; exact rfl) | (apply r_extract; exact rfl; exact rfl; exact rfl; exact rfl) | (apply r_storeN; exact rfl; (first | exact trivial | exact ⟨rfl, rfl⟩); exact rfl; exact rfl; (first | exact at0 | exact at1 | exact at2 | exact at3 | exact at4 | exact at5 | exact at6 | exact at7 | exact at8 | exact at9); exact rfl; exact rfl; exact rfl) | (apply r_allocZ; exact rfl; exact rfl; exact rfl; intro _) | (apply r_storeN; exact rfl; (first | exact trivial | exact ⟨rfl, rfl⟩); exact rfl; exact rfl; (first | exact at0 | exact at1 | exact at2 | exact at3 | exact at4 | exact at5 | exact at6 | exact at7 | exact at8 | exact at9); exact rfl; exact rfl; exact rfl)))
  rename_i b10
  refine JX.part (F' := [(11, .bool true), (10, .pointer (some ⟨b10, 0, none⟩)), (9, .bool false), (7, .bool true), (6, .pointer (some ⟨b6, 0, none⟩)), (5, .bool true), (4, .pointer (some ⟨b4, 0, none⟩)), (3, .bool true), (2, .pointer (some ⟨b2, 0, none⟩))]) (H' := [(b10, .cells #[nv 1, nv 2, .slice A10 2 c10] 29), (b6, .cells #[nv 2, nv 2, .slice A6 4 c6] 29), (b4, .cells (wc (-2)) 41), (b2, .cells #[nv 2, nv 2, .slice A2 4 c2] 29)] ++ (N7 ++ (N5 ++ (N3 ++ [])))) (by repeat first | exact trivial | refine ⟨rfl, ?_⟩) (by (repeat' first | exact HSub.refl _ | exact HSub.nil _ | refine HSub.at 0 rfl ?_ | refine HSub.at 1 rfl ?_ | refine HSub.at 2 rfl ?_ | refine HSub.at 3 rfl ?_ | refine HSub.at 4 rfl ?_ | refine HSub.at 5 rfl ?_ | refine HSub.at 6 rfl ?_ | refine HSub.at 7 rfl ?_ | refine HSub.at 8 rfl ?_ | refine HSub.at 9 rfl ?_ | refine HSub.at 10 rfl ?_ | refine HSub.at 11 rfl ?_ | refine HSub.at 12 rfl ?_ | refine HSub.at 13 rfl ?_ | refine HSub.at 14 rfl ?_ | refine HSub.at 15 rfl ?_ | refine HSub.at 16 rfl ?_ | refine HSub.at 17 rfl ?_ | refine HSub.at 18 rfl ?_ | refine HSub.at 19 rfl ?_ | refine HSub.segH ?_ | refine HSub.skip ?_ | refine HSub.skipN ?_)) ?_
  refine JX.thenN ?_
  (repeat' (first | refine JC.seq ?_))
  refine JC.share [(12, .bool true), (11, .bool true), (10, .pointer (some ⟨b10, 0, none⟩)), (9, .bool false), (7, .bool true), (6, .pointer (some ⟨b6, 0, none⟩)), (5, .bool true), (4, .pointer (some ⟨b4, 0, none⟩))] ([(b10, .cells #[nv 1, nv 2, .slice A10 2 c10] 29), (b6, .cells #[nv 2, nv 2, .slice A6 4 c6] 29), (b4, .cells (wc (-2)) 41)] ++ (N7 ++ (N5 ++ []))) ?_ (fun rest => ?_)
  · refine JX.thenN ?_
    (repeat' (first | refine JC.seq ?_ | refine JC.opsD ?_ | (apply r_move; exact rfl; exact rfl; exact rfl) | (apply r_loadN; exact rfl; exact rfl; exact rfl; exact rfl; (first | exact at0 | exact at1 | exact at2 | exact at3 | exact at4 | exact at5 | exact at6 | exact at7 | exact at8 | exact at9); exact rfl) | (apply r_pickT; exact rfl; exact rfl; exact rfl; exact rfl)))
    refine r_call0 (by first | trivial | exact ⟨rfl, rfl⟩) rfl (by first | rfl | exact ⟨rfl, rfl⟩) rfl (fun w _ _ => c_FromR w (-2) (by decide) (by decide)) fun w v w' _ _ _ hR => ?_
    subst hR
    (repeat' (first | (apply r_move; exact rfl; exact rfl; exact rfl) | (apply r_loadN; exact rfl; exact rfl; exact rfl; exact rfl; (first | exact at0 | exact at1 | exact at2 | exact at3 | exact at4 | exact at5 | exact at6 | exact at7 | exact at8 | exact at9); exact rfl) | (apply r_pickT; exact rfl; exact rfl; exact rfl; exact rfl) | (apply r_eqWT; exact rfl; exact rfl; exact rfl; exact rfl; (first | exact rfl | assumption)) | (apply r_build1; exact rfl; exact rfl; exact rfl; exact rfl; exact rfl; (repeat first | exact trivial | refine ⟨rfl, ?_⟩); decide; decide; intro _)))
    refine r_callA (A := [_, _, _, _, _, _]) (B := N7 ++ (N5 ++ [])) rfl (by first | trivial | exact ⟨rfl, rfl⟩) rfl (by first | rfl | exact ⟨rfl, rfl⟩) rfl (fun w hk hs => c_Of w _ [[1, -1], [-1, 2]] (IsRows.lit2 _ _ (hs_at hs 0 rfl) (WI.lit [1, -1] (hs_at hs 2 rfl) rfl rfl) (WI.lit [-1, 2] (hs_at hs 1 rfl) rfl rfl)) (by decide) (by decide) (i64_lit (by decide))) fun w v w' _ _ _ hR => ?_
    rw [show ofZ [[1, -1], [-1, 2]] = ⟨2, 2, [1, -1, -1, 2]⟩ by kernel_rfl] at hR
    obtain ⟨N8, hN8, Ep, rfl, hOp⟩ := hR
    obtain ⟨Ap, cp, rfl⟩ := hOp.form
    refine ⟨N8, hN8, ?_⟩
    skip
    refine r_call0 (by first | trivial | exact ⟨rfl, rfl⟩) rfl (by first | rfl | exact ⟨rfl, rfl⟩) rfl (fun w hk hs => c_EqualT w _ _ ⟨2, 2, [1, -1, -1, 2]⟩ ⟨by decide, by decide, rfl⟩ ⟨_, rfl, hO6.rd.at hk hs (by (repeat' first | exact HSub.nil _ | exact HSub.hd | exact HSub.in0 | exact HSub.refl _ | refine HSub.skip ?_ | refine HSub.skipN ?_))⟩ ⟨_, rfl, hOp.rd.at hk hs (by (repeat' first | exact HSub.nil _ | exact HSub.hd | exact HSub.in0 | exact HSub.refl _ | refine HSub.skip ?_ | refine HSub.skipN ?_))⟩) fun w v w' _ _ _ hR => ?_
    subst hR
    (repeat' (first | (apply r_move; exact rfl; exact rfl; exact rfl) | (apply r_loadN; exact rfl; exact rfl; exact rfl; exact rfl; (first | exact at0 | exact at1 | exact at2 | exact at3 | exact at4 | exact at5 | exact at6 | exact at7 | exact at8 | exact at9); exact rfl) | (apply r_pickT; exact rfl; exact rfl; exact rfl; exact rfl) | (apply r_not; exact rfl; exact rfl; exact rfl) | (apply r_build1; exact rfl; exact rfl; exact rfl; exact rfl; exact rfl; (repeat first | exact trivial | refine ⟨rfl, ?_⟩); decide; decide; intro _)))
    refine r_callA (A := [_, _, _, _, _, _, _, _]) (B := N8 ++ (N7 ++ (N5 ++ []))) rfl (by first | trivial | exact ⟨rfl, rfl⟩) rfl (by first | rfl | exact ⟨rfl, rfl⟩) rfl (fun w hk hs => c_Of w _ [[5, 6]] (IsRows.lit1 _ (hs_at hs 0 rfl) (WI.lit [5, 6] (hs_at hs 1 rfl) rfl rfl)) (by decide) (by decide) (i64_lit (by decide))) fun w v w' _ _ _ hR => ?_
    rw [show ofZ [[5, 6]] = ⟨1, 2, [5, 6]⟩ by kernel_rfl] at hR
    obtain ⟨N9, hN9, Eq, rfl, hOq⟩ := hR
    obtain ⟨Aq, cq, rfl⟩ := hOq.form
    refine ⟨N9, hN9, ?_⟩
    skip
    refine r_call0 (by first | trivial | exact ⟨rfl, rfl⟩) rfl (by first | rfl | exact ⟨rfl, rfl⟩) rfl (fun w hk hs => c_EqualT w _ _ ⟨1, 2, [5, 6]⟩ ⟨by decide, by decide, rfl⟩ ⟨_, rfl, hO10.rd.at hk hs (by (repeat' first | exact HSub.nil _ | exact HSub.hd | exact HSub.in0 | exact HSub.refl _ | refine HSub.skip ?_ | refine HSub.skipN ?_))⟩ ⟨_, rfl, hOq.rd.at hk hs (by (repeat' first | exact HSub.nil _ | exact HSub.hd | exact HSub.in0 | exact HSub.refl _ | refine HSub.skip ?_ | refine HSub.skipN ?_))⟩) fun w v w' _ _ _ hR => ?_
    subst hR
    (repeat' (first | refine JO.nil ?_ | (apply r_assign; exact rfl; exact rfl; exact rfl) | (apply r_pickT; exact rfl; exact rfl; exact rfl; exact rfl)))
    refine JX.thenN ?_
    (repeat' (first | refine JC.ret ?_))
    exact JX.ret1 rfl (fun a w' st => ⟨st.kp, rfl⟩)
  · refine JC.forks mixed (JG.fork 3 6 (by decide) (JG.leaf _ (HSub.refl _) (fun i op => kindAt [] i op) 1 [0, 1, 2, 3, 4, 5, 6, 7, 8, 9, 10, 11, 12, 13, 14, 15, 16, 17, 18, 19, 20] (by kernel_rfl) ?_) (JG.fork 2 6 (by decide) (JG.leaf _ (HSub.refl _) (fun i op => kindAt [] i op) 1 [0, 1, 2, 4, 5, 6, 3, 7, 8, 9, 10, 11, 12, 13, 14, 15, 16, 17, 18, 19, 20] (by kernel_rfl) ?_) (JG.leaf _ (HSub.refl _) (fun i op => kindAt [] i op) 1 [4, 5, 6, 0, 1, 2, 3, 7, 8, 9, 10, 11, 12, 13, 14, 15, 16, 17, 18, 19, 20] (by kernel_rfl) ?_)))
    · simp only [sopsAt, toSOp, kindAt]
      (repeat' (first | (apply r_build1; exact rfl; exact rfl; exact rfl; exact rfl; exact rfl; (repeat first | exact trivial | refine ⟨rfl, ?_⟩); decide; decide; intro _)))
      refine r_callA (A := [_, _, _, _, _, _, _]) (B := N7 ++ (N5 ++ (N3 ++ []))) rfl (by first | trivial | exact ⟨rfl, rfl⟩) rfl (by first | rfl | exact ⟨rfl, rfl⟩) rfl (fun w hk hs => c_Of w _ [[1, 2], [3]] (IsRows.lit2 _ _ (hs_at hs 0 rfl) (WI.lit [1, 2] (hs_at hs 2 rfl) rfl rfl) (WI.lit [3] (hs_at hs 1 rfl) rfl rfl)) (by decide) (by decide) (i64_lit (by decide))) fun w v w' _ _ _ hR => ?_
      rw [show ofZ [[1, 2], [3]] = ⟨2, 2, [1, 2, 3, 0]⟩ by kernel_rfl] at hR
      obtain ⟨N8, hN8, Ep, rfl, hOp⟩ := hR
      obtain ⟨Ap, cp, rfl⟩ := hOp.form
      refine ⟨N8, hN8, ?_⟩
      (repeat' (first | (apply r_build1; exact rfl; exact rfl; exact rfl; exact rfl; exact rfl; (repeat first | exact trivial | refine ⟨rfl, ?_⟩); decide; decide; intro _)))
      refine r_callA (A := [_, _, _, _, _, _, _, _, _, _]) (B := N8 ++ (N7 ++ (N5 ++ (N3 ++ [])))) rfl (by first | trivial | exact ⟨rfl, rfl⟩) rfl (by first | rfl | exact ⟨rfl, rfl⟩) rfl (fun w hk hs => c_Of w _ [[1, 2], [3, 0]] (IsRows.lit2 _ _ (hs_at hs 0 rfl) (WI.lit [1, 2] (hs_at hs 2 rfl) rfl rfl) (WI.lit [3, 0] (hs_at hs 1 rfl) rfl rfl)) (by decide) (by decide) (i64_lit (by decide))) fun w v w' _ _ _ hR => ?_
      rw [show ofZ [[1, 2], [3, 0]] = ⟨2, 2, [1, 2, 3, 0]⟩ by kernel_rfl] at hR
      obtain ⟨N9, hN9, Eq, rfl, hOq⟩ := hR
      obtain ⟨Aq, cq, rfl⟩ := hOq.form
      refine ⟨N9, hN9, ?_⟩
      skip
      refine r_call0 (by first | trivial | exact ⟨rfl, rfl⟩) rfl (by first | rfl | exact ⟨rfl, rfl⟩) rfl (fun w hk hs => c_EqualT w _ _ ⟨2, 2, [1, 2, 3, 0]⟩ ⟨by decide, by decide, rfl⟩ ⟨_, rfl, hOp.rd.at hk hs (by (repeat' first | exact HSub.nil _ | exact HSub.hd | exact HSub.in0 | exact HSub.refl _ | refine HSub.skip ?_ | refine HSub.skipN ?_))⟩ ⟨_, rfl, hOq.rd.at hk hs (by (repeat' first | exact HSub.nil _ | exact HSub.hd | exact HSub.in0 | exact HSub.refl _ | refine HSub.skip ?_ | refine HSub.skipN ?_))⟩) fun w v w' _ _ _ hR => ?_
      subst hR
      (repeat' (first | (apply r_move; exact rfl; exact rfl; exact rfl) | (apply r_loadN; exact rfl; exact rfl; exact rfl; exact rfl; (first | exact at0 | exact at1 | exact at2 | exact at3 | exact at4 | exact at5 | exact at6 | exact at7 | exact at8 | exact at9); exact rfl) | (apply r_pickT; exact rfl; exact rfl; exact rfl; exact rfl) | (apply r_build1; exact rfl; exact rfl; exact rfl; exact rfl; exact rfl; (repeat first | exact trivial | refine ⟨rfl, ?_⟩); decide; decide; intro _)))
      refine r_callA (A := [_, _, _, _, _, _, _, _, _, _, _, _, _]) (B := N9 ++ (N8 ++ (N7 ++ (N5 ++ (N3 ++ []))))) rfl (by first | trivial | exact ⟨rfl, rfl⟩) rfl (by first | rfl | exact ⟨rfl, rfl⟩) rfl (fun w hk hs => c_Of w _ [[2, 1], [4, 3]] (IsRows.lit2 _ _ (hs_at hs 0 rfl) (WI.lit [2, 1] (hs_at hs 2 rfl) rfl rfl) (WI.lit [4, 3] (hs_at hs 1 rfl) rfl rfl)) (by decide) (by decide) (i64_lit (by decide))) fun w v w' _ _ _ hR => ?_
      rw [show ofZ [[2, 1], [4, 3]] = ⟨2, 2, [2, 1, 4, 3]⟩ by kernel_rfl] at hR
      obtain ⟨N11, hN11, Er, rfl, hOr⟩ := hR
      obtain ⟨Ar, cr, rfl⟩ := hOr.form
      refine ⟨N11, hN11, ?_⟩
      skip
      refine r_call0 (by first | trivial | exact ⟨rfl, rfl⟩) rfl (by first | rfl | exact ⟨rfl, rfl⟩) rfl (fun w hk hs => c_EqualT w _ _ ⟨2, 2, [2, 1, 4, 3]⟩ ⟨by decide, by decide, rfl⟩ ⟨_, rfl, hO2.rd.at hk hs (by (repeat' first | exact HSub.nil _ | exact HSub.hd | exact HSub.in0 | exact HSub.refl _ | refine HSub.skip ?_ | refine HSub.skipN ?_))⟩ ⟨_, rfl, hOr.rd.at hk hs (by (repeat' first | exact HSub.nil _ | exact HSub.hd | exact HSub.in0 | exact HSub.refl _ | refine HSub.skip ?_ | refine HSub.skipN ?_))⟩) fun w v w' _ _ _ hR => ?_
      subst hR
      (repeat' (first | refine JO.nil ?_ | (apply r_assign; exact rfl; exact rfl; exact rfl) | (apply r_pickT; exact rfl; exact rfl; exact rfl; exact rfl)))
      exact rest.part (by repeat first | exact trivial | refine ⟨rfl, ?_⟩) (by (repeat' first | exact HSub.refl _ | exact HSub.nil _ | refine HSub.at 0 rfl ?_ | refine HSub.at 1 rfl ?_ | refine HSub.at 2 rfl ?_ | refine HSub.at 3 rfl ?_ | refine HSub.at 4 rfl ?_ | refine HSub.at 5 rfl ?_ | refine HSub.at 6 rfl ?_ | refine HSub.at 7 rfl ?_ | refine HSub.at 8 rfl ?_ | refine HSub.at 9 rfl ?_ | refine HSub.at 10 rfl ?_ | refine HSub.at 11 rfl ?_ | refine HSub.at 12 rfl ?_ | refine HSub.at 13 rfl ?_ | refine HSub.at 14 rfl ?_ | refine HSub.at 15 rfl ?_ | refine HSub.at 16 rfl ?_ | refine HSub.at 17 rfl ?_ | refine HSub.at 18 rfl ?_ | refine HSub.at 19 rfl ?_ | refine HSub.segH ?_ | refine HSub.skip ?_ | refine HSub.skipN ?_))
    · simp only [sopsAt, toSOp, kindAt]
      (repeat' (first | (apply r_build1; exact rfl; exact rfl; exact rfl; exact rfl; exact rfl; (repeat first | exact trivial | refine ⟨rfl, ?_⟩); decide; decide; intro _)))
      refine r_callA (A := [_, _, _, _, _, _, _, _, _, _]) (B := N7 ++ (N5 ++ (N3 ++ []))) rfl (by first | trivial | exact ⟨rfl, rfl⟩) rfl (by first | rfl | exact ⟨rfl, rfl⟩) rfl (fun w hk hs => c_Of w _ [[1, 2], [3]] (IsRows.lit2 _ _ (hs_at hs 3 rfl) (WI.lit [1, 2] (hs_at hs 5 rfl) rfl rfl) (WI.lit [3] (hs_at hs 4 rfl) rfl rfl)) (by decide) (by decide) (i64_lit (by decide))) fun w v w' _ _ _ hR => ?_
      rw [show ofZ [[1, 2], [3]] = ⟨2, 2, [1, 2, 3, 0]⟩ by kernel_rfl] at hR
      obtain ⟨N8, hN8, Ep, rfl, hOp⟩ := hR
      obtain ⟨Ap, cp, rfl⟩ := hOp.form
      refine ⟨N8, hN8, ?_⟩
      skip
      refine r_callA (A := [_, _, _, _, _, _, _, _, _, _]) (B := N8 ++ (N7 ++ (N5 ++ (N3 ++ [])))) rfl (by first | trivial | exact ⟨rfl, rfl⟩) rfl (by first | rfl | exact ⟨rfl, rfl⟩) rfl (fun w hk hs => c_Of w _ [[1, 2], [3, 0]] (IsRows.lit2 _ _ (hs_at hs 0 rfl) (WI.lit [1, 2] (hs_at hs 2 rfl) rfl rfl) (WI.lit [3, 0] (hs_at hs 1 rfl) rfl rfl)) (by decide) (by decide) (i64_lit (by decide))) fun w v w' _ _ _ hR => ?_
      rw [show ofZ [[1, 2], [3, 0]] = ⟨2, 2, [1, 2, 3, 0]⟩ by kernel_rfl] at hR
      obtain ⟨N9, hN9, Eq, rfl, hOq⟩ := hR
      obtain ⟨Aq, cq, rfl⟩ := hOq.form
      refine ⟨N9, hN9, ?_⟩
      skip
      refine r_call0 (by first | trivial | exact ⟨rfl, rfl⟩) rfl (by first | rfl | exact ⟨rfl, rfl⟩) rfl (fun w hk hs => c_EqualT w _ _ ⟨2, 2, [1, 2, 3, 0]⟩ ⟨by decide, by decide, rfl⟩ ⟨_, rfl, hOp.rd.at hk hs (by (repeat' first | exact HSub.nil _ | exact HSub.hd | exact HSub.in0 | exact HSub.refl _ | refine HSub.skip ?_ | refine HSub.skipN ?_))⟩ ⟨_, rfl, hOq.rd.at hk hs (by (repeat' first | exact HSub.nil _ | exact HSub.hd | exact HSub.in0 | exact HSub.refl _ | refine HSub.skip ?_ | refine HSub.skipN ?_))⟩) fun w v w' _ _ _ hR => ?_
      subst hR
      (repeat' (first | (apply r_move; exact rfl; exact rfl; exact rfl) | (apply r_loadN; exact rfl; exact rfl; exact rfl; exact rfl; (first | exact at0 | exact at1 | exact at2 | exact at3 | exact at4 | exact at5 | exact at6 | exact at7 | exact at8 | exact at9); exact rfl) | (apply r_pickT; exact rfl; exact rfl; exact rfl; exact rfl) | (apply r_build1; exact rfl; exact rfl; exact rfl; exact rfl; exact rfl; (repeat first | exact trivial | refine ⟨rfl, ?_⟩); decide; decide; intro _)))
      refine r_callA (A := [_, _, _, _, _, _, _, _, _, _, _, _, _]) (B := N9 ++ (N8 ++ (N7 ++ (N5 ++ (N3 ++ []))))) rfl (by first | trivial | exact ⟨rfl, rfl⟩) rfl (by first | rfl | exact ⟨rfl, rfl⟩) rfl (fun w hk hs => c_Of w _ [[2, 1], [4, 3]] (IsRows.lit2 _ _ (hs_at hs 0 rfl) (WI.lit [2, 1] (hs_at hs 2 rfl) rfl rfl) (WI.lit [4, 3] (hs_at hs 1 rfl) rfl rfl)) (by decide) (by decide) (i64_lit (by decide))) fun w v w' _ _ _ hR => ?_
      rw [show ofZ [[2, 1], [4, 3]] = ⟨2, 2, [2, 1, 4, 3]⟩ by kernel_rfl] at hR
      obtain ⟨N11, hN11, Er, rfl, hOr⟩ := hR
      obtain ⟨Ar, cr, rfl⟩ := hOr.form
      refine ⟨N11, hN11, ?_⟩
      skip
      refine r_call0 (by first | trivial | exact ⟨rfl, rfl⟩) rfl (by first | rfl | exact ⟨rfl, rfl⟩) rfl (fun w hk hs => c_EqualT w _ _ ⟨2, 2, [2, 1, 4, 3]⟩ ⟨by decide, by decide, rfl⟩ ⟨_, rfl, hO2.rd.at hk hs (by (repeat' first | exact HSub.nil _ | exact HSub.hd | exact HSub.in0 | exact HSub.refl _ | refine HSub.skip ?_ | refine HSub.skipN ?_))⟩ ⟨_, rfl, hOr.rd.at hk hs (by (repeat' first | exact HSub.nil _ | exact HSub.hd | exact HSub.in0 | exact HSub.refl _ | refine HSub.skip ?_ | refine HSub.skipN ?_))⟩) fun w v w' _ _ _ hR => ?_
      subst hR
      (repeat' (first | refine JO.nil ?_ | (apply r_assign; exact rfl; exact rfl; exact rfl) | (apply r_pickT; exact rfl; exact rfl; exact rfl; exact rfl)))
      exact rest.part (by repeat first | exact trivial | refine ⟨rfl, ?_⟩) (by (repeat' first | exact HSub.refl _ | exact HSub.nil _ | refine HSub.at 0 rfl ?_ | refine HSub.at 1 rfl ?_ | refine HSub.at 2 rfl ?_ | refine HSub.at 3 rfl ?_ | refine HSub.at 4 rfl ?_ | refine HSub.at 5 rfl ?_ | refine HSub.at 6 rfl ?_ | refine HSub.at 7 rfl ?_ | refine HSub.at 8 rfl ?_ | refine HSub.at 9 rfl ?_ | refine HSub.at 10 rfl ?_ | refine HSub.at 11 rfl ?_ | refine HSub.at 12 rfl ?_ | refine HSub.at 13 rfl ?_ | refine HSub.at 14 rfl ?_ | refine HSub.at 15 rfl ?_ | refine HSub.at 16 rfl ?_ | refine HSub.at 17 rfl ?_ | refine HSub.at 18 rfl ?_ | refine HSub.at 19 rfl ?_ | refine HSub.segH ?_ | refine HSub.skip ?_ | refine HSub.skipN ?_))
    · simp only [sopsAt, toSOp, kindAt]
      (repeat' (first | (apply r_build1; exact rfl; exact rfl; exact rfl; exact rfl; exact rfl; (repeat first | exact trivial | refine ⟨rfl, ?_⟩); decide; decide; intro _)))
      refine r_callA (A := [_, _, _, _, _, _, _, _, _, _]) (B := N7 ++ (N5 ++ (N3 ++ []))) rfl (by first | trivial | exact ⟨rfl, rfl⟩) rfl (by first | rfl | exact ⟨rfl, rfl⟩) rfl (fun w hk hs => c_Of w _ [[1, 2], [3]] (IsRows.lit2 _ _ (hs_at hs 0 rfl) (WI.lit [1, 2] (hs_at hs 2 rfl) rfl rfl) (WI.lit [3] (hs_at hs 1 rfl) rfl rfl)) (by decide) (by decide) (i64_lit (by decide))) fun w v w' _ _ _ hR => ?_
      rw [show ofZ [[1, 2], [3]] = ⟨2, 2, [1, 2, 3, 0]⟩ by kernel_rfl] at hR
      obtain ⟨N8, hN8, Ep, rfl, hOp⟩ := hR
      obtain ⟨Ap, cp, rfl⟩ := hOp.form
      refine ⟨N8, hN8, ?_⟩
      skip
      refine r_callA (A := [_, _, _, _, _, _, _, _, _, _]) (B := N8 ++ (N7 ++ (N5 ++ (N3 ++ [])))) rfl (by first | trivial | exact ⟨rfl, rfl⟩) rfl (by first | rfl | exact ⟨rfl, rfl⟩) rfl (fun w hk hs => c_Of w _ [[1, 2], [3, 0]] (IsRows.lit2 _ _ (hs_at hs 3 rfl) (WI.lit [1, 2] (hs_at hs 5 rfl) rfl rfl) (WI.lit [3, 0] (hs_at hs 4 rfl) rfl rfl)) (by decide) (by decide) (i64_lit (by decide))) fun w v w' _ _ _ hR => ?_
      rw [show ofZ [[1, 2], [3, 0]] = ⟨2, 2, [1, 2, 3, 0]⟩ by kernel_rfl] at hR
      obtain ⟨N9, hN9, Eq, rfl, hOq⟩ := hR
      obtain ⟨Aq, cq, rfl⟩ := hOq.form
      refine ⟨N9, hN9, ?_⟩
      skip
      refine r_call0 (by first | trivial | exact ⟨rfl, rfl⟩) rfl (by first | rfl | exact ⟨rfl, rfl⟩) rfl (fun w hk hs => c_EqualT w _ _ ⟨2, 2, [1, 2, 3, 0]⟩ ⟨by decide, by decide, rfl⟩ ⟨_, rfl, hOp.rd.at hk hs (by (repeat' first | exact HSub.nil _ | exact HSub.hd | exact HSub.in0 | exact HSub.refl _ | refine HSub.skip ?_ | refine HSub.skipN ?_))⟩ ⟨_, rfl, hOq.rd.at hk hs (by (repeat' first | exact HSub.nil _ | exact HSub.hd | exact HSub.in0 | exact HSub.refl _ | refine HSub.skip ?_ | refine HSub.skipN ?_))⟩) fun w v w' _ _ _ hR => ?_
      subst hR
      (repeat' (first | (apply r_move; exact rfl; exact rfl; exact rfl) | (apply r_loadN; exact rfl; exact rfl; exact rfl; exact rfl; (first | exact at0 | exact at1 | exact at2 | exact at3 | exact at4 | exact at5 | exact at6 | exact at7 | exact at8 | exact at9); exact rfl) | (apply r_pickT; exact rfl; exact rfl; exact rfl; exact rfl) | (apply r_build1; exact rfl; exact rfl; exact rfl; exact rfl; exact rfl; (repeat first | exact trivial | refine ⟨rfl, ?_⟩); decide; decide; intro _)))
      refine r_callA (A := [_, _, _, _, _, _, _, _, _, _, _, _, _]) (B := N9 ++ (N8 ++ (N7 ++ (N5 ++ (N3 ++ []))))) rfl (by first | trivial | exact ⟨rfl, rfl⟩) rfl (by first | rfl | exact ⟨rfl, rfl⟩) rfl (fun w hk hs => c_Of w _ [[2, 1], [4, 3]] (IsRows.lit2 _ _ (hs_at hs 0 rfl) (WI.lit [2, 1] (hs_at hs 2 rfl) rfl rfl) (WI.lit [4, 3] (hs_at hs 1 rfl) rfl rfl)) (by decide) (by decide) (i64_lit (by decide))) fun w v w' _ _ _ hR => ?_
      rw [show ofZ [[2, 1], [4, 3]] = ⟨2, 2, [2, 1, 4, 3]⟩ by kernel_rfl] at hR
      obtain ⟨N11, hN11, Er, rfl, hOr⟩ := hR
      obtain ⟨Ar, cr, rfl⟩ := hOr.form
      refine ⟨N11, hN11, ?_⟩
      skip
      refine r_call0 (by first | trivial | exact ⟨rfl, rfl⟩) rfl (by first | rfl | exact ⟨rfl, rfl⟩) rfl (fun w hk hs => c_EqualT w _ _ ⟨2, 2, [2, 1, 4, 3]⟩ ⟨by decide, by decide, rfl⟩ ⟨_, rfl, hO2.rd.at hk hs (by (repeat' first | exact HSub.nil _ | exact HSub.hd | exact HSub.in0 | exact HSub.refl _ | refine HSub.skip ?_ | refine HSub.skipN ?_))⟩ ⟨_, rfl, hOr.rd.at hk hs (by (repeat' first | exact HSub.nil _ | exact HSub.hd | exact HSub.in0 | exact HSub.refl _ | refine HSub.skip ?_ | refine HSub.skipN ?_))⟩) fun w v w' _ _ _ hR => ?_
      subst hR
      (repeat' (first | refine JO.nil ?_ | (apply r_assign; exact rfl; exact rfl; exact rfl) | (apply r_pickT; exact rfl; exact rfl; exact rfl; exact rfl)))
      exact rest.part (by repeat first | exact trivial | refine ⟨rfl, ?_⟩) (by (repeat' first | exact HSub.refl _ | exact HSub.nil _ | refine HSub.at 0 rfl ?_ | refine HSub.at 1 rfl ?_ | refine HSub.at 2 rfl ?_ | refine HSub.at 3 rfl ?_ | refine HSub.at 4 rfl ?_ | refine HSub.at 5 rfl ?_ | refine HSub.at 6 rfl ?_ | refine HSub.at 7 rfl ?_ | refine HSub.at 8 rfl ?_ | refine HSub.at 9 rfl ?_ | refine HSub.at 10 rfl ?_ | refine HSub.at 11 rfl ?_ | refine HSub.at 12 rfl ?_ | refine HSub.at 13 rfl ?_ | refine HSub.at 14 rfl ?_ | refine HSub.at 15 rfl ?_ | refine HSub.at 16 rfl ?_ | refine HSub.at 17 rfl ?_ | refine HSub.at 18 rfl ?_ | refine HSub.at 19 rfl ?_ | refine HSub.segH ?_ | refine HSub.skip ?_ | refine HSub.skipN ?_))

end Go.Proofs.YtdlmnloikakjpaaDoor

/- Walks of the reference of chapter 02: Lists, same, Canonical, Right, alike. ROWZ -/
namespace Go.Proofs.YtdlmnloikakjpaaDoor
open Go Go.RowKit
set_option linter.unusedSimpArgs false
set_option linter.unusedVariables false
set_option linter.unusedSectionVars false

set_option maxHeartbeats 2000000 in
theorem c_Lists (w : World) (v u : Value) (n k : Nat) (xs ys : List WR) (hv : WX w v n xs) (hu : WX w u k ys) (hn : n < 1000000000) (hk : k < 1000000000) : Calls Tryd.prog 33 #[v, u] w (Ret fun v w' => Kp [] w w' ∧ IsB (xs = ys) v) := by
  have hl := hv.len
  have hl' := hu.len
  refine calls_of_S [⟨6, 1, [], []⟩] [] (by simp) [] Tryd.func33 rfl mixed (by kernel_rfl) Tryd.ntmps33 Tryd.results33 rfl ⟨by simp, by simp⟩ (by simp) ?_
  simp only [toS, textOps, toSOp, kindAt, kindOf, odAt, sopsAt, ordOf, zipF]
  have hR := WX.rd (c := ⟨Tryd.prog, 26, w, [], by simp⟩) hv rfl []
  have hR' := WX.rd (c := ⟨Tryd.prog, 26, w, [], by simp⟩) hu rfl []
  (repeat' (first | refine JC.seq ?_ | refine JC.ops ?_ | refine JO.nil ?_ | refine JX.thenN ?_ | (apply r_move; exact rfl; exact rfl; exact rfl) | (apply r_assign; exact rfl; exact rfl; exact rfl) | (apply r_lenX; exact rfl; exact rfl; exact rfl; (first | assumption | exact WX.rd (by assumption) rfl [] | exact OwnX.rd (by assumption))) | (apply r_neq; exact rfl; exact rfl; exact rfl; exact rfl; all_goals intro hc; all_goals try (exfalso; omega)) | refine JX.thenR ?_ | refine JC.skip ?_ | refine JC.ret ?_ | refine JC.condT rfl ?_ | refine JC.condF rfl ?_ | refine JC.block ?_))
  · exact JX.ret1 rfl (fun a w' st => ⟨st.kp, IsB.f (fun h => hc (by rw [← hl, ← hl', h]))⟩)
  · have hnk : n = k := by omega
    subst hnk
    refine JC.loopH (ι := Nat) ⟨fun i => [(5, nv i), (0, v), (1, u)], fun _ => [], fun i => i ≤ n ∧ ∀ j, j < i → xs.getD j w0x = ys.getD j w0x, fun i => n - i⟩ 0 ⟨by omega, fun j h => by omega⟩ (by repeat first | exact trivial | refine ⟨rfl, ?_⟩) (HSub.nil _) (fun i hi => ?_)
    obtain ⟨hin, hpr⟩ := hi
    dsimp only
    by_cases hlt : i < n
    · (repeat' (first | refine JC.seq ?_ | refine JC.ops ?_ | refine JC.opsD ?_ | refine JO.nil ?_ | refine JX.thenN ?_ | (apply r_move; exact rfl; exact rfl; exact rfl) | (apply r_idxX; exact rfl; exact rfl; exact rfl; exact rfl; (first | assumption | exact WX.rd (by assumption) rfl [] | exact OwnX.rd (by assumption)); (first | assumption | omega)) | (apply r_ldX; exact rfl; exact rfl; exact rfl; exact rfl; (first | assumption | exact WX.rd (by assumption) rfl [] | exact OwnX.rd (by assumption)); (repeat' first | exact HSub.nil _ | exact HSub.hd | exact HSub.in0 | exact HSub.refl _ | refine HSub.skip ?_ | refine HSub.skipN ?_); (first | assumption | omega)) | (apply r_lenX; exact rfl; exact rfl; exact rfl; (first | assumption | exact WX.rd (by assumption) rfl [] | exact OwnX.rd (by assumption))) | (apply r_lss; exact rfl; exact rfl; exact rfl; exact rfl; all_goals intro hc; all_goals try (exfalso; omega)) | refine JC.skip ?_ | refine JC.condT rfl ?_ | refine JC.block ?_))
      refine r_neW rfl rfl rfl rfl ?_
      by_cases he : xs.getD i w0x = ys.getD i w0x
      · rw [he]
        simp only [BEq.rfl, decide_true, Bool.and_self, Bool.not_true]
        (repeat' (first | refine JC.ops ?_ | refine JO.nil ?_ | refine JX.thenN ?_ | (apply r_move; exact rfl; exact rfl; exact rfl) | (apply r_assign; exact rfl; exact rfl; exact rfl) | (apply r_add1; exact rfl; exact rfl; exact rfl; exact rfl; omega) | refine JC.skip ?_ | refine JC.condF rfl ?_ | refine JX.blockN ?_))
        refine JX.roundH (i + 1) ⟨by omega, fun j h => ?_⟩ (by dsimp only; omega) (by repeat first | exact trivial | refine ⟨rfl, ?_⟩) (HSub.nil _)
        rcases Nat.lt_or_ge j i with h' | h'
        · exact hpr j h'
        · have : j = i := by omega
          subst this; exact he
      · have hb : (!((xs.getD i w0x).1 == (ys.getD i w0x).1 && decide ((xs.getD i w0x).2 = (ys.getD i w0x).2))) = true := by
          simp only [Bool.not_eq_true', Bool.and_eq_false_iff]
          by_cases h1 : (xs.getD i w0x).1 = (ys.getD i w0x).1
          · refine .inr ?_
            simp only [decide_eq_false_iff_not]
            exact fun h2 => he (Prod.ext h1 h2)
          · exact .inl (by simpa using h1)
        rw [hb]
        (repeat' (first | refine JC.seq ?_ | refine JC.ops ?_ | refine JO.nil ?_ | refine JX.thenN ?_ | (apply r_assign; exact rfl; exact rfl; exact rfl) | refine JX.thenR ?_ | refine JC.ret ?_ | refine JC.condT rfl ?_ | refine JX.blockR ?_))
        exact JX.ret1 rfl (fun a w' st => ⟨st.kp, IsB.f (fun h => he (by rw [h]))⟩)
    · (repeat' (first | refine JC.seq ?_ | refine JC.ops ?_ | refine JO.nil ?_ | refine JX.thenN ?_ | (apply r_move; exact rfl; exact rfl; exact rfl) | (apply r_assign; exact rfl; exact rfl; exact rfl) | (apply r_lenX; exact rfl; exact rfl; exact rfl; (first | assumption | exact WX.rd (by assumption) rfl [] | exact OwnX.rd (by assumption))) | (apply r_lss; exact rfl; exact rfl; exact rfl; exact rfl; all_goals intro hc; all_goals try (exfalso; omega)) | refine JX.thenE ?_ | refine JC.exit ?_ | refine JC.ret ?_ | refine JC.condF rfl ?_ | refine JX.blockE ?_))
      refine JX.ret1 rfl (fun a w' st => ⟨st.kp, IsB.t (ext_getD (d := w0x) (by omega) (fun j hj => hpr j (by omega)))⟩)

set_option maxHeartbeats 2000000 in
theorem c_same (w : World) (v u : Value) (a b : XM) (ha : IsX w v a) (hb : IsX w u b) (hl : a.E.length < 1000000000) (hl' : b.E.length < 1000000000) : Calls Tryd.prog 22 #[v, u] w (Ret fun v w' => Kp [] w w' ∧ IsB (a = b) v) := by
  obtain ⟨E, rfl, hE⟩ := ha
  obtain ⟨E', rfl, hE'⟩ := hb
  refine calls_of_S [] [] (by simp) [] Tryd.func22 rfl mixed (by kernel_rfl) Tryd.ntmps22 Tryd.results22 rfl ⟨by simp, by simp⟩ (by simp) ?_
  simp only [toS, textOps, toSOp, kindAt, kindOf, odAt, sopsAt, ordOf, zipF]
  (repeat' (first | refine JC.seq ?_ | refine JC.ops ?_ | refine JO.nil ?_ | refine JX.thenN ?_ | (apply r_move; exact rfl; exact rfl; exact rfl) | (apply r_fieldAddr; exact rfl; exact rfl; exact rfl) | (apply r_assign; exact rfl; exact rfl; exact rfl) | (apply r_load; exact rfl; exact rfl; exact rfl; exact rfl; (first | exact at0 | exact at1 | exact at2 | exact at3 | exact at4 | exact at5 | exact at6 | exact at7 | exact at8 | exact at9); exact rfl) | (apply r_pickT; exact rfl; exact rfl; exact rfl; exact rfl) | (apply r_pickF; exact rfl; exact rfl; exact rfl; exact rfl) | (apply r_eql; exact rfl; exact rfl; exact rfl; exact rfl; all_goals intro hc; all_goals try (exfalso; omega)) | (apply r_boxA; exact rfl; exact rfl; exact rfl; exact rfl; intro _) | refine JC.ret ?_ | (apply r_skip; exact rfl; exact rfl; (first | (intro h; cases h; done) | (intro _; rfl)))))
  all_goals first
    | exact JX.ret1 rfl (fun a w' st => ⟨st.kp, IsB.f (fun h => by subst h; first | exact hc rfl | (rename_i hd; exact hd rfl) | omega)⟩)
    | skip
  refine r_call0 trivial rfl rfl rfl (fun w hk _ => c_Lists w _ _ _ _ _ _ (hE.mono hk) (hE'.mono hk) hl hl') fun w v w' _ _ _ hR => ?_
  obtain ⟨b', rfl, hb'⟩ := hR
  (repeat' (first | refine JO.nil ?_ | refine JX.thenN ?_ | (apply r_assign; exact rfl; exact rfl; exact rfl) | (apply r_pickT; exact rfl; exact rfl; exact rfl; exact rfl) | refine JC.ret ?_))
  refine JX.ret1 rfl (fun a w' st => ⟨st.kp, b', rfl, hb'.trans ⟨fun h => XM.ext' (by omega) (by omega) h, fun h => by rw [h]⟩⟩)

/-- One is not canonical. -/
theorem canon_bad {xs : List WR} {k : Nat} (hk : k < xs.length) (h : badW (xs.getD k w0x) = true) : ¬ Canon xs := fun hc => canon_iff.1 hc ⟨_, mem_getD hk, h⟩

set_option maxHeartbeats 2000000 in
theorem c_refCanonical (w : World) (E : Value) (n : Nat) (xs : List WR) (hE : WX w E n xs) (hn : n < 1000000000) :
    Calls Tryd.prog 72 #[E] w (Ret fun v w' => Kp [] w w' ∧ IsB (Canon xs) v) := by
  have hl := hE.len
  refine calls_of_S [] [] (by simp) [] Tryd.func72 rfl mixed (by kernel_rfl) Tryd.ntmps72 Tryd.results72 rfl ⟨by simp, by simp⟩ (by simp) ?_
  simp only [toS, textOps, toSOp, kindAt, kindOf, odAt, sopsAt, ordOf, zipF]
  have hR := WX.rd (c := ⟨Tryd.prog, 40, w, [], by simp⟩) hE rfl []
  (repeat' (first | refine JC.seq ?_ | refine JC.ops ?_ | refine JO.nil ?_ | refine JX.thenN ?_ | (apply r_assign; exact rfl; exact rfl; exact rfl) | refine JC.block ?_))
  refine JC.loopH (ι := Nat) ⟨fun k => [(3, nv k), (0, E)], fun _ => [], fun k => k ≤ n ∧ ∀ j, j < k → badW (xs.getD j w0x) = false, fun k => n - k⟩ 0 ⟨by omega, fun j h => by omega⟩ (by repeat first | exact trivial | refine ⟨rfl, ?_⟩) (HSub.nil _) (fun k hk => ?_)
  obtain ⟨hkn, hpr⟩ := hk
  dsimp only
  by_cases hlt : k < n
  · (repeat' (first | refine JC.seq ?_ | refine JC.ops ?_ | refine JO.nil ?_ | refine JX.thenN ?_ | (apply r_move; exact rfl; exact rfl; exact rfl) | (apply r_idxX; exact rfl; exact rfl; exact rfl; exact rfl; (first | assumption | exact WX.rd (by assumption) rfl [] | exact OwnX.rd (by assumption)); (first | assumption | omega)) | (apply r_ldXm; exact rfl; exact rfl; exact rfl; exact rfl; (first | assumption | exact WX.rd (by assumption) rfl [] | exact OwnX.rd (by assumption)); (repeat' first | exact HSub.nil _ | exact HSub.hd | exact HSub.in0 | exact HSub.refl _ | refine HSub.skip ?_ | refine HSub.skipN ?_); (first | assumption | omega)) | (apply r_fieldX; exact rfl; exact rfl; exact rfl; (first | assumption | exact WX.rd (by assumption) rfl [] | exact OwnX.rd (by assumption)); omega) | (apply r_lenX; exact rfl; exact rfl; exact rfl; (first | assumption | exact WX.rd (by assumption) rfl [] | exact OwnX.rd (by assumption))) | (apply r_eqS; exact rfl; exact rfl; exact rfl; exact rfl) | (apply r_lss; exact rfl; exact rfl; exact rfl; exact rfl; all_goals intro hc; all_goals try (exfalso; omega)) | refine JC.skip ?_ | refine JC.condT rfl ?_ | refine JC.block ?_))
    have hxk : ∀ x, xs.getD k w0x = x → badW x = true → ¬ Canon xs := fun x hx hb => canon_bad (k := k) (by omega) (by rw [hx]; exact hb)
    have hnx : ∀ x, xs.getD k w0x = x → badW x = false → ∀ j, j < k + 1 → badW (xs.getD j w0x) = false := fun x hx hb j hj => by
      rcases Nat.lt_or_ge j k with h | h
      · exact hpr j h
      · obtain rfl : j = k := by omega
        rw [hx]; exact hb
    rcases hx : xs.getD k w0x with ⟨p, l⟩
    cases l with
    | nil =>
      simp only [decide_true]
      (repeat' (first | (apply r_move; exact rfl; exact rfl; exact rfl) | (apply r_idxX; exact rfl; exact rfl; exact rfl; exact rfl; (first | assumption | exact WX.rd (by assumption) rfl [] | exact OwnX.rd (by assumption)); (first | assumption | omega)) | (apply r_ldXs; exact rfl; exact rfl; exact rfl; exact rfl; (first | assumption | exact WX.rd (by assumption) rfl [] | exact OwnX.rd (by assumption)); (repeat' first | exact HSub.nil _ | exact HSub.hd | exact HSub.in0 | exact HSub.refl _ | refine HSub.skip ?_ | refine HSub.skipN ?_); (first | assumption | omega)) | (apply r_fieldX; exact rfl; exact rfl; exact rfl; (first | assumption | exact WX.rd (by assumption) rfl [] | exact OwnX.rd (by assumption)); omega) | (apply r_pickT; exact rfl; exact rfl; exact rfl; exact rfl)))
      rw [hx]
      cases p
      · (repeat' (first | (apply r_move; exact rfl; exact rfl; exact rfl) | (apply r_idxX; exact rfl; exact rfl; exact rfl; exact rfl; (first | assumption | exact WX.rd (by assumption) rfl [] | exact OwnX.rd (by assumption)); (first | assumption | omega)) | (apply r_ldXm; exact rfl; exact rfl; exact rfl; exact rfl; (first | assumption | exact WX.rd (by assumption) rfl [] | exact OwnX.rd (by assumption)); (repeat' first | exact HSub.nil _ | exact HSub.hd | exact HSub.in0 | exact HSub.refl _ | refine HSub.skip ?_ | refine HSub.skipN ?_); (first | assumption | omega)) | (apply r_fieldX; exact rfl; exact rfl; exact rfl; (first | assumption | exact WX.rd (by assumption) rfl [] | exact OwnX.rd (by assumption)); omega) | (apply r_neS; exact rfl; exact rfl; exact rfl; exact rfl)))
        rw [hx, show decide ((false, ([] : List UInt8)).snd ≠ []) = false from rfl]
        (repeat' (first | refine JC.ops ?_ | refine JO.nil ?_ | refine JX.thenN ?_ | (apply r_move; exact rfl; exact rfl; exact rfl) | (apply r_assign; exact rfl; exact rfl; exact rfl) | (apply r_add1; exact rfl; exact rfl; exact rfl; exact rfl; omega) | (apply r_pickF; exact rfl; exact rfl; exact rfl; exact rfl) | refine JC.skip ?_ | refine JC.condF rfl ?_ | refine JX.blockN ?_ | (apply r_skip; exact rfl; exact rfl; (first | (intro h; cases h; done) | (intro _; rfl)))))
        exact JX.roundH (k + 1) ⟨by omega, hnx _ hx rfl⟩ (by dsimp only; omega) (by repeat first | exact trivial | refine ⟨rfl, ?_⟩) (HSub.nil _)
      · (repeat' (first | refine JC.seq ?_ | refine JC.ops ?_ | refine JO.nil ?_ | refine JX.thenN ?_ | (apply r_assign; exact rfl; exact rfl; exact rfl) | (apply r_pickT; exact rfl; exact rfl; exact rfl; exact rfl) | refine JX.thenR ?_ | refine JC.ret ?_ | refine JC.condT rfl ?_ | refine JX.blockR ?_ | (apply r_skip; exact rfl; exact rfl; (first | (intro h; cases h; done) | (intro _; rfl)))))
        exact JX.ret1 rfl (fun a w' st => ⟨st.kp, IsB.f (hxk _ hx rfl)⟩)
    | cons x r =>
      rw [show decide ((p, x :: r).snd = ([] : List UInt8)) = false from rfl]
      (repeat' (first | (apply r_move; exact rfl; exact rfl; exact rfl) | (apply r_idxX; exact rfl; exact rfl; exact rfl; exact rfl; (first | assumption | exact WX.rd (by assumption) rfl [] | exact OwnX.rd (by assumption)); (first | assumption | omega)) | (apply r_ldXm; exact rfl; exact rfl; exact rfl; exact rfl; (first | assumption | exact WX.rd (by assumption) rfl [] | exact OwnX.rd (by assumption)); (repeat' first | exact HSub.nil _ | exact HSub.hd | exact HSub.in0 | exact HSub.refl _ | refine HSub.skip ?_ | refine HSub.skipN ?_); (first | assumption | omega)) | (apply r_fieldX; exact rfl; exact rfl; exact rfl; (first | assumption | exact WX.rd (by assumption) rfl [] | exact OwnX.rd (by assumption)); omega) | (apply r_pickF; exact rfl; exact rfl; exact rfl; exact rfl) | (apply r_neS; exact rfl; exact rfl; exact rfl; exact rfl) | (apply r_skip; exact rfl; exact rfl; (first | (intro h; cases h; done) | (intro _; rfl)))))
      rw [hx, show decide ((p, x :: r).snd ≠ ([] : List UInt8)) = true from rfl]
      (repeat' (first | (apply r_move; exact rfl; exact rfl; exact rfl) | (apply r_idxX; exact rfl; exact rfl; exact rfl; exact rfl; (first | assumption | exact WX.rd (by assumption) rfl [] | exact OwnX.rd (by assumption)); (first | assumption | omega)) | (apply r_ldXm; exact rfl; exact rfl; exact rfl; exact rfl; (first | assumption | exact WX.rd (by assumption) rfl [] | exact OwnX.rd (by assumption)); (repeat' first | exact HSub.nil _ | exact HSub.hd | exact HSub.in0 | exact HSub.refl _ | refine HSub.skip ?_ | refine HSub.skipN ?_); (first | assumption | omega)) | (apply r_fieldX; exact rfl; exact rfl; exact rfl; (first | assumption | exact WX.rd (by assumption) rfl [] | exact OwnX.rd (by assumption)); omega)))
      rw [hx]
      (repeat' (first | refine JC.seq ?_ | refine JC.ops ?_ | refine JO.nil ?_ | refine JX.thenN ?_ | (apply r_move; exact rfl; exact rfl; exact rfl) | (apply r_assign; exact rfl; exact rfl; exact rfl) | (apply r_add1; exact rfl; exact rfl; exact rfl; exact rfl; omega) | (apply r_pickT; exact rfl; exact rfl; exact rfl; exact rfl) | (apply r_pickF; exact rfl; exact rfl; exact rfl; exact rfl) | (apply r_idxS0; exact rfl; exact rfl; exact rfl; exact rfl) | (apply r_eql; exact rfl; exact rfl; exact rfl; exact rfl; all_goals intro hc; all_goals try (exfalso; omega)) | refine JX.thenR ?_ | refine JC.skip ?_ | refine JC.ret ?_ | refine JC.condT rfl ?_ | refine JC.condF rfl ?_ | refine JX.blockN ?_ | refine JX.blockR ?_))
      · exact JX.ret1 rfl (fun _ w' st => ⟨st.kp, IsB.f (hxk _ hx (by have : x = 0 := UInt8.toNat.inj (by simpa using hc); subst this; rfl))⟩)
      · exact JX.roundH (k + 1) ⟨by omega, hnx _ hx (by have : x ≠ 0 := fun e => hc (by subst e; rfl); simp [badW, this])⟩ (by dsimp only; omega) (by repeat first | exact trivial | refine ⟨rfl, ?_⟩) (HSub.nil _)
  · (repeat' (first | refine JC.seq ?_ | refine JC.ops ?_ | refine JO.nil ?_ | refine JX.thenN ?_ | (apply r_move; exact rfl; exact rfl; exact rfl) | (apply r_assign; exact rfl; exact rfl; exact rfl) | (apply r_lenX; exact rfl; exact rfl; exact rfl; (first | assumption | exact WX.rd (by assumption) rfl [] | exact OwnX.rd (by assumption))) | (apply r_lss; exact rfl; exact rfl; exact rfl; exact rfl; all_goals intro hc; all_goals try (exfalso; omega)) | refine JX.thenE ?_ | refine JC.exit ?_ | refine JC.ret ?_ | refine JC.condF rfl ?_ | refine JX.blockE ?_))
    refine JX.ret1 rfl (fun a w' st => ⟨st.kp, IsB.t (canon_iff.2 ?_)⟩)
    rintro ⟨x, hx, hb⟩
    obtain ⟨j, hj, rfl⟩ := List.mem_iff_getElem.1 hx
    have := hpr j (by omega)
    rw [List.getD, List.getElem?_eq_getElem hj, Option.getD_some, hb] at this
    cases this

set_option maxHeartbeats 1000000 in
theorem c_refRight (w : World) (v : Value) (a : XM) (ha : IsX w v a) (hl : a.E.length < 1000000000) : Calls Tryd.prog 55 #[v] w (Ret fun v w' => Kp [] w w' ∧ IsB (RX a) v) := by
  obtain ⟨E, rfl, hE⟩ := ha
  by_cases hf : 0 ≤ a.R ∧ a.R ≤ 200 ∧ 0 ≤ a.C ∧ a.C ≤ 200
  · obtain ⟨R, C, xs⟩ := a
    obtain ⟨h1, h2, h3, h4⟩ := hf
    dsimp only at *
    obtain ⟨r, rfl⟩ := Int.eq_ofNat_of_zero_le h1
    obtain ⟨c, rfl⟩ := Int.eq_ofNat_of_zero_le h3
    have hr : r ≤ 200 := by omega
    have hc : c ≤ 200 := by omega
    have hrc := rcZ hr hc
    have hiff := RX.iff (E := xs) hr hc
    refine calls_of_S [] [] (by simp) [] Tryd.func55 rfl mixed (by kernel_rfl) Tryd.ntmps55 Tryd.results55 rfl ⟨by simp, by simp⟩ (by simp) ?_
    simp only [toS, textOps, toSOp, kindAt, kindOf, odAt, sopsAt, ordOf, zipF]
    have hR := WX.rd (c := ⟨Tryd.prog, 25, w, [], by simp⟩) hE rfl []
    (repeat' (first | refine JC.seq ?_ | refine JC.ops ?_ | refine JO.nil ?_ | refine JX.thenN ?_ | (apply r_fieldAddr; exact rfl; exact rfl; exact rfl) | (apply r_assign; exact rfl; exact rfl; exact rfl) | (apply r_load; exact rfl; exact rfl; exact rfl; exact rfl; (first | exact at0 | exact at1 | exact at2 | exact at3 | exact at4 | exact at5 | exact at6 | exact at7 | exact at8 | exact at9); exact rfl) | (apply r_boxA; exact rfl; exact rfl; exact rfl; exact rfl; intro _)))
    refine r_call0 trivial rfl rfl rfl (fun w _ _ => c_refFits r c w) fun w v w' _ _ _ hv => ?_
    obtain ⟨b', rfl, hb⟩ := hv
    obtain rfl := hb.2 ⟨h1, h2, h3, h4⟩
    (repeat' (first | refine JC.seq ?_ | refine JC.ops ?_ | refine JO.nil ?_ | refine JX.thenN ?_ | (apply r_move; exact rfl; exact rfl; exact rfl) | (apply r_fieldAddr; exact rfl; exact rfl; exact rfl) | (apply r_assign; exact rfl; exact rfl; exact rfl) | (apply r_load; exact rfl; exact rfl; exact rfl; exact rfl; (first | exact at0 | exact at1 | exact at2 | exact at3 | exact at4 | exact at5 | exact at6 | exact at7 | exact at8 | exact at9); exact rfl) | (apply r_lenX; exact rfl; exact rfl; exact rfl; (first | assumption | exact WX.rd (by assumption) rfl [] | exact OwnX.rd (by assumption))) | (apply r_mulN; exact rfl; exact rfl; exact rfl; exact rfl; (first | assumption | omega)) | (apply r_pickF; exact rfl; exact rfl; exact rfl; exact rfl) | (apply r_not; exact rfl; exact rfl; exact rfl) | (apply r_neq; exact rfl; exact rfl; exact rfl; exact rfl; all_goals intro hc; all_goals try (exfalso; omega)) | refine JX.thenR ?_ | refine JC.skip ?_ | refine JC.ret ?_ | refine JC.condT rfl ?_ | refine JC.condF rfl ?_))
    · exact JX.ret1 rfl (fun a w' st => ⟨st.kp, IsB.f (fun h => by have := (hiff.1 h).1; omega)⟩)
    · refine r_call0 trivial rfl rfl rfl (fun w' hk hs => c_refCanonical w' E _ _ (hE.mono hk) hl) fun w v w' _ _ _ hv => ?_
      obtain ⟨b', rfl, hb⟩ := hv
      (repeat' (first | refine JO.nil ?_ | refine JX.thenN ?_ | (apply r_assign; exact rfl; exact rfl; exact rfl) | refine JC.ret ?_))
      exact JX.ret1 rfl (fun a w' st => ⟨st.kp, b', rfl, hb.trans ⟨fun h => hiff.2 ⟨by omega, h⟩, fun h => (hiff.1 h).2⟩⟩)
  · refine calls_of_S [] [] (by simp) [] Tryd.func55 rfl mixed (by kernel_rfl) Tryd.ntmps55 Tryd.results55 rfl ⟨by simp, by simp⟩ (by simp) ?_
    simp only [toS, textOps, toSOp, kindAt, kindOf, odAt, sopsAt, ordOf, zipF]
    (repeat' (first | refine JC.seq ?_ | refine JC.ops ?_ | refine JO.nil ?_ | refine JX.thenN ?_ | (apply r_fieldAddr; exact rfl; exact rfl; exact rfl) | (apply r_assign; exact rfl; exact rfl; exact rfl) | (apply r_load; exact rfl; exact rfl; exact rfl; exact rfl; (first | exact at0 | exact at1 | exact at2 | exact at3 | exact at4 | exact at5 | exact at6 | exact at7 | exact at8 | exact at9); exact rfl) | (apply r_boxA; exact rfl; exact rfl; exact rfl; exact rfl; intro _)))
    refine r_call0 trivial rfl rfl rfl (fun w _ _ => c_refFits a.R a.C w) fun w v w' _ _ _ hv => ?_
    obtain ⟨b', rfl, hb⟩ := hv
    cases b' with
    | true => exact absurd (hb.1 rfl) hf
    | false =>
      (repeat' (first | refine JC.seq ?_ | refine JC.ops ?_ | refine JO.nil ?_ | refine JX.thenN ?_ | (apply r_move; exact rfl; exact rfl; exact rfl) | (apply r_assign; exact rfl; exact rfl; exact rfl) | (apply r_pickT; exact rfl; exact rfl; exact rfl; exact rfl) | (apply r_not; exact rfl; exact rfl; exact rfl) | refine JX.thenR ?_ | refine JC.ret ?_ | refine JC.condT rfl ?_ | (apply r_skip; exact rfl; exact rfl; (first | (intro h; cases h; done) | (intro _; rfl)))))
      exact JX.ret1 rfl (fun a w' st => ⟨st.kp, IsB.f (fun h => hf h.fits)⟩)

end Go.Proofs.YtdlmnloikakjpaaDoor

/- Walks of the reference of chapter 02: Join, Part. ROWZ -/
namespace Go.Proofs.YtdlmnloikakjpaaDoor
open Go Go.RowKit
set_option linter.unusedSimpArgs false
set_option linter.unusedVariables false
set_option linter.unusedSectionVars false

set_option maxHeartbeats 4000000 in
theorem c_refJoin (w : World) (v u : Value) (m n : ZM) (hm : RtZ m) (hn : RtZ n) (hr : m.r = n.r) (hcc : m.c + n.c ≤ 200) (hv : IsM w v m) (hu : IsM w u n) :
    Calls Tryd.prog 19 #[v, u] w (Ret fun v w' => Kp [] w w' ∧ GivesMB (joinZ m n) true w v w') := by
  have hvX := hv.x
  have huX := hu.x
  obtain ⟨E, rfl, hE⟩ := hv
  obtain ⟨E', rfl, hE'⟩ := hu
  have hle := hm.le
  have hle' := hn.le
  have hmr := hm.r
  have hmc := hm.c
  have hnc := hn.c
  rw [hm.len] at hE
  rw [hn.len] at hE'
  refine calls_of_S [⟨9, 2, [], []⟩, ⟨10, 2, [], []⟩] [] (by simp) [] Tryd.func19 rfl mixed (by kernel_rfl) Tryd.ntmps19 Tryd.results19 rfl ⟨by simp, by simp⟩ (by simp) ?_
  simp only [toS, textOps, toSOp, kindAt, kindOf, odAt, sopsAt, ordOf, zipF]
  have hR := WZ.rd (c := ⟨Tryd.prog, 83, w, [], by simp⟩) hE rfl []
  have hR' := WZ.rd (c := ⟨Tryd.prog, 83, w, [], by simp⟩) hE' rfl []
  (repeat' (first | refine JC.seq ?_ | refine JC.ops ?_ | refine JO.nil ?_ | refine JX.thenN ?_ | (apply r_assign; exact rfl; exact rfl; exact rfl) | (apply r_loadN; exact rfl; exact rfl; exact rfl; exact rfl; (first | exact at0 | exact at1 | exact at2 | exact at3 | exact at4 | exact at5 | exact at6 | exact at7 | exact at8 | exact at9); exact rfl) | (apply r_allocZ; exact rfl; exact rfl; exact rfl; intro _) | (apply r_boxA; exact rfl; exact rfl; exact rfl; exact rfl; intro _)))
  rename_i b2 b3 b4
  refine r_call0 trivial rfl rfl rfl (fun w hk _ => c_refRight w _ m.xm (hvX.mono hk) (by simp [ZM.xm]; omega)) fun w v w' _ _ _ hc0 => ?_
  obtain ⟨b', rfl, hb⟩ := hc0
  obtain rfl := hb.2 hm.rx
  (repeat' (first | refine JC.seq ?_ | refine JC.ops ?_ | refine JO.nil ?_ | refine JX.thenN ?_ | (apply r_assign; exact rfl; exact rfl; exact rfl) | (apply r_loadN; exact rfl; exact rfl; exact rfl; exact rfl; (first | exact at0 | exact at1 | exact at2 | exact at3 | exact at4 | exact at5 | exact at6 | exact at7 | exact at8 | exact at9); exact rfl)))
  refine r_call0 trivial rfl rfl rfl (fun w hk _ => c_refRight w _ n.xm (huX.mono hk) (by simp [ZM.xm]; omega)) fun w v w' _ _ _ hc0 => ?_
  obtain ⟨b', rfl, hb'⟩ := hc0
  obtain rfl := hb'.2 hn.rx
  (repeat' (first | refine JC.seq ?_ | refine JC.ops ?_ | refine JO.nil ?_ | refine JX.thenN ?_ | (apply r_move; exact rfl; exact rfl; exact rfl) | (apply r_fieldAddr; exact rfl; exact rfl; exact rfl) | (apply r_assign; exact rfl; exact rfl; exact rfl) | (apply r_load; exact rfl; exact rfl; exact rfl; exact rfl; (first | exact at0 | exact at1 | exact at2 | exact at3 | exact at4 | exact at5 | exact at6 | exact at7 | exact at8 | exact at9); exact rfl) | (apply r_build2; exact rfl; exact rfl; exact rfl; exact rfl) | (apply r_addN; exact rfl; exact rfl; exact rfl; exact rfl; omega) | (apply r_pickF; exact rfl; exact rfl; exact rfl; exact rfl) | (apply r_not; exact rfl; exact rfl; exact rfl) | (apply r_storeN; exact rfl; (first | exact trivial | exact ⟨rfl, rfl⟩); exact rfl; exact rfl; (first | exact at0 | exact at1 | exact at2 | exact at3 | exact at4 | exact at5 | exact at6 | exact at7 | exact at8 | exact at9); exact rfl; exact rfl; exact rfl) | (apply r_gtr; exact rfl; exact rfl; exact rfl; exact rfl; all_goals intro hc; all_goals try (exfalso; omega)) | (apply r_neq; exact rfl; exact rfl; exact rfl; exact rfl; all_goals intro hc; all_goals try (exfalso; omega)) | (apply r_allocZ; exact rfl; exact rfl; exact rfl; intro _) | (apply r_storeN; exact rfl; (first | exact trivial | exact ⟨rfl, rfl⟩); exact rfl; exact rfl; (first | exact at0 | exact at1 | exact at2 | exact at3 | exact at4 | exact at5 | exact at6 | exact at7 | exact at8 | exact at9); exact rfl; exact rfl; exact rfl) | refine JC.skip ?_ | refine JC.condF rfl ?_ | refine JC.block ?_))
  all_goals first
    | (exfalso; omega)
    | skip
  rename_i b8
  refine JC.loopH (ι := Nat × Nat × SHeap × Value) ⟨fun z => [(9, nv z.1), (2, .pointer (some ⟨b2, 0, none⟩)), (3, .pointer (some ⟨b3, 0, none⟩)), (4, .pointer (some ⟨b4, 0, none⟩)), (8, .pointer (some ⟨b8, 0, none⟩))],
    fun z => [(b8, .cells #[nv m.r, nv (m.c + n.c), z.2.2.2] 29), (b4, .cells #[iv 0, iv 0, .slice none 0 0] 29), (b3, .cells #[nv n.r, nv n.c, E'] 29), (b2, .cells #[nv m.r, nv m.c, E] 29)] ++ (z.2.2.1 ++ []),
    fun z => z.1 ≤ m.r ∧ z.2.1 = z.1 * (m.c + n.c) ∧ OwnZ z.2.2.1 z.2.2.2 z.2.1 (joinS m n (List.range z.1)), fun z => m.r - z.1⟩ (0, 0, [], .slice none 0 0) ⟨by omega, by simp, OwnZ.nil⟩ (by repeat first | exact trivial | refine ⟨rfl, ?_⟩) (by (repeat' first | exact HSub.refl _ | exact HSub.nil _ | refine HSub.at 0 rfl ?_ | refine HSub.at 1 rfl ?_ | refine HSub.at 2 rfl ?_ | refine HSub.at 3 rfl ?_ | refine HSub.at 4 rfl ?_ | refine HSub.at 5 rfl ?_ | refine HSub.at 6 rfl ?_ | refine HSub.at 7 rfl ?_ | refine HSub.at 8 rfl ?_ | refine HSub.at 9 rfl ?_ | refine HSub.at 10 rfl ?_ | refine HSub.at 11 rfl ?_ | refine HSub.at 12 rfl ?_ | refine HSub.at 13 rfl ?_ | refine HSub.at 14 rfl ?_ | refine HSub.at 15 rfl ?_ | refine HSub.at 16 rfl ?_ | refine HSub.at 17 rfl ?_ | refine HSub.at 18 rfl ?_ | refine HSub.at 19 rfl ?_ | refine HSub.segH ?_ | refine HSub.skip ?_ | refine HSub.skipN ?_)) (fun z hz => ?_)
  obtain ⟨i, k, N, v8⟩ := z
  obtain ⟨hi, hk, hO⟩ := hz
  dsimp only at hi hk hO ⊢
  obtain ⟨A8, c8, rfl⟩ := hO.form
  by_cases hlt : i < m.r
  · have hrow1 := zx_row (c := m.c) hlt
    have hrow2 := zx_row (c := n.c) (show i < n.r by omega)
    have hk2 : k ≤ 40000 := by rw [hk]; exact Nat.mul_le_mul (show i ≤ 200 by omega) hcc
    have e1 : (i + 1) * m.c - i * m.c = m.c := by rw [Nat.add_mul, Nat.one_mul]; omega
    have e2 : (i + 1) * n.c - i * n.c = n.c := by rw [Nat.add_mul, Nat.one_mul]; omega
    have q1 : i * m.c ≤ 40000 := Nat.mul_le_mul (show i ≤ 200 by omega) hmc
    have q2 : (i + 1) * m.c ≤ 40000 := Nat.mul_le_mul (show i + 1 ≤ 200 by omega) hmc
    have q3 : i * n.c ≤ 40000 := Nat.mul_le_mul (show i ≤ 200 by omega) hnc
    have q4 : (i + 1) * n.c ≤ 40000 := Nat.mul_le_mul (show i + 1 ≤ 200 by omega) hnc
    (repeat' (first | refine JC.seq ?_ | refine JC.ops ?_ | refine JO.nil ?_ | refine JX.thenN ?_ | (apply r_move; exact rfl; exact rfl; exact rfl) | (apply r_fieldAddr; exact rfl; exact rfl; exact rfl) | (apply r_load; exact rfl; exact rfl; exact rfl; exact rfl; (first | exact at0 | exact at1 | exact at2 | exact at3 | exact at4 | exact at5 | exact at6 | exact at7 | exact at8 | exact at9); exact rfl) | (apply r_lss; exact rfl; exact rfl; exact rfl; exact rfl; all_goals intro hc; all_goals try (exfalso; omega)) | refine JC.skip ?_ | refine JC.condT rfl ?_ | refine JC.block ?_))
    refine JC.opsDs [(b8, .cells #[nv m.r, nv (m.c + n.c), .slice A8 k c8] 29), (b2, .cells #[nv m.r, nv m.c, E] 29)] (by (first | exact HSub.refl _ | (repeat' first | exact HSub.nil _ | exact HSub.refl _ | refine HSub.at 0 rfl ?_ | refine HSub.at 1 rfl ?_ | refine HSub.at 2 rfl ?_ | refine HSub.at 3 rfl ?_ | refine HSub.at 4 rfl ?_ | refine HSub.at 5 rfl ?_ | refine HSub.at 6 rfl ?_ | refine HSub.at 7 rfl ?_))) ?_
    (repeat' (first | (apply r_move; exact rfl; exact rfl; exact rfl) | (apply r_fieldAddr; exact rfl; exact rfl; exact rfl) | (apply r_load; exact rfl; exact rfl; exact rfl; exact rfl; (first | exact at0 | exact at1 | exact at2 | exact at3 | exact at4 | exact at5 | exact at6 | exact at7 | exact at8 | exact at9); exact rfl) | (apply r_add1; exact rfl; exact rfl; exact rfl; exact rfl; omega) | (apply r_mulN; exact rfl; exact rfl; exact rfl; exact rfl; (first | assumption | omega))))
    refine r_sliceZ (l := i * m.c) (h' := (i + 1) * m.c) rfl rfl rfl hR rfl rfl (.inl rfl) rfl rfl (.inl rfl) (Nat.mul_le_mul_right _ (Nat.le_succ i)) hrow1 (fun v3 hv3 _ => ?_)
    rw [e1] at hv3
    skip
    refine r_appendZL (A := [_, _, _, _]) (B := []) hO hv3 (HSub.nil _) rfl (by (first | exact HSub.refl _ | (repeat' first | exact HSub.nil _ | exact HSub.refl _ | refine HSub.at 0 rfl ?_ | refine HSub.at 1 rfl ?_ | refine HSub.at 2 rfl ?_ | refine HSub.at 3 rfl ?_ | refine HSub.at 4 rfl ?_ | refine HSub.at 5 rfl ?_ | refine HSub.at 6 rfl ?_ | refine HSub.at 7 rfl ?_))) rfl rfl rfl rfl (by omega) (fun v4 N4 hO4 => ?_)
    obtain ⟨A4, c4, rfl⟩ := hO4.form
    (repeat' (first | refine JO.nil ?_ | refine JX.thenN ?_ | (apply r_fieldAddr; exact rfl; exact rfl; exact rfl) | (apply r_store; exact rfl; (first | exact trivial | exact ⟨rfl, rfl⟩); exact rfl; exact rfl; (first | exact at0 | exact at1 | exact at2 | exact at3 | exact at4 | exact at5 | exact at6 | exact at7 | exact at8 | exact at9); exact rfl; exact rfl; (first | exact Nat.le_of_ble_eq_true rfl | (simp; done) | omega))))
    refine JC.opsDs [(b8, .cells #[nv m.r, nv (m.c + n.c), .slice A4 (k + m.c) c4] 29), (b3, .cells #[nv n.r, nv n.c, E'] 29)] (by (first | exact HSub.refl _ | (repeat' first | exact HSub.nil _ | exact HSub.refl _ | refine HSub.at 0 rfl ?_ | refine HSub.at 1 rfl ?_ | refine HSub.at 2 rfl ?_ | refine HSub.at 3 rfl ?_ | refine HSub.at 4 rfl ?_ | refine HSub.at 5 rfl ?_ | refine HSub.at 6 rfl ?_ | refine HSub.at 7 rfl ?_))) ?_
    (repeat' (first | (apply r_move; exact rfl; exact rfl; exact rfl) | (apply r_fieldAddr; exact rfl; exact rfl; exact rfl) | (apply r_load; exact rfl; exact rfl; exact rfl; exact rfl; (first | exact at0 | exact at1 | exact at2 | exact at3 | exact at4 | exact at5 | exact at6 | exact at7 | exact at8 | exact at9); exact rfl) | (apply r_add1; exact rfl; exact rfl; exact rfl; exact rfl; omega) | (apply r_mulN; exact rfl; exact rfl; exact rfl; exact rfl; (first | assumption | omega))))
    refine r_sliceZ (l := i * n.c) (h' := (i + 1) * n.c) rfl rfl rfl hR' rfl rfl (.inl rfl) rfl rfl (.inl rfl) (Nat.mul_le_mul_right _ (Nat.le_succ i)) (by rw [← hr] at hrow2 ⊢; exact hrow2) (fun v5 hv5 _ => ?_)
    rw [e2] at hv5
    skip
    refine r_appendZL (A := [_, _, _, _]) (B := []) hO4 hv5 (HSub.nil _) rfl (by (first | exact HSub.refl _ | (repeat' first | exact HSub.nil _ | exact HSub.refl _ | refine HSub.at 0 rfl ?_ | refine HSub.at 1 rfl ?_ | refine HSub.at 2 rfl ?_ | refine HSub.at 3 rfl ?_ | refine HSub.at 4 rfl ?_ | refine HSub.at 5 rfl ?_ | refine HSub.at 6 rfl ?_ | refine HSub.at 7 rfl ?_))) rfl rfl rfl rfl (by omega) (fun v6 N6 hO6 => ?_)
    obtain ⟨A6, c6, rfl⟩ := hO6.form
    (repeat' (first | refine JC.ops ?_ | refine JO.nil ?_ | refine JX.thenN ?_ | (apply r_move; exact rfl; exact rfl; exact rfl) | (apply r_fieldAddr; exact rfl; exact rfl; exact rfl) | (apply r_assign; exact rfl; exact rfl; exact rfl) | (apply r_add1; exact rfl; exact rfl; exact rfl; exact rfl; omega) | (apply r_store; exact rfl; (first | exact trivial | exact ⟨rfl, rfl⟩); exact rfl; exact rfl; (first | exact at0 | exact at1 | exact at2 | exact at3 | exact at4 | exact at5 | exact at6 | exact at7 | exact at8 | exact at9); exact rfl; exact rfl; (first | exact Nat.le_of_ble_eq_true rfl | (simp; done) | omega)) | refine JX.blockN ?_))
    have hO7 : OwnZ N6 (.slice A6 (k + m.c + n.c) c6) (k + m.c + n.c) (joinS m n (List.range (i + 1))) := by
      rw [List.range_succ, joinS_next]
      exact hO6
    exact JX.roundH (i + 1, k + m.c + n.c, N6, _) ⟨by dsimp only; omega, by dsimp only; rw [hk, Nat.add_mul, Nat.one_mul, Nat.add_assoc], hO7⟩ (by dsimp only; omega) (by repeat first | exact trivial | refine ⟨rfl, ?_⟩) (HSub.refl _)
  · (repeat' (first | refine JC.seq ?_ | refine JC.ops ?_ | refine JO.nil ?_ | refine JX.thenN ?_ | (apply r_move; exact rfl; exact rfl; exact rfl) | (apply r_fieldAddr; exact rfl; exact rfl; exact rfl) | (apply r_assign; exact rfl; exact rfl; exact rfl) | (apply r_load; exact rfl; exact rfl; exact rfl; exact rfl; (first | exact at0 | exact at1 | exact at2 | exact at3 | exact at4 | exact at5 | exact at6 | exact at7 | exact at8 | exact at9); exact rfl) | (apply r_loadN; exact rfl; exact rfl; exact rfl; exact rfl; (first | exact at0 | exact at1 | exact at2 | exact at3 | exact at4 | exact at5 | exact at6 | exact at7 | exact at8 | exact at9); exact rfl) | (apply r_storeN; exact rfl; (first | exact trivial | exact ⟨rfl, rfl⟩); exact rfl; exact rfl; (first | exact at0 | exact at1 | exact at2 | exact at3 | exact at4 | exact at5 | exact at6 | exact at7 | exact at8 | exact at9); exact rfl; exact rfl; exact rfl) | (apply r_lss; exact rfl; exact rfl; exact rfl; exact rfl; all_goals intro hc; all_goals try (exfalso; omega)) | (apply r_storeN; exact rfl; (first | exact trivial | exact ⟨rfl, rfl⟩); exact rfl; exact rfl; (first | exact at0 | exact at1 | exact at2 | exact at3 | exact at4 | exact at5 | exact at6 | exact at7 | exact at8 | exact at9); exact rfl; exact rfl; exact rfl) | refine JX.thenE ?_ | refine JC.exit ?_ | refine JC.ret ?_ | refine JC.condF rfl ?_ | refine JX.blockE ?_))
    obtain rfl : i = m.r := by omega
    rw [joinS_end hm hn hr] at hO
    exact JX.retCT 1 rfl rfl rfl rfl (fun a w' st => ⟨st.kp, N, _, rfl, st.newOf rfl (by (repeat' first | exact HSub.nil _ | exact HSub.hd | exact HSub.in0 | exact HSub.refl _ | refine HSub.skip ?_ | refine HSub.skipN ?_)), OwnM.mk' hO⟩)

set_option maxHeartbeats 4000000 in
theorem c_refJoinF (w : World) (v u : Value) (a b : XM) (h : ¬ (RX a ∧ RX b ∧ a.R = b.R ∧ a.C + b.C ≤ 200)) (ha : IsX w v a) (hb : IsX w u b) (hl : a.E.length < 1000000000) (hl' : b.E.length < 1000000000) :
    Calls Tryd.prog 19 #[v, u] w (Ret fun v w' => Kp [] w w' ∧ v = .tuple #[zeroM, .bool false]) := by
  have ha0 := ha
  have hb0 := hb
  obtain ⟨E, rfl, hE⟩ := ha
  obtain ⟨E', rfl, hE'⟩ := hb
  refine calls_of_S [⟨9, 2, [], []⟩, ⟨10, 2, [], []⟩] [] (by simp) [] Tryd.func19 rfl mixed (by kernel_rfl) Tryd.ntmps19 Tryd.results19 rfl ⟨by simp, by simp⟩ (by simp) ?_
  simp only [toS, textOps, toSOp, kindAt, kindOf, odAt, sopsAt, ordOf, zipF]
  (repeat' (first | refine JC.seq ?_ | refine JC.ops ?_ | refine JO.nil ?_ | refine JX.thenN ?_ | (apply r_assign; exact rfl; exact rfl; exact rfl) | (apply r_loadN; exact rfl; exact rfl; exact rfl; exact rfl; (first | exact at0 | exact at1 | exact at2 | exact at3 | exact at4 | exact at5 | exact at6 | exact at7 | exact at8 | exact at9); exact rfl) | (apply r_allocZ; exact rfl; exact rfl; exact rfl; intro _) | (apply r_boxA; exact rfl; exact rfl; exact rfl; exact rfl; intro _)))
  refine r_call0 trivial rfl rfl rfl (fun w hk _ => c_refRight w _ a (ha0.mono hk) hl) fun w v w' _ _ _ hc0 => ?_
  obtain ⟨b1, rfl, hb1⟩ := hc0
  (repeat' (first | refine JC.seq ?_ | refine JC.ops ?_ | refine JO.nil ?_ | refine JX.thenN ?_ | (apply r_assign; exact rfl; exact rfl; exact rfl) | (apply r_loadN; exact rfl; exact rfl; exact rfl; exact rfl; (first | exact at0 | exact at1 | exact at2 | exact at3 | exact at4 | exact at5 | exact at6 | exact at7 | exact at8 | exact at9); exact rfl)))
  refine r_call0 trivial rfl rfl rfl (fun w hk _ => c_refRight w _ b (hb0.mono hk) hl') fun w v w' _ _ _ hc0 => ?_
  obtain ⟨b2, rfl, hb2⟩ := hc0
  cases b1 with
  | false =>
    (repeat' (first | refine JC.seq ?_ | refine JC.ops ?_ | refine JO.nil ?_ | refine JX.thenN ?_ | (apply r_move; exact rfl; exact rfl; exact rfl) | (apply r_assign; exact rfl; exact rfl; exact rfl) | (apply r_pickT; exact rfl; exact rfl; exact rfl; exact rfl) | (apply r_not; exact rfl; exact rfl; exact rfl) | (apply r_storeN; exact rfl; (first | exact trivial | exact ⟨rfl, rfl⟩); exact rfl; exact rfl; (first | exact at0 | exact at1 | exact at2 | exact at3 | exact at4 | exact at5 | exact at6 | exact at7 | exact at8 | exact at9); exact rfl; exact rfl; exact rfl) | (apply r_buildL; exact rfl; exact rfl; exact rfl; exact rfl; exact rfl) | (apply r_storeN; exact rfl; (first | exact trivial | exact ⟨rfl, rfl⟩); exact rfl; exact rfl; (first | exact at0 | exact at1 | exact at2 | exact at3 | exact at4 | exact at5 | exact at6 | exact at7 | exact at8 | exact at9); exact rfl; exact rfl; exact rfl) | refine JX.thenR ?_ | refine JC.ret ?_ | refine JC.condT rfl ?_ | (apply r_skip; exact rfl; exact rfl; (first | (intro h; cases h; done) | (intro _; rfl)))))
    exact JX.retCT 0 rfl rfl rfl rfl (fun a w' st => ⟨st.kp, rfl⟩)
  | true =>
    cases b2 with
    | false =>
      (repeat' (first | refine JC.seq ?_ | refine JC.ops ?_ | refine JO.nil ?_ | refine JX.thenN ?_ | (apply r_move; exact rfl; exact rfl; exact rfl) | (apply r_assign; exact rfl; exact rfl; exact rfl) | (apply r_pickT; exact rfl; exact rfl; exact rfl; exact rfl) | (apply r_pickF; exact rfl; exact rfl; exact rfl; exact rfl) | (apply r_not; exact rfl; exact rfl; exact rfl) | (apply r_storeN; exact rfl; (first | exact trivial | exact ⟨rfl, rfl⟩); exact rfl; exact rfl; (first | exact at0 | exact at1 | exact at2 | exact at3 | exact at4 | exact at5 | exact at6 | exact at7 | exact at8 | exact at9); exact rfl; exact rfl; exact rfl) | (apply r_buildL; exact rfl; exact rfl; exact rfl; exact rfl; exact rfl) | (apply r_storeN; exact rfl; (first | exact trivial | exact ⟨rfl, rfl⟩); exact rfl; exact rfl; (first | exact at0 | exact at1 | exact at2 | exact at3 | exact at4 | exact at5 | exact at6 | exact at7 | exact at8 | exact at9); exact rfl; exact rfl; exact rfl) | refine JX.thenR ?_ | refine JC.ret ?_ | refine JC.condT rfl ?_ | (apply r_skip; exact rfl; exact rfl; (first | (intro h; cases h; done) | (intro _; rfl)))))
      exact JX.retCT 0 rfl rfl rfl rfl (fun a w' st => ⟨st.kp, rfl⟩)
    | true =>
      have g1 := (hb1.1 rfl).fits
      have g2 := (hb2.1 rfl).fits
      (repeat' (first | refine JC.seq ?_ | refine JC.ops ?_ | refine JO.nil ?_ | refine JX.thenN ?_ | (apply r_move; exact rfl; exact rfl; exact rfl) | (apply r_fieldAddr; exact rfl; exact rfl; exact rfl) | (apply r_assign; exact rfl; exact rfl; exact rfl) | (apply r_load; exact rfl; exact rfl; exact rfl; exact rfl; (first | exact at0 | exact at1 | exact at2 | exact at3 | exact at4 | exact at5 | exact at6 | exact at7 | exact at8 | exact at9); exact rfl) | (apply r_build2; exact rfl; exact rfl; exact rfl; exact rfl) | (apply r_add; exact rfl; exact rfl; exact rfl; exact rfl; omega) | (apply r_pickT; exact rfl; exact rfl; exact rfl; exact rfl) | (apply r_pickF; exact rfl; exact rfl; exact rfl; exact rfl) | (apply r_not; exact rfl; exact rfl; exact rfl) | (apply r_storeN; exact rfl; (first | exact trivial | exact ⟨rfl, rfl⟩); exact rfl; exact rfl; (first | exact at0 | exact at1 | exact at2 | exact at3 | exact at4 | exact at5 | exact at6 | exact at7 | exact at8 | exact at9); exact rfl; exact rfl; exact rfl) | (apply r_gtr; exact rfl; exact rfl; exact rfl; exact rfl; all_goals intro hc; all_goals try (exfalso; omega)) | (apply r_neq; exact rfl; exact rfl; exact rfl; exact rfl; all_goals intro hc; all_goals try (exfalso; omega)) | (apply r_allocZ; exact rfl; exact rfl; exact rfl; intro _) | (apply r_buildL; exact rfl; exact rfl; exact rfl; exact rfl; exact rfl) | (apply r_storeN; exact rfl; (first | exact trivial | exact ⟨rfl, rfl⟩); exact rfl; exact rfl; (first | exact at0 | exact at1 | exact at2 | exact at3 | exact at4 | exact at5 | exact at6 | exact at7 | exact at8 | exact at9); exact rfl; exact rfl; exact rfl) | refine JX.thenR ?_ | refine JC.skip ?_ | refine JC.ret ?_ | refine JC.condT rfl ?_ | refine JC.condF rfl ?_ | refine JC.block ?_ | (apply r_skip; exact rfl; exact rfl; (first | (intro h; cases h; done) | (intro _; rfl)))))
      all_goals first
        | exact JX.retCT 0 rfl rfl rfl rfl (fun a w' st => ⟨st.kp, rfl⟩)
        | (exfalso; exact h ⟨hb1.1 rfl, hb2.1 rfl, by omega, by omega⟩)

set_option maxHeartbeats 4000000 in
theorem c_refPart (w : World) (v : Value) (m : ZM) (i0 j0 r c : Nat) (hm : RtZ m) (hi0 : i0 + r ≤ m.r) (hj0 : j0 + c ≤ m.c) (hv : IsM w v m) :
    Calls Tryd.prog 20 #[v, nv i0, nv j0, nv r, nv c] w (Ret fun v w' => Kp [] w w' ∧ GivesMB (partZ m i0 j0 r c) true w v w') := by
  have hvX := hv.x
  obtain ⟨E, rfl, hE⟩ := hv
  have hle := hm.le
  have hmr := hm.r
  have hmc := hm.c
  rw [hm.len] at hE
  refine calls_of_S [⟨8, 2, [], []⟩] [] (by simp) [] Tryd.func20 rfl mixed (by kernel_rfl) Tryd.ntmps20 Tryd.results20 rfl ⟨by simp, by simp⟩ (by simp) ?_
  simp only [toS, textOps, toSOp, kindAt, kindOf, odAt, sopsAt, ordOf, zipF]
  have hR := WZ.rd (c := ⟨Tryd.prog, 97, w, [], by simp⟩) hE rfl []
  (repeat' (first | refine JC.seq ?_ | refine JC.ops ?_ | refine JO.nil ?_ | refine JX.thenN ?_ | (apply r_assign; exact rfl; exact rfl; exact rfl) | (apply r_loadN; exact rfl; exact rfl; exact rfl; exact rfl; (first | exact at0 | exact at1 | exact at2 | exact at3 | exact at4 | exact at5 | exact at6 | exact at7 | exact at8 | exact at9); exact rfl) | (apply r_allocZ; exact rfl; exact rfl; exact rfl; intro _) | (apply r_boxA; exact rfl; exact rfl; exact rfl; exact rfl; intro _)))
  rename_i b5 b10
  refine r_call0 trivial rfl rfl rfl (fun w hk _ => c_refRight w _ m.xm (hvX.mono hk) (by simp [ZM.xm]; omega)) fun w v w' _ _ _ hc0 => ?_
  obtain ⟨b', rfl, hb⟩ := hc0
  obtain rfl := hb.2 hm.rx
  (repeat' (first | refine JC.seq ?_ | refine JC.ops ?_ | refine JO.nil ?_ | refine JX.thenN ?_ | (apply r_move; exact rfl; exact rfl; exact rfl) | (apply r_fieldAddr; exact rfl; exact rfl; exact rfl) | (apply r_assign; exact rfl; exact rfl; exact rfl) | (apply r_load; exact rfl; exact rfl; exact rfl; exact rfl; (first | exact at0 | exact at1 | exact at2 | exact at3 | exact at4 | exact at5 | exact at6 | exact at7 | exact at8 | exact at9); exact rfl) | (apply r_build2; exact rfl; exact rfl; exact rfl; exact rfl) | (apply r_subN; exact rfl; exact rfl; exact rfl; exact rfl; omega) | (apply r_pickF; exact rfl; exact rfl; exact rfl; exact rfl) | (apply r_not; exact rfl; exact rfl; exact rfl) | (apply r_storeN; exact rfl; (first | exact trivial | exact ⟨rfl, rfl⟩); exact rfl; exact rfl; (first | exact at0 | exact at1 | exact at2 | exact at3 | exact at4 | exact at5 | exact at6 | exact at7 | exact at8 | exact at9); exact rfl; exact rfl; exact rfl) | (apply r_lss; exact rfl; exact rfl; exact rfl; exact rfl; all_goals intro hc; all_goals try (exfalso; omega)) | (apply r_gtr; exact rfl; exact rfl; exact rfl; exact rfl; all_goals intro hc; all_goals try (exfalso; omega)) | (apply r_allocZ; exact rfl; exact rfl; exact rfl; intro _) | (apply r_storeN; exact rfl; (first | exact trivial | exact ⟨rfl, rfl⟩); exact rfl; exact rfl; (first | exact at0 | exact at1 | exact at2 | exact at3 | exact at4 | exact at5 | exact at6 | exact at7 | exact at8 | exact at9); exact rfl; exact rfl; exact rfl) | refine JC.skip ?_ | refine JC.condF rfl ?_ | refine JC.block ?_))
  all_goals first
    | (exfalso; omega)
    | skip
  rename_i b13
  refine JC.loopH (ι := Nat × Nat × SHeap × Value) ⟨fun z => [(14, nv (i0 + z.1)), (1, nv i0), (2, nv j0), (3, nv r), (4, nv c), (5, .pointer (some ⟨b5, 0, none⟩)), (10, .pointer (some ⟨b10, 0, none⟩)), (13, .pointer (some ⟨b13, 0, none⟩))],
    fun z => [(b13, .cells #[nv r, nv c, z.2.2.2] 29), (b10, .cells #[iv 0, iv 0, .slice none 0 0] 29), (b5, .cells #[nv m.r, nv m.c, E] 29)] ++ (z.2.2.1 ++ []),
    fun z => z.1 ≤ r ∧ z.2.1 = z.1 * c ∧ OwnZ z.2.2.1 z.2.2.2 z.2.1 (tbz z.1 c fun a b => m.at (i0 + a) (j0 + b)), fun z => r - z.1⟩ (0, 0, [], .slice none 0 0) ⟨by omega, by simp, by simpa [tbz_rows] using OwnZ.nil⟩ (by repeat first | exact trivial | refine ⟨rfl, ?_⟩) (by (repeat' first | exact HSub.refl _ | exact HSub.nil _ | refine HSub.at 0 rfl ?_ | refine HSub.at 1 rfl ?_ | refine HSub.at 2 rfl ?_ | refine HSub.at 3 rfl ?_ | refine HSub.at 4 rfl ?_ | refine HSub.at 5 rfl ?_ | refine HSub.at 6 rfl ?_ | refine HSub.at 7 rfl ?_ | refine HSub.at 8 rfl ?_ | refine HSub.at 9 rfl ?_ | refine HSub.at 10 rfl ?_ | refine HSub.at 11 rfl ?_ | refine HSub.at 12 rfl ?_ | refine HSub.at 13 rfl ?_ | refine HSub.at 14 rfl ?_ | refine HSub.at 15 rfl ?_ | refine HSub.at 16 rfl ?_ | refine HSub.at 17 rfl ?_ | refine HSub.at 18 rfl ?_ | refine HSub.at 19 rfl ?_ | refine HSub.segH ?_ | refine HSub.skip ?_ | refine HSub.skipN ?_)) (fun z hz => ?_)
  obtain ⟨i, k, N, v8⟩ := z
  obtain ⟨hi, hk, hO⟩ := hz
  dsimp only at hi hk hO ⊢
  obtain ⟨A8, c8, rfl⟩ := hO.form
  by_cases hlt : i < r
  · have hrow1 := zx_row (c := m.c) (show i0 + i < m.r by omega)
    have hk2 : k ≤ 40000 := by rw [hk]; exact Nat.mul_le_mul (show i ≤ 200 by omega) (show c ≤ 200 by omega)
    have q1 : (i0 + i) * m.c ≤ 40000 := Nat.mul_le_mul (show i0 + i ≤ 200 by omega) hmc
    have f1 : (i0 + i + 1) * m.c = (i0 + i) * m.c + m.c := by rw [Nat.add_mul (i0 + i), Nat.one_mul]
    (repeat' (first | refine JC.seq ?_ | refine JC.ops ?_ | refine JO.nil ?_ | refine JX.thenN ?_ | (apply r_move; exact rfl; exact rfl; exact rfl) | (apply r_addN; exact rfl; exact rfl; exact rfl; exact rfl; omega) | (apply r_lss; exact rfl; exact rfl; exact rfl; exact rfl; all_goals intro hc; all_goals try (exfalso; omega)) | refine JC.skip ?_ | refine JC.condT rfl ?_ | refine JC.block ?_))
    refine JC.opsDs [(b13, .cells #[nv r, nv c, .slice A8 k c8] 29), (b5, .cells #[nv m.r, nv m.c, E] 29)] (by (first | exact HSub.refl _ | (repeat' first | exact HSub.nil _ | exact HSub.refl _ | refine HSub.at 0 rfl ?_ | refine HSub.at 1 rfl ?_ | refine HSub.at 2 rfl ?_ | refine HSub.at 3 rfl ?_ | refine HSub.at 4 rfl ?_ | refine HSub.at 5 rfl ?_ | refine HSub.at 6 rfl ?_ | refine HSub.at 7 rfl ?_))) ?_
    (repeat' (first | (apply r_move; exact rfl; exact rfl; exact rfl) | (apply r_fieldAddr; exact rfl; exact rfl; exact rfl) | (apply r_load; exact rfl; exact rfl; exact rfl; exact rfl; (first | exact at0 | exact at1 | exact at2 | exact at3 | exact at4 | exact at5 | exact at6 | exact at7 | exact at8 | exact at9); exact rfl) | (apply r_addN; exact rfl; exact rfl; exact rfl; exact rfl; omega) | (apply r_mulN; exact rfl; exact rfl; exact rfl; exact rfl; (first | assumption | omega))))
    refine r_sliceZ (l := (i0 + i) * m.c + j0) (h' := (i0 + i) * m.c + j0 + c) rfl rfl rfl hR rfl rfl (.inl rfl) rfl rfl (.inl rfl) (by omega) (by omega) (fun v3 hv3 _ => ?_)
    have hsl : List.take ((i0 + i) * m.c + j0 + c - ((i0 + i) * m.c + j0)) (List.drop ((i0 + i) * m.c + j0) m.e) = tab c fun b => m.at (i0 + i) (j0 + b) := by
      rw [show (i0 + i) * m.c + j0 + c - ((i0 + i) * m.c + j0) = c by omega]
      refine tab_ext (by rw [List.length_take, List.length_drop, hm.len]; omega) (fun b hb => ?_)
      rw [List.getElem?_take_of_lt hb, List.getElem?_drop, gD_lt (d := 0) (by rw [hm.len]; omega), Nat.add_assoc]
      rfl
    rw [hsl, show (i0 + i) * m.c + j0 + c - ((i0 + i) * m.c + j0) = c by omega] at hv3
    skip
    refine r_appendZL (A := [_, _, _]) (B := []) hO hv3 (HSub.nil _) rfl (by (first | exact HSub.refl _ | (repeat' first | exact HSub.nil _ | exact HSub.refl _ | refine HSub.at 0 rfl ?_ | refine HSub.at 1 rfl ?_ | refine HSub.at 2 rfl ?_ | refine HSub.at 3 rfl ?_ | refine HSub.at 4 rfl ?_ | refine HSub.at 5 rfl ?_ | refine HSub.at 6 rfl ?_ | refine HSub.at 7 rfl ?_))) rfl rfl rfl rfl (by omega) (fun v4 N4 hO4 => ?_)
    obtain ⟨A4, c4, rfl⟩ := hO4.form
    rw [← tbz_next] at hO4
    (repeat' (first | refine JC.ops ?_ | refine JO.nil ?_ | refine JX.thenN ?_ | (apply r_move; exact rfl; exact rfl; exact rfl) | (apply r_fieldAddr; exact rfl; exact rfl; exact rfl) | (apply r_assign; exact rfl; exact rfl; exact rfl) | (apply r_add1; exact rfl; exact rfl; exact rfl; exact rfl; omega) | (apply r_store; exact rfl; (first | exact trivial | exact ⟨rfl, rfl⟩); exact rfl; exact rfl; (first | exact at0 | exact at1 | exact at2 | exact at3 | exact at4 | exact at5 | exact at6 | exact at7 | exact at8 | exact at9); exact rfl; exact rfl; (first | exact Nat.le_of_ble_eq_true rfl | (simp; done) | omega)) | refine JX.blockN ?_))
    exact JX.roundH (i + 1, k + c, N4, _) ⟨by dsimp only; omega, by dsimp only; rw [hk, Nat.add_mul, Nat.one_mul], hO4⟩ (by dsimp only; omega) (by repeat first | exact trivial | refine ⟨rfl, ?_⟩) (HSub.refl _)
  · (repeat' (first | refine JC.seq ?_ | refine JC.ops ?_ | refine JO.nil ?_ | refine JX.thenN ?_ | (apply r_move; exact rfl; exact rfl; exact rfl) | (apply r_assign; exact rfl; exact rfl; exact rfl) | (apply r_loadN; exact rfl; exact rfl; exact rfl; exact rfl; (first | exact at0 | exact at1 | exact at2 | exact at3 | exact at4 | exact at5 | exact at6 | exact at7 | exact at8 | exact at9); exact rfl) | (apply r_addN; exact rfl; exact rfl; exact rfl; exact rfl; omega) | (apply r_storeN; exact rfl; (first | exact trivial | exact ⟨rfl, rfl⟩); exact rfl; exact rfl; (first | exact at0 | exact at1 | exact at2 | exact at3 | exact at4 | exact at5 | exact at6 | exact at7 | exact at8 | exact at9); exact rfl; exact rfl; exact rfl) | (apply r_lss; exact rfl; exact rfl; exact rfl; exact rfl; all_goals intro hc; all_goals try (exfalso; omega)) | (apply r_storeN; exact rfl; (first | exact trivial | exact ⟨rfl, rfl⟩); exact rfl; exact rfl; (first | exact at0 | exact at1 | exact at2 | exact at3 | exact at4 | exact at5 | exact at6 | exact at7 | exact at8 | exact at9); exact rfl; exact rfl; exact rfl) | refine JX.thenE ?_ | refine JC.exit ?_ | refine JC.ret ?_ | refine JC.condF rfl ?_ | refine JX.blockE ?_))
    obtain rfl : i = r := by omega
    subst hk
    exact JX.retCT 1 rfl rfl rfl rfl (fun a w' st => ⟨st.kp, N, _, rfl, st.newOf rfl (by (repeat' first | exact HSub.nil _ | exact HSub.hd | exact HSub.in0 | exact HSub.refl _ | refine HSub.skip ?_ | refine HSub.skipN ?_)), OwnM.mk' hO⟩)

set_option maxHeartbeats 4000000 in
theorem c_refPartF (w : World) (v : Value) (m : ZM) (i j r c : Int) (hm : RtZ m) (h : ¬ partOk m i j r c) (hv : IsM w v m)
    (h1 : -9223372036854775808 ≤ r ∧ r ≤ 9223372036854775807) (h2 : -9223372036854775808 ≤ c ∧ c ≤ 9223372036854775807) :
    Calls Tryd.prog 20 #[v, iv i, iv j, iv r, iv c] w (Ret fun v w' => Kp [] w w' ∧ v = .tuple #[zeroM, .bool false]) := by
  have hvX := hv.x
  obtain ⟨E, rfl, hE⟩ := hv
  have hle := hm.le
  have hbr := hm.r
  have hbc := hm.c
  unfold partOk at h
  refine calls_of_S [⟨8, 2, [], []⟩] [] (by simp) [] Tryd.func20 rfl mixed (by kernel_rfl) Tryd.ntmps20 Tryd.results20 rfl ⟨by simp, by simp⟩ (by simp) ?_
  simp only [toS, textOps, toSOp, kindAt, kindOf, odAt, sopsAt, ordOf, zipF]
  (repeat' (first | refine JC.seq ?_ | refine JC.ops ?_ | refine JO.nil ?_ | refine JX.thenN ?_ | (apply r_assign; exact rfl; exact rfl; exact rfl) | (apply r_loadN; exact rfl; exact rfl; exact rfl; exact rfl; (first | exact at0 | exact at1 | exact at2 | exact at3 | exact at4 | exact at5 | exact at6 | exact at7 | exact at8 | exact at9); exact rfl) | (apply r_allocZ; exact rfl; exact rfl; exact rfl; intro _) | (apply r_boxA; exact rfl; exact rfl; exact rfl; exact rfl; intro _)))
  refine r_call0 trivial rfl rfl rfl (fun w hk _ => c_refRight w _ m.xm (hvX.mono hk) (by simp [ZM.xm]; omega)) fun w v w' _ _ _ hR => ?_
  obtain ⟨b', rfl, hb⟩ := hR
  obtain rfl := hb.2 hm.rx
  (repeat' (first | refine JC.seq ?_ | refine JC.ops ?_ | refine JO.nil ?_ | refine JX.thenN ?_ | (apply r_move; exact rfl; exact rfl; exact rfl) | (apply r_fieldAddr; exact rfl; exact rfl; exact rfl) | (apply r_assign; exact rfl; exact rfl; exact rfl) | (apply r_load; exact rfl; exact rfl; exact rfl; exact rfl; (first | exact at0 | exact at1 | exact at2 | exact at3 | exact at4 | exact at5 | exact at6 | exact at7 | exact at8 | exact at9); exact rfl) | (apply r_sub; exact rfl; exact rfl; exact rfl; exact rfl; omega) | (apply r_pickT; exact rfl; exact rfl; exact rfl; exact rfl) | (apply r_pickF; exact rfl; exact rfl; exact rfl; exact rfl) | (apply r_not; exact rfl; exact rfl; exact rfl) | (apply r_storeN; exact rfl; (first | exact trivial | exact ⟨rfl, rfl⟩); exact rfl; exact rfl; (first | exact at0 | exact at1 | exact at2 | exact at3 | exact at4 | exact at5 | exact at6 | exact at7 | exact at8 | exact at9); exact rfl; exact rfl; exact rfl) | (apply r_lss; exact rfl; exact rfl; exact rfl; exact rfl; all_goals intro hc; all_goals try (exfalso; omega)) | (apply r_gtr; exact rfl; exact rfl; exact rfl; exact rfl; all_goals intro hc; all_goals try (exfalso; omega)) | (apply r_buildL; exact rfl; exact rfl; exact rfl; exact rfl; exact rfl) | (apply r_storeN; exact rfl; (first | exact trivial | exact ⟨rfl, rfl⟩); exact rfl; exact rfl; (first | exact at0 | exact at1 | exact at2 | exact at3 | exact at4 | exact at5 | exact at6 | exact at7 | exact at8 | exact at9); exact rfl; exact rfl; exact rfl) | refine JX.thenR ?_ | refine JC.ret ?_ | refine JC.condT rfl ?_ | (apply r_skip; exact rfl; exact rfl; (first | (intro h; cases h; done) | (intro _; rfl)))))
  all_goals first
    | exact JX.retCT 0 rfl rfl rfl rfl (fun a w' st => ⟨st.kp, rfl⟩)
    | (exfalso; omega)

end Go.Proofs.YtdlmnloikakjpaaDoor

/- Walks: Join and Part of any right matrices, of the program and of the reference. ROWZ -/
namespace Go.Proofs.YtdlmnloikakjpaaDoor
open Go Go.RowKit
set_option linter.unusedSimpArgs false
set_option linter.unusedVariables false
set_option linter.unusedSectionVars false

set_option maxHeartbeats 4000000 in
theorem c_JoinF (w : World) (v u : Value) (a b : XM) (h : ¬ (RX a ∧ RX b ∧ a.R = b.R ∧ a.C + b.C ≤ 200)) (ha : IsX w v a) (hb : IsX w u b) (hl : a.E.length < 1000000000) (hl' : b.E.length < 1000000000) :
    Calls Tryd.prog 16 #[v, u] w (Ret fun v w' => Kp [] w w' ∧ v = .tuple #[zeroM, .bool false]) := by
  have ha0 := ha
  have hb0 := hb
  obtain ⟨E, rfl, hE⟩ := ha
  obtain ⟨E', rfl, hE'⟩ := hb
  refine calls_of_S [⟨7, 2, [0, 1, 2, 4, 5, 6, 7, 8, 9, 10, 11, 12, 13, 14, 15, 3, 16, 17, 18], []⟩] [] (by simp) [] Tryd.func16 rfl mixed (by kernel_rfl) Tryd.ntmps16 Tryd.results16 rfl ⟨by simp, by simp⟩ (by simp) ?_
  simp only [toS, textOps, toSOp, kindAt, kindOf, odAt, sopsAt, ordOf, zipF]
  (repeat' (first | refine JC.seq ?_ | refine JC.ops ?_ | refine JO.nil ?_ | refine JX.thenN ?_ | (apply r_assign; exact rfl; exact rfl; exact rfl) | (apply r_loadN; exact rfl; exact rfl; exact rfl; exact rfl; (first | exact at0 | exact at1 | exact at2 | exact at3 | exact at4 | exact at5 | exact at6 | exact at7 | exact at8 | exact at9); exact rfl) | (apply r_allocZ; exact rfl; exact rfl; exact rfl; intro _) | (apply r_boxA; exact rfl; exact rfl; exact rfl; exact rfl; intro _)))
  refine r_call0 (by first | trivial | exact ⟨rfl, rfl⟩) rfl (by first | rfl | exact ⟨rfl, rfl⟩) rfl (fun w hk _ => c_Right w _ a (ha0.mono hk) (by omega)) fun w v w' _ _ _ hc0 => ?_
  obtain ⟨b1, rfl, hb1⟩ := hc0
  cases b1 with
  | false =>
    (repeat' (first | refine JC.seq ?_ | refine JC.ops ?_ | refine JO.nil ?_ | refine JX.thenN ?_ | (apply r_move; exact rfl; exact rfl; exact rfl) | (apply r_assign; exact rfl; exact rfl; exact rfl) | (apply r_pickT; exact rfl; exact rfl; exact rfl; exact rfl) | (apply r_not; exact rfl; exact rfl; exact rfl) | (apply r_storeN; exact rfl; (first | exact trivial | exact ⟨rfl, rfl⟩); exact rfl; exact rfl; (first | exact at0 | exact at1 | exact at2 | exact at3 | exact at4 | exact at5 | exact at6 | exact at7 | exact at8 | exact at9); exact rfl; exact rfl; exact rfl) | (apply r_buildL; exact rfl; exact rfl; exact rfl; exact rfl; exact rfl) | (apply r_storeN; exact rfl; (first | exact trivial | exact ⟨rfl, rfl⟩); exact rfl; exact rfl; (first | exact at0 | exact at1 | exact at2 | exact at3 | exact at4 | exact at5 | exact at6 | exact at7 | exact at8 | exact at9); exact rfl; exact rfl; exact rfl) | refine JX.thenR ?_ | refine JC.ret ?_ | refine JC.condT rfl ?_ | (apply r_skip; exact rfl; exact rfl; (first | (intro h; cases h; done) | (intro _; rfl)))))
    exact JX.retCT 0 rfl rfl rfl rfl (fun a w' st => ⟨st.kp, rfl⟩)
  | true =>
    (repeat' (first | (apply r_move; exact rfl; exact rfl; exact rfl) | (apply r_loadN; exact rfl; exact rfl; exact rfl; exact rfl; (first | exact at0 | exact at1 | exact at2 | exact at3 | exact at4 | exact at5 | exact at6 | exact at7 | exact at8 | exact at9); exact rfl) | (apply r_not; exact rfl; exact rfl; exact rfl)))
    refine r_call0 (by first | trivial | exact ⟨rfl, rfl⟩) rfl (by first | rfl | exact ⟨rfl, rfl⟩) rfl (fun w hk _ => c_Right w _ b (hb0.mono hk) (by omega)) fun w v w' _ _ _ hc0 => ?_
    obtain ⟨b2, rfl, hb2⟩ := hc0
    cases b2 with
    | false =>
      (repeat' (first | refine JC.seq ?_ | refine JC.ops ?_ | refine JO.nil ?_ | refine JX.thenN ?_ | (apply r_move; exact rfl; exact rfl; exact rfl) | (apply r_assign; exact rfl; exact rfl; exact rfl) | (apply r_pickT; exact rfl; exact rfl; exact rfl; exact rfl) | (apply r_pickF; exact rfl; exact rfl; exact rfl; exact rfl) | (apply r_not; exact rfl; exact rfl; exact rfl) | (apply r_storeN; exact rfl; (first | exact trivial | exact ⟨rfl, rfl⟩); exact rfl; exact rfl; (first | exact at0 | exact at1 | exact at2 | exact at3 | exact at4 | exact at5 | exact at6 | exact at7 | exact at8 | exact at9); exact rfl; exact rfl; exact rfl) | (apply r_buildL; exact rfl; exact rfl; exact rfl; exact rfl; exact rfl) | (apply r_storeN; exact rfl; (first | exact trivial | exact ⟨rfl, rfl⟩); exact rfl; exact rfl; (first | exact at0 | exact at1 | exact at2 | exact at3 | exact at4 | exact at5 | exact at6 | exact at7 | exact at8 | exact at9); exact rfl; exact rfl; exact rfl) | refine JX.thenR ?_ | refine JC.ret ?_ | refine JC.condT rfl ?_ | (apply r_skip; exact rfl; exact rfl; (first | (intro h; cases h; done) | (intro _; rfl)))))
      exact JX.retCT 0 rfl rfl rfl rfl (fun a w' st => ⟨st.kp, rfl⟩)
    | true =>
      have g1 := (hb1.1 rfl).fits
      have g2 := (hb2.1 rfl).fits
      (repeat' (first | refine JC.seq ?_ | refine JC.ops ?_ | refine JO.nil ?_ | refine JX.thenN ?_ | (apply r_move; exact rfl; exact rfl; exact rfl) | (apply r_fieldAddr; exact rfl; exact rfl; exact rfl) | (apply r_assign; exact rfl; exact rfl; exact rfl) | (apply r_load; exact rfl; exact rfl; exact rfl; exact rfl; (first | exact at0 | exact at1 | exact at2 | exact at3 | exact at4 | exact at5 | exact at6 | exact at7 | exact at8 | exact at9); exact rfl) | (apply r_loadN; exact rfl; exact rfl; exact rfl; exact rfl; (first | exact at0 | exact at1 | exact at2 | exact at3 | exact at4 | exact at5 | exact at6 | exact at7 | exact at8 | exact at9); exact rfl) | (apply r_build2; exact rfl; exact rfl; exact rfl; exact rfl) | (apply r_add; exact rfl; exact rfl; exact rfl; exact rfl; omega) | (apply r_pickT; exact rfl; exact rfl; exact rfl; exact rfl) | (apply r_pickF; exact rfl; exact rfl; exact rfl; exact rfl) | (apply r_not; exact rfl; exact rfl; exact rfl) | (apply r_storeN; exact rfl; (first | exact trivial | exact ⟨rfl, rfl⟩); exact rfl; exact rfl; (first | exact at0 | exact at1 | exact at2 | exact at3 | exact at4 | exact at5 | exact at6 | exact at7 | exact at8 | exact at9); exact rfl; exact rfl; exact rfl) | (apply r_gtr; exact rfl; exact rfl; exact rfl; exact rfl; all_goals intro hc; all_goals try (exfalso; omega)) | (apply r_neq; exact rfl; exact rfl; exact rfl; exact rfl; all_goals intro hc; all_goals try (exfalso; omega)) | (apply r_allocZ; exact rfl; exact rfl; exact rfl; intro _) | (apply r_buildL; exact rfl; exact rfl; exact rfl; exact rfl; exact rfl) | (apply r_storeN; exact rfl; (first | exact trivial | exact ⟨rfl, rfl⟩); exact rfl; exact rfl; (first | exact at0 | exact at1 | exact at2 | exact at3 | exact at4 | exact at5 | exact at6 | exact at7 | exact at8 | exact at9); exact rfl; exact rfl; exact rfl) | refine JX.thenR ?_ | refine JC.skip ?_ | refine JC.ret ?_ | refine JC.condT rfl ?_ | refine JC.condF rfl ?_ | (apply r_skip; exact rfl; exact rfl; (first | (intro h; cases h; done) | (intro _; rfl)))))
      all_goals first
        | exact JX.retCT 0 rfl rfl rfl rfl (fun a w' st => ⟨st.kp, rfl⟩)
        | (exfalso; exact h ⟨hb1.1 rfl, hb2.1 rfl, by omega, by omega⟩)

theorem gives_zero {w w' : World} {v : Value} (h : v = .tuple #[zeroM, .bool false]) : GivesMB zM false w v w' := ⟨[], zeroM, h, New.nil _ _, OwnM.zero⟩
def joinA (m n : ZM) : ZM × Bool := if m.r = n.r ∧ m.c + n.c ≤ 200 then (joinZ m n, true) else (zM, false)
theorem joinA_rt {m n : ZM} (hm : RtZ m) : RtZ (joinA m n).1 := by
  unfold joinA
  split
  · rename_i h; exact zof_rt hm.r h.2
  · exact ⟨by decide, by decide, rfl⟩
theorem joinA_f {m n : ZM} (h : ¬ (m.r = n.r ∧ m.c + n.c ≤ 200)) : ¬ (RX m.xm ∧ RX n.xm ∧ m.xm.R = n.xm.R ∧ m.xm.C + n.xm.C ≤ 200) := fun ⟨_, _, h1, h2⟩ => h ⟨by simp only [ZM.xm] at h1; omega, by simp only [ZM.xm] at h2; omega⟩
theorem c_JoinA (w : World) (v u : Value) (m n : ZM) (hm : RtZ m) (hn : RtZ n) (hv : IsM w v m) (hu : IsM w u n) :
    Calls Tryd.prog 16 #[v, u] w (Ret fun v w' => Kp [] w w' ∧ GivesMB (joinA m n).1 (joinA m n).2 w v w') := by
  by_cases h : m.r = n.r ∧ m.c + n.c ≤ 200
  · rw [show joinA m n = (joinZ m n, true) from if_pos h]
    exact c_Join w v u m n hm hn h.1 h.2 hv hu
  · rw [show joinA m n = (zM, false) from if_neg h]
    exact calls_mono (c_JoinF w v u m.xm n.xm (joinA_f h) hv.x hu.x (by have := hm.le; simp [ZM.xm]; omega) (by have := hn.le; simp [ZM.xm]; omega)) fun v w' h => ⟨h.1, gives_zero h.2⟩
theorem c_refJoinA (w : World) (v u : Value) (m n : ZM) (hm : RtZ m) (hn : RtZ n) (hv : IsM w v m) (hu : IsM w u n) :
    Calls Tryd.prog 19 #[v, u] w (Ret fun v w' => Kp [] w w' ∧ GivesMB (joinA m n).1 (joinA m n).2 w v w') := by
  by_cases h : m.r = n.r ∧ m.c + n.c ≤ 200
  · rw [show joinA m n = (joinZ m n, true) from if_pos h]
    exact c_refJoin w v u m n hm hn h.1 h.2 hv hu
  · rw [show joinA m n = (zM, false) from if_neg h]
    exact calls_mono (c_refJoinF w v u m.xm n.xm (joinA_f h) hv.x hu.x (by have := hm.le; simp [ZM.xm]; omega) (by have := hn.le; simp [ZM.xm]; omega)) fun v w' h => ⟨h.1, gives_zero h.2⟩
open Classical in
noncomputable def partA (m : ZM) (i j r c : Int) : ZM × Bool := if partOk m i j r c then (partZ m i.toNat j.toNat r.toNat c.toNat, true) else (zM, false)
theorem partA_rt {m : ZM} {i j r c : Int} (hm : RtZ m) : RtZ (partA m i j r c).1 := by
  unfold partA
  split
  · rename_i h
    unfold partOk at h
    have := hm.r
    have := hm.c
    exact zof_rt (by omega) (by omega)
  · exact ⟨by decide, by decide, rfl⟩
theorem c_PartA (w : World) (v : Value) (m : ZM) (i j r c : Int) (hm : RtZ m) (hv : IsM w v m) (h1 : I64 r) (h2 : I64 c) :
    Calls Tryd.prog 17 #[v, iv i, iv j, iv r, iv c] w (Ret fun v w' => Kp [] w w' ∧ GivesMB (partA m i j r c).1 (partA m i j r c).2 w v w') := by
  by_cases h : partOk m i j r c
  · rw [show partA m i j r c = (partZ m i.toNat j.toNat r.toNat c.toNat, true) from if_pos h]
    unfold partOk at h
    obtain ⟨i, rfl⟩ := Int.eq_ofNat_of_zero_le h.1
    obtain ⟨j, rfl⟩ := Int.eq_ofNat_of_zero_le h.2.1
    obtain ⟨r, rfl⟩ := Int.eq_ofNat_of_zero_le h.2.2.1
    obtain ⟨c, rfl⟩ := Int.eq_ofNat_of_zero_le h.2.2.2.1
    exact c_Part w v m i j r c hm (by omega) (by omega) hv
  · rw [show partA m i j r c = (zM, false) from if_neg h]
    exact calls_mono (c_PartF w v m i j r c hm h hv ⟨h1.1, by have := h1.2; omega⟩ ⟨h2.1, by have := h2.2; omega⟩) fun v w' h => ⟨h.1, gives_zero h.2⟩
theorem c_refPartA (w : World) (v : Value) (m : ZM) (i j r c : Int) (hm : RtZ m) (hv : IsM w v m) (h1 : I64 r) (h2 : I64 c) :
    Calls Tryd.prog 20 #[v, iv i, iv j, iv r, iv c] w (Ret fun v w' => Kp [] w w' ∧ GivesMB (partA m i j r c).1 (partA m i j r c).2 w v w') := by
  by_cases h : partOk m i j r c
  · rw [show partA m i j r c = (partZ m i.toNat j.toNat r.toNat c.toNat, true) from if_pos h]
    unfold partOk at h
    obtain ⟨i, rfl⟩ := Int.eq_ofNat_of_zero_le h.1
    obtain ⟨j, rfl⟩ := Int.eq_ofNat_of_zero_le h.2.1
    obtain ⟨r, rfl⟩ := Int.eq_ofNat_of_zero_le h.2.2.1
    obtain ⟨c, rfl⟩ := Int.eq_ofNat_of_zero_le h.2.2.2.1
    exact c_refPart w v m i j r c hm (by omega) (by omega) hv
  · rw [show partA m i j r c = (zM, false) from if_neg h]
    exact calls_mono (c_refPartF w v m i j r c hm h hv ⟨h1.1, by have := h1.2; omega⟩ ⟨h2.1, by have := h2.2; omega⟩) fun v w' h => ⟨h.1, gives_zero h.2⟩

theorem bits_and7 (n : Int) : bits .and .i64 n 7 = n % 8 := by
  have h1 : (BitVec.ofInt 64 7).toNat = 2 ^ 3 - 1 := by decide
  have key : (BitVec.ofInt 64 n &&& BitVec.ofInt 64 7).toNat = (n % ((2 ^ 64 : Nat) : Int)).toNat % 2 ^ 3 := by
    rw [BitVec.toNat_and, BitVec.toNat_ofInt, h1, Nat.and_two_pow_sub_one_eq_mod]
  show IntKind.i64.wrap ((BitVec.ofInt 64 n &&& BitVec.ofInt 64 7).toNat : Nat) = n % 8
  rw [key, IntKind.wrap_i64]
  omega

section
variable {c : Cx} {Q : Exit → Act → World → Prop} {m : Mode} {F : SFrame} {H : SHeap} {r : List SOp} {g : Option (Option Tmp × Bool)} {ns : Bool} {d : Tmp} {ty t t' : TypeId} {x y : Operand}
theorem r_and7 {i : Int} (hd : dstOk c.n (some d) = true) (hg : guardF F g = some true) (hx : ev F x = some (.int .i64 i)) (hy : ev F y = some (.int .i64 7))
    (h : JO c Q m r ((d, .int .i64 (i % 8)) :: F) H) : JO c Q m (⟨some d, .binOp .and t x y t', ty, g, .mov, ns⟩ :: r) F H :=
  r_arith hd hg hx hy (fun w => by rw [binOp_and, intBits_and, bits_and7]; rfl) h
end
theorem i64_mod8 (i : Int) : I64 (i % 8) := by unfold I64; omega

end Go.Proofs.YtdlmnloikakjpaaDoor

/- Four ints as an argument. -/
namespace Go.Proofs.YtdlmnloikakjpaaDoor
open Go Go.RowKit Go.ChangeShapes Go.WideShapes Go.ChangeAt
set_option linter.unusedSimpArgs false
set_option linter.unusedVariables false
set_option linter.unusedSectionVars false

theorem cells4 : Tryd.prog.cellsOf 25 = 4 := by kernel_rfl
theorem cells1 : Tryd.prog.cellsOf 3 = 1 := by kernel_rfl

theorem okWide_array {P : Program} {w : World} {r : Reach} {base : Nat} {t : TypeId} {v : Value} {n : Nat} {e : TypeId} (ht : P.underlying t = some (.array n e)) (h : Value.okWide P w r base t v) : ∃ cs, v = .agg cs ∧ cs.size = P.cellsOf t := by
  unfold Value.okWide at h
  rw [ht] at h
  cases v <;> simp at h
  exact ⟨_, rfl, h.1⟩

set_option maxRecDepth 100000 in
theorem open_quad {H : Type} {enc : TypeId × Value → H} {w : World} {r : Reach} {b0 : Nat} {held : Bool} {v : Value} {d : DataW H} {ps : List MemPlace} (hv : Value.okWide Tryd.prog w r b0 25 v)
    (h : DataW.Trod enc Tryd.prog w 0 (fun _ => true) held 25 v d ps) : ∃ q0 q1 q2 q3 : Int, v = .agg #[iv q0, iv q1, iv q2, iv q3] ∧ I64 q0 ∧ I64 q1 ∧ I64 q2 ∧ I64 q3 := by
  obtain ⟨cs, rfl, hsz⟩ := okWide_array Tryd.underlying25 hv
  rw [cells4] at hsz
  obtain ⟨l⟩ := cs
  obtain ⟨c0, c1, c2, c3, rfl⟩ : ∃ c0 c1 c2 c3, l = [c0, c1, c2, c3] := by
    match l, hsz with
    | [a, b, c, d], _ => exact ⟨a, b, c, d, rfl⟩
  obtain ⟨fuel, hf⟩ := h
  obtain ⟨xs, m, _, _, _, hx, hall⟩ := DataW.trod_array Tryd.underlying25 hf
  have a0 := hall 0 (by omega)
  have a1 := hall 1 (by omega)
  have a2 := hall 2 (by omega)
  have a3 := hall 3 (by omega)
  rw [cells1] at a0 a1 a2 a3
  rw [List.getElem?_eq_getElem (by omega)] at a0 a1 a2 a3
  obtain ⟨n0, e0, _, w0⟩ := DataW.trod_int Tryd.underlying3 (show DataW.trod enc Tryd.prog w 0 (fun _ => true) held m 3 [c0] = some _ from a0)
  obtain ⟨n1, e1, _, w1⟩ := DataW.trod_int Tryd.underlying3 (show DataW.trod enc Tryd.prog w 0 (fun _ => true) held m 3 [c1] = some _ from a1)
  obtain ⟨n2, e2, _, w2⟩ := DataW.trod_int Tryd.underlying3 (show DataW.trod enc Tryd.prog w 0 (fun _ => true) held m 3 [c2] = some _ from a2)
  obtain ⟨n3, e3, _, w3⟩ := DataW.trod_int Tryd.underlying3 (show DataW.trod enc Tryd.prog w 0 (fun _ => true) held m 3 [c3] = some _ from a3)
  simp only [List.cons.injEq, and_true] at e0 e1 e2 e3
  subst e0 e1 e2 e3
  exact ⟨n0, n1, n2, n3, rfl, i64_wf w0, i64_wf w1, i64_wf w2, i64_wf w3⟩

end Go.Proofs.YtdlmnloikakjpaaDoor

