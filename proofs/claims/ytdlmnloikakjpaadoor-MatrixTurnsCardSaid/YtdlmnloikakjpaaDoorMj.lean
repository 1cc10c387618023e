import Derived.Test.YtdlmnloikakjpaaDoorMi
import Derived.Test.YtdlmnloikakjpaaDoorMh
import Derived.Test.YtdlmnloikakjpaaDoorMe
/- Walks: the examples of the chapter. ROWZ -/
namespace Go.Proofs.YtdlmnloikakjpaaDoor
open Go Go.RowKit
set_option linter.unusedSimpArgs false
set_option linter.unusedVariables false
set_option linter.unusedSectionVars false

theorem WI.lit {w : World} {b n : Nat} {vs : List Value} (xs : List Int) (hb : w.heap[b]? = some (.cells ⟨vs⟩ 3)) (hv : vs = xs.map iv) (hn : xs.length = n) : WI w (.slice (some ⟨b, 0, none⟩) n n) n xs := by
  subst hv
  refine ⟨by simp [hn], _, _, rfl, Nat.le_refl _, fun _ => ⟨⟨b, 0, rfl⟩, fun j u hu => ?_⟩⟩
  simp only [vAt, Nat.zero_add]
  exact cell_of_blk hb (by simpa using hu)
theorem IsRows.lit {w : World} {b n : Nat} {ss : List Value} (xss : List (List Int)) (hb : w.heap[b]? = some (.cells ⟨ss⟩ 22)) (hl : ss.length = n) (hx : xss.length = n) (h : ∀ i, i < n → WI w (ss.getD i (iv 0)) (xss.getD i []).length (xss.getD i [])) : IsRows w (.slice (some ⟨b, 0, none⟩) n n) xss := by
  subst hx
  refine ⟨ss, ⟨by omega, _, _, rfl, Nat.le_refl _, fun _ => ⟨⟨b, 0, rfl⟩, fun j u hu => ?_⟩⟩, h⟩
  simp only [vAt, Nat.zero_add]
  exact cell_of_blk hb (by simpa using hu)
theorem IsRows.lit1 {w : World} {b : Nat} {s : Value} (xs : List Int) (hb : w.heap[b]? = some (.cells ⟨[s]⟩ 22)) (h : WI w s xs.length xs) : IsRows w (.slice (some ⟨b, 0, none⟩) 1 1) [xs] :=
  IsRows.lit [xs] hb rfl rfl fun i hi => by
    obtain rfl : i = 0 := by omega
    exact h
theorem IsRows.lit2 {w : World} {b : Nat} {s s' : Value} (xs xs' : List Int) (hb : w.heap[b]? = some (.cells ⟨[s, s']⟩ 22)) (h : WI w s xs.length xs) (h' : WI w s' xs'.length xs') : IsRows w (.slice (some ⟨b, 0, none⟩) 2 2) [xs, xs'] :=
  IsRows.lit [xs, xs'] hb rfl rfl fun i hi => by
    rcases (show i = 0 ∨ i = 1 by omega) with rfl | rfl
    · exact h
    · exact h'
theorem c_EqualT (w : World) (v u : Value) (m : ZM) (hm : RtZ m) (hv : IsM w v m) (hu : IsM w u m) : Calls Tryd.prog 18 #[v, u] w (Ret fun v w' => Kp [] w w' ∧ v = .bool true) :=
  (c_Equal w v u m m hm hm hv hu).mono fun e w' h => by
    cases e with
    | returned v =>
      obtain ⟨hk, hb⟩ := h
      exact ⟨hk, by obtain ⟨b, rfl, hb⟩ := hb; rw [hb.2 rfl]⟩
    | panicked _ => exact h
    | outgrown => exact h

theorem i64_lit {xss : List (List Int)} (h : ∀ l ∈ xss, ∀ x ∈ l, I64 x) : ∀ i j, I64 ((xss.getD i []).getD j 0) := fun i j => by
  have h0 : I64 0 := ⟨by decide, by decide⟩
  rw [List.getD]
  cases hj : (xss.getD i [])[j]? with
  | none => exact h0
  | some x =>
    have hx := List.mem_of_getElem? hj
    rw [List.getD] at hx
    cases hi : xss[i]? with
    | none => rw [hi] at hx; cases hx
    | some l => rw [hi] at hx; exact h l (List.mem_of_getElem? hi) x hx
instance (n : Int) : Decidable (I64 n) := by unfold I64; infer_instance

def sA : ZM := ⟨2, 2, [1, 2, 3, 4]⟩
theorem sA_rt : RtZ sA := ⟨by decide, by decide, rfl⟩
theorem sA_mul : mulZ sA ⟨2, 2, [0, 1, 1, 0]⟩ = ⟨2, 2, [2, 1, 4, 3]⟩ := by kernel_rfl
theorem sA_det : det 2 sA.at = -2 := by decide
theorem sI_det : det 2 (ZM.mk 2 2 [2, 1, 1, 1]).at = 1 := by decide
theorem sP_part : partZ ⟨2, 3, [1, 2, 3, 4, 5, 6]⟩ 1 1 1 2 = ⟨1, 2, [5, 6]⟩ := by kernel_rfl
theorem BdL.lit {K : Nat} {m : ZM} (h : ∀ x ∈ m.e, x.natAbs < 256 ^ K) : BdZ K m := fun i => by
  rw [List.getD]
  cases hi : m.e[i]? with
  | none => exact Nat.pow_pos (by decide)
  | some x => exact h x (List.mem_of_getElem? hi)
theorem at_lit {b : Nat} {m : ZM} (h : ∀ x ∈ m.e, x.natAbs ≤ b) : ∀ i j, i < m.r → j < m.r → (m.at i j).natAbs ≤ b := fun i j _ _ => by
  show (m.e.getD (i * m.c + j) 0).natAbs ≤ b
  rw [List.getD]
  cases hi : m.e[i * m.c + j]? with
  | none => exact Nat.zero_le _
  | some x => exact h x (List.mem_of_getElem? hi)
theorem inv_eq (x : ZM) (hx : RtZ x) (hr : x.r = 2) (hc : x.c = 2) (h : ∀ i j, i < 2 → j < 2 → mmI 2 x.at (ZM.mk 2 2 [2, 1, 1, 1]).at i j = idI i j) : ⟨2, 2, [1, -1, -1, 2]⟩ = x := by
  have h00 := h 0 0 (by decide) (by decide)
  have h01 := h 0 1 (by decide) (by decide)
  have h10 := h 1 0 (by decide) (by decide)
  have h11 := h 1 1 (by decide) (by decide)
  obtain ⟨r, c, e⟩ := x
  dsimp only at hr hc
  subst hr hc
  have hl := hx.len
  dsimp only at hl
  match e, hl with
  | [a, b, c, d], _ =>
    have e00 : 0 + a * 2 + b * 1 = 1 := h00
    have e01 : 0 + a * 1 + b * 1 = 0 := h01
    have e10 : 0 + c * 2 + d * 1 = 0 := h10
    have e11 : 0 + c * 1 + d * 1 = 1 := h11
    obtain rfl : a = 1 := by omega
    obtain rfl : b = -1 := by omega
    obtain rfl : c = -1 := by omega
    obtain rfl : d = 2 := by omega
    rfl

set_option maxHeartbeats 16000000 in
theorem c_sanity (w : World) : Calls Tryd.prog 13 #[] w (Ret fun v w' => Kp [] w w' ∧ v = .bool true) := by
  refine calls_of_R [7] [⟨2, 2, [], []⟩, ⟨8, 1, [], []⟩] [] (by simp) [] Tryd.func13 rfl mixed (by kernel_rfl) Tryd.ntmps13 Tryd.results13 rfl ⟨by simp, by simp⟩ (by simp) ?_
  simp only [toR, inR, cond_true, cond_false, Nat.reduceBEq, toS, textOps, toSOp, kindAt, kindOf, odAt, sopsAt, ordOf, zipF]
  (repeat' (first | refine JC.seq ?_ | refine JC.ops ?_ | refine JO.nil ?_ | refine JX.thenN ?_ | (apply r_assign; exact rfl; exact rfl; exact rfl) | (apply r_build1; exact rfl; exact rfl; exact rfl; exact rfl; exact rfl; (repeat first | exact trivial | refine ⟨rfl, ?_⟩); decide; decide; intro _)))
  refine r_callA (A := [_, _, _]) (B := []) rfl (by first | trivial | exact ⟨rfl, rfl⟩) rfl (by first | rfl | exact ⟨rfl, rfl⟩) rfl (fun w hk hs => c_Of w _ [[1, 2], [3, 4]] (IsRows.lit2 _ _ (hs_at hs 0 rfl) (WI.lit [1, 2] (hs_at hs 2 rfl) rfl rfl) (WI.lit [3, 4] (hs_at hs 1 rfl) rfl rfl)) (by decide) (by decide) (i64_lit (by decide))) fun w v w' _ _ _ hR => ?_
  rw [show ofZ [[1, 2], [3, 4]] = ⟨2, 2, [1, 2, 3, 4]⟩ by kernel_rfl] at hR
  obtain ⟨N1, hN1, E1, rfl, hO1⟩ := hR
  obtain ⟨A1, c1, rfl⟩ := hO1.form
  refine ⟨N1, hN1, ?_⟩
  (repeat' (first | refine JO.nil ?_ | (apply r_storeN; exact rfl; (first | exact trivial | exact ⟨rfl, rfl⟩); exact rfl; exact rfl; (first | exact at0 | exact at1 | exact at2 | exact at3 | exact at4 | exact at5 | exact at6 | exact at7 | exact at8 | exact at9); exact rfl; exact rfl; exact rfl) | (apply r_allocZ; exact rfl; exact rfl; exact rfl; intro _) | (apply r_storeN; exact rfl; (first | exact trivial | exact ⟨rfl, rfl⟩); exact rfl; exact rfl; (first | exact at0 | exact at1 | exact at2 | exact at3 | exact at4 | exact at5 | exact at6 | exact at7 | exact at8 | exact at9); exact rfl; exact rfl; exact rfl)))
  rename_i b1
  refine JX.part (F' := [(1, .pointer (some ⟨b1, 0, none⟩))]) (H' := [(b1, .cells #[nv 2, nv 2, .slice A1 4 c1] 29)] ++ (N1 ++ [])) (by repeat first | exact trivial | refine ⟨rfl, ?_⟩) (by (repeat' first | exact HSub.refl _ | exact HSub.nil _ | refine HSub.at 0 rfl ?_ | refine HSub.at 1 rfl ?_ | refine HSub.at 2 rfl ?_ | refine HSub.at 3 rfl ?_ | refine HSub.at 4 rfl ?_ | refine HSub.at 5 rfl ?_ | refine HSub.at 6 rfl ?_ | refine HSub.at 7 rfl ?_ | refine HSub.at 8 rfl ?_ | refine HSub.at 9 rfl ?_ | refine HSub.at 10 rfl ?_ | refine HSub.at 11 rfl ?_ | refine HSub.at 12 rfl ?_ | refine HSub.at 13 rfl ?_ | refine HSub.at 14 rfl ?_ | refine HSub.at 15 rfl ?_ | refine HSub.at 16 rfl ?_ | refine HSub.at 17 rfl ?_ | refine HSub.at 18 rfl ?_ | refine HSub.at 19 rfl ?_ | refine HSub.segH ?_ | refine HSub.skip ?_ | refine HSub.skipN ?_)) ?_
  refine JX.thenN ?_
  (repeat' (first | refine JC.seq ?_ | refine JC.opsD ?_ | (apply r_loadN; exact rfl; exact rfl; exact rfl; exact rfl; (first | exact at0 | exact at1 | exact at2 | exact at3 | exact at4 | exact at5 | exact at6 | exact at7 | exact at8 | exact at9); exact rfl) | (apply r_build1; exact rfl; exact rfl; exact rfl; exact rfl; exact rfl; (repeat first | exact trivial | refine ⟨rfl, ?_⟩); decide; decide; intro _)))
  refine r_callA (A := [_, _, _, _]) (B := N1 ++ []) rfl (by first | trivial | exact ⟨rfl, rfl⟩) rfl (by first | rfl | exact ⟨rfl, rfl⟩) rfl (fun w hk hs => c_Of w _ [[0, 1], [1, 0]] (IsRows.lit2 _ _ (hs_at hs 0 rfl) (WI.lit [0, 1] (hs_at hs 2 rfl) rfl rfl) (WI.lit [1, 0] (hs_at hs 1 rfl) rfl rfl)) (by decide) (by decide) (i64_lit (by decide))) fun w v w' _ _ _ hR => ?_
  rw [show ofZ [[0, 1], [1, 0]] = ⟨2, 2, [0, 1, 1, 0]⟩ by kernel_rfl] at hR
  obtain ⟨N2, hN2, Ez, rfl, hOz⟩ := hR
  obtain ⟨Az, cz, rfl⟩ := hOz.form
  refine ⟨N2, hN2, ?_⟩
  skip
  refine r_callA (A := [_, _, _, _]) (B := N2 ++ (N1 ++ [])) rfl (by first | trivial | exact ⟨rfl, rfl⟩) rfl rfl rfl (fun w hk hs => c_MMul 1 1 w _ _ sA ⟨2, 2, [0, 1, 1, 0]⟩ sA_rt ⟨by decide, by decide, rfl⟩ rfl (by decide) (BdL.lit (by decide)) (BdL.lit (by decide)) ⟨_, rfl, hO1.rd.at hk hs (by (repeat' first | exact HSub.nil _ | exact HSub.hd | exact HSub.in0 | exact HSub.refl _ | refine HSub.skip ?_ | refine HSub.skipN ?_))⟩ ⟨_, rfl, hOz.rd.at hk hs (by (repeat' first | exact HSub.nil _ | exact HSub.hd | exact HSub.in0 | exact HSub.refl _ | refine HSub.skip ?_ | refine HSub.skipN ?_))⟩) fun w v w' _ _ _ hR => ?_
  rw [sA_mul] at hR
  obtain ⟨N3, u2, rfl, hN3, E2, rfl, hO2⟩ := hR
  obtain ⟨A2, c2, rfl⟩ := hO2.form
  refine ⟨N3, hN3, ?_⟩
  (repeat' (first | refine JO.nil ?_ | (apply r_move; exact rfl; exact rfl; exact rfl) | (apply r_assign; exact rfl; exact rfl; exact rfl) | (apply r_extract; exact rfl; exact rfl; exact rfl; exact rfl) | (apply r_storeN; exact rfl; (first | exact trivial | exact ⟨rfl, rfl⟩); exact rfl; exact rfl; (first | exact at0 | exact at1 | exact at2 | exact at3 | exact at4 | exact at5 | exact at6 | exact at7 | exact at8 | exact at9); exact rfl; exact rfl; exact rfl) | (apply r_allocZ; exact rfl; exact rfl; exact rfl; intro _) | (apply r_storeN; exact rfl; (first | exact trivial | exact ⟨rfl, rfl⟩); exact rfl; exact rfl; (first | exact at0 | exact at1 | exact at2 | exact at3 | exact at4 | exact at5 | exact at6 | exact at7 | exact at8 | exact at9); exact rfl; exact rfl; exact rfl)))
  rename_i b2
  refine JX.part (F' := [(3, .bool true), (2, .pointer (some ⟨b2, 0, none⟩)), (1, .pointer (some ⟨b1, 0, none⟩))]) (H' := [(b2, .cells #[nv 2, nv 2, .slice A2 4 c2] 29), (b1, .cells #[nv 2, nv 2, .slice A1 4 c1] 29)] ++ (N3 ++ (N1 ++ []))) (by repeat first | exact trivial | refine ⟨rfl, ?_⟩) (by (repeat' first | exact HSub.refl _ | exact HSub.nil _ | refine HSub.at 0 rfl ?_ | refine HSub.at 1 rfl ?_ | refine HSub.at 2 rfl ?_ | refine HSub.at 3 rfl ?_ | refine HSub.at 4 rfl ?_ | refine HSub.at 5 rfl ?_ | refine HSub.at 6 rfl ?_ | refine HSub.at 7 rfl ?_ | refine HSub.at 8 rfl ?_ | refine HSub.at 9 rfl ?_ | refine HSub.at 10 rfl ?_ | refine HSub.at 11 rfl ?_ | refine HSub.at 12 rfl ?_ | refine HSub.at 13 rfl ?_ | refine HSub.at 14 rfl ?_ | refine HSub.at 15 rfl ?_ | refine HSub.at 16 rfl ?_ | refine HSub.at 17 rfl ?_ | refine HSub.at 18 rfl ?_ | refine HSub.at 19 rfl ?_ | refine HSub.segH ?_ | refine HSub.skip ?_ | refine HSub.skipN ?_)) ?_
  refine JX.thenN ?_
  (repeat' (first | refine JC.seq ?_ | refine JC.ops ?_ | (apply r_loadN; exact rfl; exact rfl; exact rfl; exact rfl; (first | exact at0 | exact at1 | exact at2 | exact at3 | exact at4 | exact at5 | exact at6 | exact at7 | exact at8 | exact at9); exact rfl)))
  refine r_call0 (by first | trivial | exact ⟨rfl, rfl⟩) rfl rfl rfl (fun w hk hs => c_Det 1 w _ sA sA_rt rfl (by decide) (BdL.lit (by decide)) ⟨_, rfl, hO1.rd.at hk hs (by (repeat' first | exact HSub.nil _ | exact HSub.hd | exact HSub.in0 | exact HSub.refl _ | refine HSub.skip ?_ | refine HSub.skipN ?_))⟩) fun w v w' _ _ _ hR => ?_
  rw [show det sA.r sA.at = -2 from sA_det] at hR
  subst hR
  (repeat' (first | refine JO.nil ?_ | (apply r_move; exact rfl; exact rfl; exact rfl) | (apply r_assign; exact rfl; exact rfl; exact rfl) | (apply r_extract; exact rfl; exact rfl; exact rfl; exact rfl) | (apply r_storeN; exact rfl; (first | exact trivial | exact ⟨rfl, rfl⟩); exact rfl; exact rfl; (first | exact at0 | exact at1 | exact at2 | exact at3 | exact at4 | exact at5 | exact at6 | exact at7 | exact at8 | exact at9); exact rfl; exact rfl; exact rfl) | (apply r_allocZ; exact rfl; exact rfl; exact rfl; intro _) | (apply r_storeN; exact rfl; (first | exact trivial | exact ⟨rfl, rfl⟩); exact rfl; exact rfl; (first | exact at0 | exact at1 | exact at2 | exact at3 | exact at4 | exact at5 | exact at6 | exact at7 | exact at8 | exact at9); exact rfl; exact rfl; exact rfl)))
  rename_i b4
  refine JX.part (F' := [(5, .bool true), (4, .pointer (some ⟨b4, 0, none⟩)), (3, .bool true), (2, .pointer (some ⟨b2, 0, none⟩)), (1, .pointer (some ⟨b1, 0, none⟩))]) (H' := [(b4, .cells (wc (-2)) 41), (b2, .cells #[nv 2, nv 2, .slice A2 4 c2] 29), (b1, .cells #[nv 2, nv 2, .slice A1 4 c1] 29)] ++ (N3 ++ (N1 ++ []))) (by repeat first | exact trivial | refine ⟨rfl, ?_⟩) (by (repeat' first | exact HSub.refl _ | exact HSub.nil _ | refine HSub.at 0 rfl ?_ | refine HSub.at 1 rfl ?_ | refine HSub.at 2 rfl ?_ | refine HSub.at 3 rfl ?_ | refine HSub.at 4 rfl ?_ | refine HSub.at 5 rfl ?_ | refine HSub.at 6 rfl ?_ | refine HSub.at 7 rfl ?_ | refine HSub.at 8 rfl ?_ | refine HSub.at 9 rfl ?_ | refine HSub.at 10 rfl ?_ | refine HSub.at 11 rfl ?_ | refine HSub.at 12 rfl ?_ | refine HSub.at 13 rfl ?_ | refine HSub.at 14 rfl ?_ | refine HSub.at 15 rfl ?_ | refine HSub.at 16 rfl ?_ | refine HSub.at 17 rfl ?_ | refine HSub.at 18 rfl ?_ | refine HSub.at 19 rfl ?_ | refine HSub.segH ?_ | refine HSub.skip ?_ | refine HSub.skipN ?_)) ?_
  refine JX.thenN ?_
  (repeat' (first | refine JC.seq ?_ | refine JC.ops ?_ | (apply r_build1; exact rfl; exact rfl; exact rfl; exact rfl; exact rfl; (repeat first | exact trivial | refine ⟨rfl, ?_⟩); decide; decide; intro _)))
  refine r_callA (A := [_, _, _, _, _, _]) (B := N3 ++ (N1 ++ [])) rfl (by first | trivial | exact ⟨rfl, rfl⟩) rfl (by first | rfl | exact ⟨rfl, rfl⟩) rfl (fun w hk hs => c_Of w _ [[2, 1], [1, 1]] (IsRows.lit2 _ _ (hs_at hs 0 rfl) (WI.lit [2, 1] (hs_at hs 2 rfl) rfl rfl) (WI.lit [1, 1] (hs_at hs 1 rfl) rfl rfl)) (by decide) (by decide) (i64_lit (by decide))) fun w v w' _ _ _ hR => ?_
  rw [show ofZ [[2, 1], [1, 1]] = ⟨2, 2, [2, 1, 1, 1]⟩ by kernel_rfl] at hR
  obtain ⟨N4, hN4, Ey, rfl, hOy⟩ := hR
  obtain ⟨Ay, cy, rfl⟩ := hOy.form
  refine ⟨N4, hN4, ?_⟩
  skip
  refine r_callA (A := [_, _, _, _, _, _]) (B := N4 ++ (N3 ++ (N1 ++ []))) rfl (by first | trivial | exact ⟨rfl, rfl⟩) rfl rfl rfl (fun w hk hs => c_Inverse 2 1 (fun k => if k = 0 then 2 else 162) (fun k => if k = 0 then 0 else if k = 1 then 162 else 26568) w _ ⟨2, 2, [2, 1, 1, 1]⟩ ⟨by decide, by decide, rfl⟩ rfl (by decide) (by decide) (BdL.lit (by decide)) ⟨_, rfl, hOy.rd.at hk hs (by (repeat' first | exact HSub.nil _ | exact HSub.hd | exact HSub.in0 | exact HSub.refl _ | refine HSub.skip ?_ | refine HSub.skipN ?_))⟩ (at_lit (by decide)) (by decide) (by decide) (by decide) (by decide) (by decide)) fun w v w' _ _ _ hR => ?_
  rw [if_pos (show (det (ZM.mk 2 2 [2, 1, 1, 1]).r (ZM.mk 2 2 [2, 1, 1, 1]).at).natAbs = 1 from congrArg Int.natAbs sI_det)] at hR
  obtain ⟨xi, hxi, hxr, hxc, hxm, hG⟩ := hR
  obtain rfl := inv_eq xi hxi hxr hxc hxm
  obtain ⟨N5, u6, rfl, hN5, E6, rfl, hO6⟩ := hG
  obtain ⟨A6, c6, rfl⟩ := hO6.form
  refine ⟨N5, hN5, ?_⟩
  (repeat' (first | refine JO.nil ?_ | (apply r_move; exact rfl; exact rfl; exact rfl) | (apply r_assign; exact rfl; exact rfl; exact rfl) | (apply r_extract; exact rfl; exact rfl; exact rfl; exact rfl) | (apply r_storeN; exact rfl; (first | exact trivial | exact ⟨rfl, rfl⟩); exact rfl; exact rfl; (first | exact at0 | exact at1 | exact at2 | exact at3 | exact at4 | exact at5 | exact at6 | exact at7 | exact at8 | exact at9); exact rfl; exact rfl; exact rfl) | (apply r_allocZ; exact rfl; exact rfl; exact rfl; intro _) | (apply r_storeN; exact rfl; (first | exact trivial | exact ⟨rfl, rfl⟩); exact rfl; exact rfl; (first | exact at0 | exact at1 | exact at2 | exact at3 | exact at4 | exact at5 | exact at6 | exact at7 | exact at8 | exact at9); exact rfl; exact rfl; exact rfl)))
  rename_i b6
  refine JX.part (F' := [(7, .bool true), (6, .pointer (some ⟨b6, 0, none⟩)), (5, .bool true), (4, .pointer (some ⟨b4, 0, none⟩)), (3, .bool true), (2, .pointer (some ⟨b2, 0, none⟩)), (1, .pointer (some ⟨b1, 0, none⟩))]) (H' := [(b6, .cells #[nv 2, nv 2, .slice A6 4 c6] 29), (b4, .cells (wc (-2)) 41), (b2, .cells #[nv 2, nv 2, .slice A2 4 c2] 29), (b1, .cells #[nv 2, nv 2, .slice A1 4 c1] 29)] ++ (N5 ++ (N3 ++ (N1 ++ [])))) (by repeat first | exact trivial | refine ⟨rfl, ?_⟩) (by (repeat' first | exact HSub.refl _ | exact HSub.nil _ | refine HSub.at 0 rfl ?_ | refine HSub.at 1 rfl ?_ | refine HSub.at 2 rfl ?_ | refine HSub.at 3 rfl ?_ | refine HSub.at 4 rfl ?_ | refine HSub.at 5 rfl ?_ | refine HSub.at 6 rfl ?_ | refine HSub.at 7 rfl ?_ | refine HSub.at 8 rfl ?_ | refine HSub.at 9 rfl ?_ | refine HSub.at 10 rfl ?_ | refine HSub.at 11 rfl ?_ | refine HSub.at 12 rfl ?_ | refine HSub.at 13 rfl ?_ | refine HSub.at 14 rfl ?_ | refine HSub.at 15 rfl ?_ | refine HSub.at 16 rfl ?_ | refine HSub.at 17 rfl ?_ | refine HSub.at 18 rfl ?_ | refine HSub.at 19 rfl ?_ | refine HSub.segH ?_ | refine HSub.skip ?_ | refine HSub.skipN ?_)) ?_
  refine JX.thenN ?_
  (repeat' (first | refine JC.seq ?_ | refine JC.ops ?_ | (apply r_loadN; exact rfl; exact rfl; exact rfl; exact rfl; (first | exact at0 | exact at1 | exact at2 | exact at3 | exact at4 | exact at5 | exact at6 | exact at7 | exact at8 | exact at9); exact rfl)))
  refine r_call0 (by first | trivial | exact ⟨rfl, rfl⟩) rfl rfl rfl (fun w hk hs => (c_Inverse 3 1 (fun k => if k = 0 then 4 else 900) (fun k => if k = 0 then 0 else if k = 1 then 900 else 811800) w _ sA sA_rt rfl (by decide) (by decide) (BdL.lit (by decide)) ⟨_, rfl, hO1.rd.at hk hs (by (repeat' first | exact HSub.nil _ | exact HSub.hd | exact HSub.in0 | exact HSub.refl _ | refine HSub.skip ?_ | refine HSub.skipN ?_))⟩ (at_lit (by decide)) (by decide) (by decide) (by decide) (by decide) (by decide)) ) fun w v w' _ _ _ hR => ?_
  rw [if_neg (show ¬ (det sA.r sA.at).natAbs = 1 by rw [show det sA.r sA.at = -2 from sA_det]; decide)] at hR
  subst hR
  (repeat' (first | refine JO.nil ?_ | (apply r_move; exact rfl; exact rfl; exact rfl) | (apply r_assign; exact rfl; exact rfl; exact rfl) | (apply r_extract; exact rfl; exact rfl; exact rfl; exact rfl) | (apply r_storeN; exact rfl; (first | exact trivial | exact ⟨rfl, rfl⟩); exact rfl; exact rfl; (first | exact at0 | exact at1 | exact at2 | exact at3 | exact at4 | exact at5 | exact at6 | exact at7 | exact at8 | exact at9); exact rfl; exact rfl; exact rfl) | (apply r_allocZ; exact rfl; exact rfl; exact rfl; intro _) | (apply r_storeN; exact rfl; (first | exact trivial | exact ⟨rfl, rfl⟩); exact rfl; exact rfl; (first | exact at0 | exact at1 | exact at2 | exact at3 | exact at4 | exact at5 | exact at6 | exact at7 | exact at8 | exact at9); exact rfl; exact rfl; exact rfl)))
  refine JX.part (F' := [(9, .bool false), (7, .bool true), (6, .pointer (some ⟨b6, 0, none⟩)), (5, .bool true), (4, .pointer (some ⟨b4, 0, none⟩)), (3, .bool true), (2, .pointer (some ⟨b2, 0, none⟩))]) (H' := [(b6, .cells #[nv 2, nv 2, .slice A6 4 c6] 29), (b4, .cells (wc (-2)) 41), (b2, .cells #[nv 2, nv 2, .slice A2 4 c2] 29)] ++ (N5 ++ (N3 ++ []))) (by repeat first | exact trivial | refine ⟨rfl, ?_⟩) (by (repeat' first | exact HSub.refl _ | exact HSub.nil _ | refine HSub.at 0 rfl ?_ | refine HSub.at 1 rfl ?_ | refine HSub.at 2 rfl ?_ | refine HSub.at 3 rfl ?_ | refine HSub.at 4 rfl ?_ | refine HSub.at 5 rfl ?_ | refine HSub.at 6 rfl ?_ | refine HSub.at 7 rfl ?_ | refine HSub.at 8 rfl ?_ | refine HSub.at 9 rfl ?_ | refine HSub.at 10 rfl ?_ | refine HSub.at 11 rfl ?_ | refine HSub.at 12 rfl ?_ | refine HSub.at 13 rfl ?_ | refine HSub.at 14 rfl ?_ | refine HSub.at 15 rfl ?_ | refine HSub.at 16 rfl ?_ | refine HSub.at 17 rfl ?_ | refine HSub.at 18 rfl ?_ | refine HSub.at 19 rfl ?_ | refine HSub.segH ?_ | refine HSub.skip ?_ | refine HSub.skipN ?_)) ?_
  refine JX.thenN ?_
  (repeat' (first | refine JC.seq ?_ | refine JC.ops ?_ | (apply r_build1; exact rfl; exact rfl; exact rfl; exact rfl; exact rfl; (repeat first | exact trivial | refine ⟨rfl, ?_⟩); decide; decide; intro _)))
  refine r_callA (A := [_, _, _, _, _, _]) (B := N5 ++ (N3 ++ [])) rfl (by first | trivial | exact ⟨rfl, rfl⟩) rfl (by first | rfl | exact ⟨rfl, rfl⟩) rfl (fun w hk hs => c_Of w _ [[1, 2, 3], [4, 5, 6]] (IsRows.lit2 _ _ (hs_at hs 0 rfl) (WI.lit [1, 2, 3] (hs_at hs 2 rfl) rfl rfl) (WI.lit [4, 5, 6] (hs_at hs 1 rfl) rfl rfl)) (by decide) (by decide) (i64_lit (by decide))) fun w v w' _ _ _ hR => ?_
  rw [show ofZ [[1, 2, 3], [4, 5, 6]] = ⟨2, 3, [1, 2, 3, 4, 5, 6]⟩ by kernel_rfl] at hR
  obtain ⟨N6, hN6, Ex, rfl, hOx⟩ := hR
  obtain ⟨Ax, cx, rfl⟩ := hOx.form
  refine ⟨N6, hN6, ?_⟩
  skip
  refine r_callA (A := [_, _, _, _, _, _]) (B := N6 ++ (N5 ++ (N3 ++ []))) rfl (by first | trivial | exact ⟨rfl, rfl⟩) rfl rfl rfl (fun w hk hs => c_Part w _ ⟨2, 3, [1, 2, 3, 4, 5, 6]⟩ 1 1 1 2 ⟨by decide, by decide, rfl⟩ (by decide) (by decide) ⟨_, rfl, hOx.rd.at hk hs (by (repeat' first | exact HSub.nil _ | exact HSub.hd | exact HSub.in0 | exact HSub.refl _ | refine HSub.skip ?_ | refine HSub.skipN ?_))⟩) fun w v w' _ _ _ hR => ?_
  rw [sP_part] at hR
  obtain ⟨N7, u7, rfl, hN7, E10, rfl, hO10⟩ := hR
  obtain ⟨A10, c10, rfl⟩ := hO10.form
  refine ⟨N7, hN7, ?_⟩
  (repeat' (first | refine JO.nil ?_ | (apply r_move; exact rfl; exact rfl; exact rfl) | (apply r_assign; exact rfl; exact rfl; exact rfl) | (apply r_extract; exact rfl; exact rfl; exact rfl; exact rfl) | (apply r_storeN; exact rfl; (first | exact trivial | exact ⟨rfl, rfl⟩); exact rfl; exact rfl; (first | exact at0 | exact at1 | exact at2 | exact at3 | exact at4 | exact at5 | exact at6 | exact at7 | exact at8 | exact at9); exact rfl; exact rfl; exact rfl) | (apply r_allocZ; exact rfl; exact rfl; exact rfl; intro _) | (apply r_storeN; exact rfl; (first | exact trivial | exact ⟨rfl, rfl⟩); exact rfl; exact rfl; (first | exact at0 | exact at1 | exact at2 | exact at3 | exact at4 | exact at5 | exact at6 | exact at7 | exact at8 | exact at9); exact rfl; exact rfl; exact rfl)))
  rename_i b10
  refine JX.part (F' := [(11, .bool true), (10, .pointer (some ⟨b10, 0, none⟩)), (9, .bool false), (7, .bool true), (6, .pointer (some ⟨b6, 0, none⟩)), (5, .bool true), (4, .pointer (some ⟨b4, 0, none⟩)), (3, .bool true), (2, .pointer (some ⟨b2, 0, none⟩))]) (H' := [(b10, .cells #[nv 1, nv 2, .slice A10 2 c10] 29), (b6, .cells #[nv 2, nv 2, .slice A6 4 c6] 29), (b4, .cells (wc (-2)) 41), (b2, .cells #[nv 2, nv 2, .slice A2 4 c2] 29)] ++ (N7 ++ (N5 ++ (N3 ++ [])))) (by repeat first | exact trivial | refine ⟨rfl, ?_⟩) (by (repeat' first | exact HSub.refl _ | exact HSub.nil _ | refine HSub.at 0 rfl ?_ | refine HSub.at 1 rfl ?_ | refine HSub.at 2 rfl ?_ | refine HSub.at 3 rfl ?_ | refine HSub.at 4 rfl ?_ | refine HSub.at 5 rfl ?_ | refine HSub.at 6 rfl ?_ | refine HSub.at 7 rfl ?_ | refine HSub.at 8 rfl ?_ | refine HSub.at 9 rfl ?_ | refine HSub.at 10 rfl ?_ | refine HSub.at 11 rfl ?_ | refine HSub.at 12 rfl ?_ | refine HSub.at 13 rfl ?_ | refine HSub.at 14 rfl ?_ | refine HSub.at 15 rfl ?_ | refine HSub.at 16 rfl ?_ | refine HSub.at 17 rfl ?_ | refine HSub.at 18 rfl ?_ | refine HSub.at 19 rfl ?_ | refine HSub.segH ?_ | refine HSub.skip ?_ | refine HSub.skipN ?_)) ?_
  refine JX.thenN ?_
  (repeat' (first | refine JC.seq ?_))
  refine JC.share [(12, .bool true), (11, .bool true), (10, .pointer (some ⟨b10, 0, none⟩)), (9, .bool false), (7, .bool true), (6, .pointer (some ⟨b6, 0, none⟩)), (5, .bool true), (4, .pointer (some ⟨b4, 0, none⟩))] ([(b10, .cells #[nv 1, nv 2, .slice A10 2 c10] 29), (b6, .cells #[nv 2, nv 2, .slice A6 4 c6] 29), (b4, .cells (wc (-2)) 41)] ++ (N7 ++ (N5 ++ []))) ?_ (fun rest => ?_)
  · refine JX.thenN ?_
    (repeat' (first | refine JC.seq ?_ | refine JC.opsD ?_ | (apply r_move; exact rfl; exact rfl; exact rfl) | (apply r_loadN; exact rfl; exact rfl; exact rfl; exact rfl; (first | exact at0 | exact at1 | exact at2 | exact at3 | exact at4 | exact at5 | exact at6 | exact at7 | exact at8 | exact at9); exact rfl) | (apply r_pickT; exact rfl; exact rfl; exact rfl; exact rfl)))
    refine r_call0 (by first | trivial | exact ⟨rfl, rfl⟩) rfl (by first | rfl | exact ⟨rfl, rfl⟩) rfl (fun w _ _ => c_FromR w (-2) (by decide) (by decide)) fun w v w' _ _ _ hR => ?_
    subst hR
    (repeat' (first | (apply r_move; exact rfl; exact rfl; exact rfl) | (apply r_loadN; exact rfl; exact rfl; exact rfl; exact rfl; (first | exact at0 | exact at1 | exact at2 | exact at3 | exact at4 | exact at5 | exact at6 | exact at7 | exact at8 | exact at9); exact rfl) | (apply r_pickT; exact rfl; exact rfl; exact rfl; exact rfl) | (apply r_eqWT; exact rfl; exact rfl; exact rfl; exact rfl; (first | exact rfl | assumption)) | (apply r_build1; exact rfl; exact rfl; exact rfl; exact rfl; exact rfl; (repeat first | exact trivial | refine ⟨rfl, ?_⟩); decide; decide; intro _)))
    refine r_callA (A := [_, _, _, _, _, _]) (B := N7 ++ (N5 ++ [])) rfl (by first | trivial | exact ⟨rfl, rfl⟩) rfl (by first | rfl | exact ⟨rfl, rfl⟩) rfl (fun w hk hs => c_Of w _ [[1, -1], [-1, 2]] (IsRows.lit2 _ _ (hs_at hs 0 rfl) (WI.lit [1, -1] (hs_at hs 2 rfl) rfl rfl) (WI.lit [-1, 2] (hs_at hs 1 rfl) rfl rfl)) (by decide) (by decide) (i64_lit (by decide))) fun w v w' _ _ _ hR => ?_
    rw [show ofZ [[1, -1], [-1, 2]] = ⟨2, 2, [1, -1, -1, 2]⟩ by kernel_rfl] at hR
    obtain ⟨N8, hN8, Ep, rfl, hOp⟩ := hR
    obtain ⟨Ap, cp, rfl⟩ := hOp.form
    refine ⟨N8, hN8, ?_⟩
    skip
    refine r_call0 (by first | trivial | exact ⟨rfl, rfl⟩) rfl (by first | rfl | exact ⟨rfl, rfl⟩) rfl (fun w hk hs => c_EqualT w _ _ ⟨2, 2, [1, -1, -1, 2]⟩ ⟨by decide, by decide, rfl⟩ ⟨_, rfl, hO6.rd.at hk hs (by (repeat' first | exact HSub.nil _ | exact HSub.hd | exact HSub.in0 | exact HSub.refl _ | refine HSub.skip ?_ | refine HSub.skipN ?_))⟩ ⟨_, rfl, hOp.rd.at hk hs (by (repeat' first | exact HSub.nil _ | exact HSub.hd | exact HSub.in0 | exact HSub.refl _ | refine HSub.skip ?_ | refine HSub.skipN ?_))⟩) fun w v w' _ _ _ hR => ?_
    subst hR
    (repeat' (first | (apply r_move; exact rfl; exact rfl; exact rfl) | (apply r_loadN; exact rfl; exact rfl; exact rfl; exact rfl; (first | exact at0 | exact at1 | exact at2 | exact at3 | exact at4 | exact at5 | exact at6 | exact at7 | exact at8 | exact at9); exact rfl) | (apply r_pickT; exact rfl; exact rfl; exact rfl; exact rfl) | (apply r_not; exact rfl; exact rfl; exact rfl) | (apply r_build1; exact rfl; exact rfl; exact rfl; exact rfl; exact rfl; (repeat first | exact trivial | refine ⟨rfl, ?_⟩); decide; decide; intro _)))
    refine r_callA (A := [_, _, _, _, _, _, _, _]) (B := N8 ++ (N7 ++ (N5 ++ []))) rfl (by first | trivial | exact ⟨rfl, rfl⟩) rfl (by first | rfl | exact ⟨rfl, rfl⟩) rfl (fun w hk hs => c_Of w _ [[5, 6]] (IsRows.lit1 _ (hs_at hs 0 rfl) (WI.lit [5, 6] (hs_at hs 1 rfl) rfl rfl)) (by decide) (by decide) (i64_lit (by decide))) fun w v w' _ _ _ hR => ?_
    rw [show ofZ [[5, 6]] = ⟨1, 2, [5, 6]⟩ by kernel_rfl] at hR
    obtain ⟨N9, hN9, Eq, rfl, hOq⟩ := hR
    obtain ⟨Aq, cq, rfl⟩ := hOq.form
    refine ⟨N9, hN9, ?_⟩
    skip
    refine r_call0 (by first | trivial | exact ⟨rfl, rfl⟩) rfl (by first | rfl | exact ⟨rfl, rfl⟩) rfl (fun w hk hs => c_EqualT w _ _ ⟨1, 2, [5, 6]⟩ ⟨by decide, by decide, rfl⟩ ⟨_, rfl, hO10.rd.at hk hs (by (repeat' first | exact HSub.nil _ | exact HSub.hd | exact HSub.in0 | exact HSub.refl _ | refine HSub.skip ?_ | refine HSub.skipN ?_))⟩ ⟨_, rfl, hOq.rd.at hk hs (by (repeat' first | exact HSub.nil _ | exact HSub.hd | exact HSub.in0 | exact HSub.refl _ | refine HSub.skip ?_ | refine HSub.skipN ?_))⟩) fun w v w' _ _ _ hR => ?_
    subst hR
    (repeat' (first | refine JO.nil ?_ | (apply r_assign; exact rfl; exact rfl; exact rfl) | (apply r_pickT; exact rfl; exact rfl; exact rfl; exact rfl)))
    refine JX.thenN ?_
    (repeat' (first | refine JC.ret ?_))
    exact JX.ret1 rfl (fun a w' st => ⟨st.kp, rfl⟩)
  · refine JC.forks mixed (JG.fork 3 6 (by decide) (JG.leaf _ (HSub.refl _) (fun i op => kindAt [] i op) 1 [0, 1, 2, 3, 4, 5, 6, 7, 8, 9, 10, 11, 12, 13, 14, 15, 16, 17, 18, 19, 20] (by kernel_rfl) ?_) (JG.fork 2 6 (by decide) (JG.leaf _ (HSub.refl _) (fun i op => kindAt [] i op) 1 [0, 1, 2, 4, 5, 6, 3, 7, 8, 9, 10, 11, 12, 13, 14, 15, 16, 17, 18, 19, 20] (by kernel_rfl) ?_) (JG.leaf _ (HSub.refl _) (fun i op => kindAt [] i op) 1 [4, 5, 6, 0, 1, 2, 3, 7, 8, 9, 10, 11, 12, 13, 14, 15, 16, 17, 18, 19, 20] (by kernel_rfl) ?_)))
    · simp only [sopsAt, toSOp, kindAt]
      (repeat' (first | (apply r_build1; exact rfl; exact rfl; exact rfl; exact rfl; exact rfl; (repeat first | exact trivial | refine ⟨rfl, ?_⟩); decide; decide; intro _)))
      refine r_callA (A := [_, _, _, _, _, _, _]) (B := N7 ++ (N5 ++ (N3 ++ []))) rfl (by first | trivial | exact ⟨rfl, rfl⟩) rfl (by first | rfl | exact ⟨rfl, rfl⟩) rfl (fun w hk hs => c_Of w _ [[1, 2], [3]] (IsRows.lit2 _ _ (hs_at hs 0 rfl) (WI.lit [1, 2] (hs_at hs 2 rfl) rfl rfl) (WI.lit [3] (hs_at hs 1 rfl) rfl rfl)) (by decide) (by decide) (i64_lit (by decide))) fun w v w' _ _ _ hR => ?_
      rw [show ofZ [[1, 2], [3]] = ⟨2, 2, [1, 2, 3, 0]⟩ by kernel_rfl] at hR
      obtain ⟨N8, hN8, Ep, rfl, hOp⟩ := hR
      obtain ⟨Ap, cp, rfl⟩ := hOp.form
      refine ⟨N8, hN8, ?_⟩
      (repeat' (first | (apply r_build1; exact rfl; exact rfl; exact rfl; exact rfl; exact rfl; (repeat first | exact trivial | refine ⟨rfl, ?_⟩); decide; decide; intro _)))
      refine r_callA (A := [_, _, _, _, _, _, _, _, _, _]) (B := N8 ++ (N7 ++ (N5 ++ (N3 ++ [])))) rfl (by first | trivial | exact ⟨rfl, rfl⟩) rfl (by first | rfl | exact ⟨rfl, rfl⟩) rfl (fun w hk hs => c_Of w _ [[1, 2], [3, 0]] (IsRows.lit2 _ _ (hs_at hs 0 rfl) (WI.lit [1, 2] (hs_at hs 2 rfl) rfl rfl) (WI.lit [3, 0] (hs_at hs 1 rfl) rfl rfl)) (by decide) (by decide) (i64_lit (by decide))) fun w v w' _ _ _ hR => ?_
      rw [show ofZ [[1, 2], [3, 0]] = ⟨2, 2, [1, 2, 3, 0]⟩ by kernel_rfl] at hR
      obtain ⟨N9, hN9, Eq, rfl, hOq⟩ := hR
      obtain ⟨Aq, cq, rfl⟩ := hOq.form
      refine ⟨N9, hN9, ?_⟩
      skip
      refine r_call0 (by first | trivial | exact ⟨rfl, rfl⟩) rfl (by first | rfl | exact ⟨rfl, rfl⟩) rfl (fun w hk hs => c_EqualT w _ _ ⟨2, 2, [1, 2, 3, 0]⟩ ⟨by decide, by decide, rfl⟩ ⟨_, rfl, hOp.rd.at hk hs (by (repeat' first | exact HSub.nil _ | exact HSub.hd | exact HSub.in0 | exact HSub.refl _ | refine HSub.skip ?_ | refine HSub.skipN ?_))⟩ ⟨_, rfl, hOq.rd.at hk hs (by (repeat' first | exact HSub.nil _ | exact HSub.hd | exact HSub.in0 | exact HSub.refl _ | refine HSub.skip ?_ | refine HSub.skipN ?_))⟩) fun w v w' _ _ _ hR => ?_
      subst hR
      (repeat' (first | (apply r_move; exact rfl; exact rfl; exact rfl) | (apply r_loadN; exact rfl; exact rfl; exact rfl; exact rfl; (first | exact at0 | exact at1 | exact at2 | exact at3 | exact at4 | exact at5 | exact at6 | exact at7 | exact at8 | exact at9); exact rfl) | (apply r_pickT; exact rfl; exact rfl; exact rfl; exact rfl) | (apply r_build1; exact rfl; exact rfl; exact rfl; exact rfl; exact rfl; (repeat first | exact trivial | refine ⟨rfl, ?_⟩); decide; decide; intro _)))
      refine r_callA (A := [_, _, _, _, _, _, _, _, _, _, _, _, _]) (B := N9 ++ (N8 ++ (N7 ++ (N5 ++ (N3 ++ []))))) rfl (by first | trivial | exact ⟨rfl, rfl⟩) rfl (by first | rfl | exact ⟨rfl, rfl⟩) rfl (fun w hk hs => c_Of w _ [[2, 1], [4, 3]] (IsRows.lit2 _ _ (hs_at hs 0 rfl) (WI.lit [2, 1] (hs_at hs 2 rfl) rfl rfl) (WI.lit [4, 3] (hs_at hs 1 rfl) rfl rfl)) (by decide) (by decide) (i64_lit (by decide))) fun w v w' _ _ _ hR => ?_
      rw [show ofZ [[2, 1], [4, 3]] = ⟨2, 2, [2, 1, 4, 3]⟩ by kernel_rfl] at hR
      obtain ⟨N11, hN11, Er, rfl, hOr⟩ := hR
      obtain ⟨Ar, cr, rfl⟩ := hOr.form
      refine ⟨N11, hN11, ?_⟩
      skip
      refine r_call0 (by first | trivial | exact ⟨rfl, rfl⟩) rfl (by first | rfl | exact ⟨rfl, rfl⟩) rfl (fun w hk hs => c_EqualT w _ _ ⟨2, 2, [2, 1, 4, 3]⟩ ⟨by decide, by decide, rfl⟩ ⟨_, rfl, hO2.rd.at hk hs (by (repeat' first | exact HSub.nil _ | exact HSub.hd | exact HSub.in0 | exact HSub.refl _ | refine HSub.skip ?_ | refine HSub.skipN ?_))⟩ ⟨_, rfl, hOr.rd.at hk hs (by (repeat' first | exact HSub.nil _ | exact HSub.hd | exact HSub.in0 | exact HSub.refl _ | refine HSub.skip ?_ | refine HSub.skipN ?_))⟩) fun w v w' _ _ _ hR => ?_
      subst hR
      (repeat' (first | refine JO.nil ?_ | (apply r_assign; exact rfl; exact rfl; exact rfl) | (apply r_pickT; exact rfl; exact rfl; exact rfl; exact rfl)))
      exact rest.part (by repeat first | exact trivial | refine ⟨rfl, ?_⟩) (by (repeat' first | exact HSub.refl _ | exact HSub.nil _ | refine HSub.at 0 rfl ?_ | refine HSub.at 1 rfl ?_ | refine HSub.at 2 rfl ?_ | refine HSub.at 3 rfl ?_ | refine HSub.at 4 rfl ?_ | refine HSub.at 5 rfl ?_ | refine HSub.at 6 rfl ?_ | refine HSub.at 7 rfl ?_ | refine HSub.at 8 rfl ?_ | refine HSub.at 9 rfl ?_ | refine HSub.at 10 rfl ?_ | refine HSub.at 11 rfl ?_ | refine HSub.at 12 rfl ?_ | refine HSub.at 13 rfl ?_ | refine HSub.at 14 rfl ?_ | refine HSub.at 15 rfl ?_ | refine HSub.at 16 rfl ?_ | refine HSub.at 17 rfl ?_ | refine HSub.at 18 rfl ?_ | refine HSub.at 19 rfl ?_ | refine HSub.segH ?_ | refine HSub.skip ?_ | refine HSub.skipN ?_))
    · simp only [sopsAt, toSOp, kindAt]
      (repeat' (first | (apply r_build1; exact rfl; exact rfl; exact rfl; exact rfl; exact rfl; (repeat first | exact trivial | refine ⟨rfl, ?_⟩); decide; decide; intro _)))
      refine r_callA (A := [_, _, _, _, _, _, _, _, _, _]) (B := N7 ++ (N5 ++ (N3 ++ []))) rfl (by first | trivial | exact ⟨rfl, rfl⟩) rfl (by first | rfl | exact ⟨rfl, rfl⟩) rfl (fun w hk hs => c_Of w _ [[1, 2], [3]] (IsRows.lit2 _ _ (hs_at hs 3 rfl) (WI.lit [1, 2] (hs_at hs 5 rfl) rfl rfl) (WI.lit [3] (hs_at hs 4 rfl) rfl rfl)) (by decide) (by decide) (i64_lit (by decide))) fun w v w' _ _ _ hR => ?_
      rw [show ofZ [[1, 2], [3]] = ⟨2, 2, [1, 2, 3, 0]⟩ by kernel_rfl] at hR
      obtain ⟨N8, hN8, Ep, rfl, hOp⟩ := hR
      obtain ⟨Ap, cp, rfl⟩ := hOp.form
      refine ⟨N8, hN8, ?_⟩
      skip
      refine r_callA (A := [_, _, _, _, _, _, _, _, _, _]) (B := N8 ++ (N7 ++ (N5 ++ (N3 ++ [])))) rfl (by first | trivial | exact ⟨rfl, rfl⟩) rfl (by first | rfl | exact ⟨rfl, rfl⟩) rfl (fun w hk hs => c_Of w _ [[1, 2], [3, 0]] (IsRows.lit2 _ _ (hs_at hs 0 rfl) (WI.lit [1, 2] (hs_at hs 2 rfl) rfl rfl) (WI.lit [3, 0] (hs_at hs 1 rfl) rfl rfl)) (by decide) (by decide) (i64_lit (by decide))) fun w v w' _ _ _ hR => ?_
      rw [show ofZ [[1, 2], [3, 0]] = ⟨2, 2, [1, 2, 3, 0]⟩ by kernel_rfl] at hR
      obtain ⟨N9, hN9, Eq, rfl, hOq⟩ := hR
      obtain ⟨Aq, cq, rfl⟩ := hOq.form
      refine ⟨N9, hN9, ?_⟩
      skip
      refine r_call0 (by first | trivial | exact ⟨rfl, rfl⟩) rfl (by first | rfl | exact ⟨rfl, rfl⟩) rfl (fun w hk hs => c_EqualT w _ _ ⟨2, 2, [1, 2, 3, 0]⟩ ⟨by decide, by decide, rfl⟩ ⟨_, rfl, hOp.rd.at hk hs (by (repeat' first | exact HSub.nil _ | exact HSub.hd | exact HSub.in0 | exact HSub.refl _ | refine HSub.skip ?_ | refine HSub.skipN ?_))⟩ ⟨_, rfl, hOq.rd.at hk hs (by (repeat' first | exact HSub.nil _ | exact HSub.hd | exact HSub.in0 | exact HSub.refl _ | refine HSub.skip ?_ | refine HSub.skipN ?_))⟩) fun w v w' _ _ _ hR => ?_
      subst hR
      (repeat' (first | (apply r_move; exact rfl; exact rfl; exact rfl) | (apply r_loadN; exact rfl; exact rfl; exact rfl; exact rfl; (first | exact at0 | exact at1 | exact at2 | exact at3 | exact at4 | exact at5 | exact at6 | exact at7 | exact at8 | exact at9); exact rfl) | (apply r_pickT; exact rfl; exact rfl; exact rfl; exact rfl) | (apply r_build1; exact rfl; exact rfl; exact rfl; exact rfl; exact rfl; (repeat first | exact trivial | refine ⟨rfl, ?_⟩); decide; decide; intro _)))
      refine r_callA (A := [_, _, _, _, _, _, _, _, _, _, _, _, _]) (B := N9 ++ (N8 ++ (N7 ++ (N5 ++ (N3 ++ []))))) rfl (by first | trivial | exact ⟨rfl, rfl⟩) rfl (by first | rfl | exact ⟨rfl, rfl⟩) rfl (fun w hk hs => c_Of w _ [[2, 1], [4, 3]] (IsRows.lit2 _ _ (hs_at hs 0 rfl) (WI.lit [2, 1] (hs_at hs 2 rfl) rfl rfl) (WI.lit [4, 3] (hs_at hs 1 rfl) rfl rfl)) (by decide) (by decide) (i64_lit (by decide))) fun w v w' _ _ _ hR => ?_
      rw [show ofZ [[2, 1], [4, 3]] = ⟨2, 2, [2, 1, 4, 3]⟩ by kernel_rfl] at hR
      obtain ⟨N11, hN11, Er, rfl, hOr⟩ := hR
      obtain ⟨Ar, cr, rfl⟩ := hOr.form
      refine ⟨N11, hN11, ?_⟩
      skip
      refine r_call0 (by first | trivial | exact ⟨rfl, rfl⟩) rfl (by first | rfl | exact ⟨rfl, rfl⟩) rfl (fun w hk hs => c_EqualT w _ _ ⟨2, 2, [2, 1, 4, 3]⟩ ⟨by decide, by decide, rfl⟩ ⟨_, rfl, hO2.rd.at hk hs (by (repeat' first | exact HSub.nil _ | exact HSub.hd | exact HSub.in0 | exact HSub.refl _ | refine HSub.skip ?_ | refine HSub.skipN ?_))⟩ ⟨_, rfl, hOr.rd.at hk hs (by (repeat' first | exact HSub.nil _ | exact HSub.hd | exact HSub.in0 | exact HSub.refl _ | refine HSub.skip ?_ | refine HSub.skipN ?_))⟩) fun w v w' _ _ _ hR => ?_
      subst hR
      (repeat' (first | refine JO.nil ?_ | (apply r_assign; exact rfl; exact rfl; exact rfl) | (apply r_pickT; exact rfl; exact rfl; exact rfl; exact rfl)))
      exact rest.part (by repeat first | exact trivial | refine ⟨rfl, ?_⟩) (by (repeat' first | exact HSub.refl _ | exact HSub.nil _ | refine HSub.at 0 rfl ?_ | refine HSub.at 1 rfl ?_ | refine HSub.at 2 rfl ?_ | refine HSub.at 3 rfl ?_ | refine HSub.at 4 rfl ?_ | refine HSub.at 5 rfl ?_ | refine HSub.at 6 rfl ?_ | refine HSub.at 7 rfl ?_ | refine HSub.at 8 rfl ?_ | refine HSub.at 9 rfl ?_ | refine HSub.at 10 rfl ?_ | refine HSub.at 11 rfl ?_ | refine HSub.at 12 rfl ?_ | refine HSub.at 13 rfl ?_ | refine HSub.at 14 rfl ?_ | refine HSub.at 15 rfl ?_ | refine HSub.at 16 rfl ?_ | refine HSub.at 17 rfl ?_ | refine HSub.at 18 rfl ?_ | refine HSub.at 19 rfl ?_ | refine HSub.segH ?_ | refine HSub.skip ?_ | refine HSub.skipN ?_))
    · simp only [sopsAt, toSOp, kindAt]
      (repeat' (first | (apply r_build1; exact rfl; exact rfl; exact rfl; exact rfl; exact rfl; (repeat first | exact trivial | refine ⟨rfl, ?_⟩); decide; decide; intro _)))
      refine r_callA (A := [_, _, _, _, _, _, _, _, _, _]) (B := N7 ++ (N5 ++ (N3 ++ []))) rfl (by first | trivial | exact ⟨rfl, rfl⟩) rfl (by first | rfl | exact ⟨rfl, rfl⟩) rfl (fun w hk hs => c_Of w _ [[1, 2], [3]] (IsRows.lit2 _ _ (hs_at hs 0 rfl) (WI.lit [1, 2] (hs_at hs 2 rfl) rfl rfl) (WI.lit [3] (hs_at hs 1 rfl) rfl rfl)) (by decide) (by decide) (i64_lit (by decide))) fun w v w' _ _ _ hR => ?_
      rw [show ofZ [[1, 2], [3]] = ⟨2, 2, [1, 2, 3, 0]⟩ by kernel_rfl] at hR
      obtain ⟨N8, hN8, Ep, rfl, hOp⟩ := hR
      obtain ⟨Ap, cp, rfl⟩ := hOp.form
      refine ⟨N8, hN8, ?_⟩
      skip
      refine r_callA (A := [_, _, _, _, _, _, _, _, _, _]) (B := N8 ++ (N7 ++ (N5 ++ (N3 ++ [])))) rfl (by first | trivial | exact ⟨rfl, rfl⟩) rfl (by first | rfl | exact ⟨rfl, rfl⟩) rfl (fun w hk hs => c_Of w _ [[1, 2], [3, 0]] (IsRows.lit2 _ _ (hs_at hs 3 rfl) (WI.lit [1, 2] (hs_at hs 5 rfl) rfl rfl) (WI.lit [3, 0] (hs_at hs 4 rfl) rfl rfl)) (by decide) (by decide) (i64_lit (by decide))) fun w v w' _ _ _ hR => ?_
      rw [show ofZ [[1, 2], [3, 0]] = ⟨2, 2, [1, 2, 3, 0]⟩ by kernel_rfl] at hR
      obtain ⟨N9, hN9, Eq, rfl, hOq⟩ := hR
      obtain ⟨Aq, cq, rfl⟩ := hOq.form
      refine ⟨N9, hN9, ?_⟩
      skip
      refine r_call0 (by first | trivial | exact ⟨rfl, rfl⟩) rfl (by first | rfl | exact ⟨rfl, rfl⟩) rfl (fun w hk hs => c_EqualT w _ _ ⟨2, 2, [1, 2, 3, 0]⟩ ⟨by decide, by decide, rfl⟩ ⟨_, rfl, hOp.rd.at hk hs (by (repeat' first | exact HSub.nil _ | exact HSub.hd | exact HSub.in0 | exact HSub.refl _ | refine HSub.skip ?_ | refine HSub.skipN ?_))⟩ ⟨_, rfl, hOq.rd.at hk hs (by (repeat' first | exact HSub.nil _ | exact HSub.hd | exact HSub.in0 | exact HSub.refl _ | refine HSub.skip ?_ | refine HSub.skipN ?_))⟩) fun w v w' _ _ _ hR => ?_
      subst hR
      (repeat' (first | (apply r_move; exact rfl; exact rfl; exact rfl) | (apply r_loadN; exact rfl; exact rfl; exact rfl; exact rfl; (first | exact at0 | exact at1 | exact at2 | exact at3 | exact at4 | exact at5 | exact at6 | exact at7 | exact at8 | exact at9); exact rfl) | (apply r_pickT; exact rfl; exact rfl; exact rfl; exact rfl) | (apply r_build1; exact rfl; exact rfl; exact rfl; exact rfl; exact rfl; (repeat first | exact trivial | refine ⟨rfl, ?_⟩); decide; decide; intro _)))
      refine r_callA (A := [_, _, _, _, _, _, _, _, _, _, _, _, _]) (B := N9 ++ (N8 ++ (N7 ++ (N5 ++ (N3 ++ []))))) rfl (by first | trivial | exact ⟨rfl, rfl⟩) rfl (by first | rfl | exact ⟨rfl, rfl⟩) rfl (fun w hk hs => c_Of w _ [[2, 1], [4, 3]] (IsRows.lit2 _ _ (hs_at hs 0 rfl) (WI.lit [2, 1] (hs_at hs 2 rfl) rfl rfl) (WI.lit [4, 3] (hs_at hs 1 rfl) rfl rfl)) (by decide) (by decide) (i64_lit (by decide))) fun w v w' _ _ _ hR => ?_
      rw [show ofZ [[2, 1], [4, 3]] = ⟨2, 2, [2, 1, 4, 3]⟩ by kernel_rfl] at hR
      obtain ⟨N11, hN11, Er, rfl, hOr⟩ := hR
      obtain ⟨Ar, cr, rfl⟩ := hOr.form
      refine ⟨N11, hN11, ?_⟩
      skip
      refine r_call0 (by first | trivial | exact ⟨rfl, rfl⟩) rfl (by first | rfl | exact ⟨rfl, rfl⟩) rfl (fun w hk hs => c_EqualT w _ _ ⟨2, 2, [2, 1, 4, 3]⟩ ⟨by decide, by decide, rfl⟩ ⟨_, rfl, hO2.rd.at hk hs (by (repeat' first | exact HSub.nil _ | exact HSub.hd | exact HSub.in0 | exact HSub.refl _ | refine HSub.skip ?_ | refine HSub.skipN ?_))⟩ ⟨_, rfl, hOr.rd.at hk hs (by (repeat' first | exact HSub.nil _ | exact HSub.hd | exact HSub.in0 | exact HSub.refl _ | refine HSub.skip ?_ | refine HSub.skipN ?_))⟩) fun w v w' _ _ _ hR => ?_
      subst hR
      (repeat' (first | refine JO.nil ?_ | (apply r_assign; exact rfl; exact rfl; exact rfl) | (apply r_pickT; exact rfl; exact rfl; exact rfl; exact rfl)))
      exact rest.part (by repeat first | exact trivial | refine ⟨rfl, ?_⟩) (by (repeat' first | exact HSub.refl _ | exact HSub.nil _ | refine HSub.at 0 rfl ?_ | refine HSub.at 1 rfl ?_ | refine HSub.at 2 rfl ?_ | refine HSub.at 3 rfl ?_ | refine HSub.at 4 rfl ?_ | refine HSub.at 5 rfl ?_ | refine HSub.at 6 rfl ?_ | refine HSub.at 7 rfl ?_ | refine HSub.at 8 rfl ?_ | refine HSub.at 9 rfl ?_ | refine HSub.at 10 rfl ?_ | refine HSub.at 11 rfl ?_ | refine HSub.at 12 rfl ?_ | refine HSub.at 13 rfl ?_ | refine HSub.at 14 rfl ?_ | refine HSub.at 15 rfl ?_ | refine HSub.at 16 rfl ?_ | refine HSub.at 17 rfl ?_ | refine HSub.at 18 rfl ?_ | refine HSub.at 19 rfl ?_ | refine HSub.segH ?_ | refine HSub.skip ?_ | refine HSub.skipN ?_))

end Go.Proofs.YtdlmnloikakjpaaDoor

/- Walks of the reference of chapter 02: Lists, same, Canonical, Right, alike. ROWZ -/
namespace Go.Proofs.YtdlmnloikakjpaaDoor
open Go Go.RowKit
set_option linter.unusedSimpArgs false
set_option linter.unusedVariables false
set_option linter.unusedSectionVars false

set_option maxHeartbeats 2000000 in
theorem c_Lists (w : World) (v u : Value) (n k : Nat) (xs ys : List WR) (hv : WX w v n xs) (hu : WX w u k ys) (hn : n < 1000000000) (hk : k < 1000000000) : Calls Tryd.prog 33 #[v, u] w (Ret fun v w' => Kp [] w w' ∧ IsB (xs = ys) v) := by
  have hl := hv.len
  have hl' := hu.len
  refine calls_of_S [⟨6, 1, [], []⟩] [] (by simp) [] Tryd.func33 rfl mixed (by kernel_rfl) Tryd.ntmps33 Tryd.results33 rfl ⟨by simp, by simp⟩ (by simp) ?_
  simp only [toS, textOps, toSOp, kindAt, kindOf, odAt, sopsAt, ordOf, zipF]
  have hR := WX.rd (c := ⟨Tryd.prog, 26, w, [], by simp⟩) hv rfl []
  have hR' := WX.rd (c := ⟨Tryd.prog, 26, w, [], by simp⟩) hu rfl []
  (repeat' (first | refine JC.seq ?_ | refine JC.ops ?_ | refine JO.nil ?_ | refine JX.thenN ?_ | (apply r_move; exact rfl; exact rfl; exact rfl) | (apply r_assign; exact rfl; exact rfl; exact rfl) | (apply r_lenX; exact rfl; exact rfl; exact rfl; (first | assumption | exact WX.rd (by assumption) rfl [] | exact OwnX.rd (by assumption))) | (apply r_neq; exact rfl; exact rfl; exact rfl; exact rfl; all_goals intro hc; all_goals try (exfalso; omega)) | refine JX.thenR ?_ | refine JC.skip ?_ | refine JC.ret ?_ | refine JC.condT rfl ?_ | refine JC.condF rfl ?_ | refine JC.block ?_))
  · exact JX.ret1 rfl (fun a w' st => ⟨st.kp, IsB.f (fun h => hc (by rw [← hl, ← hl', h]))⟩)
  · have hnk : n = k := by omega
    subst hnk
    refine JC.loopH (ι := Nat) ⟨fun i => [(5, nv i), (0, v), (1, u)], fun _ => [], fun i => i ≤ n ∧ ∀ j, j < i → xs.getD j w0x = ys.getD j w0x, fun i => n - i⟩ 0 ⟨by omega, fun j h => by omega⟩ (by repeat first | exact trivial | refine ⟨rfl, ?_⟩) (HSub.nil _) (fun i hi => ?_)
    obtain ⟨hin, hpr⟩ := hi
    dsimp only
    by_cases hlt : i < n
    · (repeat' (first | refine JC.seq ?_ | refine JC.ops ?_ | refine JC.opsD ?_ | refine JO.nil ?_ | refine JX.thenN ?_ | (apply r_move; exact rfl; exact rfl; exact rfl) | (apply r_idxX; exact rfl; exact rfl; exact rfl; exact rfl; (first | assumption | exact WX.rd (by assumption) rfl [] | exact OwnX.rd (by assumption)); (first | assumption | omega)) | (apply r_ldX; exact rfl; exact rfl; exact rfl; exact rfl; (first | assumption | exact WX.rd (by assumption) rfl [] | exact OwnX.rd (by assumption)); (repeat' first | exact HSub.nil _ | exact HSub.hd | exact HSub.in0 | exact HSub.refl _ | refine HSub.skip ?_ | refine HSub.skipN ?_); (first | assumption | omega)) | (apply r_lenX; exact rfl; exact rfl; exact rfl; (first | assumption | exact WX.rd (by assumption) rfl [] | exact OwnX.rd (by assumption))) | (apply r_lss; exact rfl; exact rfl; exact rfl; exact rfl; all_goals intro hc; all_goals try (exfalso; omega)) | refine JC.skip ?_ | refine JC.condT rfl ?_ | refine JC.block ?_))
      refine r_neW rfl rfl rfl rfl ?_
      by_cases he : xs.getD i w0x = ys.getD i w0x
      · rw [he]
        simp only [BEq.rfl, decide_true, Bool.and_self, Bool.not_true]
        (repeat' (first | refine JC.ops ?_ | refine JO.nil ?_ | refine JX.thenN ?_ | (apply r_move; exact rfl; exact rfl; exact rfl) | (apply r_assign; exact rfl; exact rfl; exact rfl) | (apply r_add1; exact rfl; exact rfl; exact rfl; exact rfl; omega) | refine JC.skip ?_ | refine JC.condF rfl ?_ | refine JX.blockN ?_))
        refine JX.roundH (i + 1) ⟨by omega, fun j h => ?_⟩ (by dsimp only; omega) (by repeat first | exact trivial | refine ⟨rfl, ?_⟩) (HSub.nil _)
        rcases Nat.lt_or_ge j i with h' | h'
        · exact hpr j h'
        · have : j = i := by omega
          subst this; exact he
      · have hb : (!((xs.getD i w0x).1 == (ys.getD i w0x).1 && decide ((xs.getD i w0x).2 = (ys.getD i w0x).2))) = true := by
          simp only [Bool.not_eq_true', Bool.and_eq_false_iff]
          by_cases h1 : (xs.getD i w0x).1 = (ys.getD i w0x).1
          · refine .inr ?_
            simp only [decide_eq_false_iff_not]
            exact fun h2 => he (Prod.ext h1 h2)
          · exact .inl (by simpa using h1)
        rw [hb]
        (repeat' (first | refine JC.seq ?_ | refine JC.ops ?_ | refine JO.nil ?_ | refine JX.thenN ?_ | (apply r_assign; exact rfl; exact rfl; exact rfl) | refine JX.thenR ?_ | refine JC.ret ?_ | refine JC.condT rfl ?_ | refine JX.blockR ?_))
        exact JX.ret1 rfl (fun a w' st => ⟨st.kp, IsB.f (fun h => he (by rw [h]))⟩)
    · (repeat' (first | refine JC.seq ?_ | refine JC.ops ?_ | refine JO.nil ?_ | refine JX.thenN ?_ | (apply r_move; exact rfl; exact rfl; exact rfl) | (apply r_assign; exact rfl; exact rfl; exact rfl) | (apply r_lenX; exact rfl; exact rfl; exact rfl; (first | assumption | exact WX.rd (by assumption) rfl [] | exact OwnX.rd (by assumption))) | (apply r_lss; exact rfl; exact rfl; exact rfl; exact rfl; all_goals intro hc; all_goals try (exfalso; omega)) | refine JX.thenE ?_ | refine JC.exit ?_ | refine JC.ret ?_ | refine JC.condF rfl ?_ | refine JX.blockE ?_))
      refine JX.ret1 rfl (fun a w' st => ⟨st.kp, IsB.t (ext_getD (d := w0x) (by omega) (fun j hj => hpr j (by omega)))⟩)

set_option maxHeartbeats 2000000 in
theorem c_same (w : World) (v u : Value) (a b : XM) (ha : IsX w v a) (hb : IsX w u b) (hl : a.E.length < 1000000000) (hl' : b.E.length < 1000000000) : Calls Tryd.prog 22 #[v, u] w (Ret fun v w' => Kp [] w w' ∧ IsB (a = b) v) := by
  obtain ⟨E, rfl, hE⟩ := ha
  obtain ⟨E', rfl, hE'⟩ := hb
  refine calls_of_S [] [] (by simp) [] Tryd.func22 rfl mixed (by kernel_rfl) Tryd.ntmps22 Tryd.results22 rfl ⟨by simp, by simp⟩ (by simp) ?_
  simp only [toS, textOps, toSOp, kindAt, kindOf, odAt, sopsAt, ordOf, zipF]
  (repeat' (first | refine JC.seq ?_ | refine JC.ops ?_ | refine JO.nil ?_ | refine JX.thenN ?_ | (apply r_move; exact rfl; exact rfl; exact rfl) | (apply r_fieldAddr; exact rfl; exact rfl; exact rfl) | (apply r_assign; exact rfl; exact rfl; exact rfl) | (apply r_load; exact rfl; exact rfl; exact rfl; exact rfl; (first | exact at0 | exact at1 | exact at2 | exact at3 | exact at4 | exact at5 | exact at6 | exact at7 | exact at8 | exact at9); exact rfl) | (apply r_pickT; exact rfl; exact rfl; exact rfl; exact rfl) | (apply r_pickF; exact rfl; exact rfl; exact rfl; exact rfl) | (apply r_eql; exact rfl; exact rfl; exact rfl; exact rfl; all_goals intro hc; all_goals try (exfalso; omega)) | (apply r_boxA; exact rfl; exact rfl; exact rfl; exact rfl; intro _) | refine JC.ret ?_ | (apply r_skip; exact rfl; exact rfl; (first | (intro h; cases h; done) | (intro _; rfl)))))
  all_goals first
    | exact JX.ret1 rfl (fun a w' st => ⟨st.kp, IsB.f (fun h => by subst h; first | exact hc rfl | (rename_i hd; exact hd rfl) | omega)⟩)
    | skip
  refine r_call0 trivial rfl rfl rfl (fun w hk _ => c_Lists w _ _ _ _ _ _ (hE.mono hk) (hE'.mono hk) hl hl') fun w v w' _ _ _ hR => ?_
  obtain ⟨b', rfl, hb'⟩ := hR
  (repeat' (first | refine JO.nil ?_ | refine JX.thenN ?_ | (apply r_assign; exact rfl; exact rfl; exact rfl) | (apply r_pickT; exact rfl; exact rfl; exact rfl; exact rfl) | refine JC.ret ?_))
  refine JX.ret1 rfl (fun a w' st => ⟨st.kp, b', rfl, hb'.trans ⟨fun h => XM.ext' (by omega) (by omega) h, fun h => by rw [h]⟩⟩)

end Go.Proofs.YtdlmnloikakjpaaDoor

