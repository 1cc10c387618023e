import Derived.Test.YtemdknkghacheaaDoorMj
import Derived.Test.YtemdknkghacheaaDoorTie
import Derived.Test.YtemdknkghacheaaDoorCards
import Derived.Shelf.Lay
import Derived.Lay
import Derived.LaidOnce
import Derived.SevenTiedAt
/- The law SmithDiagonal: the walk. ROWZ ROWT SMITH -/
namespace Go.Proofs.YtemdknkghacheaaDoor
open Go Go.RowKit
set_option linter.unusedSimpArgs false
set_option linter.unusedVariables false
set_option linter.unusedSectionVars false

theorem own_nilI (b r : Nat) (hr : r ≤ 200) : OwnRow 22 1 [(b, .cells (zerosOf #[.slice none 0 0] (r * 1)) 22)] (.slice (some ⟨b, 0, none⟩) r r) r (List.replicate r (.slice none 0 0)) := by
  have h := OwnRow.mk' (e := 22) (sz := 1) (n := r) (b := b) (cs := zerosOf #[.slice none 0 0] (r * 1)) (by rw [zeros1]; simp) (by simp only [maxLen]; omega)
  rw [zeros1] at h ⊢
  simpa using h
theorem own_zeroI (b r : Nat) (hr : r ≤ 200) : OwnI [(b, .cells (zerosOf #[iv 0] (r * 1)) 3)] (.slice (some ⟨b, 0, none⟩) r r) r (List.replicate r 0) := by
  have h := OwnRow.mk' (e := 3) (sz := 1) (n := r) (b := b) (cs := zerosOf #[iv 0] (r * 1)) (by rw [zeros1]; simp) (by simp only [maxLen]; omega)
  unfold OwnI
  rw [List.map_replicate]
  rw [zeros1] at h ⊢
  simpa using h

theorem get_mid {α : Type} {l r : List α} {x : α} {k : Nat} (h : l.length = k) : ((l ++ [x]) ++ r)[k]? = some x := by
  rw [List.append_assoc, List.getElem?_append_right (by omega), h, Nat.sub_self]; rfl
theorem sub_two {a b : Nat × Obj} {N M : SHeap} : HSub ([a, b] ++ (N ++ M)) ([] ++ (N ++ ([a, b] ++ M))) := ⟨[], by
  classical
  rw [List.perm_iff_count]
  intro x
  simp only [List.count_append, List.count_nil]
  omega⟩
theorem isRows_of {c' : Cx} {H N : SHeap} {v : Value} {n : Nat} {ts : List TR} {w : World} {L : List Int} (hO : OwnRow 22 1 N v n (ts.map (·.2.1))) (htl : ts.length = n) (hrows : ∀ t ∈ ts, OwnI t.1 t.2.1 n t.2.2) (hts : ts.map (·.2.2) = (List.range n).map (dR L n)) (hk : Kp c'.M c'.w0 w) (hs : Hsat H w) (h1 : HSub N H) (h2 : HSub (tH ts) H) : IsRows w v (dRows L n) := by
  refine ⟨ts.map (·.2.1), by rw [dRows_len]; exact (OwnRow.rd (c := c') hO).at hk hs h1, fun i hi => ?_⟩
  rw [dRows_len] at hi
  have hi' : i < ts.length := by omega
  rw [dRows_at L hi, dR_len]
  have e1 : (ts.map (·.2.1)).getD i (iv 0) = tv ts i := by rw [List.getD, tv_get hi']; rfl
  have e2 : tr' ts i = dR L n i := by
    have h := congrArg (fun l => l.getD i []) hts
    rw [List.getD, List.getElem?_map, List.getElem?_eq_getElem hi', List.getD, List.getElem?_map, List.getElem?_range hi] at h
    unfold tr'
    rw [List.getD, List.getElem?_eq_getElem hi']
    exact h
  rw [e1, ← e2]
  have hm := tg_mem hi'
  exact ((hrows _ hm).rd (c := c')).at hk hs ((tH_sub hm).trans h2)
theorem dBd (L : List Int) (n K : Nat) : BdZ (K + 1) (ofZ (dRows L n)) := BdZ.of fun i j hi _ => by
  rw [dRows_len] at hi
  have h : (ofE (dRows L n) i j).natAbs ≤ 99 := by
    unfold ofE
    rw [dRows_at L hi, dR_at L hi]
    split
    · exact dX_le L i
    · decide
  refine Nat.lt_of_le_of_lt h (Nat.lt_of_lt_of_le (show 99 < 256 ^ 1 by decide) (Nat.pow_le_pow_right (by decide) (by omega)))
theorem dI64 (L : List Int) (n : Nat) (i j : Nat) : I64 (((dRows L n).getD i []).getD j 0) := by
  have h : (((dRows L n).getD i []).getD j 0).natAbs ≤ 99 := by
    by_cases hi : i < n
    · rw [dRows_at L hi, dR_at L hi]
      split
      · exact dX_le L i
      · decide
    · rw [show (dRows L n).getD i [] = [] by rw [List.getD, List.getElem?_eq_none (by rw [dRows_len]; omega)]; rfl]; exact Nat.zero_le _
  unfold I64
  omega
theorem wc0 : wc 0 = #[.bool false, .string ⟨#[]⟩] := by kernel_rfl
set_option maxHeartbeats 16000000 in
theorem c_SmithDiagonal (w : World) (v0 : Value) (L0 : List Int) (h0 : IsL w v0 L0) :
    Calls Tryd.prog 4 #[v0] w (Ret fun v w' => Kp [] w w' ∧ v = .bool true) := by
  obtain ⟨hI, hW, hlen⟩ := h0
  refine calls_of_S [⟨15, 3, [], []⟩, ⟨16, 3, [0, 1, 4, 2, 3, 5, 6, 7, 8, 9, 10, 11, 12, 13, 14], []⟩, ⟨19, 1, [], []⟩, ⟨23, 1, [], []⟩] [] (by simp) [] Tryd.func4 rfl mixed (by kernel_rfl) Tryd.ntmps4 Tryd.results4 rfl ⟨by simp, by simp⟩ (by simp) ?_
  simp only [toS, textOps, toSOp, kindAt, kindOf, odAt, sopsAt, ordOf, zipF]
  have hRL : RdI ⟨Tryd.prog, 108, w, [], by simp⟩ [] v0 L0.length L0 := hW.rd rfl []
  (repeat' (first | refine JC.seq ?_ | refine JC.ops ?_ | refine JO.nil ?_ | refine JX.thenN ?_ | (apply r_assign; (iterate 3 exact rfl))))
  refine r_call0 (by first | trivial | exact ⟨rfl, rfl⟩) rfl (by first | rfl | exact ⟨rfl, rfl⟩) rfl (fun w hk hs => c_sanity w) fun w v w' _ _ _ hR => ?_
  subst hR
  (repeat' (first | refine JO.nil ?_ | (apply r_assign; (iterate 3 exact rfl))))
  refine JX.part (F' := [(3, .bool true), (0, v0)]) (H' := []) (by repeat first | exact trivial | refine ⟨rfl, ?_⟩) (HSub.nil _) ?_
  refine JX.thenN ?_
  (repeat' (first | refine JC.seq ?_ | refine JC.ops ?_ | refine JO.nil ?_ | (apply r_move; (iterate 3 exact rfl)) | (apply r_assign; (iterate 3 exact rfl)) | (apply r_lenI; (iterate 3 exact rfl); (first | assumption | exact WI.rd (by assumption) rfl [] | exact OwnI.rd (by assumption))) | (apply r_min; (iterate 4 exact rfl))))
  have hmin : (if (7 : Int) < (L0.length : Int) then (7 : Int) else (L0.length : Int)) = ((min L0.length 7 : Nat) : Int) := by split <;> omega
  rw [hmin]
  obtain ⟨n, hn⟩ : ∃ n, n = min L0.length 7 := ⟨_, rfl⟩
  rw [← hn]
  have hn7 : n ≤ 7 := by omega
  have hnL : n ≤ L0.length := by omega
  clear hmin
  refine JX.part (F' := [(4, nv n), (3, .bool true), (0, v0)]) (H' := []) (by repeat first | exact trivial | refine ⟨rfl, ?_⟩) (HSub.nil _) ?_
  refine JX.thenN ?_
  (repeat' (first | refine JC.seq ?_ | refine JC.ops ?_ | (apply r_move; (iterate 3 exact rfl))))
  refine r_make (n := n) rfl rfl rfl rfl rfl (by omega) (by omega) (fun b5 => ?_)
  have hO := own_nilI b5 n (by omega)
  (repeat' (first | refine JO.nil ?_ | (apply r_assign; (iterate 3 exact rfl))))
  refine JX.thenN ?_
  (repeat' (first | refine JC.seq ?_ | refine JC.ops ?_ | refine JO.nil ?_ | (apply r_storeN; exact rfl; (first | exact trivial | exact ⟨rfl, rfl⟩); exact rfl; exact rfl; exact at0; (iterate 3 exact rfl)) | (apply r_allocZ; (iterate 3 exact rfl); intro _) | (apply r_build0; exact rfl; exact rfl) | (apply r_storeN; exact rfl; (first | exact trivial | exact ⟨rfl, rfl⟩); exact rfl; exact rfl; exact at0; (iterate 3 exact rfl))))
  rename_i b6
  refine JX.thenN ?_
  (repeat' (first | refine JC.seq ?_ | refine JC.ops ?_))
  refine r_call0 (by first | trivial | exact ⟨rfl, rfl⟩) rfl (by first | rfl | exact ⟨rfl, rfl⟩) rfl (fun w _ _ => c_From w 1 (by decide) (by decide)) fun w v w' _ _ _ hR => ?_
  subst hR
  (repeat' (first | refine JO.nil ?_ | (apply r_storeN; exact rfl; (first | exact trivial | exact ⟨rfl, rfl⟩); exact rfl; exact rfl; exact at0; (iterate 3 exact rfl)) | (apply r_allocZ; (iterate 3 exact rfl); intro _) | (apply r_storeN; exact rfl; (first | exact trivial | exact ⟨rfl, rfl⟩); exact rfl; exact rfl; exact at0; (iterate 3 exact rfl))))
  rename_i b7
  (repeat' (first | refine JC.seq ?_ | refine JC.ops ?_ | refine JO.nil ?_ | refine JX.thenN ?_ | (apply r_assign; (iterate 3 exact rfl)) | refine JC.block ?_))
  refine JC.loopH (ι := Nat × SHeap × List TR) ⟨fun z => [(9, nv z.1), (8, nv (cnt z.1 (dX L0))), (7, .pointer (some ⟨b7, 0, none⟩)), (6, .pointer (some ⟨b6, 0, none⟩)), (5, .slice (some ⟨b5, 0, none⟩) n n), (4, nv n), (3, .bool true), (0, v0)],
    fun z => [(b7, .cells (wc (dM L0 z.1)) 32), (b6, .cells (wc (dG L0 z.1)) 32)] ++ (z.2.1 ++ (tH z.2.2 ++ [])),
    fun z => z.1 ≤ n ∧ OwnRow 22 1 z.2.1 (.slice (some ⟨b5, 0, none⟩) n n) n (z.2.2.map (·.2.1) ++ List.replicate (n - z.1) (.slice none 0 0)) ∧ z.2.2.length = z.1 ∧ (∀ t ∈ z.2.2, OwnI t.1 t.2.1 n t.2.2) ∧ z.2.2.map (·.2.2) = (List.range z.1).map (dR L0 n), fun z => n - z.1⟩
    (0, [(b5, .cells (zerosOf #[.slice none 0 0] (n * 1)) 22)], []) ⟨Nat.zero_le _, hO, rfl, fun t ht => (by cases ht), rfl⟩ (by repeat first | exact trivial | refine ⟨rfl, ?_⟩) ?_ (fun z hz => ?_)
  · show HSub ([(b7, .cells (wc 1) 32), (b6, .cells (wc 0) 32)] ++ _) _
    rw [wc0]; exact HSub.refl _
  clear hO
  obtain ⟨k, N, ts⟩ := z
  obtain ⟨hkn, hO, htl, hrows, hts⟩ := hz
  dsimp only at hkn hO htl hrows hts ⊢
  by_cases hlt : k < n
  · (repeat' (first | refine JC.seq ?_ | refine JC.ops ?_ | refine JO.nil ?_ | refine JX.thenN ?_ | (apply r_move; (iterate 3 exact rfl)) | (apply r_lss; (iterate 4 exact rfl); all_goals intro hc; all_goals try (exfalso; omega)) | refine JC.skip ?_ | refine JC.condT rfl ?_ | refine JC.block ?_))
    refine r_make (n := n) rfl rfl rfl rfl rfl (by omega) (by omega) (fun b34 => ?_)
    have hZ := own_zeroI b34 n (by omega)
    skip
    refine r_idxR1 rfl rfl rfl rfl hO.rd hlt ?_
    skip
    refine r_stO (A := [_, _, _]) (B := tH ts ++ []) (i := k) (u := .slice (some ⟨b34, 0, none⟩) n n) hO rfl rfl (by first | trivial | exact ⟨rfl, rfl⟩) rfl rfl rfl rfl (by omega) (fun N' hO' => ?_)
    rw [set_rep (by simpa using htl) hlt] at hO'
    (repeat' (first | refine JC.seq ?_ | refine JC.ops ?_ | refine JO.nil ?_ | refine JX.thenN ?_ | (apply r_move; (iterate 3 exact rfl)) | (apply r_assign; (iterate 3 exact rfl)) | (apply r_idxI; (iterate 4 exact rfl); (first | assumption | exact WI.rd (by assumption) rfl [] | exact OwnI.rd (by assumption)); (first | assumption | omega)) | (apply r_ldI; (iterate 4 exact rfl); (first | assumption | exact WI.rd (by assumption) rfl [] | exact OwnI.rd (by assumption)); (repeat' first | exact HSub.nil _ | exact HSub.hd | exact HSub.in0 | exact HSub.refl _ | refine HSub.skip ?_ | refine HSub.skipN ?_); (first | assumption | omega)) | (apply r_mod; (iterate 4 exact rfl); omega)))
    refine r_idxR1 rfl rfl rfl rfl hO'.rd hlt ?_
    refine r_ldR rfl rfl rfl rfl hO'.rd (by (repeat' first | exact HSub.nil _ | exact HSub.hd | exact HSub.in0 | exact HSub.refl _ | refine HSub.skip ?_ | refine HSub.skipN ?_)) (get_mid (by simpa using htl)) ?_
    (repeat' (first | (apply r_move; (iterate 3 exact rfl)) | (apply r_idxI; (iterate 4 exact rfl); (first | assumption | exact WI.rd (by assumption) rfl [] | exact OwnI.rd (by assumption)); (first | assumption | omega))))
    refine r_stI (A := []) (B := [_, _] ++ (N' ++ (tH ts ++ []))) (i := k) (u := dX L0 k) hZ rfl rfl (by first | trivial | exact ⟨rfl, rfl⟩) rfl rfl (by omega) (fun N34 hZ' => ?_)
    (repeat' (first | refine JO.nil ?_))
    obtain ⟨x, hx⟩ : ∃ x, x = dX L0 k := ⟨_, rfl⟩
    rw [show (L0.getD k 0).tmod 100 = x from hx.symm]
    refine JX.part (F' := [(10, iv x), (9, nv k), (8, nv (cnt k (dX L0))), (7, .pointer (some ⟨b7, 0, none⟩)), (6, .pointer (some ⟨b6, 0, none⟩)), (5, .slice (some ⟨b5, 0, none⟩) n n), (4, nv n), (3, .bool true), (0, v0)]) (H' := [(b7, .cells (wc (dM L0 k)) 32), (b6, .cells (wc (dG L0 k)) 32)] ++ (N34 ++ (N' ++ (tH ts ++ [])))) (by repeat first | exact trivial | refine ⟨rfl, ?_⟩) sub_two ?_
    refine JX.thenN ?_
    have hrow : ts.map (·.2.2) ++ [dR L0 n k] = (List.range (k + 1)).map (dR L0 n) := by rw [hts, List.range_succ, List.map_append]; rfl
    have hxb : x.natAbs ≤ 99 := by rw [hx]; exact dX_le L0 k
    have hcl := cnt_le (dX L0) k
    have hts' : ∀ t ∈ ts ++ [(N34, Value.slice (some ⟨b34, 0, none⟩) n n, dR L0 n k)], OwnI t.1 t.2.1 n t.2.2 := fun t ht => by
      rcases List.mem_append.1 ht with ht | ht
      · exact hrows t ht
      · obtain rfl := List.mem_singleton.1 ht
        exact hZ'
    have hpm : (N34 ++ (N' ++ (tH ts ++ []))).Perm (N' ++ (tH (ts ++ [(N34, Value.slice (some ⟨b34, 0, none⟩) n n, dR L0 n k)]) ++ [])) := by
      simp only [tH_append, tH_one, List.append_nil]
      rw [← List.append_assoc N']
      exact List.perm_append_comm
    by_cases h0 : x = 0
    · rw [h0]
      rw [hx] at h0
      have e1 : cnt k (dX L0) = cnt (k + 1) (dX L0) := by rw [cnt, if_pos h0]; rfl
      have e2 : dG L0 k = dG L0 (k + 1) := by rw [dG, if_pos h0]
      have e3 : dM L0 k = dM L0 (k + 1) := by rw [dM, if_pos h0]
      rw [e1, e2, e3]
      (repeat' (first | refine JC.seq ?_ | refine JC.ops ?_ | refine JO.nil ?_ | refine JX.thenN ?_ | (apply r_move; (iterate 3 exact rfl)) | (apply r_assign; (iterate 3 exact rfl)) | (apply r_add1; (iterate 4 exact rfl); omega) | (apply r_eql; (iterate 4 exact rfl); all_goals intro hc; all_goals try (exfalso; omega)) | refine JX.thenE ?_ | refine JC.exit ?_ | refine JC.condT rfl ?_ | refine JX.blockE ?_))
      exact JX.roundH (k + 1, N', ts ++ [(N34, .slice (some ⟨b34, 0, none⟩) n n, dR L0 n k)]) ⟨by dsimp only; omega, by dsimp only; simpa using hO', by simp [htl], hts', by dsimp only; rw [List.map_append]; exact hrow⟩ (by dsimp only; omega) (by repeat first | exact trivial | refine ⟨rfl, ?_⟩) ⟨[], by simpa using hpm⟩
    · have hm0 := dM_pos L0 k
      have hml := dM_le L0 k
      have hm7 : (99 : Nat) ^ k ≤ 99 ^ 7 := Nat.pow_le_pow_right (by decide) (by omega)
      have hm8 : (99 : Nat) ^ 7 < 256 ^ 6 := by decide
      have hmz : IsZ (Wv (dM L0 k)) (dM L0 k) 8 := IsZ.can (Nat.lt_of_le_of_lt hml (by omega))
      have hxz : IsZ (Wv x) x 8 := IsZ.can (by omega)
      have e1 : cnt k (dX L0) + 1 = cnt (k + 1) (dX L0) := by rw [cnt, if_neg (by rw [← hx]; exact h0)]
      (repeat' (first | refine JC.seq ?_ | refine JC.ops ?_ | refine JO.nil ?_ | (apply r_move; (iterate 3 exact rfl)) | (apply r_eql; (iterate 4 exact rfl); all_goals intro hc; all_goals try (exfalso; omega))))
      refine JX.thenN ?_
      (repeat' (first | refine JC.skip ?_ | refine JC.condF rfl ?_))
      refine JX.thenN ?_
      (repeat' (first | refine JC.seq ?_ | refine JC.ops ?_ | refine JO.nil ?_ | (apply r_move; (iterate 3 exact rfl)) | (apply r_assign; (iterate 3 exact rfl)) | (apply r_add1; (iterate 4 exact rfl); omega)))
      rw [e1]
      refine JX.part (F' := [(10, iv x), (9, nv k), (8, nv (cnt (k + 1) (dX L0))), (7, .pointer (some ⟨b7, 0, none⟩)), (6, .pointer (some ⟨b6, 0, none⟩)), (5, .slice (some ⟨b5, 0, none⟩) n n), (4, nv n), (3, .bool true), (0, v0)]) (H' := [(b7, .cells (wc (dM L0 k)) 32), (b6, .cells (wc (dG L0 k)) 32)] ++ (N34 ++ (N' ++ (tH ts ++ [])))) (by repeat first | exact trivial | refine ⟨rfl, ?_⟩) (HSub.refl _) ?_
      refine JX.thenN ?_
      (repeat' (first | refine JC.seq ?_ | refine JC.opsD ?_ | (apply r_move; (iterate 3 exact rfl)) | (apply r_loadN; (iterate 4 exact rfl); exact at0; exact rfl)))
      have hxI : -9223372036854775808 ≤ x ∧ x < 9223372036854775808 := by omega
      refine r_call0 (by first | trivial | exact ⟨rfl, rfl⟩) rfl (by first | rfl | exact ⟨rfl, rfl⟩) rfl (fun w _ _ => c_From w x hxI.1 hxI.2) fun w v w' _ _ _ hR => ?_
      subst hR
      skip
      refine r_call0 (by first | trivial | exact ⟨rfl, rfl⟩) rfl (by first | rfl | exact ⟨rfl, rfl⟩) rfl (fun w _ _ => c_Gcd w _ _ (dM L0 k) x 8 hmz hxz (by decide)) fun w v w' _ _ _ hR => ?_
      obtain ⟨g, s, t, rfl, hG⟩ := hR
      have hge := hG.e
      have hg0 : 0 < g := by
        have : 0 < Int.gcd (dM L0 k) x := Int.gcd_pos_of_ne_zero_right _ h0
        omega
      have hgx : g.natAbs ≤ x.natAbs := Nat.le_of_dvd (by omega) (Int.natAbs_dvd_natAbs.2 (by rw [hge]; exact Int.gcd_dvd_right ..))
      (repeat' (first | refine JO.nil ?_ | (apply r_move; (iterate 3 exact rfl)) | (apply r_extract; (iterate 4 exact rfl)) | (apply r_storeN; exact rfl; (first | exact trivial | exact ⟨rfl, rfl⟩); exact rfl; exact rfl; (first | exact at0 | exact at1 | exact at2); (iterate 3 exact rfl)) | (apply r_allocZ; (iterate 3 exact rfl); intro _) | (apply r_storeN; exact rfl; (first | exact trivial | exact ⟨rfl, rfl⟩); exact rfl; exact rfl; (first | exact at0 | exact at1 | exact at2); (iterate 3 exact rfl))))
      rename_i b11 b12 b13
      refine JX.part (F' := [(11, .pointer (some ⟨b11, 0, none⟩)), (10, iv x), (9, nv k), (8, nv (cnt (k + 1) (dX L0))), (7, .pointer (some ⟨b7, 0, none⟩)), (6, .pointer (some ⟨b6, 0, none⟩)), (5, .slice (some ⟨b5, 0, none⟩) n n), (4, nv n), (3, .bool true), (0, v0)]) (H' := [(b11, .cells (wc g) 32), (b7, .cells (wc (dM L0 k)) 32), (b6, .cells (wc (dG L0 k)) 32)] ++ (N34 ++ (N' ++ (tH ts ++ [])))) (by repeat first | exact trivial | refine ⟨rfl, ?_⟩) (by (repeat' first | exact HSub.refl _ | exact HSub.nil _ | refine HSub.at 0 rfl ?_ | refine HSub.at 1 rfl ?_ | refine HSub.at 2 rfl ?_ | refine HSub.at 3 rfl ?_ | refine HSub.at 4 rfl ?_ | refine HSub.at 5 rfl ?_ | refine HSub.at 6 rfl ?_ | refine HSub.at 7 rfl ?_ | refine HSub.at 8 rfl ?_ | refine HSub.at 9 rfl ?_ | refine HSub.at 10 rfl ?_ | refine HSub.at 11 rfl ?_ | refine HSub.at 12 rfl ?_ | refine HSub.at 13 rfl ?_ | refine HSub.at 14 rfl ?_ | refine HSub.at 15 rfl ?_ | refine HSub.at 16 rfl ?_ | refine HSub.at 17 rfl ?_ | refine HSub.at 18 rfl ?_ | refine HSub.at 19 rfl ?_ | refine HSub.segH ?_ | refine HSub.skip ?_ | refine HSub.skipN ?_)) ?_
      refine JX.thenN ?_
      (repeat' (first | refine JC.seq ?_ | refine JC.opsD ?_ | (apply r_move; (iterate 3 exact rfl)) | (apply r_loadN; (iterate 4 exact rfl); (first | exact at0 | exact at1); exact rfl)))
      refine r_call0 (by first | trivial | exact ⟨rfl, rfl⟩) rfl (by first | rfl | exact ⟨rfl, rfl⟩) rfl (fun w _ _ => c_From w x hxI.1 hxI.2) fun w v w' _ _ _ hR => ?_
      subst hR
      skip
      refine r_call0 (by first | trivial | exact ⟨rfl, rfl⟩) rfl (by first | rfl | exact ⟨rfl, rfl⟩) rfl (fun w _ _ => c_Mul w _ _ (dM L0 k) x 8 hmz hxz (by decide)) fun w v w' _ _ _ hR => ?_
      subst hR
      skip
      have hmx : (dM L0 k * x).natAbs < 256 ^ 8 := by
        rw [Int.natAbs_mul]
        refine Nat.lt_of_le_of_lt (Nat.mul_le_mul (Nat.le_trans hml hm7) hxb) (by decide)
      refine r_call0 (by first | trivial | exact ⟨rfl, rfl⟩) rfl (by first | rfl | exact ⟨rfl, rfl⟩) rfl (fun w _ _ => c_Quo w _ _ (dM L0 k * x) g 8 (IsZ.can hmx) (IsZ.can (by omega)) (by decide)) fun w v w' _ _ _ hR => ?_
      rw [if_neg (show ¬ g = 0 by omega)] at hR
      subst hR
      (repeat' (first | refine JO.nil ?_ | (apply r_move; (iterate 3 exact rfl)) | (apply r_assign; (iterate 3 exact rfl)) | (apply r_extract; (iterate 4 exact rfl)) | (apply r_storeN; exact rfl; (first | exact trivial | exact ⟨rfl, rfl⟩); exact rfl; exact rfl; (first | exact at0 | exact at1); (iterate 3 exact rfl)) | (apply r_allocZ; (iterate 3 exact rfl); intro _) | (apply r_storeN; exact rfl; (first | exact trivial | exact ⟨rfl, rfl⟩); exact rfl; exact rfl; (first | exact at0 | exact at1); (iterate 3 exact rfl))))
      rename_i b14 b15
      refine JX.part (F' := [(14, .pointer (some ⟨b14, 0, none⟩)), (10, iv x), (9, nv k), (8, nv (cnt (k + 1) (dX L0))), (7, .pointer (some ⟨b7, 0, none⟩)), (6, .pointer (some ⟨b6, 0, none⟩)), (5, .slice (some ⟨b5, 0, none⟩) n n), (4, nv n), (3, .bool true), (0, v0)]) (H' := [(b14, .cells (wc (dM L0 k * x / g)) 32), (b7, .cells (wc (dM L0 k)) 32), (b6, .cells (wc (dG L0 k)) 32)] ++ (N34 ++ (N' ++ (tH ts ++ [])))) (by repeat first | exact trivial | refine ⟨rfl, ?_⟩) (by (repeat' first | exact HSub.refl _ | exact HSub.nil _ | refine HSub.at 0 rfl ?_ | refine HSub.at 1 rfl ?_ | refine HSub.at 2 rfl ?_ | refine HSub.at 3 rfl ?_ | refine HSub.at 4 rfl ?_ | refine HSub.at 5 rfl ?_ | refine HSub.at 6 rfl ?_ | refine HSub.at 7 rfl ?_ | refine HSub.at 8 rfl ?_ | refine HSub.at 9 rfl ?_ | refine HSub.at 10 rfl ?_ | refine HSub.at 11 rfl ?_ | refine HSub.at 12 rfl ?_ | refine HSub.at 13 rfl ?_ | refine HSub.at 14 rfl ?_ | refine HSub.at 15 rfl ?_ | refine HSub.at 16 rfl ?_ | refine HSub.at 17 rfl ?_ | refine HSub.at 18 rfl ?_ | refine HSub.at 19 rfl ?_ | refine HSub.segH ?_ | refine HSub.skip ?_ | refine HSub.skipN ?_)) ?_
      refine JX.thenN ?_
      (repeat' (first | refine JC.seq ?_ | refine JC.ops ?_ | refine JO.nil ?_ | (apply r_fieldAddr; (iterate 3 exact rfl)) | (apply r_store; exact rfl; (first | exact trivial | exact ⟨rfl, rfl⟩); exact rfl; exact rfl; exact at0; exact rfl; exact rfl; (first | exact Nat.le_of_ble_eq_true rfl | (simp; done) | omega))))
      have e3 : wc (dM L0 (k + 1)) = #[.bool false, sv (magU (dM L0 k * x / g).natAbs)] := by
        rw [dM, if_neg (by rw [← hx]; exact h0), ← hx, ← hge]
        show #[Value.bool (decide ((((dM L0 k * x / g).natAbs : Int)) < 0)), sv (magU (Int.natAbs ((dM L0 k * x / g).natAbs : Int)))] = _
        rw [Int.natAbs_natCast, decide_eq_false (by omega)]
      have e4 : dG L0 (k + 1) = Int.gcd (dG L0 k) x := by rw [dG, if_neg (by rw [← hx]; exact h0), ← hx]
      have hgl := dG_le L0 k
      refine JX.part (F' := [(14, .pointer (some ⟨b14, 0, none⟩)), (10, iv x), (9, nv k), (8, nv (cnt (k + 1) (dX L0))), (7, .pointer (some ⟨b7, 0, none⟩)), (6, .pointer (some ⟨b6, 0, none⟩)), (5, .slice (some ⟨b5, 0, none⟩) n n), (4, nv n), (3, .bool true), (0, v0)]) (H' := [(b14, .cells (#[.bool false, sv (magU (dM L0 k * x / g).natAbs)]) 32), (b7, .cells (wc (dM L0 k)) 32), (b6, .cells (wc (dG L0 k)) 32)] ++ (N34 ++ (N' ++ (tH ts ++ [])))) (by repeat first | exact trivial | refine ⟨rfl, ?_⟩) (by (repeat' first | exact HSub.refl _ | exact HSub.nil _ | refine HSub.at 0 rfl ?_ | refine HSub.at 1 rfl ?_ | refine HSub.at 2 rfl ?_ | refine HSub.at 3 rfl ?_ | refine HSub.at 4 rfl ?_ | refine HSub.at 5 rfl ?_ | refine HSub.at 6 rfl ?_ | refine HSub.at 7 rfl ?_ | refine HSub.at 8 rfl ?_ | refine HSub.at 9 rfl ?_ | refine HSub.at 10 rfl ?_ | refine HSub.at 11 rfl ?_ | refine HSub.at 12 rfl ?_ | refine HSub.at 13 rfl ?_ | refine HSub.at 14 rfl ?_ | refine HSub.at 15 rfl ?_ | refine HSub.at 16 rfl ?_ | refine HSub.at 17 rfl ?_ | refine HSub.at 18 rfl ?_ | refine HSub.at 19 rfl ?_ | refine HSub.segH ?_ | refine HSub.skip ?_ | refine HSub.skipN ?_)) ?_
      refine JX.thenN ?_
      (repeat' (first | refine JC.seq ?_ | refine JC.ops ?_ | refine JO.nil ?_ | (apply r_loadN; (iterate 4 exact rfl); (first | exact at0 | exact at1); exact rfl) | (apply r_storeN; exact rfl; (first | exact trivial | exact ⟨rfl, rfl⟩); exact rfl; exact rfl; (first | exact at0 | exact at1); (iterate 3 exact rfl)) | (apply r_storeN; exact rfl; (first | exact trivial | exact ⟨rfl, rfl⟩); exact rfl; exact rfl; (first | exact at0 | exact at1); (iterate 3 exact rfl))))
      refine JX.part (F' := [(10, iv x), (9, nv k), (8, nv (cnt (k + 1) (dX L0))), (7, .pointer (some ⟨b7, 0, none⟩)), (6, .pointer (some ⟨b6, 0, none⟩)), (5, .slice (some ⟨b5, 0, none⟩) n n), (4, nv n), (3, .bool true), (0, v0)]) (H' := [(b7, .cells (#[.bool false, sv (magU (dM L0 k * x / g).natAbs)]) 32), (b6, .cells (wc (dG L0 k)) 32)] ++ (N34 ++ (N' ++ (tH ts ++ [])))) (by repeat first | exact trivial | refine ⟨rfl, ?_⟩) (by (repeat' first | exact HSub.refl _ | exact HSub.nil _ | refine HSub.at 0 rfl ?_ | refine HSub.at 1 rfl ?_ | refine HSub.at 2 rfl ?_ | refine HSub.at 3 rfl ?_ | refine HSub.at 4 rfl ?_ | refine HSub.at 5 rfl ?_ | refine HSub.at 6 rfl ?_ | refine HSub.at 7 rfl ?_ | refine HSub.at 8 rfl ?_ | refine HSub.at 9 rfl ?_ | refine HSub.at 10 rfl ?_ | refine HSub.at 11 rfl ?_ | refine HSub.at 12 rfl ?_ | refine HSub.at 13 rfl ?_ | refine HSub.at 14 rfl ?_ | refine HSub.at 15 rfl ?_ | refine HSub.at 16 rfl ?_ | refine HSub.at 17 rfl ?_ | refine HSub.at 18 rfl ?_ | refine HSub.at 19 rfl ?_ | refine HSub.segH ?_ | refine HSub.skip ?_ | refine HSub.skipN ?_)) ?_
      refine JX.thenN ?_
      (repeat' (first | refine JC.opsD ?_ | (apply r_move; (iterate 3 exact rfl)) | (apply r_loadN; (iterate 4 exact rfl); exact at1; exact rfl)))
      rw [← e3]
      refine r_call0 (by first | trivial | exact ⟨rfl, rfl⟩) rfl (by first | rfl | exact ⟨rfl, rfl⟩) rfl (fun w _ _ => c_From w x hxI.1 hxI.2) fun w v w' _ _ _ hR => ?_
      subst hR
      skip
      refine r_call0 (by first | trivial | exact ⟨rfl, rfl⟩) rfl (by first | rfl | exact ⟨rfl, rfl⟩) rfl (fun w _ _ => c_Gcd w _ _ (dG L0 k) x 8 (IsZ.can (by omega)) hxz (by decide)) fun w v w' _ _ _ hR => ?_
      obtain ⟨g2, s2, t2, rfl, hG2⟩ := hR
      obtain rfl : g2 = dG L0 (k + 1) := by rw [e4]; exact hG2.e
      (repeat' (first | refine JO.nil ?_ | (apply r_move; (iterate 3 exact rfl)) | (apply r_extract; (iterate 4 exact rfl)) | (apply r_storeN; exact rfl; (first | exact trivial | exact ⟨rfl, rfl⟩); exact rfl; exact rfl; exact at1; (iterate 3 exact rfl)) | (apply r_storeN; exact rfl; (first | exact trivial | exact ⟨rfl, rfl⟩); exact rfl; exact rfl; exact at1; (iterate 3 exact rfl)) | refine JX.blockN ?_))
      refine JX.part (F' := [(10, iv x), (9, nv k), (8, nv (cnt (k + 1) (dX L0))), (7, .pointer (some ⟨b7, 0, none⟩)), (6, .pointer (some ⟨b6, 0, none⟩)), (5, .slice (some ⟨b5, 0, none⟩) n n), (4, nv n), (3, .bool true), (0, v0)]) (H' := [(b7, .cells (wc (dM L0 (k + 1))) 32), (b6, .cells (wc (dG L0 (k + 1))) 32)] ++ (N34 ++ (N' ++ (tH ts ++ [])))) (by repeat first | exact trivial | refine ⟨rfl, ?_⟩) (by (repeat' first | exact HSub.refl _ | exact HSub.nil _ | refine HSub.at 0 rfl ?_ | refine HSub.at 1 rfl ?_ | refine HSub.at 2 rfl ?_ | refine HSub.at 3 rfl ?_ | refine HSub.at 4 rfl ?_ | refine HSub.at 5 rfl ?_ | refine HSub.at 6 rfl ?_ | refine HSub.at 7 rfl ?_ | refine HSub.at 8 rfl ?_ | refine HSub.at 9 rfl ?_ | refine HSub.at 10 rfl ?_ | refine HSub.at 11 rfl ?_ | refine HSub.at 12 rfl ?_ | refine HSub.at 13 rfl ?_ | refine HSub.at 14 rfl ?_ | refine HSub.at 15 rfl ?_ | refine HSub.at 16 rfl ?_ | refine HSub.at 17 rfl ?_ | refine HSub.at 18 rfl ?_ | refine HSub.at 19 rfl ?_ | refine HSub.segH ?_ | refine HSub.skip ?_ | refine HSub.skipN ?_)) ?_
      refine JX.thenN ?_
      (repeat' (first | refine JC.ops ?_ | refine JO.nil ?_ | (apply r_move; (iterate 3 exact rfl)) | (apply r_assign; (iterate 3 exact rfl)) | (apply r_add1; (iterate 4 exact rfl); omega)))
      exact JX.roundH (k + 1, N', ts ++ [(N34, .slice (some ⟨b34, 0, none⟩) n n, dR L0 n k)]) ⟨by dsimp only; omega, by dsimp only; simpa using hO', by simp [htl], hts', by dsimp only; rw [List.map_append]; exact hrow⟩ (by dsimp only; omega) (by repeat first | exact trivial | refine ⟨rfl, ?_⟩) ⟨[], by simpa using hpm⟩
  · obtain rfl : k = n := by omega
    rw [Nat.sub_self, List.replicate_zero, List.append_nil] at hO
    (repeat' (first | refine JC.seq ?_ | refine JC.ops ?_ | refine JO.nil ?_ | refine JX.thenN ?_ | (apply r_move; (iterate 3 exact rfl)) | (apply r_lss; (iterate 4 exact rfl); all_goals intro hc; all_goals try (exfalso; omega)) | refine JX.thenE ?_ | refine JC.exit ?_ | refine JC.condF rfl ?_ | refine JX.blockE ?_))
    refine r_callA (A := [_, _]) (B := N ++ (tH ts ++ [])) rfl (by first | trivial | exact ⟨rfl, rfl⟩) rfl (by first | rfl | exact ⟨rfl, rfl⟩) rfl (fun w hk hs => c_Of w _ (dRows L0 k) (isRows_of hO htl hrows hts hk hs (by (repeat' first | exact HSub.nil _ | exact HSub.hd | exact HSub.in0 | exact HSub.refl _ | refine HSub.skip ?_ | refine HSub.skipN ?_)) (by (repeat' first | exact HSub.nil _ | exact HSub.hd | exact HSub.in0 | exact HSub.refl _ | refine HSub.skip ?_ | refine HSub.skipN ?_))) (by rw [dRows_len]; omega) (by rw [ofC_dRows]; omega) (dI64 L0 k)) fun w v1 w' _ _ _ hR1 => ?_
    obtain ⟨N1, hN1, E1, rfl, hO1⟩ := hR1
    obtain ⟨A1, c1, rfl⟩ := hO1.form
    refine ⟨N1, hN1, ?_⟩
    have hR : RtZ (ofZ (dRows L0 k)) := zof_rt (by rw [dRows_len]; omega) (by rw [ofC_dRows]; omega)
    obtain ⟨S', hf, hfl, hff⟩ := diag_form L0 (n := k) (K := 6007 + 1) hn7 (by decide)
    skip
    refine r_callA (A := [_, _]) (B := N1 ++ (N ++ (tH ts ++ []))) rfl (by first | trivial | exact ⟨rfl, rfl⟩) rfl (by first | rfl | exact ⟨rfl, rfl⟩) rfl (fun w hk hs => c_Factors 6007 2 (47 + 1) w _ (ofZ (dRows L0 k)) S' hR ⟨_, rfl, hO1.rd.at hk hs (by (repeat' first | exact HSub.nil _ | exact HSub.hd | exact HSub.in0 | exact HSub.refl _ | refine HSub.skip ?_ | refine HSub.skipN ?_))⟩ (by decide) (dBd L0 k 6007) hf) fun w v1 w' _ _ _ hR1 => ?_
    obtain ⟨N2, hN2, hO2⟩ := hR1
    generalize facP S'.d (min (ofZ (dRows L0 k)).r (ofZ (dRows L0 k)).c) = P at *
    rw [hfl] at hO2
    obtain ⟨A2, c2, rfl⟩ := hO2.form
    refine ⟨N2, hN2, ?_⟩
    clear hf
    by_cases hc0 : cnt k (dX L0) = 0
    · rw [hc0] at hO2 ⊢
      (repeat' (first | refine JC.seq ?_ | refine JC.ops ?_ | refine JC.opsD ?_ | refine JO.nil ?_ | refine JX.thenN ?_ | (apply r_move; (iterate 3 exact rfl)) | (apply r_assign; (iterate 3 exact rfl)) | (apply r_lenZ; (iterate 3 exact rfl); (first | assumption | exact WZ.rd (by assumption) rfl [] | exact OwnZ.rd (by assumption))) | (apply r_pickT; (iterate 4 exact rfl)) | (apply r_eql; (iterate 4 exact rfl); all_goals intro hc; all_goals try (exfalso; omega)) | (apply r_neq; (iterate 4 exact rfl); all_goals intro hc; all_goals try (exfalso; omega)) | refine JC.skip ?_ | refine JC.ret ?_ | refine JC.condF rfl ?_ | (apply r_skip; exact rfl; exact rfl; (first | (intro h; cases h; done) | (intro _; rfl)))))
      exact JX.ret1 rfl (fun a w' st => ⟨st.kp, rfl⟩)
    · obtain ⟨hf1, hf2⟩ := hff (by omega)
      have hcl := cnt_le (dX L0) k
      (repeat' (first | refine JC.seq ?_ | refine JC.ops ?_ | refine JC.opsD ?_ | refine JO.nil ?_ | refine JX.thenN ?_ | (apply r_move; (iterate 3 exact rfl)) | (apply r_assign; (iterate 3 exact rfl)) | (apply r_lenZ; (iterate 3 exact rfl); (first | assumption | exact WZ.rd (by assumption) rfl [] | exact OwnZ.rd (by assumption))) | (apply r_eql; (iterate 4 exact rfl); all_goals intro hc; all_goals try (exfalso; omega)) | (apply r_neq; (iterate 4 exact rfl); all_goals intro hc; all_goals try (exfalso; omega)) | refine JC.skip ?_ | refine JC.condF rfl ?_))
      refine r_idxZ (j := 0) rfl rfl rfl rfl hO2.rd (by omega) ?_
      (repeat' (first | refine JO.nil ?_ | refine JX.thenN ?_ | (apply r_move; (iterate 3 exact rfl)) | (apply r_assign; (iterate 3 exact rfl)) | (apply r_loadN; (iterate 4 exact rfl); (first | exact at0 | exact at1); exact rfl) | (apply r_idxZ; (iterate 4 exact rfl); (first | assumption | exact WZ.rd (by assumption) rfl [] | exact OwnZ.rd (by assumption)); (first | assumption | omega)) | (apply r_ldZ; (iterate 4 exact rfl); (first | assumption | exact WZ.rd (by assumption) rfl [] | exact OwnZ.rd (by assumption)); (repeat' first | exact HSub.nil _ | exact HSub.hd | exact HSub.in0 | exact HSub.refl _ | refine HSub.skip ?_ | refine HSub.skipN ?_); (first | assumption | omega)) | (apply r_sub1; (iterate 4 exact rfl); omega) | (apply r_pickT; (iterate 4 exact rfl)) | (apply r_pickF; (iterate 4 exact rfl)) | (apply r_eqWT; (iterate 4 exact rfl); (first | exact rfl | assumption)) | refine JC.ret ?_))
      exact JX.ret1 rfl (fun a w' st => ⟨st.kp, rfl⟩)

end Go.Proofs.YtemdknkghacheaaDoor

/-
  LawSmithDiagonal: for every input the call of 'cocycle/cocyclelaw03.SmithDiagonal' returns true, and every argument reads afterwards as it read before. Conditions: none. The card.
-/
namespace Go.Proofs.YtemdknkghacheaaDoor.smithDiagonal
open Go Go.RowKit Go.ChangeShapes Go.WideShapes Go.ChangeAt
set_option linter.unusedSimpArgs false
set_option linter.unusedVariables false
set_option linter.unusedSectionVars false

set_option maxRecDepth 100000 in
theorem lifted (os : Os) (started : os.Started) (H : Type) (enc : TypeId × Value → H) :
    ReturnsInHanded {} Tryd.checked os 4 .any (fun w args => (Rows.smithDiagonalSpec.pre enc Tryd.prog Tryd.f4 [] false w args ∧ laidMetH Tryd.prog Rows.smithDiagonalRow.laid w) ∧ sizedMet enc Tryd.prog Tryd.f4 (OpenSpec.ofChange Rows.smithDiagonalSpec) false w args)
      (Rows.smithDiagonalSpec.post enc Tryd.prog Tryd.f4 false true false false) := by
  refine returnsInHanded_of_change_and (C := Tryd.checked) (X := fun w _ => laidMetH Tryd.prog Rows.smithDiagonalRow.laid w) (fun _ _ _ hh h => h.of_heap hh) own started (by kernel_rfl) Tryd.func4
    (ChangeSpec.witness_shaped (enc := enc) (C := Tryd.checked) (os := os) (X := fun w _ => laidMetH Tryd.prog Rows.smithDiagonalRow.laid w) false (World.laidAll Tryd.prog os Rows.smithDiagonalRow.laid) #[.slice none 0 0] 8 (World.laidAll_os _ _ _)
      (World.shaped_of_ZipB (by kernel_rfl) (by kernel_rfl)) (by kernel_rfl) (by kernel_rfl) (by kernel_rfl)
      (by rw [MakeChecks.laidMetH_plain _ _ _ (by kernel_rfl)]; exact laidMet_laidAll _ (by kernel_rfl) (by kernel_rfl))) ?_
  intro W base args ds gs before hval0 hW _ hwt0 hL _
  have hval : ∀ (j : Nat) t v, Tryd.f4.params[j]? = some t → args[j]? = some v → Value.okWide Tryd.prog W .any base t v := hval0
  have hW' := hW
  obtain ⟨p, q, hA0, hV, rfl, hfz, hnd⟩ := hW
  have hA : DataW.TrodAll enc Tryd.prog W 0 (fun _ => true) true Tryd.f4.params.toList args.toList ds p := hA0
  have hwt : (DataW.weightsEach Tryd.prog (Tryd.f4.params.toList ++ Rows.smithDiagonalSpec.plain.varTypes Tryd.prog) (ds ++ gs)).all (· ≤ reachBytes) = true := hwt0
  have hwt1 := fun n hn => of_decide_eq_true (List.all_eq_true.1 hwt n hn)
  rw [Tryd.params4] at hA hval hwt1
  obtain ⟨v0, vs0, d0, ds0, p0, q0, hargs, rfl, rfl, h0, r0⟩ := trodAll_cons hA
  obtain ⟨rfl, rfl, rfl⟩ := trodAll_nil r0
  obtain rfl : args = #[v0] := by cases args; simp_all
  obtain ⟨rfl, rfl⟩ := trodVars_none hV
  have k0 := h0
  have lt0 : ∀ x ∈ p0, x.block < W.heap.size := by obtain ⟨m, hm⟩ := k0; exact DataW.trod_lt m _ _ _ hm
  obtain ⟨L0, s0⟩ := open_list (hval 0 22 v0 rfl rfl) h0
  clear hA0 hval0
  refine (c_SmithDiagonal W v0 L0 s0).mono fun e W' he => ?_
  cases e with
  | panicked _ => exact he.elim
  | outgrown => exact he.elim
  | returned u =>
    obtain ⟨hk, rfl⟩ := he
    have bel := hk.below
    exact ⟨_, rfl, _, _, _, [], _, [], hW', trodAll_mk1 (shut_bool Tryd.underlying4 _), (trodAll_cons_mk (Below.trod laidOut (by kernel_rfl) (of_decide_eq_true (by kernel_rfl)) k0 bel lt0) trodAll_mk0), rfl, bel.frame _, fun h => by cases h⟩

theorem holds : Rows.SmithDiagonalSaid :=
  OpenClaim.holds_of_wide 4 Tryd.f4 rfl rfl rfl rfl rfl rfl rfl ⟨rfl, rfl, rfl, rfl, rfl⟩ rfl rfl rfl rfl rfl (by kernel_rfl) Tryd.func4 (by kernel_rfl)
    (of_decide_eq_true (by kernel_rfl)) (by unfold Func.isWrapper; first | (rw [if_pos (by decide +kernel)]; kernel_rfl) | (rw [if_neg (by decide +kernel)]; exact ⟨rfl, rfl⟩))
    (fun os started H enc _ => lifted os started H enc)

theorem proved : Rows.SmithDiagonalCardSaid :=
  Claim7.holds_tied_plain_at .later [] [.data, .pinned] true (true, "cc23a4903c81a88f9f2d30ccd7eb806dc09b48692cbe9d190c5dfe290dcbcea7") false holds (fun _ h => by cases h) (by kernel_rfl) (fun _ h => by cases h) smithDiagonal_row_tie rfl ⟨rfl, rfl⟩ (by kernel_rfl) rfl
    (fun f fn hf hfn => by
      obtain rfl : f = 4 := Option.some.inj ((show Tryd.prog.funcNamed "cocycle/cocyclelaw03.SmithDiagonal" = some 4 by kernel_rfl).symm.trans hf) |>.symm
      obtain rfl : fn = Tryd.f4 := (Option.some.inj (Tryd.func4.symm.trans hfn)).symm
      exact ⟨by kernel_rfl, fun j t ht => by
        rw [Tryd.params4] at ht
        have hm : t ∈ [22] := by simpa using Array.mem_of_getElem? ht
        have hall : ([22].all fun u => !Tryd.prog.wantsStandIn u) = true := by kernel_rfl
        exact (show Tryd.prog.wantsStandIn t = false by simpa using List.all_eq_true.1 hall t hm)⟩)
    (by kernel_rfl)

end Go.Proofs.YtemdknkghacheaaDoor.smithDiagonal

