import Derived.Test.YtemdknkghacheaaDoorMh
import Derived.Shelf.Spec.SlicesGrow
import Derived.Test.YtemdknkghacheaaDoorMd
import Derived.Test.YtemdknkghacheaaDoorMf
import Derived.Test.YtemdknkghacheaaDoorMg
namespace Go.Proofs.YtemdknkghacheaaDoor
open Go Go.RowKit
set_option linter.unusedSimpArgs false
set_option linter.unusedVariables false
set_option linter.unusedSectionVars false

theorem range_step {s n : Nat} (h : s < n) : List.range' s (n - s) = s :: List.range' (s + 1) (n - (s + 1)) := by
  rw [show n - s = n - (s + 1) + 1 by omega, List.range'_succ]
def badAt (S : Sm) (t i j : Nat) : Bool := decide (remZ (gE S.d i j) (gE S.d t t) ≠ 0)
def spV : Option Nat → Value
  | none => .tuple #[iv 0, .bool false]
  | some i => .tuple #[nv i, .bool true]

set_option maxHeartbeats 16000000 in
theorem c_spoiled (K : Nat) (w : World) (b : Nat) (W : WV) (m n : Nat) (T : WT) (S : Sm) (t : Nat) (hW : IsWk W m n T S) (hs : Hsat (wkH b W m n T) w) (htm : t < m) (htn : t < n) (hm : m ≤ 200) (hn : n ≤ 200)
    (hK : K ≤ 9000000) (hb : Ok K S) :
    Calls Tryd.prog 38 #[.pointer (some ⟨b, 0, none⟩), nv t] w (Ret fun v w' => WkR b W m n T S w w' ∧ v = spV (spoiledF S t m n)) := by
  have hM := keys_lt hs
  have hld := hW.d.len
  have hT := hW.d.T
  have hVr : ∀ a, tv T.d a = tv T.d a := fun _ => rfl
  have hres : ∀ w', Kp (keys (wkH b W m n T)) w w' → (∀ p ∈ wkH b W m n T, w'.heap[p.1]? = some p.2) → WkR b W m n T S w w' := fun w' h1 h2 => ⟨h1, T, rfl, h2, hW, SameV.refl T⟩
  refine calls_of_S [⟨7, 3, [], []⟩] (keys (wkH b W m n T)) hM (wkH b W m n T) Tryd.func38 rfl mixed (by kernel_rfl) Tryd.ntmps38 Tryd.results38 rfl hs (fun p hp => List.mem_map.2 ⟨p, hp, rfl⟩) ?_
  simp only [toS, textOps, toSOp, kindAt, kindOf, odAt, sopsAt, ordOf, zipF]
  (repeat' (first | refine JC.seq ?_ | refine JC.ops ?_ | refine JO.nil ?_ | refine JX.thenN ?_ | (apply r_move; (iterate 3 exact rfl)) | (apply r_assign; (iterate 3 exact rfl)) | (apply r_add1; (iterate 4 exact rfl); omega) | refine JC.block ?_))
  refine JC.loopH (ι := Nat) ⟨fun z => [(6, nv z), (4, iv 0), (5, .bool false), (0, .pointer (some ⟨b, 0, none⟩)), (1, nv t)], fun _ => wkH b W m n T,
    fun z => t + 1 ≤ z ∧ z ≤ m ∧ spoiledF S t m n = (List.range' z (m - z)).find? (badRow S t n), fun z => m - z⟩ (t + 1) ⟨by omega, by omega, rfl⟩ (by repeat first | exact trivial | refine ⟨rfl, ?_⟩) (HSub.refl _) (fun i hi => ?_)
  obtain ⟨hti, him, hsp⟩ := hi
  dsimp only at hti him hsp ⊢
  unfold wkH
  (repeat' (first | refine JC.seq ?_ | refine JC.ops ?_ | (apply r_move; (iterate 3 exact rfl)) | (apply r_fieldAddr; (iterate 3 exact rfl)) | (apply r_nilCheck; (iterate 3 exact rfl))))
  refine r_idxArr (j := 0) rfl rfl rfl rfl (by omega) ?_
  by_cases hlt : i < m
  · rw [range_step hlt, List.find?_cons] at hsp
    (repeat' (first | refine JC.seq ?_ | refine JC.ops ?_ | refine JO.nil ?_ | refine JX.thenN ?_ | (apply r_move; (iterate 3 exact rfl)) | (apply r_assign; (iterate 3 exact rfl)) | (apply r_load; (iterate 4 exact rfl); exact at0; exact rfl) | (apply r_add1; (iterate 4 exact rfl); omega) | (apply r_lss; (iterate 4 exact rfl); all_goals intro hc; all_goals try (exfalso; omega)) | refine JC.skip ?_ | refine JC.condT rfl ?_ | refine JC.block ?_))
    refine JC.loopH (ι := Nat) ⟨fun z => [(7, nv z), (6, nv i), (4, iv 0), (5, .bool false), (0, .pointer (some ⟨b, 0, none⟩)), (1, nv t)], fun _ => wkH b W m n T,
      fun z => t + 1 ≤ z ∧ z ≤ n ∧ badRow S t n i = (List.range' z (n - z)).any (badAt S t i), fun z => n - z⟩ (t + 1) ⟨by omega, by omega, rfl⟩ (by repeat first | exact trivial | refine ⟨rfl, ?_⟩) (HSub.refl _) (fun j hj => ?_)
    obtain ⟨htj, hjn, hbr⟩ := hj
    dsimp only at htj hjn hbr ⊢
    unfold wkH
    (repeat' (first | refine JC.seq ?_ | refine JC.ops ?_ | (apply r_move; (iterate 3 exact rfl)) | (apply r_fieldAddr; (iterate 3 exact rfl)) | (apply r_nilCheck; (iterate 3 exact rfl))))
    refine r_idxArr (j := 1) rfl rfl rfl rfl (by omega) ?_
    by_cases hjt : j < n
    · rw [range_step hjt, List.any_cons] at hbr
      have hx : (tM T.d i j).natAbs < 256 ^ K := by rw [hW.d.at]; exact okG_at hb.d _ _
      have hy : (tM T.d t t).natAbs < 256 ^ K := by rw [hW.d.at]; exact okG_at hb.d _ _
      (repeat' (first | refine JC.seq ?_ | refine JC.opsD ?_ | refine JO.nil ?_ | refine JX.thenN ?_ | (apply r_move; (iterate 3 exact rfl)) | (apply r_fieldAddr; (iterate 3 exact rfl)) | (apply r_load; (iterate 4 exact rfl); exact at0; exact rfl) | (apply r_idxTr; (iterate 4 exact rfl); assumption; assumption; omega; omega) | (apply r_idxT; (iterate 4 exact rfl); assumption; omega) | (apply r_ldTr; (iterate 4 exact rfl); assumption; assumption; (repeat' first | exact HSub.nil _ | exact HSub.hd | exact HSub.in0 | exact HSub.refl _ | refine HSub.skip ?_ | refine HSub.skipN ?_); omega; omega) | (apply r_ldT; (iterate 4 exact rfl); assumption; assumption; (repeat' first | exact HSub.nil _ | exact HSub.hd | exact HSub.in0 | exact HSub.refl _ | refine HSub.skip ?_ | refine HSub.skipN ?_); omega) | (apply r_nilCheck; (iterate 3 exact rfl)) | (apply r_lss; (iterate 4 exact rfl); all_goals intro hc; all_goals try (exfalso; omega)) | refine JC.skip ?_ | refine JC.condT rfl ?_ | refine JC.block ?_))
      refine r_call0 (by first | trivial | exact ⟨rfl, rfl⟩) rfl (by first | rfl | exact ⟨rfl, rfl⟩) rfl (fun w _ _ => c_Quo w _ _ (tM T.d i j) (tM T.d t t) K (IsZ.can hx) (IsZ.can hy) (by omega)) fun w v w' _ _ _ hR => ?_
      have hQ : ∃ q r z, v = .tuple #[Wv q, Wv r, .bool z] ∧ r = remZ (gE S.d i j) (gE S.d t t) ∧ r.natAbs < 256 ^ K := by
        rw [← hW.d.at, ← hW.d.at]
        unfold remZ
        by_cases h0 : tM T.d t t = 0
        · rw [if_pos h0] at hR; exact ⟨0, 0, false, hR, by rw [if_pos h0], pos256 K⟩
        · rw [if_neg h0] at hR; exact ⟨_, _, true, hR, by rw [if_neg h0], by have := Int.emod_lt (tM T.d i j) h0; have := Int.emod_nonneg (tM T.d i j) h0; omega⟩
      clear hR
      obtain ⟨q, r, z, rfl, hr, hrb⟩ := hQ
      (repeat' (first | refine JC.seq ?_ | refine JC.ops ?_ | refine JO.nil ?_ | refine JX.thenN ?_ | (apply r_move; (iterate 3 exact rfl)) | (apply r_assign; (iterate 3 exact rfl)) | (apply r_loadN; (iterate 4 exact rfl); (first | exact at0 | exact at1); exact rfl) | (apply r_extract; (iterate 4 exact rfl)) | (apply r_storeN; exact rfl; (first | exact trivial | exact ⟨rfl, rfl⟩); exact rfl; exact rfl; (first | exact at0 | exact at1); (iterate 3 exact rfl)) | (apply r_allocZ; (iterate 3 exact rfl); intro _) | (apply r_storeN; exact rfl; (first | exact trivial | exact ⟨rfl, rfl⟩); exact rfl; exact rfl; (first | exact at0 | exact at1); (iterate 3 exact rfl))))
      refine r_call0 (by first | trivial | exact ⟨rfl, rfl⟩) rfl (by first | rfl | exact ⟨rfl, rfl⟩) rfl (fun w _ _ => c_Sign w _ r K (IsZ.can hrb) (by omega)) fun w v w' _ _ _ hR => ?_
      subst hR
      (repeat' (first | refine JC.seq ?_ | refine JC.ops ?_ | refine JO.nil ?_ | refine JX.thenN ?_ | (apply r_move; (iterate 3 exact rfl)) | (apply r_assign; (iterate 3 exact rfl)) | (apply r_add1; (iterate 4 exact rfl); omega) | (apply r_neq; (iterate 4 exact rfl); all_goals intro hc; all_goals try (exfalso; omega)) | refine JX.thenR ?_ | refine JC.skip ?_ | refine JC.ret ?_ | refine JC.condT rfl ?_ | refine JC.condF rfl ?_ | refine JX.blockN ?_ | refine JX.blockR ?_))
      · have h1 : badAt S t i j = true := decide_eq_true (by rw [← hr]; exact fun h => hc (by rw [h]; rfl))
        rw [h1] at hbr
        have hbr : badRow S t n i = true := hbr
        rw [hbr] at hsp
        have hsp : spoiledF S t m n = some i := hsp
        exact JX.ret2 rfl rfl (fun a w' st => ⟨hres w' st.kp (fun p hp => st.hs.blk p (by exact List.mem_cons_of_mem _ (List.mem_cons_of_mem _ hp))), by rw [hsp]; rfl⟩)
      · have h1 : badAt S t i j = false := decide_eq_false (by rw [← hr, Int.sign_eq_zero_iff_zero.1 hc]; simp)
        rw [h1, Bool.false_or] at hbr
        exact JX.roundH (j + 1) ⟨by first | omega | (dsimp only; omega), by first | omega | (dsimp only; omega), hbr⟩ (by first | omega | (dsimp only; omega)) (by repeat first | exact trivial | refine ⟨rfl, ?_⟩) (by exact HSub.skip (HSub.skip (HSub.refl _)))
    · rw [show n - j = 0 by omega] at hbr
      have hbr : badRow S t n i = false := hbr
      rw [hbr] at hsp
      (repeat' (first | refine JC.ops ?_ | refine JO.nil ?_ | refine JX.thenN ?_ | (apply r_move; (iterate 3 exact rfl)) | (apply r_assign; (iterate 3 exact rfl)) | (apply r_load; (iterate 4 exact rfl); exact at0; exact rfl) | (apply r_add1; (iterate 4 exact rfl); omega) | (apply r_lss; (iterate 4 exact rfl); all_goals intro hc; all_goals try (exfalso; omega)) | refine JX.thenE ?_ | refine JC.exit ?_ | refine JC.condF rfl ?_ | refine JX.blockN ?_ | refine JX.blockE ?_))
      exact JX.roundH (i + 1) ⟨by first | omega | (dsimp only; omega), by first | omega | (dsimp only; omega), hsp⟩ (by first | omega | (dsimp only; omega)) (by repeat first | exact trivial | refine ⟨rfl, ?_⟩) (HSub.refl _)
  · rw [show m - i = 0 by omega] at hsp
    have hsp : spoiledF S t m n = none := hsp
    (repeat' (first | refine JC.seq ?_ | refine JC.ops ?_ | refine JO.nil ?_ | refine JX.thenN ?_ | (apply r_assign; (iterate 3 exact rfl)) | (apply r_load; (iterate 4 exact rfl); exact at0; exact rfl) | (apply r_lss; (iterate 4 exact rfl); all_goals intro hc; all_goals try (exfalso; omega)) | refine JX.thenE ?_ | refine JC.exit ?_ | refine JC.ret ?_ | refine JC.condF rfl ?_ | refine JX.blockE ?_))
    exact JX.ret2 rfl rfl (fun a w' st => ⟨hres w' st.kp st.hs.blk, by rw [hsp]; rfl⟩)

theorem gE_negR {r c t a b : Nat} {g : List (List Int)} (h : Rec r c g) (ht : t < r) (hb : b < c) : gE (negR t g) a b = if a = t then -(gE g a b) else gE g a b := by
  have h1 := h.at ht
  unfold gE negR
  rw [gD_setL (by rw [h.len]; exact ht)]
  by_cases e : a = t
  · subst e
    rw [if_pos rfl, if_pos rfl]
    generalize g.getD a [] = l at h1
    simp [List.getD, List.getElem?_eq_getElem (show b < l.length by omega)]
  · rw [if_neg e, if_neg e]
theorem gE_negC {r c t a b : Nat} {g : List (List Int)} (h : Rec r c g) (ht : t < c) (ha : a < r) : gE (negC t g) a b = if b = t then -(gE g a b) else gE g a b := by
  have h1 := h.at ha
  have hl := h.len
  have e : (negC t g).getD a [] = (g.getD a []).set t (-((g.getD a []).getD t 0)) := by
    unfold negC
    rw [List.getD, List.getElem?_map, List.getD, List.getElem?_eq_getElem (show a < g.length by omega)]
    rfl
  unfold gE
  rw [e, gD_setL (by omega)]
  by_cases e1 : b = t
  · subst e1; rw [if_pos rfl]
  · rw [if_neg e1, if_neg e1]
theorem Rec.negR {r c t : Nat} {g : List (List Int)} (h : Rec r c g) (ht : t < r) : Rec r c (negR t g) := h.set (by rw [List.length_map]; exact h.at ht)
theorem Rec.negC {r c t : Nat} {g : List (List Int)} (h : Rec r c g) : Rec r c (negC t g) :=
  ⟨by unfold Go.Proofs.YtemdknkghacheaaDoor.negC; rw [List.length_map, h.len], fun x hx => by
    unfold Go.Proofs.YtemdknkghacheaaDoor.negC at hx
    obtain ⟨y, hy, rfl⟩ := List.mem_map.1 hx
    rw [List.length_set]; exact h.row y hy⟩


theorem okG_bd {K : Nat} {N : SHeap} {v : Value} {r c : Nat} {ts : List TR} {g : List (List Int)} (h : IsT N v r c ts g) (hb : okG K g = true) (a b : Nat) : (tM ts a b).natAbs < 256 ^ K := by rw [h.at]; exact okG_at hb a b

set_option maxHeartbeats 16000000 in
theorem c_negate (K : Nat) (w : World) (b : Nat) (W : WV) (m n : Nat) (T : WT) (S : Sm) (t : Nat) (hW : IsWk W m n T S) (hs : Hsat (wkH b W m n T) w) (htm : t < m) (hm : m ≤ 200) (hn : n ≤ 200)
    (hK : K ≤ 9000000) (hb : Ok K S) :
    Calls Tryd.prog 40 #[.pointer (some ⟨b, 0, none⟩), nv t] w (Ret fun _ w' => WkR b W m n T (S.neg t) w w') := by
  have hM := keys_lt hs
  have hld := hW.d.len
  have hlu := hW.u.len
  have hlui := hW.ui.len
  have hTd := hW.d.T
  have hTu := hW.u.T
  have hTui := hW.ui.T
  have hVd : ∀ a, tv T.d a = tv T.d a := fun _ => rfl
  have hVu : ∀ a, tv T.u a = tv T.u a := fun _ => rfl
  have hVui : ∀ a, tv T.ui a = tv T.ui a := fun _ => rfl
  refine calls_of_S [⟨3, 2, [], []⟩, ⟨8, 2, [], []⟩, ⟨9, 2, [], []⟩] (keys (wkH b W m n T)) hM (wkH b W m n T) Tryd.func40 rfl mixed (by kernel_rfl) Tryd.ntmps40 Tryd.results40 rfl hs (fun p hp => List.mem_map.2 ⟨p, hp, rfl⟩) ?_
  simp only [toS, textOps, toSOp, kindAt, kindOf, odAt, sopsAt, ordOf, zipF]
  unfold wkH
  (repeat' (first | refine JC.seq ?_ | refine JC.ops ?_ | refine JO.nil ?_ | refine JX.thenN ?_ | (apply r_move; (iterate 3 exact rfl)) | (apply r_fieldAddr; (iterate 3 exact rfl)) | (apply r_load; (iterate 4 exact rfl); exact at0; exact rfl) | (apply r_lenTr; (iterate 3 exact rfl); assumption; assumption; omega) | (apply r_idxT; (iterate 4 exact rfl); assumption; omega) | (apply r_ldT; (iterate 4 exact rfl); assumption; assumption; (repeat' first | exact HSub.nil _ | exact HSub.hd | exact HSub.in0 | exact HSub.refl _ | refine HSub.skip ?_ | refine HSub.skipN ?_); omega) | (apply r_nilCheck; (iterate 3 exact rfl)) | refine JC.block ?_))
  refine JC.loopH (ι := Nat × List TR) ⟨fun z => [(15, nv z.1), (14, nv n), (0, .pointer (some ⟨b, 0, none⟩)), (1, nv t)], fun z => (b, .cells (W.cells m n) 79) :: (W.Nu ++ (tH T.u ++ (W.Nui ++ (tH T.ui ++ (W.Nd ++ (tH z.2 ++ (W.Nv ++ (tH T.v ++ (W.Nvi ++ (tH T.vi ++ [])))))))))),
    fun z => z.1 ≤ n ∧ OwnT W.Nd W.d n z.2 ∧ z.2.length = m ∧ (∀ a, tv z.2 a = tv T.d a) ∧ ∀ a c, tM z.2 a c = if a = t ∧ c < z.1 then -(tM T.d a c) else tM T.d a c, fun z => n - z.1⟩ (0, T.d)
    ⟨by omega, hTd, hld, hVd, fun a c => by rw [if_neg (by omega)]⟩ (by repeat first | exact trivial | refine ⟨rfl, ?_⟩) (HSub.refl _) (fun z hz => ?_)
  clear hTd hVd
  obtain ⟨c, d1⟩ := z
  obtain ⟨hcn, hTd, hld1, hVd, hMd⟩ := hz
  dsimp only at hcn hTd hld1 hVd hMd ⊢
  by_cases hlt : c < n
  · have e1 : tM d1 t c = tM T.d t c := by rw [hMd, if_neg (by omega)]
    (repeat' (first | refine JC.seq ?_ | refine JC.ops ?_ | refine JC.opsD ?_ | refine JO.nil ?_ | refine JX.thenN ?_ | (apply r_move; (iterate 3 exact rfl)) | (apply r_fieldAddr; (iterate 3 exact rfl)) | (apply r_assign; (iterate 3 exact rfl)) | (apply r_load; (iterate 4 exact rfl); exact at0; exact rfl) | (apply r_idxTr; (iterate 4 exact rfl); assumption; assumption; omega; omega) | (apply r_idxT; (iterate 4 exact rfl); assumption; omega) | (apply r_ldTr; (iterate 4 exact rfl); assumption; assumption; (repeat' first | exact HSub.nil _ | exact HSub.hd | exact HSub.in0 | exact HSub.refl _ | refine HSub.skip ?_ | refine HSub.skipN ?_); omega; omega) | (apply r_ldT; (iterate 4 exact rfl); assumption; assumption; (repeat' first | exact HSub.nil _ | exact HSub.hd | exact HSub.in0 | exact HSub.refl _ | refine HSub.skip ?_ | refine HSub.skipN ?_); omega) | (apply r_nilCheck; (iterate 3 exact rfl)) | (apply r_lss; (iterate 4 exact rfl); all_goals intro hc; all_goals try (exfalso; omega)) | refine JC.skip ?_ | refine JC.condT rfl ?_ | refine JC.block ?_))
    refine r_call0 (by first | trivial | exact ⟨rfl, rfl⟩) rfl (by first | rfl | exact ⟨rfl, rfl⟩) rfl (fun w _ _ => c_Neg w _ (tM d1 t c) K (IsZ.can (by rw [e1]; exact okG_bd hW.d hb.d t c)) (by omega)) fun w v w' _ _ _ hR => ?_
    rw [e1] at hR
    subst hR
    (repeat' (first | (apply r_idxTr; (iterate 4 exact rfl); assumption; assumption; omega; omega)))
    refine r_stTr (A := (b, .cells (W.cells m n) 79) :: (W.Nu ++ (tH T.u ++ (W.Nui ++ tH T.ui)))) (B := W.Nv ++ (tH T.v ++ (W.Nvi ++ (tH T.vi ++ [])))) (i := t) (j := c) (V := tv T.d) (u := -(tM T.d t c)) hVd hTd (by simp only [List.cons_append, List.nil_append, List.append_assoc]) rfl (by first | trivial | exact ⟨rfl, rfl⟩) rfl rfl (by omega) hlt (fun d2 hT2 hl2 hV2 hM2 => ?_)
    simp only [List.cons_append, List.nil_append, List.append_assoc]
    (repeat' (first | refine JC.ops ?_ | refine JO.nil ?_ | refine JX.thenN ?_ | (apply r_move; (iterate 3 exact rfl)) | (apply r_add1; (iterate 4 exact rfl); omega) | refine JX.blockN ?_))
    refine JX.roundH (c + 1, d2) ⟨by dsimp only; omega, hT2, by dsimp only; omega, hV2, fun a x => ?_⟩ (by dsimp only; omega) (by repeat first | exact trivial | refine ⟨rfl, ?_⟩) (HSub.refl _)
    dsimp only
    rw [hM2, hMd]
    by_cases h1 : a = t ∧ x = c
    · obtain ⟨rfl, rfl⟩ := h1
      rw [if_pos ⟨rfl, rfl⟩, if_pos ⟨rfl, by omega⟩]
    · rw [if_neg h1]
      have e2 : (a = t ∧ x < c + 1) ↔ (a = t ∧ x < c) := by omega
      simp only [e2]
  · obtain rfl : c = n := by omega
    (repeat' (first | refine JC.seq ?_ | refine JC.ops ?_ | refine JO.nil ?_ | refine JX.thenN ?_ | (apply r_move; (iterate 3 exact rfl)) | (apply r_fieldAddr; (iterate 3 exact rfl)) | (apply r_load; (iterate 4 exact rfl); exact at0; exact rfl) | (apply r_lenTr; (iterate 3 exact rfl); assumption; assumption; omega) | (apply r_idxT; (iterate 4 exact rfl); assumption; omega) | (apply r_ldT; (iterate 4 exact rfl); assumption; assumption; (repeat' first | exact HSub.nil _ | exact HSub.hd | exact HSub.in0 | exact HSub.refl _ | refine HSub.skip ?_ | refine HSub.skipN ?_); omega) | (apply r_nilCheck; (iterate 3 exact rfl)) | (apply r_lss; (iterate 4 exact rfl); all_goals intro hc; all_goals try (exfalso; omega)) | refine JX.thenE ?_ | refine JC.exit ?_ | refine JC.condF rfl ?_ | refine JC.block ?_ | refine JX.blockE ?_))
    refine JC.loopH (ι := Nat × List TR × List TR) ⟨fun z => [(50, nv z.1), (49, nv m), (0, .pointer (some ⟨b, 0, none⟩)), (1, nv t)], fun z => (b, .cells (W.cells m c) 79) :: (W.Nu ++ (tH z.2.1 ++ (W.Nui ++ (tH z.2.2 ++ (W.Nd ++ (tH d1 ++ (W.Nv ++ (tH T.v ++ (W.Nvi ++ (tH T.vi ++ [])))))))))),
      fun z => z.1 ≤ m ∧ (OwnT W.Nu W.u m z.2.1 ∧ z.2.1.length = m ∧ (∀ a, tv z.2.1 a = tv T.u a) ∧ ∀ a x, tM z.2.1 a x = if a = t ∧ x < z.1 then -(tM T.u a x) else tM T.u a x) ∧ (OwnT W.Nui W.ui m z.2.2 ∧ z.2.2.length = m ∧ (∀ a, tv z.2.2 a = tv T.ui a) ∧ ∀ a x, tM z.2.2 a x = if x = t ∧ a < z.1 then -(tM T.ui a x) else tM T.ui a x), fun z => m - z.1⟩ (0, T.u, T.ui)
      ⟨by omega, ⟨hTu, hlu, hVu, fun a c => by rw [if_neg (by omega)]⟩, ⟨hTui, hlui, hVui, fun a c => by rw [if_neg (by omega)]⟩⟩ (by repeat first | exact trivial | refine ⟨rfl, ?_⟩) (HSub.refl _) (fun z hz => ?_)
    clear hTu hVu hTui hVui
    obtain ⟨k, u1, v1⟩ := z
    obtain ⟨hkm, ⟨hTu, hlu1, hVu, hMu⟩, ⟨hTui, hlui1, hVui, hMui⟩⟩ := hz
    dsimp only at hkm hTu hlu1 hVu hMu hTui hlui1 hVui hMui ⊢
    by_cases hlk : k < m
    · have e1 : tM u1 t k = tM T.u t k := by rw [hMu, if_neg (by omega)]
      have e2 : tM v1 k t = tM T.ui k t := by rw [hMui, if_neg (by omega)]
      (repeat' (first | refine JC.seq ?_ | refine JC.ops ?_ | refine JC.opsD ?_ | refine JO.nil ?_ | refine JX.thenN ?_ | (apply r_move; (iterate 3 exact rfl)) | (apply r_fieldAddr; (iterate 3 exact rfl)) | (apply r_assign; (iterate 3 exact rfl)) | (apply r_load; (iterate 4 exact rfl); exact at0; exact rfl) | (apply r_idxTr; (iterate 4 exact rfl); assumption; assumption; omega; omega) | (apply r_idxT; (iterate 4 exact rfl); assumption; omega) | (apply r_ldTr; (iterate 4 exact rfl); assumption; assumption; (repeat' first | exact HSub.nil _ | exact HSub.hd | exact HSub.in0 | exact HSub.refl _ | refine HSub.skip ?_ | refine HSub.skipN ?_); omega; omega) | (apply r_ldT; (iterate 4 exact rfl); assumption; assumption; (repeat' first | exact HSub.nil _ | exact HSub.hd | exact HSub.in0 | exact HSub.refl _ | refine HSub.skip ?_ | refine HSub.skipN ?_); omega) | (apply r_nilCheck; (iterate 3 exact rfl)) | (apply r_lss; (iterate 4 exact rfl); all_goals intro hc; all_goals try (exfalso; omega)) | refine JC.skip ?_ | refine JC.condT rfl ?_ | refine JC.block ?_))
      refine r_call0 (by first | trivial | exact ⟨rfl, rfl⟩) rfl (by first | rfl | exact ⟨rfl, rfl⟩) rfl (fun w _ _ => c_Neg w _ (tM u1 t k) K (IsZ.can (by rw [e1]; exact okG_bd hW.u hb.u t k)) (by omega)) fun w v w' _ _ _ hR => ?_
      rw [e1] at hR
      subst hR
      (repeat' (first | (apply r_idxTr; (iterate 4 exact rfl); assumption; assumption; omega; omega)))
      refine r_stTr (A := [(b, .cells (W.cells m c) 79)]) (B := W.Nui ++ (tH v1 ++ (W.Nd ++ (tH d1 ++ (W.Nv ++ (tH T.v ++ (W.Nvi ++ (tH T.vi ++ [])))))))) (i := t) (j := k) (V := tv T.u) (u := -(tM T.u t k)) hVu hTu rfl rfl (by first | trivial | exact ⟨rfl, rfl⟩) rfl rfl (by omega) hlk (fun u2 hT2 hl2 hV2 hM2 => ?_)
      simp only [List.cons_append, List.nil_append, List.append_assoc]
      (repeat' (first | refine JC.opsD ?_ | refine JO.nil ?_ | refine JX.thenN ?_ | (apply r_move; (iterate 3 exact rfl)) | (apply r_fieldAddr; (iterate 3 exact rfl)) | (apply r_load; (iterate 4 exact rfl); exact at0; exact rfl) | (apply r_idxTr; (iterate 4 exact rfl); assumption; assumption; omega; omega) | (apply r_idxT; (iterate 4 exact rfl); assumption; omega) | (apply r_ldTr; (iterate 4 exact rfl); assumption; assumption; (repeat' first | exact HSub.nil _ | exact HSub.hd | exact HSub.in0 | exact HSub.refl _ | refine HSub.skip ?_ | refine HSub.skipN ?_); omega; omega) | (apply r_ldT; (iterate 4 exact rfl); assumption; assumption; (repeat' first | exact HSub.nil _ | exact HSub.hd | exact HSub.in0 | exact HSub.refl _ | refine HSub.skip ?_ | refine HSub.skipN ?_); omega) | (apply r_nilCheck; (iterate 3 exact rfl))))
      refine r_call0 (by first | trivial | exact ⟨rfl, rfl⟩) rfl (by first | rfl | exact ⟨rfl, rfl⟩) rfl (fun w _ _ => c_Neg w _ (tM v1 k t) K (IsZ.can (by rw [e2]; exact okG_bd hW.ui hb.ui k t)) (by omega)) fun w v w' _ _ _ hR => ?_
      rw [e2] at hR
      subst hR
      (repeat' (first | (apply r_idxTr; (iterate 4 exact rfl); assumption; assumption; omega; omega)))
      refine r_stTr (A := (b, .cells (W.cells m c) 79) :: (W.Nu ++ tH u2)) (B := W.Nd ++ (tH d1 ++ (W.Nv ++ (tH T.v ++ (W.Nvi ++ (tH T.vi ++ [])))))) (i := k) (j := t) (V := tv T.ui) (u := -(tM T.ui k t)) hVui hTui (by simp only [List.cons_append, List.nil_append, List.append_assoc]) rfl (by first | trivial | exact ⟨rfl, rfl⟩) rfl rfl (by omega) htm (fun v2 hT3 hl3 hV3 hM3 => ?_)
      simp only [List.cons_append, List.nil_append, List.append_assoc]
      (repeat' (first | refine JC.ops ?_ | refine JO.nil ?_ | refine JX.thenN ?_ | (apply r_move; (iterate 3 exact rfl)) | (apply r_add1; (iterate 4 exact rfl); omega) | refine JX.blockN ?_))
      refine JX.roundH (k + 1, u2, v2) ⟨by dsimp only; omega, ⟨hT2, by dsimp only; omega, hV2, fun a x => ?_⟩, ⟨hT3, by dsimp only; omega, hV3, fun a x => ?_⟩⟩ (by dsimp only; omega) (by repeat first | exact trivial | refine ⟨rfl, ?_⟩) (HSub.refl _)
      · dsimp only
        rw [hM2, hMu]
        by_cases h1 : a = t ∧ x = k
        · obtain ⟨rfl, rfl⟩ := h1
          rw [if_pos ⟨rfl, rfl⟩, if_pos ⟨rfl, by omega⟩]
        · rw [if_neg h1]
          have e2 : (a = t ∧ x < k + 1) ↔ (a = t ∧ x < k) := by omega
          simp only [e2]
      · dsimp only
        rw [hM3, hMui]
        by_cases h1 : a = k ∧ x = t
        · obtain ⟨rfl, rfl⟩ := h1
          rw [if_pos ⟨rfl, rfl⟩, if_pos ⟨rfl, by omega⟩]
        · rw [if_neg h1]
          have e2 : (x = t ∧ a < k + 1) ↔ (x = t ∧ a < k) := by omega
          simp only [e2]
    · obtain rfl : k = m := by omega
      (repeat' (first | refine JC.seq ?_ | refine JC.ops ?_ | refine JO.nil ?_ | refine JX.thenN ?_ | (apply r_lss; (iterate 4 exact rfl); all_goals intro hc; all_goals try (exfalso; omega)) | refine JX.thenE ?_ | refine JC.exit ?_ | refine JC.condF rfl ?_ | refine JX.blockE ?_))
      have a1 : IsT W.Nu W.u k k u1 (negR t S.u) := hW.u.of hTu (by omega) (hW.u.rc.negR htm) (fun x y hx hy => by
        rw [hMu, gE_negR hW.u.rc htm hy, hW.u.at]
        have e : (x = t ∧ y < k) ↔ x = t := by omega
        simp only [e])
      have a2 : IsT W.Nui W.ui k k v1 (negC t S.ui) := hW.ui.of hTui (by omega) hW.ui.rc.negC (fun x y hx hy => by
        rw [hMui, gE_negC hW.ui.rc htm hx, hW.ui.at]
        have e : (y = t ∧ x < k) ↔ y = t := by omega
        simp only [e])
      have a3 : IsT W.Nd W.d k c d1 (negR t S.d) := hW.d.of hTd (by omega) (hW.d.rc.negR htm) (fun x y hx hy => by
        rw [hMd, gE_negR hW.d.rc htm hy, hW.d.at]
        have e : (x = t ∧ y < c) ↔ x = t := by omega
        simp only [e])
      have hW' : IsWk W k c ⟨u1, v1, d1, T.v, T.vi⟩ (S.neg t) := ⟨a1, a2, a3, hW.v, hW.vi⟩
      have hV' : SameV T ⟨u1, v1, d1, T.v, T.vi⟩ := ⟨hVu, hVui, hVd, fun _ => rfl, fun _ => rfl⟩
      exact JX.end0 (fun a w'' st => ⟨st.kp, _, wkH_keys hW hW' hV', fun p hp => st.hs.blk p hp, hW', hV'⟩)


def tnS : Array Value := #[.bool false, .string ⟨#[]⟩, .bool (decide ((1 : Int) < 0)), sv (magU (Int.natAbs 1)), .bool (decide ((-1 : Int) < 0)), sv (magU (Int.natAbs (-1))), .bool false, .string ⟨#[]⟩]
theorem tnC_s : tnC ⟨0, 1, -1, 0⟩ = tnS := by
  have h : magU (Int.natAbs 0) = [] := congrArg Prod.snd wz_zero
  unfold tnC tnS
  dsimp only
  rw [h]
  rfl
theorem swap_bd (K : Nat) : BdT (K + 1) ⟨0, 1, -1, 0⟩ := ⟨zero_bd _, one_bd K, one_bd K, zero_bd _⟩
def nzAt (S : Sm) (j i : Nat) : Bool := decide (gE S.d i j ≠ 0)
set_option maxHeartbeats 16000000 in
theorem c_pivot (K : Nat) (w : World) (b : Nat) (W : WV) (m n : Nat) (T : WT) (S S' : Sm) (fl : Bool) (t : Nat) (hW : IsWk W m n T S) (hs : Hsat (wkH b W m n T) w) (htm : t < m) (htn : t < n) (hm : m ≤ 200) (hn : n ≤ 200)
    (hK : K ≤ 9000000) (hb : Ok K S) (hp : pivotF K t m n S = some (S', fl)) :
    Calls Tryd.prog 36 #[.pointer (some ⟨b, 0, none⟩), nv t] w (Ret fun v w' => WkR b W m n T S' w w' ∧ v = .bool fl) := by
  have hM := keys_lt hs
  have hld := hW.d.len
  have hT := hW.d.T
  have hVr : ∀ a, tv T.d a = tv T.d a := fun _ => rfl
  have hS0 := SameV.refl T
  refine calls_of_S [] (keys (wkH b W m n T)) hM (wkH b W m n T) Tryd.func36 rfl mixed (by kernel_rfl) Tryd.ntmps36 Tryd.results36 rfl hs (fun p hp => List.mem_map.2 ⟨p, hp, rfl⟩) ?_
  simp only [toS, textOps, toSOp, kindAt, kindOf, odAt, sopsAt, ordOf, zipF]
  (repeat' (first | refine JC.seq ?_ | refine JC.ops ?_ | refine JO.nil ?_ | refine JX.thenN ?_ | (apply r_assign; (iterate 3 exact rfl))))
  refine r_call0 (by first | trivial | exact ⟨rfl, rfl⟩) rfl (by first | rfl | exact ⟨rfl, rfl⟩) rfl (fun w _ _ => c_From w 1 (by decide) (by decide)) fun w v w' _ _ _ hR => ?_
  subst hR
  skip
  refine r_call0 (by first | trivial | exact ⟨rfl, rfl⟩) rfl (by first | rfl | exact ⟨rfl, rfl⟩) rfl (fun w _ _ => c_From w (-1) (by decide) (by decide)) fun w v w' _ _ _ hR => ?_
  subst hR
  (repeat' (first | refine JC.seq ?_ | refine JC.ops ?_ | refine JO.nil ?_ | refine JX.thenN ?_ | (apply r_loadN; (iterate 4 exact rfl); (first | exact at0 | exact at1); exact rfl) | (apply r_storeN; exact rfl; (first | exact trivial | exact ⟨rfl, rfl⟩); exact rfl; exact rfl; (first | exact at0 | exact at1); (iterate 3 exact rfl)) | (apply r_allocZ; (iterate 3 exact rfl); intro _) | (apply r_build0; exact rfl; exact rfl) | (apply r_storeN; exact rfl; (first | exact trivial | exact ⟨rfl, rfl⟩); exact rfl; exact rfl; (first | exact at0 | exact at1); (iterate 3 exact rfl))))
  refine r_build (l := [(0, .agg #[.bool false, .string ⟨#[]⟩]), (1, Wv 1), (2, Wv (-1)), (3, .agg #[.bool false, .string ⟨#[]⟩])]) (cs := tnS) rfl rfl rfl (by kernel_rfl) ?_
  (repeat' (first | refine JC.seq ?_ | refine JC.ops ?_ | refine JO.nil ?_ | refine JX.thenN ?_ | (apply r_move; (iterate 3 exact rfl)) | (apply r_assign; (iterate 3 exact rfl)) | (apply r_storeN; exact rfl; (first | exact trivial | exact ⟨rfl, rfl⟩); exact rfl; exact rfl; exact at0; (iterate 3 exact rfl)) | (apply r_allocZ; (iterate 3 exact rfl); intro _) | (apply r_storeN; exact rfl; (first | exact trivial | exact ⟨rfl, rfl⟩); exact rfl; exact rfl; exact at0; (iterate 3 exact rfl)) | refine JC.block ?_))
  rename_i b5 b6 b7
  refine JC.loopH (ι := Nat) ⟨fun z => [(8, nv z), (7, .pointer (some ⟨b7, 0, none⟩)), (4, .bool false), (0, .pointer (some ⟨b, 0, none⟩)), (1, nv t)], fun _ => (b7, .cells tnS 86) :: wkH b W m n T,
    fun z => t ≤ z ∧ z ≤ n ∧ findP S t m n = (List.range' z (n - z)).findSome? fun j => ((List.range' t (m - t)).find? (nzAt S j)).map fun i => (i, j), fun z => n - z⟩ t ⟨by omega, by omega, rfl⟩ (by repeat first | exact trivial | refine ⟨rfl, ?_⟩) ?_ (fun j hj => ?_)
  · exact HSub.at 0 rfl (HSub.skip (HSub.skip (HSub.refl _)))
  obtain ⟨htj, hjn, hfp⟩ := hj
  dsimp only at htj hjn hfp ⊢
  unfold wkH
  (repeat' (first | refine JC.seq ?_ | refine JC.ops ?_ | (apply r_move; (iterate 3 exact rfl)) | (apply r_fieldAddr; (iterate 3 exact rfl)) | (apply r_nilCheck; (iterate 3 exact rfl))))
  refine r_idxArr (j := 1) rfl rfl rfl rfl (by omega) ?_
  by_cases hjl : j < n
  · rw [range_step hjl, List.findSome?_cons] at hfp
    (repeat' (first | refine JC.seq ?_ | refine JC.ops ?_ | refine JO.nil ?_ | refine JX.thenN ?_ | (apply r_move; (iterate 3 exact rfl)) | (apply r_assign; (iterate 3 exact rfl)) | (apply r_load; (iterate 4 exact rfl); exact at1; exact rfl) | (apply r_lss; (iterate 4 exact rfl); all_goals intro hc; all_goals try (exfalso; omega)) | refine JC.skip ?_ | refine JC.condT rfl ?_ | refine JC.block ?_))
    refine JC.loopH (ι := Nat) ⟨fun z => [(9, nv z), (8, nv j), (7, .pointer (some ⟨b7, 0, none⟩)), (4, .bool false), (0, .pointer (some ⟨b, 0, none⟩)), (1, nv t)], fun _ => (b7, .cells tnS 86) :: wkH b W m n T,
      fun z => t ≤ z ∧ z ≤ m ∧ (List.range' t (m - t)).find? (nzAt S j) = (List.range' z (m - z)).find? (nzAt S j), fun z => m - z⟩ t ⟨by omega, by omega, rfl⟩ (by repeat first | exact trivial | refine ⟨rfl, ?_⟩) (HSub.refl _) (fun i hi => ?_)
    obtain ⟨hti, him, hf⟩ := hi
    dsimp only at hti him hf ⊢
    unfold wkH
    (repeat' (first | refine JC.seq ?_ | refine JC.ops ?_ | (apply r_move; (iterate 3 exact rfl)) | (apply r_fieldAddr; (iterate 3 exact rfl)) | (apply r_nilCheck; (iterate 3 exact rfl))))
    refine r_idxArr (j := 0) rfl rfl rfl rfl (by omega) ?_
    by_cases hil : i < m
    · rw [range_step hil, List.find?_cons] at hf
      have hx : (tM T.d i j).natAbs < 256 ^ K := okG_bd hW.d hb.d i j
      (repeat' (first | refine JC.seq ?_ | refine JC.ops ?_ | refine JO.nil ?_ | refine JX.thenN ?_ | (apply r_move; (iterate 3 exact rfl)) | (apply r_fieldAddr; (iterate 3 exact rfl)) | (apply r_load; (iterate 4 exact rfl); exact at1; exact rfl) | (apply r_idxTr; (iterate 4 exact rfl); assumption; assumption; omega; omega) | (apply r_idxT; (iterate 4 exact rfl); assumption; omega) | (apply r_ldTr; (iterate 4 exact rfl); assumption; assumption; (repeat' first | exact HSub.nil _ | exact HSub.hd | exact HSub.in0 | exact HSub.refl _ | refine HSub.skip ?_ | refine HSub.skipN ?_); omega; omega) | (apply r_ldT; (iterate 4 exact rfl); assumption; assumption; (repeat' first | exact HSub.nil _ | exact HSub.hd | exact HSub.in0 | exact HSub.refl _ | refine HSub.skip ?_ | refine HSub.skipN ?_); omega) | (apply r_nilCheck; (iterate 3 exact rfl)) | (apply r_lss; (iterate 4 exact rfl); all_goals intro hc; all_goals try (exfalso; omega)) | refine JC.skip ?_ | refine JC.condT rfl ?_ | refine JC.block ?_))
      refine r_call0 (by first | trivial | exact ⟨rfl, rfl⟩) rfl (by first | rfl | exact ⟨rfl, rfl⟩) rfl (fun w _ _ => c_Sign w _ (tM T.d i j) K (IsZ.can hx) (by omega)) fun w v w' _ _ _ hR => ?_
      subst hR
      by_cases hz : tM T.d i j = 0
      · have h1 : nzAt S j i = false := decide_eq_false (by rw [← hW.d.at, hz]; simp)
        rw [h1] at hf
        rw [show (tM T.d i j).sign = 0 by rw [hz]; rfl]
        (repeat' (first | refine JC.ops ?_ | refine JO.nil ?_ | refine JX.thenN ?_ | (apply r_move; (iterate 3 exact rfl)) | (apply r_assign; (iterate 3 exact rfl)) | (apply r_add1; (iterate 4 exact rfl); omega) | (apply r_eql; (iterate 4 exact rfl); all_goals intro hc; all_goals try (exfalso; omega)) | refine JX.thenE ?_ | refine JC.exit ?_ | refine JC.condT rfl ?_ | refine JX.blockE ?_))
        exact JX.roundH (i + 1) ⟨by first | omega | (dsimp only; omega), by first | omega | (dsimp only; omega), hf⟩ (by first | omega | (dsimp only; omega)) (by repeat first | exact trivial | refine ⟨rfl, ?_⟩) (HSub.refl _)
      · have h1 : nzAt S j i = true := decide_eq_true (by rw [← hW.d.at]; exact hz)
        rw [h1] at hf
        dsimp only at hf
        rw [hf] at hfp
        have hfp : findP S t m n = some (i, j) := hfp
        have hsz : ¬ (tM T.d i j).sign = 0 := fun h => hz (Int.sign_eq_zero_iff_zero.1 h)
        unfold pivotF at hp
        rw [hfp] at hp
        dsimp only at hp
        by_cases hit : i = t
        · rw [if_pos hit] at hp
          dsimp only at hp
          by_cases hjt : j = t
          · rw [if_pos hjt] at hp
            obtain ⟨rfl, rfl⟩ := Prod.mk.inj (Option.some.inj hp)
            (repeat' (first | refine JC.seq ?_ | refine JC.ops ?_ | refine JO.nil ?_ | refine JX.thenN ?_ | (apply r_move; (iterate 3 exact rfl)) | (apply r_assign; (iterate 3 exact rfl)) | (apply r_eql; (iterate 4 exact rfl); all_goals intro hc; all_goals try (exfalso; omega)) | (apply r_neq; (iterate 4 exact rfl); all_goals intro hc; all_goals try (exfalso; omega)) | refine JX.thenR ?_ | refine JC.skip ?_ | refine JC.ret ?_ | refine JC.condF rfl ?_ | refine JX.blockR ?_))
            exact JX.ret1 rfl (fun a w' st => ⟨⟨st.kp, T, wkH_keys hW hW hS0, fun p hp => st.hs.blk p (by exact List.mem_cons_of_mem _ hp), hW, hS0⟩, rfl⟩)
          · rw [if_neg hjt] at hp
            cases hk2 : ck K (S.cols t j ⟨0, 1, -1, 0⟩) with
            | none => rw [hk2] at hp; cases hp
            | some S2 =>
              rw [hk2] at hp
              obtain ⟨rfl, rfl⟩ := Prod.mk.inj (Option.some.inj hp)
              obtain ⟨rfl, hok2⟩ := ck_some hk2
              (repeat' (first | refine JC.seq ?_ | refine JC.ops ?_ | refine JO.nil ?_ | refine JX.thenN ?_ | (apply r_move; (iterate 3 exact rfl)) | (apply r_loadN; (iterate 4 exact rfl); exact at0; exact rfl) | (apply r_eql; (iterate 4 exact rfl); all_goals intro hc; all_goals try (exfalso; omega)) | (apply r_neq; (iterate 4 exact rfl); all_goals intro hc; all_goals try (exfalso; omega)) | refine JC.skip ?_ | refine JC.condT rfl ?_ | refine JC.condF rfl ?_))
              refine r_callO (A := [(b7, .cells tnS 86)]) (N := wkH b W m n T) (B := []) (R := fun w _ w' => WkR b W m n T (S.cols t j ⟨0, 1, -1, 0⟩) w w') (by simp only [wkH, List.cons_append, List.nil_append, List.append_nil]) (by first | trivial | exact ⟨rfl, rfl⟩) rfl (by first | rfl | exact ⟨rfl, rfl⟩) rfl (fun w _ hs => ?_) (fun w1 v1 w2 _ _ hk2 hR => ?_)
              · have hs1 : Hsat (wkH b W m n T) w := HSub.hsat (by exact HSub.skip (HSub.refl _)) hs
                have h := c_wcols (K + 1) w b W m n T S t j ⟨0, 1, -1, 0⟩ hW hs1 (by omega) (by omega) (fun e => hjt e.symm) hm hn (by omega) (swap_bd K) hb.up
                rw [tnC_s] at h
                exact calls_mono h fun v w' h => ⟨h.1, h⟩
              · obtain ⟨Tb, hk3, hin3, hW3Tb, hV3Tb⟩ := hR.of hS0
                refine ⟨wkH b W m n Tb, hk3, hin3, ?_⟩
                (repeat' (first | refine JC.seq ?_ | refine JC.ops ?_ | refine JO.nil ?_ | refine JX.thenN ?_ | (apply r_assign; (iterate 3 exact rfl)) | refine JX.thenR ?_ | refine JC.ret ?_ | refine JX.blockR ?_))
                exact JX.ret1 rfl (fun a w' st => ⟨⟨st.kp, Tb, wkH_keys hW hW3Tb hV3Tb, fun p hp => st.hs.blk p (by exact List.mem_append_right _ (List.mem_append_left _ hp)), hW3Tb, hV3Tb⟩, rfl⟩)
        · rw [if_neg hit] at hp
          cases hk1 : ck K (S.rows t i ⟨0, 1, -1, 0⟩) with
          | none => rw [hk1] at hp; cases hp
          | some S1 =>
            rw [hk1] at hp
            dsimp only at hp
            obtain ⟨rfl, hok1⟩ := ck_some hk1
            (repeat' (first | refine JC.seq ?_ | refine JC.ops ?_ | refine JO.nil ?_ | refine JX.thenN ?_ | (apply r_move; (iterate 3 exact rfl)) | (apply r_loadN; (iterate 4 exact rfl); exact at0; exact rfl) | (apply r_eql; (iterate 4 exact rfl); all_goals intro hc; all_goals try (exfalso; omega)) | (apply r_neq; (iterate 4 exact rfl); all_goals intro hc; all_goals try (exfalso; omega)) | refine JC.skip ?_ | refine JC.condT rfl ?_ | refine JC.condF rfl ?_))
            refine r_callO (A := [(b7, .cells tnS 86)]) (N := wkH b W m n T) (B := []) (R := fun w _ w' => WkR b W m n T (S.rows t i ⟨0, 1, -1, 0⟩) w w') (by simp only [wkH, List.cons_append, List.nil_append, List.append_nil]) (by first | trivial | exact ⟨rfl, rfl⟩) rfl (by first | rfl | exact ⟨rfl, rfl⟩) rfl (fun w _ hs => ?_) (fun w1 v1 w2 _ _ hk2 hR => ?_)
            · have hs1 : Hsat (wkH b W m n T) w := HSub.hsat (by exact HSub.skip (HSub.refl _)) hs
              have h := c_wrows (K + 1) w b W m n T S t i ⟨0, 1, -1, 0⟩ hW hs1 (by omega) (by omega) (fun e => hit e.symm) hm hn (by omega) (swap_bd K) hb.up
              rw [tnC_s] at h
              exact calls_mono h fun v w' h => ⟨h.1, h⟩
            · obtain ⟨Ta, hk3, hin3, hW3Ta, hV3Ta⟩ := hR.of hS0
              refine ⟨wkH b W m n Ta, hk3, hin3, ?_⟩
              by_cases hjt : j = t
              · rw [if_pos hjt] at hp
                obtain ⟨rfl, rfl⟩ := Prod.mk.inj (Option.some.inj hp)
                (repeat' (first | refine JC.seq ?_ | refine JC.ops ?_ | refine JO.nil ?_ | refine JX.thenN ?_ | (apply r_move; (iterate 3 exact rfl)) | (apply r_assign; (iterate 3 exact rfl)) | (apply r_neq; (iterate 4 exact rfl); all_goals intro hc; all_goals try (exfalso; omega)) | refine JX.thenR ?_ | refine JC.skip ?_ | refine JC.ret ?_ | refine JC.condF rfl ?_ | refine JX.blockR ?_))
                exact JX.ret1 rfl (fun a w' st => ⟨⟨st.kp, Ta, wkH_keys hW hW3Ta hV3Ta, fun p hp => st.hs.blk p (by exact List.mem_append_right _ (List.mem_append_left _ hp)), hW3Ta, hV3Ta⟩, rfl⟩)
              · rw [if_neg hjt] at hp
                cases hk2 : ck K ((S.rows t i ⟨0, 1, -1, 0⟩).cols t j ⟨0, 1, -1, 0⟩) with
                | none => rw [hk2] at hp; cases hp
                | some S2 =>
                  rw [hk2] at hp
                  obtain ⟨rfl, rfl⟩ := Prod.mk.inj (Option.some.inj hp)
                  obtain ⟨rfl, hok2⟩ := ck_some hk2
                  (repeat' (first | refine JC.seq ?_ | refine JC.ops ?_ | refine JO.nil ?_ | refine JX.thenN ?_ | (apply r_move; (iterate 3 exact rfl)) | (apply r_loadN; (iterate 4 exact rfl); exact at0; exact rfl) | (apply r_neq; (iterate 4 exact rfl); all_goals intro hc; all_goals try (exfalso; omega)) | refine JC.condT rfl ?_))
                  refine r_callO (A := [(b7, .cells tnS 86)]) (N := wkH b W m n Ta) (B := []) (R := fun w _ w' => WkR b W m n Ta ((S.rows t i ⟨0, 1, -1, 0⟩).cols t j ⟨0, 1, -1, 0⟩) w w') (by simp only [wkH, List.cons_append, List.nil_append, List.append_nil]) (by first | trivial | exact ⟨rfl, rfl⟩) rfl (by first | rfl | exact ⟨rfl, rfl⟩) rfl (fun w _ hs => ?_) (fun w1 v1 w2 _ _ hk2 hR => ?_)
                  · have hs1 : Hsat (wkH b W m n Ta) w := HSub.hsat (by exact HSub.skip HSub.in0) hs
                    have h := c_wcols (K + 1) w b W m n Ta (S.rows t i ⟨0, 1, -1, 0⟩) t j ⟨0, 1, -1, 0⟩ hW3Ta hs1 (by omega) (by omega) (fun e => hjt e.symm) hm hn (by omega) (swap_bd K) hok1.up
                    rw [tnC_s] at h
                    exact calls_mono h fun v w' h => ⟨h.1, h⟩
                  · obtain ⟨Tb, hk3, hin3, hW3Tb, hV3Tb⟩ := hR.of hV3Ta
                    refine ⟨wkH b W m n Tb, hk3, hin3, ?_⟩
                    (repeat' (first | refine JC.seq ?_ | refine JC.ops ?_ | refine JO.nil ?_ | refine JX.thenN ?_ | (apply r_assign; (iterate 3 exact rfl)) | refine JX.thenR ?_ | refine JC.ret ?_ | refine JX.blockR ?_))
                    exact JX.ret1 rfl (fun a w' st => ⟨⟨st.kp, Tb, wkH_keys hW hW3Tb hV3Tb, fun p hp => st.hs.blk p (by exact List.mem_append_right _ (List.mem_append_left _ hp)), hW3Tb, hV3Tb⟩, rfl⟩)
    · rw [show m - i = 0 by omega] at hf
      have hf : (List.range' t (m - t)).find? (nzAt S j) = none := hf
      rw [hf] at hfp
      (repeat' (first | refine JC.ops ?_ | refine JO.nil ?_ | refine JX.thenN ?_ | (apply r_move; (iterate 3 exact rfl)) | (apply r_assign; (iterate 3 exact rfl)) | (apply r_load; (iterate 4 exact rfl); exact at1; exact rfl) | (apply r_add1; (iterate 4 exact rfl); omega) | (apply r_lss; (iterate 4 exact rfl); all_goals intro hc; all_goals try (exfalso; omega)) | refine JX.thenE ?_ | refine JC.exit ?_ | refine JC.condF rfl ?_ | refine JX.blockN ?_ | refine JX.blockE ?_))
      exact JX.roundH (j + 1) ⟨by first | omega | (dsimp only; omega), by first | omega | (dsimp only; omega), hfp⟩ (by first | omega | (dsimp only; omega)) (by repeat first | exact trivial | refine ⟨rfl, ?_⟩) (HSub.refl _)
  · rw [show n - j = 0 by omega] at hfp
    have hfp : findP S t m n = none := hfp
    unfold pivotF at hp
    rw [hfp] at hp
    obtain ⟨rfl, rfl⟩ := Prod.mk.inj (Option.some.inj hp)
    (repeat' (first | refine JC.seq ?_ | refine JC.ops ?_ | refine JO.nil ?_ | refine JX.thenN ?_ | (apply r_assign; (iterate 3 exact rfl)) | (apply r_load; (iterate 4 exact rfl); exact at1; exact rfl) | (apply r_lss; (iterate 4 exact rfl); all_goals intro hc; all_goals try (exfalso; omega)) | refine JX.thenE ?_ | refine JC.exit ?_ | refine JC.ret ?_ | refine JC.condF rfl ?_ | refine JX.blockE ?_))
    exact JX.ret1 rfl (fun a w' st => ⟨⟨st.kp, T, rfl, fun p hp => st.hs.blk p (by exact List.mem_cons_of_mem _ hp), hW, hS0⟩, rfl⟩)


theorem own_nils (b r : Nat) (hr : r ≤ 200) : OwnRow 26 1 [(b, .cells (zerosOf #[.slice none 0 0] (r * 1)) 26)] (.slice (some ⟨b, 0, none⟩) r r) r (List.replicate r (.slice none 0 0)) := by
  have h := OwnRow.mk' (e := 26) (sz := 1) (n := r) (b := b) (cs := zerosOf #[.slice none 0 0] (r * 1)) (by rw [zeros1]; simp) (by simp only [maxLen]; omega)
  rw [zeros1] at h ⊢
  simpa using h
theorem set_rep {α : Type} {l : List α} {x y : α} {r k : Nat} (hl : l.length = k) (hk : k < r) : (l ++ List.replicate (r - k) y).set k x = (l ++ [x]) ++ List.replicate (r - (k + 1)) y := by
  rw [List.set_append_right _ _ (by omega), hl, Nat.sub_self, show r - k = r - (k + 1) + 1 by omega, List.replicate_succ, List.set_cons_zero, List.append_assoc]
  rfl

set_option maxHeartbeats 4000000 in
theorem c_of (w : World) (v : Value) (m : ZM) (hm : RtZ m) (hv : IsM w v m) :
    Calls Tryd.prog 35 #[v] w (Ret fun v w' => Kp [] w w' ∧ ∃ N ts, New (N ++ tH ts) w w' ∧ OwnT N v m.c ts ∧ ts.map (·.2.2) = (List.range m.r).map (rowI m)) := by
  obtain ⟨E, rfl, hE⟩ := hv
  have hl := hm.len
  have hle := hm.le
  have hbr := hm.r
  have hbc := hm.c
  have hrc : m.r * m.c ≤ 40000 := by rw [← hl]; exact hle
  refine calls_of_S [] [] (by simp) [] Tryd.func35 rfl mixed (by kernel_rfl) Tryd.ntmps35 Tryd.results35 rfl ⟨by simp, by simp⟩ (by simp) ?_
  simp only [toS, textOps, toSOp, kindAt, kindOf, odAt, sopsAt, ordOf, zipF]
  have hRE := WZ.rd (c := ⟨Tryd.prog, 31, w, [], by simp⟩) hE rfl []
  rw [hl] at hRE
  clear hE
  (repeat' (first | refine JC.seq ?_ | refine JC.ops ?_ | refine JO.nil ?_ | refine JX.thenN ?_ | (apply r_fieldAddr; (iterate 3 exact rfl)) | (apply r_assign; (iterate 3 exact rfl)) | (apply r_load; (iterate 4 exact rfl); exact at0; exact rfl) | (apply r_boxA; (iterate 4 exact rfl); intro _)))
  rename_i b1
  refine r_make (n := m.r) rfl rfl rfl rfl rfl (by omega) (by omega) (fun b7 => ?_)
  have hO := own_nils b7 m.r hbr
  (repeat' (first | refine JC.seq ?_ | refine JC.ops ?_ | refine JO.nil ?_ | refine JX.thenN ?_ | (apply r_move; (iterate 3 exact rfl)) | (apply r_assign; (iterate 3 exact rfl)) | (apply r_len; (iterate 3 exact rfl)) | refine JC.block ?_))
  refine JC.loopH (ι := Nat × SHeap × List TR) ⟨fun z => [(10, nv z.1), (9, nv m.r), (3, .slice (some ⟨b7, 0, none⟩) m.r m.r), (1, .pointer (some ⟨b1, 0, none⟩))],
    fun z => [(b1, .cells #[nv m.r, nv m.c, E] 28)] ++ (z.2.1 ++ (tH z.2.2 ++ [])),
    fun z => z.1 ≤ m.r ∧ OwnRow 26 1 z.2.1 (.slice (some ⟨b7, 0, none⟩) m.r m.r) m.r (z.2.2.map (·.2.1) ++ List.replicate (m.r - z.1) (.slice none 0 0)) ∧ z.2.2.length = z.1 ∧ (∀ t ∈ z.2.2, OwnZ t.1 t.2.1 m.c t.2.2) ∧ z.2.2.map (·.2.2) = (List.range z.1).map (rowI m), fun z => m.r - z.1⟩
    (0, [(b7, .cells (zerosOf #[.slice none 0 0] (m.r * 1)) 26)], []) ⟨by omega, hO, rfl, fun t ht => (by cases ht), rfl⟩ (by repeat first | exact trivial | refine ⟨rfl, ?_⟩) ?_ (fun z hz => ?_)
  · exact HSub.at 1 rfl (HSub.at 0 rfl (HSub.nil _))
  clear hO
  obtain ⟨k, N, ts⟩ := z
  obtain ⟨hkr, hO, hlen, hrows, hts⟩ := hz
  dsimp only at hkr hO hlen hrows hts ⊢
  by_cases hlt : k < m.r
  · have hk1 : (k + 1) * m.c ≤ m.r * m.c := Nat.mul_le_mul_right _ (by omega)
    have hk2 : k * m.c ≤ m.r * m.c := Nat.mul_le_mul_right _ (by omega)
    (repeat' (first | refine JC.seq ?_ | refine JC.ops ?_ | refine JO.nil ?_ | refine JX.thenN ?_ | (apply r_move; (iterate 3 exact rfl)) | (apply r_fieldAddr; (iterate 3 exact rfl)) | (apply r_assign; (iterate 3 exact rfl)) | (apply r_load; (iterate 4 exact rfl); exact at0; exact rfl) | (apply r_add1; (iterate 4 exact rfl); omega) | (apply r_mulN; (iterate 4 exact rfl); (first | assumption | omega)) | (apply r_lss; (iterate 4 exact rfl); all_goals intro hc; all_goals try (exfalso; omega)) | refine JC.skip ?_ | refine JC.condT rfl ?_ | refine JC.block ?_))
    refine r_rowZ rfl rfl rfl hRE rfl rfl hk1 (fun v26 hv26 _ => ?_)
    skip
    refine r_callA (A := [_]) (B := N ++ (tH ts ++ [])) rfl (by first | trivial | exact ⟨rfl, rfl⟩) rfl (by first | rfl | exact ⟨rfl, rfl⟩) rfl (fun w hk hs => c_CloneZ w _ m.c (rowI m k) (hv26.at hk hs (HSub.nil _)) (by omega)) fun w v w' _ _ _ hR => ?_
    obtain ⟨N2, hN2, hO2⟩ := hR
    obtain ⟨A2, c2, rfl⟩ := hO2.form
    refine ⟨N2, hN2, ?_⟩
    skip
    refine r_idxR1 rfl rfl rfl rfl hO.rd hlt ?_
    skip
    refine r_stO (A := [(b1, .cells #[nv m.r, nv m.c, E] 28)] ++ N2) (B := tH ts ++ []) (i := k) (u := .slice A2 m.c c2) hO (by simp only [List.append_assoc]) rfl (by first | trivial | exact ⟨rfl, rfl⟩) rfl rfl rfl rfl (by omega) (fun N' hO' => ?_)
    rw [set_rep (by simpa using hlen) hlt] at hO'
    (repeat' (first | refine JC.ops ?_ | refine JO.nil ?_ | refine JX.thenN ?_ | (apply r_move; (iterate 3 exact rfl)) | (apply r_add1; (iterate 4 exact rfl); omega) | refine JX.blockN ?_))
    refine JX.roundH (k + 1, N', ts ++ [(N2, .slice A2 m.c c2, rowI m k)]) ⟨by dsimp only; omega, by dsimp only; simpa using hO', by simp [hlen], fun t ht => ?_, by dsimp only; rw [List.map_append, hts, List.range_succ, List.map_append]; rfl⟩ (by dsimp only; omega) (by repeat first | exact trivial | refine ⟨rfl, ?_⟩) ?_
    · rcases List.mem_append.1 ht with ht | ht
      · exact hrows t ht
      · obtain rfl := List.mem_singleton.1 ht
        exact hO2
    · have hp : (N2 ++ (N' ++ tH ts)).Perm (N' ++ (tH ts ++ N2)) := by rw [← List.append_assoc N']; exact List.perm_append_comm
      exact ⟨[], by simpa [tH_append, tH_one] using hp⟩
  · (repeat' (first | refine JC.seq ?_ | refine JC.ops ?_ | refine JO.nil ?_ | refine JX.thenN ?_ | (apply r_move; (iterate 3 exact rfl)) | (apply r_assign; (iterate 3 exact rfl)) | (apply r_lss; (iterate 4 exact rfl); all_goals intro hc; all_goals try (exfalso; omega)) | refine JX.thenE ?_ | refine JC.exit ?_ | refine JC.ret ?_ | refine JC.condF rfl ?_ | refine JX.blockE ?_))
    obtain rfl : k = m.r := by omega
    rw [Nat.sub_self, List.replicate_zero, List.append_nil] at hO
    exact JX.ret1 rfl (fun a w' st => ⟨st.kp, N, ts, st.newOf rfl (by exact HSub.skip (by simpa using HSub.refl _)), ⟨by rw [hlen]; exact hO, hrows⟩, hts⟩)

end Go.Proofs.YtemdknkghacheaaDoor

namespace Go.Proofs.YtemdknkghacheaaDoor
open Go Go.RowKit Go.Shelf Go.Lib
set_option linter.unusedSimpArgs false
set_option linter.unusedVariables false
set_option linter.unusedSectionVars false

def growRen : Ren := ⟨fun i => if i = 4 then 85 else i, fun i => if i = 0 then 0 else if i = 3 then 3 else if i = 4 then 4 else if i = 9 then 9 else if i = 20 then 20 else if i = 22 then 26 else if i = 25 then 32 else i, fun i => i⟩
theorem growL : Lays8.n4 Tryd.prog growRen where
  mixed := mixed
  f4 := ⟨"slices.Grow[[]cocycle/api.Wide,cocycle/api.Wide]", by decide, by kernel_rfl⟩
  t0 := by kernel_rfl
  a0 := fun _ => by kernel_rfl
  z0 := fun _ => by kernel_rfl
  v0 := fun _ => by kernel_rfl
  t3 := by kernel_rfl
  a3 := fun _ => by kernel_rfl
  z3 := fun _ => by kernel_rfl
  v3 := fun _ => by kernel_rfl
  t4 := by kernel_rfl
  a4 := fun _ => by kernel_rfl
  z4 := fun _ => by kernel_rfl
  v4 := fun _ => by kernel_rfl
  t9 := by kernel_rfl
  a9 := fun _ => by kernel_rfl
  z9 := fun _ => by kernel_rfl
  v9 := fun _ => by kernel_rfl
  t20 := by kernel_rfl
  a20 := fun _ => by kernel_rfl
  z20 := fun _ => by kernel_rfl
  v20 := fun _ => by kernel_rfl
  t22 := by kernel_rfl
  a22 := fun _ => by kernel_rfl
  z22 := fun _ => by kernel_rfl
  v22 := fun _ => by kernel_rfl

set_option maxRecDepth 100000 in
theorem c_Grow (w : World) (n : Nat) (hn : n ≤ 40000) :
    Calls Tryd.prog 85 #[.slice none 0 0, nv n] w (Ret fun v w' => Kp [] w w' ∧ ∃ N, New N w w' ∧ OwnZ N v 0 []) := by
  rcases Nat.eq_zero_or_pos n with h0 | h0
  · subst h0
    exact (Any8.slices_Grow_room growL none 0 0 0 w (by omega) (by omega) (by omega) (by omega)).mono fun e w' he => by
      obtain ⟨rfl, rfl⟩ := he
      exact ⟨Kp.refl _ _, [], New.nil _ _, OwnZ.nil⟩
  · obtain ⟨i, z, hi, hs, hby, hz, hzc⟩ := TE.info (P := Tryd.prog) (e := 32) (sz := 2) (bytes := 24) (zc := #[.bool false, .string ⟨#[]⟩])
    exact (Any8.slices_Grow_grow growL i z hi hz (by omega) none 0 0 n [] w (by omega) (by omega) (by rw [hby]; omega) (by omega) (by simp) (fun _ => rfl) (fun a h => by cases h)).mono fun e w' he => by
      obtain ⟨rfl, rfl⟩ := he
      have hge := grownCap_ge w (0 + n) 0 (growRen.t 25)
      have hcm := grownCap_le_maxLen w (0 + n) 0 (growRen.t 25) (by unfold maxLen; omega)
      have e25 : growRen.t 25 = 32 := rfl
      rw [e25] at hge hcm ⊢
      rw [Nat.zero_add] at hge hcm ⊢
      generalize grownCap w n 0 32 = G at hge hcm ⊢
      refine ⟨(Kp.drew [] w).trans (Kp.alloc [] _ _), [(w.heap.size, _)], New.one (Nat.le_refl _) (heap_alloc_new w.drew _), rfl, .inr ⟨w.heap.size, G, _, rfl, rfl, Nat.zero_le _, hcm, ?_, rfl⟩⟩
      simp only [Array.size_append, size_zeroCells, hzc]
      simp
      omega

def IsG (w : World) (v : Value) (r c : Nat) (g : List (List Int)) : Prop := g.length = r ∧ ∃ vs : List Value, RdW w 1 v r vs ∧ ∀ i, i < r → WZ w (vs.getD i (iv 0)) c (g.getD i [])
theorem IsG.mono {w w' : World} {v : Value} {r c : Nat} {g : List (List Int)} (h : IsG w v r c g) (hk : Kp [] w w') : IsG w' v r c g := by
  obtain ⟨h1, vs, h2, h3⟩ := h
  exact ⟨h1, vs, h2.mono hk, fun i hi => (h3 i hi).mono hk⟩
theorem flat_take {g : List (List Int)} {k : Nat} (hk : k < g.length) : (g.take (k + 1)).flatten = (g.take k).flatten ++ g.getD k [] := by
  rw [List.take_add_one, List.flatten_append, List.getD, List.getElem?_eq_getElem hk]
  simp
set_option maxHeartbeats 4000000 in
theorem c_Concat (w : World) (v : Value) (r c : Nat) (g : List (List Int)) (hv : IsG w v r c g) (hr : r ≤ 200) (hc : c ≤ 200) :
    Calls Tryd.prog 70 #[v] w (Ret fun u w' => Kp [] w w' ∧ ∃ N, New N w w' ∧ OwnZ N u (r * c) g.flatten) := by
  obtain ⟨hgl, vs, hvs, hrow⟩ := hv
  have hvl : vs.length = r := by have := hvs.1; omega
  have hrc : r * c ≤ 200 * 200 := Nat.mul_le_mul hr hc
  refine calls_of_S [] [] (by simp) [] Tryd.func70 rfl mixed (by kernel_rfl) Tryd.ntmps70 Tryd.results70 rfl ⟨by simp, by simp⟩ (by simp) ?_
  simp only [toS, textOps, toSOp, kindAt, kindOf, odAt, sopsAt, ordOf, zipF]
  have hR : Rd ⟨Tryd.prog, 36, w, [], by simp⟩ [] 1 v r vs := hvs.rd rfl []
  have hRr : ∀ i, i < r → RdZ ⟨Tryd.prog, 36, w, [], by simp⟩ [] (vs.getD i (iv 0)) c (g.getD i []) := fun i hi => (hrow i hi).rd rfl []
  (repeat' (first | refine JC.seq ?_ | refine JC.ops ?_ | refine JO.nil ?_ | refine JX.thenN ?_ | (apply r_move; (iterate 3 exact rfl)) | (apply r_assign; (iterate 3 exact rfl))))
  refine r_lenR rfl rfl rfl hR ?_
  (repeat' (first | refine JO.nil ?_ | refine JX.thenN ?_ | (apply r_move; (iterate 3 exact rfl)) | refine JC.block ?_))
  refine JC.loopH (ι := Nat) ⟨fun z => [(11, nv z), (10, nv r), (9, v), (3, nv (z * c)), (0, v)], fun _ => [], fun z => z ≤ r, fun z => r - z⟩ 0 (Nat.zero_le _) (by dsimp only; rw [Nat.zero_mul]; exact (by repeat first | exact trivial | refine ⟨rfl, ?_⟩)) (HSub.nil _) (fun k hk => ?_)
  dsimp only at hk ⊢
  by_cases hlt : k < r
  · have hk1 : (k + 1) * c ≤ r * c := Nat.mul_le_mul_right _ (by omega)
    rw [Nat.succ_mul] at hk1
    have hRk := hRr k hlt
    (repeat' (first | refine JC.seq ?_ | refine JC.ops ?_ | refine JO.nil ?_ | refine JX.thenN ?_ | (apply r_lss; (iterate 4 exact rfl); all_goals intro hc; all_goals try (exfalso; omega)) | refine JC.skip ?_ | refine JC.condT rfl ?_ | refine JC.block ?_))
    refine r_idxR1 rfl rfl rfl rfl hR hlt ?_
    skip
    refine r_ldR rfl rfl rfl rfl hR (HSub.nil _) (gD_lt (d := iv 0) (by omega)) ?_
    (repeat' (first | refine JC.seq ?_ | refine JC.ops ?_ | refine JO.nil ?_ | refine JX.thenN ?_ | (apply r_move; (iterate 3 exact rfl)) | (apply r_assign; (iterate 3 exact rfl)) | (apply r_lenZ; (iterate 3 exact rfl); (first | assumption | exact WZ.rd (by assumption) rfl [] | exact OwnZ.rd (by assumption))) | (apply r_add1; (iterate 4 exact rfl); omega) | (apply r_addN; (iterate 4 exact rfl); omega) | (apply r_lss; (iterate 4 exact rfl); all_goals intro hc; all_goals try (exfalso; omega)) | refine JC.skip ?_ | refine JC.condF rfl ?_ | refine JX.blockN ?_))
    exact JX.roundH (k + 1) (by first | omega | (dsimp only; omega)) (by first | omega | (dsimp only; omega)) (by dsimp only; rw [Nat.succ_mul]; exact (by repeat first | exact trivial | refine ⟨rfl, ?_⟩)) (HSub.nil _)
  · obtain rfl : k = r := by omega
    clear hk hlt
    (repeat' (first | refine JC.seq ?_ | refine JC.ops ?_ | refine JO.nil ?_ | refine JX.thenN ?_ | (apply r_move; (iterate 3 exact rfl)) | (apply r_lss; (iterate 4 exact rfl); all_goals intro hc; all_goals try (exfalso; omega)) | refine JX.thenE ?_ | refine JC.exit ?_ | refine JC.condF rfl ?_ | refine JX.blockE ?_))
    refine r_callA (A := []) (B := []) rfl (by first | trivial | exact ⟨rfl, rfl⟩) rfl (by first | rfl | exact ⟨rfl, rfl⟩) rfl (fun w hk hs => c_Grow w (k * c) (by omega)) fun w v6 w' _ _ _ hR6 => ?_
    obtain ⟨N, hN, hO⟩ := hR6
    refine ⟨N, hN, ?_⟩
    (repeat' (first | refine JC.seq ?_ | refine JC.ops ?_ | refine JO.nil ?_ | refine JX.thenN ?_ | (apply r_move; (iterate 3 exact rfl)) | (apply r_assign; (iterate 3 exact rfl))))
    refine r_lenR rfl rfl rfl hR ?_
    (repeat' (first | refine JO.nil ?_ | refine JX.thenN ?_ | (apply r_move; (iterate 3 exact rfl)) | refine JC.block ?_))
    refine JC.loopH (ι := Nat × SHeap × Value) ⟨fun z => [(27, nv z.1), (26, nv k), (25, v), (6, z.2.2), (0, v)], fun z => z.2.1 ++ [], fun z => z.1 ≤ k ∧ OwnZ z.2.1 z.2.2 (z.1 * c) (g.take z.1).flatten, fun z => k - z.1⟩ (0, N, v6) ⟨Nat.zero_le _, by dsimp only; rw [Nat.zero_mul]; exact hO⟩ (by repeat first | exact trivial | refine ⟨rfl, ?_⟩) (by simpa using HSub.refl _) (fun z hz => ?_)
    clear hO
    obtain ⟨i, N, v6⟩ := z
    obtain ⟨hik, hO⟩ := hz
    dsimp only at hik hO ⊢
    by_cases hlt : i < k
    · have hk1 : (i + 1) * c ≤ k * c := Nat.mul_le_mul_right _ (by omega)
      rw [Nat.succ_mul] at hk1
      have hRk := hRr i hlt
      (repeat' (first | refine JC.seq ?_ | refine JC.ops ?_ | refine JO.nil ?_ | refine JX.thenN ?_ | (apply r_lss; (iterate 4 exact rfl); all_goals intro hc; all_goals try (exfalso; omega)) | refine JC.skip ?_ | refine JC.condT rfl ?_ | refine JC.block ?_))
      refine r_idxR1 rfl rfl rfl rfl hR hlt ?_
      skip
      refine r_ldR rfl rfl rfl rfl hR (HSub.nil _) (gD_lt (d := iv 0) (by omega)) ?_
      (repeat' (first | refine JC.ops ?_ | refine JO.nil ?_ | refine JX.thenN ?_ | (apply r_move; (iterate 3 exact rfl)) | (apply r_assign; (iterate 3 exact rfl))))
      refine r_appendZ (A := []) (B := []) hO hRk (HSub.nil _) rfl (by first | trivial | exact ⟨rfl, rfl⟩) rfl rfl rfl rfl (by omega) (fun v' N' hO' => ?_)
      rw [← flat_take (by omega), ← Nat.succ_mul] at hO'
      (repeat' (first | refine JC.ops ?_ | refine JO.nil ?_ | refine JX.thenN ?_ | (apply r_move; (iterate 3 exact rfl)) | (apply r_assign; (iterate 3 exact rfl)) | (apply r_add1; (iterate 4 exact rfl); omega) | refine JX.blockN ?_))
      exact JX.roundH (i + 1, N', v') ⟨by dsimp only; omega, hO'⟩ (by dsimp only; omega) (by repeat first | exact trivial | refine ⟨rfl, ?_⟩) (HSub.refl _)
    · obtain rfl : i = k := by omega
      rw [List.take_of_length_le (by omega)] at hO
      (repeat' (first | refine JC.seq ?_ | refine JC.ops ?_ | refine JO.nil ?_ | refine JX.thenN ?_ | (apply r_move; (iterate 3 exact rfl)) | (apply r_assign; (iterate 3 exact rfl)) | (apply r_lss; (iterate 4 exact rfl); all_goals intro hc; all_goals try (exfalso; omega)) | refine JX.thenE ?_ | refine JC.exit ?_ | refine JC.ret ?_ | refine JC.condF rfl ?_ | refine JX.blockE ?_))
      exact JX.ret1 rfl (fun a w' st => ⟨st.kp, N, st.newOf rfl (by simpa using HSub.refl _), hO⟩)

def gM (r c : Nat) (g : List (List Int)) : ZM := ⟨r, c, g.flatten⟩
theorem flat_len {r c : Nat} {g : List (List Int)} (h : Rec r c g) : g.flatten.length = r * c := by
  have h1 : ∀ (l : List (List Int)), (∀ x ∈ l, x.length = c) → l.flatten.length = l.length * c := by
    intro l
    induction l with
    | nil => intro _; simp
    | cons x l ih =>
      intro hx
      rw [List.flatten_cons, List.length_append, ih (fun y hy => hx y (by simp [hy])), hx x (by simp), List.length_cons, Nat.succ_mul]
      omega
  rw [h1 g h.row, h.len]
theorem gM_rt {r c : Nat} {g : List (List Int)} (h : Rec r c g) (hr : r ≤ 200) (hc : c ≤ 200) : RtZ (gM r c g) := ⟨hr, hc, flat_len h⟩
theorem c_gmat (w : World) (v : Value) (r c : Nat) (g : List (List Int)) (hv : IsG w v r c g) (hg : Rec r c g) (hr : r ≤ 200) (hc : c ≤ 200) :
    Calls Tryd.prog 41 #[v, nv c] w (Ret fun u w' => Kp [] w w' ∧ GivesM (gM r c g) w u w') := by
  have hv0 := hv
  obtain ⟨hgl, vs, hvs, hrow⟩ := hv
  have hrc : r * c ≤ 200 * 200 := Nat.mul_le_mul hr hc
  refine calls_of_S [] [] (by simp) [] Tryd.func41 rfl mixed (by kernel_rfl) Tryd.ntmps41 Tryd.results41 rfl ⟨by simp, by simp⟩ (by simp) ?_
  simp only [toS, textOps, toSOp, kindAt, kindOf, odAt, sopsAt, ordOf, zipF]
  have hR : Rd ⟨Tryd.prog, 11, w, [], by simp⟩ [] 1 v r vs := hvs.rd rfl []
  (repeat' (first | refine JC.seq ?_ | refine JC.ops ?_ | refine JO.nil ?_ | refine JX.thenN ?_ | (apply r_move; (iterate 3 exact rfl)) | (apply r_allocZ; (iterate 3 exact rfl); intro _)))
  rename_i b4
  refine r_lenR rfl rfl rfl hR ?_
  (repeat' (first | (apply r_move; (iterate 3 exact rfl))))
  refine r_callA (A := [_]) (B := []) rfl (by first | trivial | exact ⟨rfl, rfl⟩) rfl (by first | rfl | exact ⟨rfl, rfl⟩) rfl (fun w hk hs => c_Concat w v r c g (hv0.mono hk) hr hc) fun w v6 w' _ _ _ hR6 => ?_
  obtain ⟨N, hN, hO⟩ := hR6
  obtain ⟨A6, c6, rfl⟩ := hO.form
  refine ⟨N, hN, ?_⟩
  skip
  refine r_build (l := [(0, nv r), (1, nv c), (2, .slice A6 (r * c) c6)]) (cs := #[nv r, nv c, .slice A6 (r * c) c6]) rfl rfl rfl rfl ?_
  (repeat' (first | refine JO.nil ?_ | refine JX.thenN ?_ | (apply r_storeN; exact rfl; (first | exact trivial | exact ⟨rfl, rfl⟩); exact rfl; exact rfl; exact at0; (iterate 3 exact rfl)) | (apply r_storeN; exact rfl; (first | exact trivial | exact ⟨rfl, rfl⟩); exact rfl; exact rfl; exact at0; (iterate 3 exact rfl)) | refine JC.ret ?_))
  exact JX.retC 0 rfl rfl rfl (fun a w' st => ⟨st.kp, N, st.newOf rfl (by (repeat' first | exact HSub.nil _ | exact HSub.hd | exact HSub.in0 | exact HSub.refl _ | refine HSub.skip ?_ | refine HSub.skipN ?_)), OwnM.mk' hO⟩)

end Go.Proofs.YtemdknkghacheaaDoor

namespace Go.Proofs.YtemdknkghacheaaDoor
open Go Go.RowKit
set_option linter.unusedSimpArgs false
set_option linter.unusedVariables false
set_option linter.unusedSectionVars false

theorem formF_step {K fc f m n k t : Nat} {S S' : Sm} (h : formF K fc f m n (k + 1) t S = some S') : ∃ S1 fl, pivotF K t m n S = some (S1, fl) ∧ (fl = false → S1 = S') ∧ (fl = true → ∃ S2, stageF K fc t m n f S1 = some S2 ∧ formF K fc f m n k (t + 1) (if gE S2.d t t < 0 then S2.neg t else S2) = some S') := by
  rw [formF] at h
  cases h1 : pivotF K t m n S with
  | none => rw [h1] at h; cases h
  | some r =>
    obtain ⟨S1, fl⟩ := r
    rw [h1] at h
    dsimp only at h
    refine ⟨S1, fl, rfl, fun hf => ?_, fun hf => ?_⟩
    · rw [hf] at h; exact Option.some.inj h
    · rw [hf, if_pos rfl] at h
      cases h2 : stageF K fc t m n f S1 with
      | none => rw [h2] at h; cases h
      | some S2 => rw [h2] at h; exact ⟨S2, rfl, h⟩
theorem stageF_step {K fc f m n t : Nat} {S S2 : Sm} (h : stageF K fc t m n (f + 1) S = some S2) : ∃ Sa, crossF K t m n fc S = some Sa ∧ ((spoiledF Sa t m n = none ∧ Sa = S2) ∨ ∃ i Sb, spoiledF Sa t m n = some i ∧ ck K (Sa.rows t i ⟨1, 1, 0, 1⟩) = some Sb ∧ stageF K fc t m n f Sb = some S2) := by
  rw [stageF] at h
  cases h1 : crossF K t m n fc S with
  | none => rw [h1] at h; cases h
  | some Sa =>
    rw [h1] at h
    dsimp only at h
    refine ⟨Sa, rfl, ?_⟩
    cases h2 : spoiledF Sa t m n with
    | none => rw [h2] at h; exact .inl ⟨rfl, Option.some.inj h⟩
    | some i =>
      rw [h2] at h
      dsimp only at h
      cases h3 : ck K (Sa.rows t i ⟨1, 1, 0, 1⟩) with
      | none => rw [h3] at h; cases h
      | some Sb => rw [h3] at h; exact .inr ⟨i, Sb, rfl, h3, h⟩
theorem clrR_ok {K t i : Nat} {S : Sm} {r : Sm × Bool} (h : clrR K t i S = some r) (hb : Ok K S) : Ok K r.1 := by
  unfold clrR at h
  split at h
  · cases h; exact hb
  · split at h
    · rename_i h2
      cases h
      obtain ⟨rfl, hok⟩ := ck_some h2
      exact hok
    · cases h
theorem clrC_ok {K t i : Nat} {S : Sm} {r : Sm × Bool} (h : clrC K t i S = some r) (hb : Ok K S) : Ok K r.1 := by
  unfold clrC at h
  split at h
  · cases h; exact hb
  · split at h
    · rename_i h2
      cases h
      obtain ⟨rfl, hok⟩ := ck_some h2
      exact hok
    · cases h
theorem rowP_ok {K t : Nat} : ∀ {k i : Nat} {S S' : Sm}, rowP K t k i S = some S' → Ok K S → Ok K S'
  | 0, _, _, _, h, hb => by rw [rowP] at h; cases h; exact hb
  | k + 1, i, S, S', h, hb => by
    obtain ⟨r, h1, h2⟩ := rowP_step h
    exact rowP_ok h2 (clrR_ok h1 hb)
theorem colP_ok {K t : Nat} : ∀ {k j : Nat} {ch : Bool} {S : Sm} {q : Sm × Bool}, colP K t k j ch S = some q → Ok K S → Ok K q.1
  | 0, _, _, _, _, h, hb => by rw [colP] at h; cases h; exact hb
  | k + 1, j, ch, S, q, h, hb => by
    obtain ⟨r, h1, h2⟩ := colP_step h
    exact colP_ok h2 (clrC_ok h1 hb)
theorem crossF_ok {K t m n : Nat} : ∀ {f : Nat} {S S' : Sm}, crossF K t m n f S = some S' → Ok K S → Ok K S'
  | 0, _, _, h, _ => by cases h
  | f + 1, S, S', h, hb => by
    obtain ⟨S1, S2, ch, h1, h2, h3, h4⟩ := crossF_step h
    have hb2 := colP_ok h2 (rowP_ok h1 hb)
    cases ch with
    | true => exact crossF_ok (h3 rfl) hb2
    | false => rw [← h4 rfl]; exact hb2
theorem stageF_ok {K fc t m n : Nat} : ∀ {f : Nat} {S S' : Sm}, stageF K fc t m n f S = some S' → Ok K S → Ok K S'
  | 0, _, _, h, _ => by cases h
  | f + 1, S, S', h, hb => by
    obtain ⟨Sa, h1, ⟨_, rfl⟩ | ⟨i, Sb, _, h3, h4⟩⟩ := stageF_step h
    · exact crossF_ok h1 hb
    · obtain ⟨rfl, hok⟩ := ck_some h3
      exact stageF_ok h4 hok
theorem pivotF_ok {K t m n : Nat} {S : Sm} {r : Sm × Bool} (h : pivotF K t m n S = some r) (hb : Ok K S) : Ok K r.1 := by
  unfold pivotF at h
  split at h
  · cases h; exact hb
  · rename_i i j _
    by_cases hi : i = t
    · rw [if_pos hi] at h
      dsimp only at h
      by_cases hj : j = t
      · rw [if_pos hj] at h; cases h; exact hb
      · rw [if_neg hj] at h
        cases h2 : ck K (S.cols t j ⟨0, 1, -1, 0⟩) with
        | none => rw [h2] at h; cases h
        | some S2 => rw [h2] at h; obtain ⟨rfl, hok⟩ := ck_some h2; cases h; exact hok
    · rw [if_neg hi] at h
      cases h1 : ck K (S.rows t i ⟨0, 1, -1, 0⟩) with
      | none => rw [h1] at h; cases h
      | some S1 =>
        rw [h1] at h
        dsimp only at h
        obtain ⟨rfl, hok1⟩ := ck_some h1
        by_cases hj : j = t
        · rw [if_pos hj] at h; cases h; exact hok1
        · rw [if_neg hj] at h
          cases h2 : ck K ((S.rows t i ⟨0, 1, -1, 0⟩).cols t j ⟨0, 1, -1, 0⟩) with
          | none => rw [h2] at h; cases h
          | some S2 => rw [h2] at h; obtain ⟨rfl, hok⟩ := ck_some h2; cases h; exact hok
theorem okG_row {K : Nat} {g : List (List Int)} (h : okG K g = true) (t : Nat) : ∀ x ∈ g.getD t [], x.natAbs < 256 ^ K := fun x hx => by
  by_cases ht : t < g.length
  · exact of_decide_eq_true (List.all_eq_true.1 (List.all_eq_true.1 h _ (mem_getD ht)) _ hx)
  · rw [List.getD, List.getElem?_eq_none (by omega)] at hx; cases hx
theorem okG_negR {K t : Nat} {g : List (List Int)} (h : okG K g = true) : okG K (negR t g) = true := by
  refine List.all_eq_true.2 fun r hr => List.all_eq_true.2 fun x hx => decide_eq_true ?_
  rcases List.mem_or_eq_of_mem_set hr with hr | rfl
  · exact of_decide_eq_true (List.all_eq_true.1 (List.all_eq_true.1 h _ hr) _ hx)
  · obtain ⟨y, hy, rfl⟩ := List.mem_map.1 hx
    rw [Int.natAbs_neg]; exact okG_row h t y hy
theorem okG_negC {K t : Nat} {g : List (List Int)} (h : okG K g = true) : okG K (negC t g) = true := by
  refine List.all_eq_true.2 fun r hr => List.all_eq_true.2 fun x hx => decide_eq_true ?_
  obtain ⟨l, hl, rfl⟩ := List.mem_map.1 hr
  have h1 := List.all_eq_true.1 h _ hl
  rcases List.mem_or_eq_of_mem_set hx with hx | rfl
  · exact of_decide_eq_true (List.all_eq_true.1 h1 _ hx)
  · rw [Int.natAbs_neg]
    by_cases ht : t < l.length
    · exact of_decide_eq_true (List.all_eq_true.1 h1 _ (mem_getD ht))
    · rw [List.getD, List.getElem?_eq_none (by omega)]; exact pos256 K
theorem neg_ok {K t : Nat} {S : Sm} (h : Ok K S) : Ok K (S.neg t) := ⟨okG_negR h.u, okG_negC h.ui, okG_negR h.d, h.v, h.vi⟩
theorem spoiledF_lt {S : Sm} {t m n i : Nat} (h : spoiledF S t m n = some i) : t < i ∧ i < m := by
  have h1 := List.mem_of_find?_eq_some h
  rw [List.mem_range'_1] at h1
  omega


theorem run_buildA {P : Program} {t e : TypeId} {n s : Nat} {zc cs : Array Value} {parts : Array (Nat × Value)} [hA : TAr P t n e] [hS : TSz P e s] [hZ : TZ0 P t zc] (hc : Instr.fill (fun i => some (i * s, s)) zc parts.toList = some cs) (w : World) :
    (Instr.build t parts).run P w = .ok (.agg cs) w := by
  obtain ⟨z, hz, rfl⟩ := hZ
  have h2 : (zeroValue t).run P w = .ok z w := by
    unfold zeroValue typeInfo
    cases hi : P.info? t with
    | none => rw [hi] at hz; cases hz
    | some i => rw [hi] at hz; simp only [Option.bind_some] at hz; simp [hi, hz]
  simp only [Instr.build, Sem.run_bind, h2, Result.andThen_ok, run_underlying hA.und, hS.size, hc, Sem.run_pure]

theorem r_buildA {c : Cx} {Q : Exit → Act → World → Prop} {m : Mode} {F : SFrame} {H : SHeap} {r : List SOp} {g : Option (Option Tmp × Bool)} {ns : Bool} {d : Tmp} {ty t e : TypeId} {n s : Nat} {zc cs : Array Value} {parts : Array (Nat × Operand)} {l : List (Nat × Value)} [TAr c.P t n e] [TSz c.P e s] [TZ0 c.P t zc] (hd : dstOk c.n (some d) = true) (hg : guardF F g = some true)
    (hp : evParts F parts.toList = some l) (hc : Instr.fill (fun i => some (i * s, s)) zc l = some cs) (h : JO c Q m r ((d, (.agg cs)) :: F) H) : JO c Q m (⟨some d, .build t parts, ty, g, .mov, ns⟩ :: r) F H :=
  r_mov hd hg (fun a w fr => by
    have h1 : (parts.map fun (i, x) => (i, a.eval x)).toList = l := by rw [Array.toList_map]; exact evParts_map fr hp
    simp only [execOp, Sem.run_bind, run_buildA (P := c.P) (t := t) (cs := cs) (parts := parts.map fun (i, x) => (i, a.eval x)) (by rw [h1]; exact hc), Result.andThen_ok, Sem.run_pure]) h


theorem JC.aft {c : Cx} {Q : Exit → Act → World → Prop} {F : SFrame} {H : SHeap} {s : SCode} {ι : Type} (F0 : ι → SFrame) (H0 : ι → SHeap) (p : ι → Prop) (rest : ∀ z, p z → JX c Q .normal (F0 z) (H0 z)) (h : (∀ z, p z → JX c Q .normal (F0 z) (H0 z)) → JC c Q s F H) : JC c Q s F H := h rest
def rowsOf (m : ZM) : List (List Int) := (List.range m.r).map (rowI m)
theorem rowsOf_one {n : Nat} (hn : n ≤ 200) : rowsOf (oneZ n) = oneL n := by
  unfold rowsOf oneL
  refine List.map_congr_left fun i hi => ?_
  have hi : i < n := List.mem_range.1 hi
  rw [rowI_tab (m := oneZ n) (zof_rt hn hn) hi]
  show tab n ((oneZ n).at i) = _
  unfold tab
  refine List.map_congr_left fun j hj => ?_
  have hj : j < n := List.mem_range.1 hj
  exact zof_at hi hj
theorem okG_rows {K : Nat} {m : ZM} (hm : RtZ m) (h : BdZ K m) : okG K (rowsOf m) = true := by
  unfold okG rowsOf
  refine List.all_eq_true.2 fun r hr => ?_
  obtain ⟨i, hi, rfl⟩ := List.mem_map.1 hr
  have hi : i < m.r := List.mem_range.1 hi
  rw [rowI_tab hm hi]
  refine List.all_eq_true.2 fun x hx => ?_
  obtain ⟨j, hj, rfl⟩ := List.mem_map.1 hx
  exact decide_eq_true (h.at i j)
theorem okG_one (K n : Nat) : okG (K + 1) (oneL n) = true := by
  unfold okG oneL
  refine List.all_eq_true.2 fun r hr => ?_
  obtain ⟨i, hi, rfl⟩ := List.mem_map.1 hr
  refine List.all_eq_true.2 fun x hx => ?_
  obtain ⟨j, hj, rfl⟩ := List.mem_map.1 hx
  refine decide_eq_true ?_
  split
  · exact one_bd K
  · exact zero_bd _
theorem ok_start {K : Nat} {a : ZM} (hm : RtZ a) (h : BdZ (K + 1) a) : Ok (K + 1) (startS a.r a.c (rowsOf a)) := ⟨okG_one _ _, okG_one _ _, okG_rows hm h, okG_one _ _, okG_one _ _⟩

def smC0 : Array Value := #[iv 0, iv 0, .slice none 0 0, iv 0, iv 0, .slice none 0 0, iv 0, iv 0, .slice none 0 0, iv 0, iv 0, .slice none 0 0, iv 0, iv 0, .slice none 0 0]
def smC (m n : Nat) (E1 E2 E3 E4 E5 : Value) : Array Value := #[nv m, nv m, E1, nv m, nv m, E2, nv m, nv n, E3, nv n, nv n, E4, nv n, nv n, E5]
def GivesS (m n : Nat) (S : Sm) (w : World) (v : Value) (w' : World) : Prop :=
  ∃ N1 N2 N3 N4 N5 E1 E2 E3 E4 E5, v = .agg (smC m n E1 E2 E3 E4 E5) ∧ Dm m n S ∧ New (N1 ++ (N2 ++ (N3 ++ (N4 ++ N5)))) w w' ∧ OwnZ N1 E1 (m * m) S.u.flatten ∧ OwnZ N2 E2 (m * m) S.ui.flatten ∧ OwnZ N3 E3 (m * n) S.d.flatten ∧ OwnZ N4 E4 (n * n) S.v.flatten ∧ OwnZ N5 E5 (n * n) S.vi.flatten

theorem IsT.g {c' : Cx} {H N : SHeap} {v : Value} {r c : Nat} {ts : List TR} {g : List (List Int)} {w : World} (h : IsT N v r c ts g) (hk : Kp c'.M c'.w0 w) (hs : Hsat H w) (h1 : HSub N H) (h2 : HSub (tH ts) H) : IsG w v r c g := by
  refine ⟨h.rc.len, ts.map (·.2.1), by rw [← h.len]; exact (OwnT.rd (c := c') h.T).at hk hs h1, fun i hi => ?_⟩
  have hi' : i < ts.length := by have := h.len; omega
  have e1 : (ts.map (·.2.1)).getD i (iv 0) = tv ts i := by rw [List.getD, tv_get hi']; rfl
  have e2 : g.getD i [] = tr' ts i := by
    rw [← h.eq]
    unfold tL tr'
    rw [List.getD, List.getElem?_map, List.getD, List.getElem?_eq_getElem hi']
    rfl
  rw [e1, e2]
  exact (OwnZ.rd (c := c') (h.T.row hi')).at hk hs ((tH_sub (tg_mem hi')).trans h2)
def tnR : Array Value := #[.bool (decide ((1 : Int) < 0)), sv (magU (Int.natAbs 1)), .bool (decide ((1 : Int) < 0)), sv (magU (Int.natAbs 1)), .bool false, .string ⟨#[]⟩, .bool (decide ((1 : Int) < 0)), sv (magU (Int.natAbs 1))]
theorem tnC_r : tnC ⟨1, 1, 0, 1⟩ = tnR := by
  have h : magU (Int.natAbs 0) = [] := congrArg Prod.snd wz_zero
  unfold tnC tnR
  dsimp only
  rw [h]
  rfl
theorem add_bdT (K : Nat) : BdT (K + 1) ⟨1, 1, 0, 1⟩ := ⟨one_bd K, one_bd K, zero_bd _, one_bd K⟩
theorem perm_start {a b4 b3 b2 b1 Nu tu Ni ti Nd td Nx tx Nj tj Nn Nm : SHeap} :
    (a ++ (b4 ++ (b3 ++ (b2 ++ (b1 ++ ((Nj ++ tj) ++ ((Nx ++ tx) ++ ((Nd ++ td) ++ ((Ni ++ ti) ++ ((Nu ++ tu) ++ (Nn ++ (Nm ++ [])))))))))))).Perm
    ((b2 ++ (b1 ++ ((a ++ (Nu ++ (tu ++ (Ni ++ (ti ++ (Nd ++ (td ++ (Nx ++ (tx ++ (Nj ++ (tj ++ []))))))))))) ++ []))) ++ (b4 ++ (b3 ++ (Nn ++ Nm)))) := by
  classical
  rw [List.perm_iff_count]
  intro x
  simp only [List.count_append, List.count_nil]
  omega

theorem own_gM {r c : Nat} {g : List (List Int)} {N : SHeap} {v : Value} (hg : Rec r c g) (h : OwnZ N v (gM r c g).e.length (gM r c g).e) : OwnZ N v (r * c) g.flatten := by
  have e : (gM r c g).e.length = r * c := flat_len hg
  rw [e] at h
  exact h
theorem perm_end {x y z : Nat × Obj} {M1 M2 M3 M4 M5 R : SHeap} : HSub (M1 ++ (M2 ++ (M3 ++ (M4 ++ M5)))) (x :: y :: z :: (M5 ++ (M4 ++ (M3 ++ (M2 ++ (M1 ++ R)))))) := by
  refine HSub.skip (HSub.skip (HSub.skip ⟨R, ?_⟩))
  classical
  rw [List.perm_iff_count]
  intro x
  simp only [List.count_append]
  omega

set_option maxHeartbeats 16000000 in
theorem c_Form (K fc f : Nat) (w : World) (v : Value) (a : ZM) (S' : Sm) (ha : RtZ a) (hv : IsM w v a) (hK : K + 1 ≤ 9000000) (hb : BdZ (K + 1) a)
    (hf : formF (K + 1) fc f a.r a.c (min a.r a.c) 0 (startS a.r a.c (rowsOf a)) = some S') :
    Calls Tryd.prog 16 #[v] w (Ret fun v w' => Kp [] w w' ∧ GivesS a.r a.c S' w v w') := by
  have hv0 := hv
  obtain ⟨E, rfl, hE⟩ := hv
  have hle := ha.le
  have hr := ha.r
  have hac := ha.c
  refine calls_of_S [⟨3, 1, [0, 1, 3, 4, 2, 5, 6, 7, 8, 9], []⟩, ⟨4, 1, [0, 2, 4, 6, 8, 11, 12, 13, 14, 15, 1, 3, 5, 7, 9, 10, 16, 17, 18], []⟩, ⟨15, 1, [0, 1, 2, 3, 4, 5, 6, 8, 9, 10, 11, 12, 13, 14, 16, 17, 18, 19, 20, 21, 22, 24, 25, 26, 27, 28, 29, 30, 32, 33, 34, 35, 36, 37, 38, 7, 15, 23, 31, 39, 40, 41], []⟩] [] (by simp) [] Tryd.func16 rfl mixed (by kernel_rfl) Tryd.ntmps16 Tryd.results16 rfl ⟨by simp, by simp⟩ (by simp) ?_
  simp only [toS, textOps, toSOp, kindAt, kindOf, odAt, sopsAt, ordOf, zipF]
  (repeat' (first | refine JC.seq ?_ | refine JC.ops ?_ | refine JO.nil ?_ | refine JX.thenN ?_ | (apply r_loadN; (iterate 4 exact rfl); exact at1; exact rfl) | (apply r_allocZ; (iterate 3 exact rfl); intro _) | (apply r_boxA; (iterate 4 exact rfl); intro _)))
  rename_i b1 b2
  refine r_call0 (by first | trivial | exact ⟨rfl, rfl⟩) rfl (by first | rfl | exact ⟨rfl, rfl⟩) rfl (fun w hk hs => c_Right w _ a.xm (hv0.mono hk).x (by show (a.e.map wz).length < _; rw [List.length_map]; omega)) fun w v w' _ _ _ hR => ?_
  obtain ⟨t, rfl, ht⟩ := hR
  obtain rfl : t = true := ht.2 ha.rx
  (repeat' (first | refine JC.seq ?_ | refine JC.opsD ?_ | refine JO.nil ?_ | refine JX.thenN ?_ | (apply r_fieldAddr; (iterate 3 exact rfl)) | (apply r_load; (iterate 4 exact rfl); exact at1; exact rfl) | (apply r_not; (iterate 3 exact rfl)) | refine JC.skip ?_ | refine JC.condF rfl ?_))
  refine r_callA (A := [_, _]) (B := []) rfl (by first | trivial | exact ⟨rfl, rfl⟩) rfl (by first | rfl | exact ⟨rfl, rfl⟩) rfl (fun w hk hs => c_One a.r hr w) fun w v w' _ _ _ hR => ?_
  obtain ⟨Nm, hNm, Em, rfl, hOm⟩ := hR
  obtain ⟨Am, cm, rfl⟩ := hOm.form
  refine ⟨Nm, hNm, ?_⟩
  skip
  refine r_callA (A := [_, _]) (B := Nm ++ []) rfl (by first | trivial | exact ⟨rfl, rfl⟩) rfl (by first | rfl | exact ⟨rfl, rfl⟩) rfl (fun w hk hs => c_One a.c hac w) fun w v w' _ _ _ hR => ?_
  obtain ⟨Nn, hNn, En, rfl, hOn⟩ := hR
  obtain ⟨An, cn, rfl⟩ := hOn.form
  refine ⟨Nn, hNn, ?_⟩
  (repeat' (first | refine JO.nil ?_ | (apply r_storeN; exact rfl; (first | exact trivial | exact ⟨rfl, rfl⟩); exact rfl; exact rfl; (first | exact at0 | exact at1); (iterate 3 exact rfl)) | (apply r_storeKN; (iterate 3 exact rfl); (first | exact at0 | exact at1); (iterate 3 exact rfl); (repeat' first | exact HSub.refl _ | exact HSub.nil _ | refine HSub.at 0 rfl ?_ | refine HSub.at 1 rfl ?_ | refine HSub.at 2 rfl ?_ | refine HSub.at 3 rfl ?_ | refine HSub.at 4 rfl ?_ | refine HSub.at 5 rfl ?_ | refine HSub.at 6 rfl ?_ | refine HSub.at 7 rfl ?_ | refine HSub.at 8 rfl ?_ | refine HSub.at 9 rfl ?_ | refine HSub.at 10 rfl ?_ | refine HSub.at 11 rfl ?_ | refine HSub.at 12 rfl ?_ | refine HSub.at 13 rfl ?_ | refine HSub.at 14 rfl ?_ | refine HSub.at 15 rfl ?_ | refine HSub.at 16 rfl ?_ | refine HSub.at 17 rfl ?_ | refine HSub.at 18 rfl ?_ | refine HSub.at 19 rfl ?_ | refine HSub.segH ?_ | refine HSub.skip ?_ | refine HSub.skipN ?_)) | (apply r_allocZ; (iterate 3 exact rfl); intro _) | (apply r_storeN; exact rfl; (first | exact trivial | exact ⟨rfl, rfl⟩); exact rfl; exact rfl; (first | exact at0 | exact at1); (iterate 3 exact rfl))))
  rename_i b3 b4
  refine JX.part (F' := [(4, .pointer (some ⟨b4, 0, none⟩)), (3, .pointer (some ⟨b3, 0, none⟩)), (2, .pointer (some ⟨b2, 0, none⟩)), (1, .pointer (some ⟨b1, 0, none⟩))])
    (H' := [(b4, .cells #[nv a.c, nv a.c, .slice An (oneZ a.c).e.length cn] 28), (b3, .cells #[nv a.r, nv a.r, .slice Am (oneZ a.r).e.length cm] 28), (b2, .cells (smC0) 45), (b1, .cells #[nv a.r, nv a.c, E] 28)] ++ (Nn ++ (Nm ++ []))) (by repeat first | exact trivial | refine ⟨rfl, ?_⟩) (by (repeat' first | exact HSub.refl _ | exact HSub.nil _ | refine HSub.at 0 rfl ?_ | refine HSub.at 1 rfl ?_ | refine HSub.at 2 rfl ?_ | refine HSub.at 3 rfl ?_ | refine HSub.at 4 rfl ?_ | refine HSub.at 5 rfl ?_ | refine HSub.at 6 rfl ?_ | refine HSub.at 7 rfl ?_ | refine HSub.at 8 rfl ?_ | refine HSub.at 9 rfl ?_ | refine HSub.at 10 rfl ?_ | refine HSub.at 11 rfl ?_ | refine HSub.at 12 rfl ?_ | refine HSub.at 13 rfl ?_ | refine HSub.at 14 rfl ?_ | refine HSub.at 15 rfl ?_ | refine HSub.at 16 rfl ?_ | refine HSub.at 17 rfl ?_ | refine HSub.at 18 rfl ?_ | refine HSub.at 19 rfl ?_ | refine HSub.segH ?_ | refine HSub.skip ?_ | refine HSub.skipN ?_)) ?_
  refine JX.thenN ?_
  (repeat' (first | refine JC.seq ?_ | refine JC.opsD ?_ | (apply r_fieldAddr; (iterate 3 exact rfl)) | (apply r_load; (iterate 4 exact rfl); (first | exact at0 | exact at1 | exact at3); exact rfl) | (apply r_loadN; (iterate 4 exact rfl); (first | exact at0 | exact at1 | exact at3); exact rfl)))
  refine r_buildA (l := [(0, nv a.r), (1, nv a.c)]) (cs := #[nv a.r, nv a.c]) rfl rfl rfl rfl ?_
  skip
  refine r_callA (A := [_, _, _, _]) (B := Nn ++ (Nm ++ ([]))) rfl (by first | trivial | exact ⟨rfl, rfl⟩) rfl (by first | rfl | exact ⟨rfl, rfl⟩) rfl (fun w hk hs => c_of w _ (oneZ a.r) (zof_rt hr hr) ⟨_, rfl, hOm.rd.at hk hs (by (repeat' first | exact HSub.nil _ | exact HSub.hd | exact HSub.in0 | exact HSub.refl _ | refine HSub.skip ?_ | refine HSub.skipN ?_))⟩) fun w v w' _ _ _ hR => ?_
  obtain ⟨Nu, tu, hNu, hTu, hLu⟩ := hR
  obtain ⟨Au, cu, rfl⟩ := hTu.form
  refine ⟨Nu ++ tH tu, hNu, ?_⟩
  skip
  refine r_callA (A := [_, _, _, _]) (B := (Nu ++ tH tu) ++ (Nn ++ (Nm ++ ([])))) rfl (by first | trivial | exact ⟨rfl, rfl⟩) rfl (by first | rfl | exact ⟨rfl, rfl⟩) rfl (fun w hk hs => c_of w _ (oneZ a.r) (zof_rt hr hr) ⟨_, rfl, hOm.rd.at hk hs (by (repeat' first | exact HSub.nil _ | exact HSub.hd | exact HSub.in0 | exact HSub.refl _ | refine HSub.skip ?_ | refine HSub.skipN ?_))⟩) fun w v w' _ _ _ hR => ?_
  obtain ⟨Ni, ti, hNi, hTi, hLi⟩ := hR
  obtain ⟨Ai, ci, rfl⟩ := hTi.form
  refine ⟨Ni ++ tH ti, hNi, ?_⟩
  skip
  refine r_callA (A := [_, _, _, _]) (B := (Ni ++ tH ti) ++ ((Nu ++ tH tu) ++ (Nn ++ (Nm ++ ([]))))) rfl (by first | trivial | exact ⟨rfl, rfl⟩) rfl (by first | rfl | exact ⟨rfl, rfl⟩) rfl (fun w hk hs => c_of w _ a ha (hv0.mono hk)) fun w v w' _ _ _ hR => ?_
  obtain ⟨Nd, td, hNd, hTd, hLd⟩ := hR
  obtain ⟨Ad, cd, rfl⟩ := hTd.form
  refine ⟨Nd ++ tH td, hNd, ?_⟩
  skip
  refine r_callA (A := [_, _, _, _]) (B := (Nd ++ tH td) ++ ((Ni ++ tH ti) ++ ((Nu ++ tH tu) ++ (Nn ++ (Nm ++ ([])))))) rfl (by first | trivial | exact ⟨rfl, rfl⟩) rfl (by first | rfl | exact ⟨rfl, rfl⟩) rfl (fun w hk hs => c_of w _ (oneZ a.c) (zof_rt hac hac) ⟨_, rfl, hOn.rd.at hk hs (by (repeat' first | exact HSub.nil _ | exact HSub.hd | exact HSub.in0 | exact HSub.refl _ | refine HSub.skip ?_ | refine HSub.skipN ?_))⟩) fun w v w' _ _ _ hR => ?_
  obtain ⟨Nx, tx, hNx, hTx, hLx⟩ := hR
  obtain ⟨Ax, cx, rfl⟩ := hTx.form
  refine ⟨Nx ++ tH tx, hNx, ?_⟩
  skip
  refine r_callA (A := [_, _, _, _]) (B := (Nx ++ tH tx) ++ ((Nd ++ tH td) ++ ((Ni ++ tH ti) ++ ((Nu ++ tH tu) ++ (Nn ++ (Nm ++ ([]))))))) rfl (by first | trivial | exact ⟨rfl, rfl⟩) rfl (by first | rfl | exact ⟨rfl, rfl⟩) rfl (fun w hk hs => c_of w _ (oneZ a.c) (zof_rt hac hac) ⟨_, rfl, hOn.rd.at hk hs (by (repeat' first | exact HSub.nil _ | exact HSub.hd | exact HSub.in0 | exact HSub.refl _ | refine HSub.skip ?_ | refine HSub.skipN ?_))⟩) fun w v w' _ _ _ hR => ?_
  obtain ⟨Nj, tj, hNj, hTj, hLj⟩ := hR
  obtain ⟨Aj, cj, rfl⟩ := hTj.form
  refine ⟨Nj ++ tH tj, hNj, ?_⟩
  skip
  refine r_build (l := [(0, .slice Au tu.length cu), (1, .slice Ai ti.length ci), (2, .slice Ad td.length cd), (3, .slice Ax tx.length cx), (4, .slice Aj tj.length cj)]) (cs := #[.slice Au tu.length cu, .slice Ai ti.length ci, .slice Ad td.length cd, .slice Ax tx.length cx, .slice Aj tj.length cj]) rfl rfl rfl rfl ?_
  skip
  refine r_build (l := [(0, .agg #[.slice Au tu.length cu, .slice Ai ti.length ci, .slice Ad td.length cd, .slice Ax tx.length cx, .slice Aj tj.length cj]), (1, .agg #[nv a.r, nv a.c])]) (cs := #[.slice Au tu.length cu, .slice Ai ti.length ci, .slice Ad td.length cd, .slice Ax tx.length cx, .slice Aj tj.length cj, nv a.r, nv a.c]) rfl rfl rfl rfl ?_
  (repeat' (first | refine JO.nil ?_ | (apply r_assign; (iterate 3 exact rfl)) | (apply r_boxA; (iterate 4 exact rfl); intro _)))
  rename_i b37
  obtain ⟨W, hWd⟩ : ∃ W : WV, W = ⟨.slice Au tu.length cu, .slice Ai ti.length ci, .slice Ad td.length cd, .slice Ax tx.length cx, .slice Aj tj.length cj, Nu, Ni, Nd, Nx, Nj⟩ := ⟨_, rfl⟩
  obtain ⟨T, hTd'⟩ : ∃ T : WT, T = ⟨tu, ti, td, tx, tj⟩ := ⟨_, rfl⟩
  have hW : IsWk W a.r a.c T (startS a.r a.c (rowsOf a)) := by
    subst hWd hTd'
    have hln : ∀ {n : Nat} {g : Nat → List Int} {ts : List TR}, ts.map (·.2.2) = (List.range n).map g → ts.length = n := fun h => by simpa using congrArg List.length h
    exact ⟨⟨hTu, hln hLu, hLu.trans (rowsOf_one hr)⟩, ⟨hTi, hln hLi, hLi.trans (rowsOf_one hr)⟩, ⟨hTd, hln hLd, hLd⟩, ⟨hTx, hln hLx, hLx.trans (rowsOf_one hac)⟩, ⟨hTj, hln hLj, hLj.trans (rowsOf_one hac)⟩⟩
  refine JX.part (F' := [(5, .pointer (some ⟨b37, 0, none⟩)), (2, .pointer (some ⟨b2, 0, none⟩)), (1, .pointer (some ⟨b1, 0, none⟩))])
    (H' := [(b2, .cells smC0 45), (b1, .cells #[nv a.r, nv a.c, E] 28)] ++ (wkH b37 W a.r a.c T ++ [])) (by repeat first | exact trivial | refine ⟨rfl, ?_⟩) ?_ ?_
  · subst hWd hTd'
    exact ⟨_, perm_start (a := [_]) (b4 := [_]) (b3 := [_]) (b2 := [_]) (b1 := [_])⟩
  have hb0 := ok_start ha hb
  clear hTu hTi hTd hTx hTj hLu hLi hLd hLx hLj hOm hOn hWd hTd' hNu hNi hNd hNx hNj
  refine JX.thenN ?_
  (repeat' (first | refine JC.seq ?_ | refine JC.ops ?_))
  refine r_call0 (by first | trivial | exact ⟨rfl, rfl⟩) rfl (by first | rfl | exact ⟨rfl, rfl⟩) rfl (fun w _ _ => c_From w 1 (by decide) (by decide)) fun w v w' _ _ _ hR => ?_
  subst hR
  (repeat' (first | refine JC.seq ?_ | refine JC.ops ?_ | refine JO.nil ?_ | refine JX.thenN ?_ | (apply r_assign; (iterate 3 exact rfl)) | (apply r_storeN; exact rfl; (first | exact trivial | exact ⟨rfl, rfl⟩); exact rfl; exact rfl; exact at0; (iterate 3 exact rfl)) | (apply r_allocZ; (iterate 3 exact rfl); intro _) | (apply r_storeN; exact rfl; (first | exact trivial | exact ⟨rfl, rfl⟩); exact rfl; exact rfl; exact at0; (iterate 3 exact rfl))))
  rename_i b6
  have hmin : (if (a.c : Int) < (a.r : Int) then (a.c : Int) else (a.r : Int)) = ((min a.r a.c : Nat) : Int) := by split <;> omega
  refine JC.aft (ι := WT) (fun _ => [(6, .pointer (some ⟨b6, 0, none⟩)), (5, .pointer (some ⟨b37, 0, none⟩)), (2, .pointer (some ⟨b2, 0, none⟩)), (1, .pointer (some ⟨b1, 0, none⟩))]) (fun T => [(b6, .cells (wc 1) 32), (b2, .cells smC0 45), (b1, .cells #[nv a.r, nv a.c, E] 28)] ++ ((b37, .cells (W.cells a.r a.c) 79) :: (W.Nu ++ (tH T.u ++ (W.Nui ++ (tH T.ui ++ (W.Nd ++ (tH T.d ++ (W.Nv ++ (tH T.v ++ (W.Nvi ++ (tH T.vi ++ [])))))))))))) (fun T => IsWk W a.r a.c T S') (fun T hW => ?_) (fun rest => ?_)
  · clear hf hb0
    refine JX.thenN ?_
    (repeat' (first | refine JC.seq ?_ | refine JC.opsD ?_ | (apply r_move; (iterate 3 exact rfl)) | (apply r_fieldAddr; (iterate 3 exact rfl)) | (apply r_load; (iterate 4 exact rfl); (first | exact at2 | exact at3); exact rfl) | (apply r_nilCheck; (iterate 3 exact rfl))))
    refine r_callA (A := [_, _, _]) (B := ((b37, .cells (W.cells a.r a.c) 79) :: (W.Nu ++ (tH T.u ++ (W.Nui ++ (tH T.ui ++ (W.Nd ++ (tH T.d ++ (W.Nv ++ (tH T.v ++ (W.Nvi ++ (tH T.vi ++ [])))))))))))) rfl (by first | trivial | exact ⟨rfl, rfl⟩) rfl (by first | rfl | exact ⟨rfl, rfl⟩) rfl (fun w hk hs => c_gmat w _ a.r a.r S'.u (hW.u.g hk hs (by (repeat' first | exact HSub.nil _ | exact HSub.hd | exact HSub.in0 | exact HSub.refl _ | refine HSub.skip ?_ | refine HSub.skipN ?_)) (by (repeat' first | exact HSub.nil _ | exact HSub.hd | exact HSub.in0 | exact HSub.refl _ | refine HSub.skip ?_ | refine HSub.skipN ?_))) hW.u.rc hr hr) fun w v w' _ _ _ hR => ?_
    obtain ⟨M1, hM1, E1, rfl, hO1⟩ := hR
    obtain ⟨A1, c1, rfl⟩ := hO1.form
    refine ⟨M1, hM1, ?_⟩
    skip
    refine r_callA (A := [_, _, _]) (B := M1 ++ (((b37, .cells (W.cells a.r a.c) 79) :: (W.Nu ++ (tH T.u ++ (W.Nui ++ (tH T.ui ++ (W.Nd ++ (tH T.d ++ (W.Nv ++ (tH T.v ++ (W.Nvi ++ (tH T.vi ++ []))))))))))))) rfl (by first | trivial | exact ⟨rfl, rfl⟩) rfl (by first | rfl | exact ⟨rfl, rfl⟩) rfl (fun w hk hs => c_gmat w _ a.r a.r S'.ui (hW.ui.g hk hs (by (repeat' first | exact HSub.nil _ | exact HSub.hd | exact HSub.in0 | exact HSub.refl _ | refine HSub.skip ?_ | refine HSub.skipN ?_)) (by (repeat' first | exact HSub.nil _ | exact HSub.hd | exact HSub.in0 | exact HSub.refl _ | refine HSub.skip ?_ | refine HSub.skipN ?_))) hW.ui.rc hr hr) fun w v w' _ _ _ hR => ?_
    obtain ⟨M2, hM2, E2, rfl, hO2⟩ := hR
    obtain ⟨A2, c2, rfl⟩ := hO2.form
    refine ⟨M2, hM2, ?_⟩
    skip
    refine r_callA (A := [_, _, _]) (B := M2 ++ (M1 ++ (((b37, .cells (W.cells a.r a.c) 79) :: (W.Nu ++ (tH T.u ++ (W.Nui ++ (tH T.ui ++ (W.Nd ++ (tH T.d ++ (W.Nv ++ (tH T.v ++ (W.Nvi ++ (tH T.vi ++ [])))))))))))))) rfl (by first | trivial | exact ⟨rfl, rfl⟩) rfl (by first | rfl | exact ⟨rfl, rfl⟩) rfl (fun w hk hs => c_gmat w _ a.r a.c S'.d (hW.d.g hk hs (by (repeat' first | exact HSub.nil _ | exact HSub.hd | exact HSub.in0 | exact HSub.refl _ | refine HSub.skip ?_ | refine HSub.skipN ?_)) (by (repeat' first | exact HSub.nil _ | exact HSub.hd | exact HSub.in0 | exact HSub.refl _ | refine HSub.skip ?_ | refine HSub.skipN ?_))) hW.d.rc hr hac) fun w v w' _ _ _ hR => ?_
    obtain ⟨M3, hM3, E3, rfl, hO3⟩ := hR
    obtain ⟨A3, c3, rfl⟩ := hO3.form
    refine ⟨M3, hM3, ?_⟩
    skip
    refine r_callA (A := [_, _, _]) (B := M3 ++ (M2 ++ (M1 ++ (((b37, .cells (W.cells a.r a.c) 79) :: (W.Nu ++ (tH T.u ++ (W.Nui ++ (tH T.ui ++ (W.Nd ++ (tH T.d ++ (W.Nv ++ (tH T.v ++ (W.Nvi ++ (tH T.vi ++ []))))))))))))))) rfl (by first | trivial | exact ⟨rfl, rfl⟩) rfl (by first | rfl | exact ⟨rfl, rfl⟩) rfl (fun w hk hs => c_gmat w _ a.c a.c S'.v (hW.v.g hk hs (by (repeat' first | exact HSub.nil _ | exact HSub.hd | exact HSub.in0 | exact HSub.refl _ | refine HSub.skip ?_ | refine HSub.skipN ?_)) (by (repeat' first | exact HSub.nil _ | exact HSub.hd | exact HSub.in0 | exact HSub.refl _ | refine HSub.skip ?_ | refine HSub.skipN ?_))) hW.v.rc hac hac) fun w v w' _ _ _ hR => ?_
    obtain ⟨M4, hM4, E4, rfl, hO4⟩ := hR
    obtain ⟨A4, c4, rfl⟩ := hO4.form
    refine ⟨M4, hM4, ?_⟩
    skip
    refine r_callA (A := [_, _, _]) (B := M4 ++ (M3 ++ (M2 ++ (M1 ++ (((b37, .cells (W.cells a.r a.c) 79) :: (W.Nu ++ (tH T.u ++ (W.Nui ++ (tH T.ui ++ (W.Nd ++ (tH T.d ++ (W.Nv ++ (tH T.v ++ (W.Nvi ++ (tH T.vi ++ [])))))))))))))))) rfl (by first | trivial | exact ⟨rfl, rfl⟩) rfl (by first | rfl | exact ⟨rfl, rfl⟩) rfl (fun w hk hs => c_gmat w _ a.c a.c S'.vi (hW.vi.g hk hs (by (repeat' first | exact HSub.nil _ | exact HSub.hd | exact HSub.in0 | exact HSub.refl _ | refine HSub.skip ?_ | refine HSub.skipN ?_)) (by (repeat' first | exact HSub.nil _ | exact HSub.hd | exact HSub.in0 | exact HSub.refl _ | refine HSub.skip ?_ | refine HSub.skipN ?_))) hW.vi.rc hac hac) fun w v w' _ _ _ hR => ?_
    obtain ⟨M5, hM5, E5, rfl, hO5⟩ := hR
    obtain ⟨A5, c5, rfl⟩ := hO5.form
    refine ⟨M5, hM5, ?_⟩
    skip
    refine r_build (l := [(0, .agg #[nv a.r, nv a.r, .slice A1 (gM a.r a.r S'.u).e.length c1]), (1, .agg #[nv a.r, nv a.r, .slice A2 (gM a.r a.r S'.ui).e.length c2]), (2, .agg #[nv a.r, nv a.c, .slice A3 (gM a.r a.c S'.d).e.length c3]), (3, .agg #[nv a.c, nv a.c, .slice A4 (gM a.c a.c S'.v).e.length c4]), (4, .agg #[nv a.c, nv a.c, .slice A5 (gM a.c a.c S'.vi).e.length c5])]) (cs := smC a.r a.c (.slice A1 (gM a.r a.r S'.u).e.length c1) (.slice A2 (gM a.r a.r S'.ui).e.length c2) (.slice A3 (gM a.r a.c S'.d).e.length c3) (.slice A4 (gM a.c a.c S'.v).e.length c4) (.slice A5 (gM a.c a.c S'.vi).e.length c5)) rfl rfl rfl (by kernel_rfl) ?_
    (repeat' (first | refine JO.nil ?_ | refine JX.thenN ?_ | (apply r_storeN; exact rfl; (first | exact trivial | exact ⟨rfl, rfl⟩); exact rfl; exact rfl; exact at1; (iterate 3 exact rfl)) | (apply r_storeN; exact rfl; (first | exact trivial | exact ⟨rfl, rfl⟩); exact rfl; exact rfl; exact at1; (iterate 3 exact rfl)) | refine JC.ret ?_))
    exact JX.retC 1 rfl rfl rfl (fun a w' st => ⟨st.kp, M1, M2, M3, M4, M5, _, _, _, _, _, rfl, ⟨hW.u.rc, hW.ui.rc, hW.d.rc, hW.v.rc, hW.vi.rc⟩, st.newOf rfl (by exact perm_end), own_gM hW.u.rc hO1, own_gM hW.ui.rc hO2, own_gM hW.d.rc hO3, own_gM hW.v.rc hO4, own_gM hW.vi.rc hO5⟩)
  refine JC.block ?_
  refine JC.loopH (ι := Nat × Sm × WT) ⟨fun z => [(7, nv z.1), (6, .pointer (some ⟨b6, 0, none⟩)), (5, .pointer (some ⟨b37, 0, none⟩)), (2, .pointer (some ⟨b2, 0, none⟩)), (1, .pointer (some ⟨b1, 0, none⟩))], fun z => [(b6, .cells (wc 1) 32), (b2, .cells smC0 45), (b1, .cells #[nv a.r, nv a.c, E] 28)] ++ ((b37, .cells (W.cells a.r a.c) 79) :: (W.Nu ++ (tH z.2.2.u ++ (W.Nui ++ (tH z.2.2.ui ++ (W.Nd ++ (tH z.2.2.d ++ (W.Nv ++ (tH z.2.2.v ++ (W.Nvi ++ (tH z.2.2.vi ++ []))))))))))),
    fun z => z.1 ≤ min a.r a.c ∧ IsWk W a.r a.c z.2.2 z.2.1 ∧ Ok (K + 1) z.2.1 ∧ formF (K + 1) fc f a.r a.c (min a.r a.c - z.1) z.1 z.2.1 = some S', fun z => min a.r a.c - z.1⟩ (0, startS a.r a.c (rowsOf a), T)
    ⟨Nat.zero_le _, hW, hb0, by rw [Nat.sub_zero]; exact hf⟩ (by repeat first | exact trivial | refine ⟨rfl, ?_⟩) (by simp only [wkH, List.cons_append, List.nil_append, List.append_assoc, List.append_nil]; exact HSub.refl _) (fun z hz => ?_)
  clear hW hb0 hf
  obtain ⟨t, S, T⟩ := z
  obtain ⟨htl, hW, hb0, hf⟩ := hz
  dsimp only at htl hW hb0 hf ⊢
  by_cases htk : t < min a.r a.c
  · have htm : t < a.r := by omega
    have htn : t < a.c := by omega
    obtain ⟨S1, fl, hp, hff, hft⟩ := formF_step (show formF (K + 1) fc f a.r a.c (min a.r a.c - (t + 1) + 1) t S = some S' by rw [show min a.r a.c - (t + 1) + 1 = min a.r a.c - t by omega]; exact hf)
    have hb1 := pivotF_ok hp hb0
    clear hf
    (repeat' (first | refine JC.seq ?_ | refine JC.ops ?_ | (apply r_move; (iterate 3 exact rfl)) | (apply r_fieldAddr; (iterate 3 exact rfl)) | (apply r_load; (iterate 4 exact rfl); exact at2; exact rfl) | (apply r_min; (iterate 4 exact rfl)) | (apply r_lss; (iterate 4 exact rfl); all_goals intro hc; all_goals try (exfalso; omega))))
    refine r_callO (A := [(b6, .cells (wc 1) 32), (b2, .cells smC0 45), (b1, .cells #[nv a.r, nv a.c, E] 28)]) (N := wkH b37 W a.r a.c T) (B := []) (R := fun w v w' => WkR b37 W a.r a.c T S1 w w' ∧ v = .bool fl) (by simp only [wkH, List.cons_append, List.nil_append, List.append_assoc, List.append_nil]) (by first | trivial | exact ⟨rfl, rfl⟩) rfl (by first | rfl | exact ⟨rfl, rfl⟩) rfl (fun w _ hs => ?_) (fun w1 v1 w2 _ _ hk2 hR => ?_)
    · have hs1 : Hsat (wkH b37 W a.r a.c T) w := HSub.hsat (by exact HSub.skip (HSub.skip (HSub.skip (by first | exact HSub.refl _ | exact HSub.in0 | simpa [wkH] using HSub.refl _)))) hs
      exact calls_mono (c_pivot (K + 1) w b37 W a.r a.c T S S1 fl t hW hs1 htm htn hr hac hK hb0 hp) fun v w' h => ⟨h.1.1, h⟩
    · obtain ⟨⟨_, T1, hk1, hin1, hW1, hV1⟩, rfl⟩ := hR
      refine ⟨wkH b37 W a.r a.c T1, hk1, hin1, ?_⟩
      clear hW hV1 hk1 hin1 hk2 hp
      cases fl with
      | false =>
        obtain rfl := hff rfl
        (repeat' (first | refine JO.nil ?_ | (apply r_pickT; (iterate 4 exact rfl))))
        refine JX.thenN ?_
        (repeat' (first | refine JX.thenE ?_ | refine JC.exit ?_ | refine JC.condF rfl ?_ | refine JX.blockE ?_))
        exact JX.part (by repeat first | exact trivial | refine ⟨rfl, ?_⟩) (by simpa [wkH] using HSub.refl _) (rest T1 hW1)
      | true =>
        obtain ⟨S2, hst, hrest⟩ := hft rfl
        have hb2 := stageF_ok hst hb1
        clear hff hft
        (repeat' (first | refine JC.seq ?_ | refine JO.nil ?_ | refine JX.thenN ?_ | (apply r_pickT; (iterate 4 exact rfl)) | refine JC.skip ?_ | refine JC.condT rfl ?_ | refine JC.block ?_))
        refine JC.loopH (ι := Nat × Sm × WT) ⟨fun z => [(7, nv t), (6, .pointer (some ⟨b6, 0, none⟩)), (5, .pointer (some ⟨b37, 0, none⟩)), (2, .pointer (some ⟨b2, 0, none⟩)), (1, .pointer (some ⟨b1, 0, none⟩))], fun z => [(b6, .cells (wc 1) 32), (b2, .cells smC0 45), (b1, .cells #[nv a.r, nv a.c, E] 28)] ++ ((b37, .cells (W.cells a.r a.c) 79) :: (W.Nu ++ (tH z.2.2.u ++ (W.Nui ++ (tH z.2.2.ui ++ (W.Nd ++ (tH z.2.2.d ++ (W.Nv ++ (tH z.2.2.v ++ (W.Nvi ++ (tH z.2.2.vi ++ []))))))))))),
          fun z => IsWk W a.r a.c z.2.2 z.2.1 ∧ Ok (K + 1) z.2.1 ∧ stageF (K + 1) fc t a.r a.c z.1 z.2.1 = some S2, fun z => z.1⟩ (f, S1, T1)
          ⟨hW1, hb1, hst⟩ (by repeat first | exact trivial | refine ⟨rfl, ?_⟩) (by simpa [wkH] using HSub.refl _) (fun z hz => ?_)
        clear hW1 hb1 hst
        obtain ⟨g, S1, T1⟩ := z
        obtain ⟨hW1, hb1, hst⟩ := hz
        dsimp only at hW1 hb1 hst ⊢
        cases g with
        | zero => cases hst
        | succ g =>
        obtain ⟨Sa, hcr, hsp⟩ := stageF_step hst
        have hba := crossF_ok hcr hb1
        clear hst
        (repeat' (first | refine JC.seq ?_ | refine JC.ops ?_ | (apply r_move; (iterate 3 exact rfl)) | refine JC.block ?_))
        refine r_callO (A := [(b6, .cells (wc 1) 32), (b2, .cells smC0 45), (b1, .cells #[nv a.r, nv a.c, E] 28)]) (N := wkH b37 W a.r a.c T1) (B := []) (R := fun w v w' => WkR b37 W a.r a.c T1 Sa w w') (by simp only [wkH, List.cons_append, List.nil_append, List.append_assoc, List.append_nil]) (by first | trivial | exact ⟨rfl, rfl⟩) rfl (by first | rfl | exact ⟨rfl, rfl⟩) rfl (fun w _ hs => ?_) (fun w1 v1 w2 _ _ hk2 hR => ?_)
        · have hs1 : Hsat (wkH b37 W a.r a.c T1) w := HSub.hsat (by exact HSub.skip (HSub.skip (HSub.skip (by first | exact HSub.refl _ | exact HSub.in0 | simpa [wkH] using HSub.refl _)))) hs
          exact calls_mono (c_cross (K + 1) fc w b37 W a.r a.c T1 S1 Sa t hW1 hs1 htm htn hr hac hK hb1 hcr) fun v w' h => ⟨h.1, h⟩
        obtain ⟨_, T2, hk3, hin3, hW2, _⟩ := hR
        refine ⟨wkH b37 W a.r a.c T2, hk3, hin3, ?_⟩
        clear hW1 hk3 hin3 hk2
        (repeat' (first | refine JC.seq ?_ | refine JC.ops ?_ | refine JO.nil ?_ | refine JX.thenN ?_ | (apply r_move; (iterate 3 exact rfl))))
        refine r_callO (A := [(b6, .cells (wc 1) 32), (b2, .cells smC0 45), (b1, .cells #[nv a.r, nv a.c, E] 28)]) (N := wkH b37 W a.r a.c T2) (B := []) (R := fun w v w' => WkR b37 W a.r a.c T2 Sa w w' ∧ v = spV (spoiledF Sa t a.r a.c)) (by simp only [wkH, List.cons_append, List.nil_append, List.append_assoc, List.append_nil]) (by first | trivial | exact ⟨rfl, rfl⟩) rfl (by first | rfl | exact ⟨rfl, rfl⟩) rfl (fun w _ hs => ?_) (fun w1 v1 w2 _ _ hk2 hR => ?_)
        · have hs1 : Hsat (wkH b37 W a.r a.c T2) w := HSub.hsat (by exact HSub.skip (HSub.skip (HSub.skip (by first | exact HSub.refl _ | exact HSub.in0 | simpa [wkH] using HSub.refl _)))) hs
          exact calls_mono (c_spoiled (K + 1) w b37 W a.r a.c T2 Sa t hW2 hs1 htm htn hr hac hK hba) fun v w' h => ⟨h.1.1, h⟩
        obtain ⟨⟨_, T3, hk3, hin3, hW3, _⟩, rfl⟩ := hR
        refine ⟨wkH b37 W a.r a.c T3, hk3, hin3, ?_⟩
        clear hW2 hk3 hin3 hk2
        rcases hsp with ⟨hn, rfl⟩ | ⟨i, Sb, hi, hck, hst⟩
        · rw [hn]
          clear hn hcr hb1
          have hld := hW3.d.len
          have hT3 := hW3.d.T
          have hVr : ∀ a, tv T3.d a = tv T3.d a := fun _ => rfl
          have hx : (tM T3.d t t).natAbs < 256 ^ (K + 1) := okG_bd hW3.d hba.d t t
          simp only [wkH, List.cons_append, List.nil_append, List.append_assoc, List.append_nil]
          (repeat' (first | refine JC.seq ?_ | refine JC.ops ?_ | refine JO.nil ?_ | refine JX.thenN ?_ | (apply r_move; (iterate 3 exact rfl)) | (apply r_fieldAddr; (iterate 3 exact rfl)) | (apply r_assign; (iterate 3 exact rfl)) | (apply r_load; (iterate 4 exact rfl); exact at3; exact rfl) | (apply r_idxTr; (iterate 4 exact rfl); assumption; assumption; omega; omega) | (apply r_idxT; (iterate 4 exact rfl); assumption; omega) | (apply r_ldTr; (iterate 4 exact rfl); assumption; assumption; (repeat' first | exact HSub.nil _ | exact HSub.hd | exact HSub.in0 | exact HSub.refl _ | refine HSub.skip ?_ | refine HSub.skipN ?_); omega; omega) | (apply r_ldT; (iterate 4 exact rfl); assumption; assumption; (repeat' first | exact HSub.nil _ | exact HSub.hd | exact HSub.in0 | exact HSub.refl _ | refine HSub.skip ?_ | refine HSub.skipN ?_); omega) | (apply r_not; (iterate 3 exact rfl)) | (apply r_nilCheck; (iterate 3 exact rfl)) | (apply r_extract; (iterate 4 exact rfl)) | refine JX.thenE ?_ | refine JC.exit ?_ | refine JC.condT rfl ?_ | refine JX.blockE ?_ | refine JX.blockO rfl ?_))
          refine r_call0 (by first | trivial | exact ⟨rfl, rfl⟩) rfl (by first | rfl | exact ⟨rfl, rfl⟩) rfl (fun w _ _ => c_Sign w _ (tM T3.d t t) (K + 1) (IsZ.can hx) (by omega)) fun w v w' _ _ _ hR => ?_
          subst hR
          have hdt : tM T3.d t t = gE Sa.d t t := hW3.d.at t t
          rw [hdt]
          by_cases hneg : gE Sa.d t t < 0
          · rw [if_pos hneg] at hrest
            have hsg : (gE Sa.d t t).sign < 0 := Int.sign_neg_iff.2 hneg
            (repeat' (first | refine JC.ops ?_ | refine JO.nil ?_ | refine JX.thenN ?_ | (apply r_move; (iterate 3 exact rfl)) | (apply r_lss; (iterate 4 exact rfl); all_goals intro hc; all_goals try (exfalso; omega)) | refine JC.condT rfl ?_))
            refine r_callO (A := [(b6, .cells (wc 1) 32), (b2, .cells smC0 45), (b1, .cells #[nv a.r, nv a.c, E] 28)]) (N := wkH b37 W a.r a.c T3) (B := []) (R := fun w v w' => WkR b37 W a.r a.c T3 (Sa.neg t) w w') (by simp only [wkH, List.cons_append, List.nil_append, List.append_assoc, List.append_nil]) (by first | trivial | exact ⟨rfl, rfl⟩) rfl (by first | rfl | exact ⟨rfl, rfl⟩) rfl (fun w _ hs => ?_) (fun w1 v1 w2 _ _ hk2 hR => ?_)
            · have hs1 : Hsat (wkH b37 W a.r a.c T3) w := HSub.hsat (by exact HSub.skip (HSub.skip (HSub.skip (by first | exact HSub.refl _ | exact HSub.in0 | simpa [wkH] using HSub.refl _)))) hs
              exact calls_mono (c_negate (K + 1) w b37 W a.r a.c T3 Sa t hW3 hs1 htm hr hac hK hba) fun v w' h => ⟨h.1, h⟩
            obtain ⟨_, T4, hk4, hin4, hW4, _⟩ := hR
            refine ⟨wkH b37 W a.r a.c T4, hk4, hin4, ?_⟩
            (repeat' (first | refine JC.ops ?_ | refine JO.nil ?_ | refine JX.thenN ?_ | (apply r_move; (iterate 3 exact rfl)) | (apply r_assign; (iterate 3 exact rfl)) | (apply r_add1; (iterate 4 exact rfl); omega) | refine JX.blockN ?_))
            exact JX.roundH (t + 1, Sa.neg t, T4) ⟨by dsimp only; omega, hW4, neg_ok hba, hrest⟩ (by dsimp only; omega) (by repeat first | exact trivial | refine ⟨rfl, ?_⟩) (by simpa [wkH] using HSub.refl _)
          · rw [if_neg hneg] at hrest
            have hsg : ¬ (gE Sa.d t t).sign < 0 := fun h => hneg (Int.sign_neg_iff.1 h)
            (repeat' (first | refine JC.ops ?_ | refine JO.nil ?_ | refine JX.thenN ?_ | (apply r_move; (iterate 3 exact rfl)) | (apply r_assign; (iterate 3 exact rfl)) | (apply r_add1; (iterate 4 exact rfl); omega) | (apply r_lss; (iterate 4 exact rfl); all_goals intro hc; all_goals try (exfalso; omega)) | refine JC.skip ?_ | refine JC.condF rfl ?_ | refine JX.blockN ?_))
            exact JX.roundH (t + 1, Sa, T3) ⟨by dsimp only; omega, hW3, hba, hrest⟩ (by dsimp only; omega) (by repeat first | exact trivial | refine ⟨rfl, ?_⟩) (by simpa [wkH] using HSub.refl _)
        · rw [hi]
          have hlt := spoiledF_lt hi
          obtain ⟨rfl, hbb⟩ := ck_some hck
          clear hi hcr hb1
          (repeat' (first | refine JC.seq ?_ | refine JC.ops ?_ | refine JO.nil ?_ | refine JX.thenN ?_ | (apply r_move; (iterate 3 exact rfl)) | (apply r_assign; (iterate 3 exact rfl)) | (apply r_loadN; (iterate 4 exact rfl); exact at0; exact rfl) | (apply r_not; (iterate 3 exact rfl)) | (apply r_extract; (iterate 4 exact rfl)) | (apply r_build0; exact rfl; exact rfl) | refine JC.skip ?_ | refine JC.condF rfl ?_))
          refine r_build (l := [(0, .agg (wc 1)), (1, .agg (wc 1)), (2, .agg #[.bool false, .string ⟨#[]⟩]), (3, .agg (wc 1))]) (cs := tnR) rfl rfl rfl (by kernel_rfl) ?_
          skip
          refine r_callO (A := [(b6, .cells (wc 1) 32), (b2, .cells smC0 45), (b1, .cells #[nv a.r, nv a.c, E] 28)]) (N := wkH b37 W a.r a.c T3) (B := []) (R := fun w v w' => WkR b37 W a.r a.c T3 (Sa.rows t i ⟨1, 1, 0, 1⟩) w w') (by simp only [wkH, List.cons_append, List.nil_append, List.append_assoc, List.append_nil]) (by first | trivial | exact ⟨rfl, rfl⟩) rfl (by first | rfl | exact ⟨rfl, rfl⟩) rfl (fun w _ hs => ?_) (fun w1 v1 w2 _ _ hk2 hR => ?_)
          · have hs1 : Hsat (wkH b37 W a.r a.c T3) w := HSub.hsat (by exact HSub.skip (HSub.skip (HSub.skip (by first | exact HSub.refl _ | exact HSub.in0 | simpa [wkH] using HSub.refl _)))) hs
            have h := c_wrows (K + 1) w b37 W a.r a.c T3 Sa t i ⟨1, 1, 0, 1⟩ hW3 hs1 (by omega) (by omega) (by omega) hr hac (by omega) (add_bdT K) hba
            rw [tnC_r] at h
            exact calls_mono h fun v w' h => ⟨h.1, h⟩
          obtain ⟨_, T4, hk4, hin4, hW4, _⟩ := hR
          refine ⟨wkH b37 W a.r a.c T4, hk4, hin4, ?_⟩
          (repeat' (first | refine JO.nil ?_ | refine JX.blockN ?_))
          exact JX.roundH (g, Sa.rows t i ⟨1, 1, 0, 1⟩, T4) ⟨hW4, hbb, hst⟩ (by dsimp only; omega) (by repeat first | exact trivial | refine ⟨rfl, ?_⟩) (by simpa [wkH] using HSub.refl _)
  · have : formF (K + 1) fc f a.r a.c 0 t S = some S' := by rw [show min a.r a.c - t = 0 by omega] at hf; exact hf
    rw [formF] at this
    obtain rfl := Option.some.inj this
    (repeat' (first | refine JC.seq ?_ | refine JC.ops ?_ | refine JO.nil ?_ | (apply r_move; (iterate 3 exact rfl)) | (apply r_fieldAddr; (iterate 3 exact rfl)) | (apply r_load; (iterate 4 exact rfl); exact at2; exact rfl) | (apply r_min; (iterate 4 exact rfl)) | (apply r_pickF; (iterate 4 exact rfl)) | (apply r_lss; (iterate 4 exact rfl); all_goals intro hc; all_goals try (exfalso; omega)) | (apply r_skip; exact rfl; exact rfl; (first | (intro h; cases h; done) | (intro _; rfl)))))
    refine JX.thenN ?_
    (repeat' (first | refine JX.thenE ?_ | refine JC.exit ?_ | refine JC.condF rfl ?_ | refine JX.blockE ?_))
    exact JX.part (by repeat first | exact trivial | refine ⟨rfl, ?_⟩) (by simpa [wkH] using HSub.refl _) (rest T hW)


section
variable {c : Cx} {Q : Exit → Act → World → Prop} {m : Mode} {F : SFrame} {H : SHeap} {r : List SOp} {g : Option (Option Tmp × Bool)} {ns : Bool} {d : Tmp} {ty : TypeId} {x : Operand}
theorem r_fieldN {s : TypeId} {fs : Array Field} {fl : Field} {f n : Nat} {vs us : Array Value} (hu : c.P.underlying s = some (.struct fs)) (hf : fs[f]? = some fl) (ht : TN c.P fl.type n) (hd : dstOk c.n (some d) = true) (hg : guardF F g = some true) (hx : ev F x = some (.agg vs)) (hn : fl.offset + n ≤ vs.size) (hv : vs.extract fl.offset (fl.offset + n) = us)
    (h : JO c Q m r ((d, .agg us) :: F) H) : JO c Q m (⟨some d, .field s x f, ty, g, .mov, ns⟩ :: r) F H :=
  r_mov hd hg (fun a w fr => by
    subst hv
    simp only [execOp, fr.ev hx, Instr.field, Sem.run_bind, run_underlying hu, Result.andThen_ok, hf, asAgg, Sem.run_pure, part, TN.agg, TN.size (n := n), if_true, hn]) h
end
theorem formF_ok {K fc f m n : Nat} : ∀ {k t : Nat} {S S' : Sm}, formF K fc f m n k t S = some S' → Ok K S → Ok K S'
  | 0, _, _, _, h, hb => by rw [formF] at h; cases h; exact hb
  | k + 1, t, S, S', h, hb => by
    obtain ⟨S1, fl, h1, h2, h3⟩ := formF_step h
    have hb1 := pivotF_ok h1 hb
    cases fl with
    | false => rw [← h2 rfl]; exact hb1
    | true =>
      obtain ⟨S2, h4, h5⟩ := h3 rfl
      have hb2 := stageF_ok h4 hb1
      refine formF_ok h5 ?_
      split
      · exact neg_ok hb2
      · exact hb2
theorem own_oneW (b : Nat) (z : Int) : OwnZ [(b, .cells ⟨[.bool (wz z).1, sv (wz z).2]⟩ 32)] (.slice (some ⟨b, 0, none⟩) 1 1) 1 [z] := by
  have h := OwnRow.mk' (e := 32) (sz := 2) (n := 1) (b := b) (cs := ⟨[.bool (wz z).1, sv (wz z).2]⟩) (by simp) (by simp only [maxLen]; omega)
  exact h
def facP (g : List (List Int)) (k : Nat) : List Int := ((List.range k).map fun i => gE g i i).filter fun x => decide (x ≠ 0)
theorem facP_zero {g : List (List Int)} {k : Nat} (h : gE g k k = 0) : facP g (k + 1) = facP g k := by
  unfold facP
  rw [List.range_succ, List.map_append, List.filter_append]
  simp [h]
theorem facP_succ {g : List (List Int)} {k : Nat} (h : gE g k k ≠ 0) : facP g (k + 1) = facP g k ++ [gE g k k] := by
  unfold facP
  rw [List.range_succ, List.map_append, List.filter_append]
  simp [h]
theorem facP_le (g : List (List Int)) (k : Nat) : (facP g k).length ≤ k := by
  unfold facP
  refine Nat.le_trans (List.length_filter_le _ _) ?_
  simp
theorem flat_getD {c : Nat} : ∀ {g : List (List Int)}, (∀ x ∈ g, x.length = c) → ∀ i j, i < g.length → j < c → g.flatten.getD (i * c + j) 0 = gE g i j
  | [], _, i, j, hi, _ => by cases hi
  | x :: g, h, 0, j, _, hj => by
    have hx := h x (by simp)
    rw [List.flatten_cons, Nat.zero_mul, Nat.zero_add]
    unfold gE
    rw [List.getD, List.getElem?_append_left (by omega)]; rfl
  | x :: g, h, i + 1, j, hi, hj => by
    have hx := h x (by simp)
    have ih := flat_getD (g := g) (fun y hy => h y (by simp [hy])) i j (by simpa using hi) hj
    rw [List.flatten_cons, Nat.succ_mul]
    unfold gE at ih ⊢
    rw [List.getD, List.getElem?_append_right (by omega), show i * c + c + j - x.length = i * c + j by omega]
    exact ih
theorem gM_at {r c i j : Nat} {g : List (List Int)} (h : Rec r c g) (hi : i < r) (hj : j < c) : atZ (gM r c g) i j = gE g i j := by
  unfold atZ
  rw [if_pos ⟨by omega, by show (i : Int) < (r : Int); omega, by omega, by show (j : Int) < (c : Int); omega⟩]
  exact flat_getD h.row i j (by rw [h.len]; exact hi) hj
set_option maxHeartbeats 4000000 in
theorem c_Factors (K fc f : Nat) (w : World) (v : Value) (a : ZM) (S' : Sm) (ha : RtZ a) (hv : IsM w v a) (hK : K + 1 ≤ 9000000) (hb : BdZ (K + 1) a)
    (hf : formF (K + 1) fc f a.r a.c (min a.r a.c) 0 (startS a.r a.c (rowsOf a)) = some S') :
    Calls Tryd.prog 9 #[v] w (Ret fun v w' => Kp [] w w' ∧ ∃ N, New N w w' ∧ OwnZ N v (facP S'.d (min a.r a.c)).length (facP S'.d (min a.r a.c))) := by
  have hv0 := hv
  have hr := ha.r
  have hac := ha.c
  have hbS := formF_ok hf (ok_start ha hb)
  obtain ⟨E, rfl, hE⟩ := hv
  refine calls_of_S [] [] (by simp) [] Tryd.func9 rfl mixed (by kernel_rfl) Tryd.ntmps9 Tryd.results9 rfl ⟨by simp, by simp⟩ (by simp) ?_
  simp only [toS, textOps, toSOp, kindAt, kindOf, odAt, sopsAt, ordOf, zipF]
  (repeat' (first | refine JC.seq ?_ | refine JC.ops ?_ | refine JO.nil ?_ | refine JX.thenN ?_ | (apply r_assign; (iterate 3 exact rfl)) | (apply r_loadN; (iterate 4 exact rfl); exact at0; exact rfl) | (apply r_boxA; (iterate 4 exact rfl); intro _)))
  rename_i b1
  refine r_callA (A := [_]) (B := []) rfl (by first | trivial | exact ⟨rfl, rfl⟩) rfl (by first | rfl | exact ⟨rfl, rfl⟩) rfl (fun w hk hs => c_Form K fc f w _ a S' ha (hv0.mono hk) hK hb hf) fun w v w' _ _ _ hR => ?_
  obtain ⟨N1, N2, N3, N4, N5, E1, E2, E3, E4, E5, rfl, hD, hN, hO1, hO2, hO3, hO4, hO5⟩ := hR
  obtain ⟨A3, c3, rfl⟩ := hO3.form
  refine ⟨_, hN, ?_⟩
  refine r_fieldN Tryd.underlying45 rfl (show TN Tryd.prog 28 3 from inferInstance) rfl rfl rfl (us := #[nv a.r, nv a.c, .slice A3 (a.r * a.c) c3]) (by show (6 + 3 ≤ (15 : Nat)); decide) rfl ?_
  have hO3z : OwnZ N3 (.slice A3 (a.r * a.c) c3) (gM a.r a.c S'.d).e.length (gM a.r a.c S'.d).e := by rw [show (gM a.r a.c S'.d).e.length = a.r * a.c from flat_len hD.d]; exact hO3
  have hgR : RtZ (gM a.r a.c S'.d) := gM_rt hD.d hr hac
  clear hO1 hO2 hO3 hO4 hO5 hN hf hb hE
  (repeat' (first | refine JC.seq ?_ | refine JC.ops ?_ | refine JO.nil ?_ | refine JX.thenN ?_ | (apply r_move; (iterate 3 exact rfl)) | (apply r_fieldAddr; (iterate 3 exact rfl)) | (apply r_assign; (iterate 3 exact rfl)) | (apply r_load; (iterate 4 exact rfl); exact at0; exact rfl) | (apply r_min; (iterate 4 exact rfl)) | (apply r_storeN; exact rfl; (first | exact trivial | exact ⟨rfl, rfl⟩); exact rfl; exact rfl; exact at0; (iterate 3 exact rfl)) | (apply r_allocZ; (iterate 3 exact rfl); intro _) | (apply r_storeN; exact rfl; (first | exact trivial | exact ⟨rfl, rfl⟩); exact rfl; exact rfl; exact at0; (iterate 3 exact rfl)) | refine JC.block ?_))
  rename_i b3
  have hmin : (if (a.c : Int) < (a.r : Int) then (a.c : Int) else (a.r : Int)) = ((min a.r a.c : Nat) : Int) := by split <;> omega
  rw [hmin]
  refine JC.loopH (ι := Nat × SHeap × Value) ⟨fun z => [(15, nv z.1), (14, nv (min a.r a.c)), (4, z.2.2), (3, .pointer (some ⟨b3, 0, none⟩))], fun z => [(b3, .cells #[nv a.r, nv a.c, .slice A3 (a.r * a.c) c3] 28)] ++ (N3 ++ (z.2.1 ++ [])),
    fun z => z.1 ≤ min a.r a.c ∧ OwnZ z.2.1 z.2.2 (facP S'.d z.1).length (facP S'.d z.1), fun z => min a.r a.c - z.1⟩ (0, [], .slice none 0 0) ⟨Nat.zero_le _, OwnZ.nil⟩ (by repeat first | exact trivial | refine ⟨rfl, ?_⟩) ?_ (fun z hz => ?_)
  · exact HSub.at 0 rfl (HSub.skip (by show HSub (N3 ++ []) (N1 ++ (N2 ++ (N3 ++ (N4 ++ N5))) ++ []); simp only [List.append_nil]; exact HSub.skipN (HSub.skipN HSub.in0)))
  obtain ⟨k, N, v4⟩ := z
  obtain ⟨hk, hO⟩ := hz
  dsimp only at hk hO ⊢
  by_cases hlt : k < min a.r a.c
  · have hk1 : k < a.r := by omega
    have hk2 : k < a.c := by omega
    have hx : (gE S'.d k k).natAbs < 256 ^ (K + 1) := okG_at hbS.d k k
    (repeat' (first | refine JC.seq ?_ | refine JC.ops ?_ | refine JO.nil ?_ | refine JX.thenN ?_ | (apply r_move; (iterate 3 exact rfl)) | (apply r_assign; (iterate 3 exact rfl)) | (apply r_loadN; (iterate 4 exact rfl); exact at0; exact rfl) | (apply r_lss; (iterate 4 exact rfl); all_goals intro hc; all_goals try (exfalso; omega)) | refine JC.skip ?_ | refine JC.condT rfl ?_ | refine JC.block ?_))
    refine r_call0 (by first | trivial | exact ⟨rfl, rfl⟩) rfl (by first | rfl | exact ⟨rfl, rfl⟩) rfl (fun w hk hs => c_At w _ (gM a.r a.c S'.d) (k : Int) (k : Int) hgR ⟨_, rfl, hO3z.rd.at hk hs (by (repeat' first | exact HSub.nil _ | exact HSub.hd | exact HSub.in0 | exact HSub.refl _ | refine HSub.skip ?_ | refine HSub.skipN ?_))⟩) fun w v w' _ _ _ hR => ?_
    rw [gM_at hD.d hk1 hk2] at hR
    subst hR
    (repeat' (first | refine JC.seq ?_ | refine JC.ops ?_ | refine JO.nil ?_ | refine JX.thenN ?_ | (apply r_loadN; (iterate 4 exact rfl); exact at0; exact rfl) | (apply r_storeN; exact rfl; (first | exact trivial | exact ⟨rfl, rfl⟩); exact rfl; exact rfl; exact at0; (iterate 3 exact rfl)) | (apply r_allocZ; (iterate 3 exact rfl); intro _) | (apply r_storeN; exact rfl; (first | exact trivial | exact ⟨rfl, rfl⟩); exact rfl; exact rfl; exact at0; (iterate 3 exact rfl))))
    refine r_call0 (by first | trivial | exact ⟨rfl, rfl⟩) rfl (by first | rfl | exact ⟨rfl, rfl⟩) rfl (fun w _ _ => c_Sign w _ (gE S'.d k k) (K + 1) (IsZ.can hx) (by omega)) fun w v w' _ _ _ hR => ?_
    subst hR
    by_cases hz : gE S'.d k k = 0
    · rw [← facP_zero hz] at hO
      rw [show (gE S'.d k k).sign = 0 by rw [hz]; rfl]
      (repeat' (first | refine JC.ops ?_ | refine JO.nil ?_ | refine JX.thenN ?_ | (apply r_move; (iterate 3 exact rfl)) | (apply r_add1; (iterate 4 exact rfl); omega) | (apply r_neq; (iterate 4 exact rfl); all_goals intro hc; all_goals try (exfalso; omega)) | refine JC.skip ?_ | refine JC.condF rfl ?_ | refine JX.blockN ?_))
      exact JX.roundH (k + 1, N, v4) ⟨by dsimp only; omega, hO⟩ (by dsimp only; omega) (by repeat first | exact trivial | refine ⟨rfl, ?_⟩) (by (repeat' first | exact HSub.refl _ | exact HSub.nil _ | refine HSub.at 0 rfl ?_ | refine HSub.at 1 rfl ?_ | refine HSub.at 2 rfl ?_ | refine HSub.at 3 rfl ?_ | refine HSub.at 4 rfl ?_ | refine HSub.at 5 rfl ?_ | refine HSub.at 6 rfl ?_ | refine HSub.at 7 rfl ?_ | refine HSub.at 8 rfl ?_ | refine HSub.at 9 rfl ?_ | refine HSub.at 10 rfl ?_ | refine HSub.at 11 rfl ?_ | refine HSub.at 12 rfl ?_ | refine HSub.at 13 rfl ?_ | refine HSub.at 14 rfl ?_ | refine HSub.at 15 rfl ?_ | refine HSub.at 16 rfl ?_ | refine HSub.at 17 rfl ?_ | refine HSub.at 18 rfl ?_ | refine HSub.at 19 rfl ?_ | refine HSub.segH ?_ | refine HSub.skip ?_ | refine HSub.skipN ?_))
    · have hsz : ¬ (gE S'.d k k).sign = 0 := fun h => hz (Int.sign_eq_zero_iff_zero.1 h)
      have hfs := facP_succ hz
      have hfl := facP_le S'.d k
      (repeat' (first | refine JC.ops ?_ | refine JO.nil ?_ | refine JX.thenN ?_ | (apply r_move; (iterate 3 exact rfl)) | (apply r_loadN; (iterate 4 exact rfl); exact at0; exact rfl) | (apply r_neq; (iterate 4 exact rfl); all_goals intro hc; all_goals try (exfalso; omega)) | refine JC.condT rfl ?_))
      refine r_buildG (sz := 2) (vs := [Wv (gE S'.d k k)]) (cl := [.bool (wz (gE S'.d k k)).1, sv (wz (gE S'.d k k)).2]) rfl rfl (by first | rfl | trivial | exact ⟨rfl, rfl⟩) rfl rfl (fun v hv => by
        cases List.mem_singleton.1 hv; rfl) rfl (by decide) (by decide) (fun b => ?_)
      have h1 := own_oneW b (gE S'.d k k)
      skip
      refine r_appendZ (A := _ :: _ :: _ :: N3) (B := []) hO h1.rd (by (repeat' first | exact HSub.nil _ | exact HSub.hd | exact HSub.in0 | exact HSub.refl _ | refine HSub.skip ?_ | refine HSub.skipN ?_)) rfl (by first | trivial | exact ⟨rfl, rfl⟩) rfl rfl rfl rfl (by omega) (fun v' N' hO' => ?_)
      rw [← hfs, show (facP S'.d k).length + 1 = (facP S'.d (k + 1)).length by rw [hfs]; simp] at hO'
      (repeat' (first | refine JC.ops ?_ | refine JO.nil ?_ | refine JX.thenN ?_ | (apply r_move; (iterate 3 exact rfl)) | (apply r_assign; (iterate 3 exact rfl)) | (apply r_add1; (iterate 4 exact rfl); omega) | refine JX.blockN ?_))
      exact JX.roundH (k + 1, N', v') ⟨by dsimp only; omega, hO'⟩ (by dsimp only; omega) (by repeat first | exact trivial | refine ⟨rfl, ?_⟩) (by exact HSub.skip (HSub.skip (by simp only [List.cons_append, List.nil_append, List.append_assoc]; exact HSub.refl _)))
  · obtain rfl : k = min a.r a.c := by omega
    (repeat' (first | refine JC.seq ?_ | refine JC.ops ?_ | refine JO.nil ?_ | refine JX.thenN ?_ | (apply r_move; (iterate 3 exact rfl)) | (apply r_assign; (iterate 3 exact rfl)) | (apply r_lss; (iterate 4 exact rfl); all_goals intro hc; all_goals try (exfalso; omega)) | refine JX.thenE ?_ | refine JC.exit ?_ | refine JC.ret ?_ | refine JC.condF rfl ?_ | refine JX.blockE ?_))
    exact JX.ret1 rfl (fun a w' st => ⟨st.kp, N, st.newOf rfl (by (repeat' first | exact HSub.nil _ | exact HSub.hd | exact HSub.in0 | exact HSub.refl _ | refine HSub.skip ?_ | refine HSub.skipN ?_)), hO⟩)

theorem c_Rank (K fc f : Nat) (w : World) (v : Value) (a : ZM) (S' : Sm) (ha : RtZ a) (hv : IsM w v a) (hK : K + 1 ≤ 9000000) (hb : BdZ (K + 1) a)
    (hf : formF (K + 1) fc f a.r a.c (min a.r a.c) 0 (startS a.r a.c (rowsOf a)) = some S') :
    Calls Tryd.prog 18 #[v] w (Ret fun v w' => Kp [] w w' ∧ v = nv (facP S'.d (min a.r a.c)).length) := by
  have hv0 := hv
  have hr := ha.r
  have hfl := facP_le S'.d (min a.r a.c)
  obtain ⟨E, rfl, hE⟩ := hv
  refine calls_of_S [] [] (by simp) [] Tryd.func18 rfl mixed (by kernel_rfl) Tryd.ntmps18 Tryd.results18 rfl ⟨by simp, by simp⟩ (by simp) ?_
  simp only [toS, textOps, toSOp, kindAt, kindOf, odAt, sopsAt, ordOf, zipF]
  (repeat' (first | refine JC.seq ?_ | refine JC.ops ?_ | refine JO.nil ?_ | refine JX.thenN ?_ | (apply r_assign; (iterate 3 exact rfl)) | (apply r_loadN; (iterate 4 exact rfl); exact at0; exact rfl) | (apply r_boxA; (iterate 4 exact rfl); intro _)))
  refine r_callA (A := [_]) (B := []) rfl (by first | trivial | exact ⟨rfl, rfl⟩) rfl (by first | rfl | exact ⟨rfl, rfl⟩) rfl (fun w hk hs => c_Factors K fc f w _ a S' ha (hv0.mono hk) hK hb hf) fun w v w' _ _ _ hR => ?_
  obtain ⟨N, hN, hO⟩ := hR
  obtain ⟨A, cc, rfl⟩ := hO.form
  refine ⟨_, hN, ?_⟩
  (repeat' (first | refine JO.nil ?_ | refine JX.thenN ?_ | (apply r_assign; (iterate 3 exact rfl)) | (apply r_lenZ; (iterate 3 exact rfl); (first | assumption | exact WZ.rd (by assumption) rfl [] | exact OwnZ.rd (by assumption))) | refine JC.ret ?_))
  exact JX.ret1 rfl (fun a w' st => ⟨st.kp, rfl⟩)


set_option maxHeartbeats 4000000 in
theorem c_inverse (K L : Nat) (w : World) (v u : Value) (a b : ZM) (ha : RtZ a) (hb : RtZ b) (hv : IsM w v a) (hu : IsM w u b) (n : Nat) (hn : n ≤ 200) (h1 : a.r = n) (h2 : a.c = n) (h3 : b.r = n) (hab : mulZ a b = oneZ n) (hK : BdZ K a) (hL : BdZ L b) (hKL : K + L ≤ 9000000) :
    Calls Tryd.prog 42 #[v, u, nv n] w (Ret fun v w' => Kp [] w w' ∧ v = .bool true) := by
  have hv0 := hv
  have hu0 := hu
  obtain ⟨E, rfl, hE⟩ := hv
  obtain ⟨E', rfl, hE'⟩ := hu
  have hoR : RtZ (oneZ n) := zof_rt hn hn
  refine calls_of_S [⟨2, 1, [], []⟩] [] (by simp) [] Tryd.func42 rfl mixed (by kernel_rfl) Tryd.ntmps42 Tryd.results42 rfl ⟨by simp, by simp⟩ (by simp) ?_
  simp only [toS, textOps, toSOp, kindAt, kindOf, odAt, sopsAt, ordOf, zipF]
  (repeat' (first | refine JC.seq ?_ | refine JC.ops ?_ | refine JO.nil ?_ | refine JX.thenN ?_ | (apply r_assign; (iterate 3 exact rfl)) | (apply r_loadN; (iterate 4 exact rfl); (first | exact at0 | exact at1); exact rfl) | (apply r_boxA; (iterate 4 exact rfl); intro _)))
  rename_i b1 b2
  refine r_callA (A := [_, _]) (B := []) rfl (by first | trivial | exact ⟨rfl, rfl⟩) rfl (by first | rfl | exact ⟨rfl, rfl⟩) rfl (fun w hk hs => c_MMul K L w _ _ a b ha hb (by omega) (by omega) hK hL (hv0.mono hk) (hu0.mono hk)) fun w v w' _ _ _ hR => ?_
  rw [hab] at hR
  obtain ⟨N1, u1, rfl, hN1, hO1⟩ := hR
  obtain ⟨E1, rfl, hO1⟩ := hO1
  obtain ⟨A1, c1, rfl⟩ := hO1.form
  refine ⟨N1, hN1, ?_⟩
  rw [h1, h2]
  (repeat' (first | refine JC.seq ?_ | refine JC.opsD ?_ | refine JO.nil ?_ | refine JX.thenN ?_ | (apply r_move; (iterate 3 exact rfl)) | (apply r_fieldAddr; (iterate 3 exact rfl)) | (apply r_assign; (iterate 3 exact rfl)) | (apply r_load; (iterate 4 exact rfl); (first | exact at0 | exact at2); exact rfl) | (apply r_loadN; (iterate 4 exact rfl); (first | exact at0 | exact at2); exact rfl) | (apply r_pickT; (iterate 4 exact rfl)) | (apply r_extract; (iterate 4 exact rfl)) | (apply r_storeN; exact rfl; (first | exact trivial | exact ⟨rfl, rfl⟩); exact rfl; exact rfl; (first | exact at0 | exact at2); (iterate 3 exact rfl)) | (apply r_eql; (iterate 4 exact rfl); all_goals intro hc; all_goals try (exfalso; omega)) | (apply r_allocZ; (iterate 3 exact rfl); intro _) | (apply r_storeN; exact rfl; (first | exact trivial | exact ⟨rfl, rfl⟩); exact rfl; exact rfl; (first | exact at0 | exact at2); (iterate 3 exact rfl))))
  refine r_callA (A := [_, _, _]) (B := N1 ++ []) rfl (by first | trivial | exact ⟨rfl, rfl⟩) rfl (by first | rfl | exact ⟨rfl, rfl⟩) rfl (fun w hk hs => c_One n hn w) fun w v w' _ _ _ hR => ?_
  obtain ⟨N2, hN2, E2, rfl, hO2⟩ := hR
  obtain ⟨A2, c2, rfl⟩ := hO2.form
  refine ⟨N2, hN2, ?_⟩
  skip
  refine r_call0 (by first | trivial | exact ⟨rfl, rfl⟩) rfl (by first | rfl | exact ⟨rfl, rfl⟩) rfl (fun w hk hs => c_Equal w _ _ (oneZ n) (oneZ n) hoR hoR ⟨_, rfl, hO1.rd.at hk hs (by (repeat' first | exact HSub.nil _ | exact HSub.hd | exact HSub.in0 | exact HSub.refl _ | refine HSub.skip ?_ | refine HSub.skipN ?_))⟩ ⟨_, rfl, hO2.rd.at hk hs (by (repeat' first | exact HSub.nil _ | exact HSub.hd | exact HSub.in0 | exact HSub.refl _ | refine HSub.skip ?_ | refine HSub.skipN ?_))⟩) fun w v w' _ _ _ hR => ?_
  obtain ⟨t, rfl, ht⟩ := hR
  obtain rfl : t = true := ht.2 rfl
  (repeat' (first | refine JO.nil ?_ | refine JX.thenN ?_ | (apply r_assign; (iterate 3 exact rfl)) | (apply r_pickT; (iterate 4 exact rfl)) | refine JC.ret ?_))
  exact JX.ret1 rfl (fun a w' st => ⟨st.kp, rfl⟩)

def NormalP (a : ZM) : Prop := ∀ i j, i < a.r → j < a.c → (i ≠ j → atZ a i j = 0) ∧ (i = j → 0 ≤ atZ a i i ∧ (0 < i → if atZ a (i - 1 : Nat) (i - 1 : Nat) = 0 then atZ a i i = 0 else atZ a i i % atZ a (i - 1 : Nat) (i - 1 : Nat) = 0))
set_option maxHeartbeats 4000000 in
theorem c_normal (K : Nat) (w : World) (v : Value) (a : ZM) (ha : RtZ a) (hv : IsM w v a) (hK : BdZ K a) (hKL : K ≤ 9000000) (hn : NormalP a) :
    Calls Tryd.prog 45 #[v] w (Ret fun v w' => Kp [] w w' ∧ v = .bool true) := by
  have hv0 := hv
  have hr := ha.r
  have hac := ha.c
  obtain ⟨E, rfl, hE⟩ := hv
  have hbx : ∀ i j : Nat, i < a.r → j < a.c → (atZ a i j).natAbs < 256 ^ K := fun i j hi hj => by
    unfold atZ
    rw [if_pos ⟨by omega, by omega, by omega, by omega⟩]
    exact hK _
  refine calls_of_S [⟨14, 3, [], []⟩] [] (by simp) [] Tryd.func45 rfl mixed (by kernel_rfl) Tryd.ntmps45 Tryd.results45 rfl ⟨by simp, by simp⟩ (by simp) ?_
  simp only [toS, textOps, toSOp, kindAt, kindOf, odAt, sopsAt, ordOf, zipF]
  (repeat' (first | refine JC.seq ?_ | refine JC.ops ?_ | refine JO.nil ?_ | refine JX.thenN ?_ | (apply r_move; (iterate 3 exact rfl)) | (apply r_fieldAddr; (iterate 3 exact rfl)) | (apply r_assign; (iterate 3 exact rfl)) | (apply r_load; (iterate 4 exact rfl); exact at0; exact rfl) | (apply r_boxA; (iterate 4 exact rfl); intro _) | refine JC.block ?_))
  rename_i b1
  refine JC.loopH (ι := Nat) ⟨fun z => [(11, nv z), (10, nv a.r), (1, .pointer (some ⟨b1, 0, none⟩)), (2, .bool false)], fun z => [(b1, .cells #[nv a.r, nv a.c, E] 28)],
    fun z => z ≤ a.r, fun z => a.r - z⟩ 0 (Nat.zero_le _) (by repeat first | exact trivial | refine ⟨rfl, ?_⟩) (by (repeat' first | exact HSub.refl _ | exact HSub.nil _ | refine HSub.at 0 rfl ?_ | refine HSub.at 1 rfl ?_ | refine HSub.at 2 rfl ?_ | refine HSub.at 3 rfl ?_ | refine HSub.at 4 rfl ?_ | refine HSub.at 5 rfl ?_ | refine HSub.at 6 rfl ?_ | refine HSub.at 7 rfl ?_ | refine HSub.at 8 rfl ?_ | refine HSub.at 9 rfl ?_ | refine HSub.at 10 rfl ?_ | refine HSub.at 11 rfl ?_ | refine HSub.at 12 rfl ?_ | refine HSub.at 13 rfl ?_ | refine HSub.at 14 rfl ?_ | refine HSub.at 15 rfl ?_ | refine HSub.at 16 rfl ?_ | refine HSub.at 17 rfl ?_ | refine HSub.at 18 rfl ?_ | refine HSub.at 19 rfl ?_ | refine HSub.segH ?_ | refine HSub.skip ?_ | refine HSub.skipN ?_)) (fun i hi => ?_)
  dsimp only at hi ⊢
  by_cases hlt : i < a.r
  · (repeat' (first | refine JC.seq ?_ | refine JC.ops ?_ | refine JO.nil ?_ | refine JX.thenN ?_ | (apply r_move; (iterate 3 exact rfl)) | (apply r_fieldAddr; (iterate 3 exact rfl)) | (apply r_assign; (iterate 3 exact rfl)) | (apply r_load; (iterate 4 exact rfl); exact at0; exact rfl) | (apply r_lss; (iterate 4 exact rfl); all_goals intro hc; all_goals try (exfalso; omega)) | refine JC.skip ?_ | refine JC.condT rfl ?_ | refine JC.block ?_))
    refine JC.loopH (ι := Nat) ⟨fun z => [(16, nv z), (15, nv a.c), (3, nv i), (11, nv i), (10, nv a.r), (1, .pointer (some ⟨b1, 0, none⟩)), (2, .bool false)], fun z => [(b1, .cells #[nv a.r, nv a.c, E] 28)],
      fun z => z ≤ a.c, fun z => a.c - z⟩ 0 (Nat.zero_le _) (by repeat first | exact trivial | refine ⟨rfl, ?_⟩) (by (repeat' first | exact HSub.refl _ | exact HSub.nil _ | refine HSub.at 0 rfl ?_ | refine HSub.at 1 rfl ?_ | refine HSub.at 2 rfl ?_ | refine HSub.at 3 rfl ?_ | refine HSub.at 4 rfl ?_ | refine HSub.at 5 rfl ?_ | refine HSub.at 6 rfl ?_ | refine HSub.at 7 rfl ?_ | refine HSub.at 8 rfl ?_ | refine HSub.at 9 rfl ?_ | refine HSub.at 10 rfl ?_ | refine HSub.at 11 rfl ?_ | refine HSub.at 12 rfl ?_ | refine HSub.at 13 rfl ?_ | refine HSub.at 14 rfl ?_ | refine HSub.at 15 rfl ?_ | refine HSub.at 16 rfl ?_ | refine HSub.at 17 rfl ?_ | refine HSub.at 18 rfl ?_ | refine HSub.at 19 rfl ?_ | refine HSub.segH ?_ | refine HSub.skip ?_ | refine HSub.skipN ?_)) (fun j hj => ?_)
    dsimp only at hj ⊢
    by_cases hjt : j < a.c
    · obtain ⟨hne, heq⟩ := hn i j hlt hjt
      have hx := hbx i j hlt hjt
      (repeat' (first | refine JC.seq ?_ | refine JC.ops ?_ | refine JO.nil ?_ | refine JX.thenN ?_ | (apply r_move; (iterate 3 exact rfl)) | (apply r_assign; (iterate 3 exact rfl)) | (apply r_loadN; (iterate 4 exact rfl); exact at0; exact rfl) | (apply r_lss; (iterate 4 exact rfl); all_goals intro hc; all_goals try (exfalso; omega)) | refine JC.skip ?_ | refine JC.condT rfl ?_ | refine JC.block ?_))
      refine r_call0 (by first | trivial | exact ⟨rfl, rfl⟩) rfl (by first | rfl | exact ⟨rfl, rfl⟩) rfl (fun w hk hs => c_At w _ a (i : Int) (j : Int) ha (hv0.mono hk)) fun w v w' _ _ _ hR => ?_
      subst hR
      by_cases hij : i = j
      · subst hij
        obtain ⟨h0, hdv⟩ := heq rfl
        clear hne heq
        (repeat' (first | refine JC.seq ?_ | refine JC.ops ?_ | refine JO.nil ?_ | refine JX.thenN ?_ | (apply r_move; (iterate 3 exact rfl)) | (apply r_assign; (iterate 3 exact rfl)) | (apply r_loadN; (iterate 4 exact rfl); exact at0; exact rfl) | (apply r_storeN; exact rfl; (first | exact trivial | exact ⟨rfl, rfl⟩); exact rfl; exact rfl; exact at0; (iterate 3 exact rfl)) | (apply r_neq; (iterate 4 exact rfl); all_goals intro hc; all_goals try (exfalso; omega)) | (apply r_allocZ; (iterate 3 exact rfl); intro _) | (apply r_storeN; exact rfl; (first | exact trivial | exact ⟨rfl, rfl⟩); exact rfl; exact rfl; exact at0; (iterate 3 exact rfl)) | refine JC.condF rfl ?_ | refine JC.block ?_))
        refine r_call0 (by first | trivial | exact ⟨rfl, rfl⟩) rfl (by first | rfl | exact ⟨rfl, rfl⟩) rfl (fun w _ _ => c_Sign w _ (atZ a i i) K (IsZ.can hx) (by omega)) fun w v w' _ _ _ hR => ?_
        subst hR
        have hsg : ¬ (atZ a i i).sign < 0 := fun h => by have := Int.sign_neg_iff.1 h; omega
        by_cases hi0 : 0 < i
        · have hdv := hdv hi0
          have hy := hbx (i - 1) (i - 1) (by omega) (by omega)
          (repeat' (first | refine JC.seq ?_ | refine JC.ops ?_ | refine JC.opsD ?_ | refine JO.nil ?_ | refine JX.thenN ?_ | (apply r_move; (iterate 3 exact rfl)) | (apply r_assign; (iterate 3 exact rfl)) | (apply r_loadN; (iterate 4 exact rfl); (first | exact at0 | exact at1); exact rfl) | (apply r_sub1; (iterate 4 exact rfl); omega) | (apply r_lss; (iterate 4 exact rfl); all_goals intro hc; all_goals try (exfalso; omega)) | (apply r_gtr; (iterate 4 exact rfl); all_goals intro hc; all_goals try (exfalso; omega)) | refine JC.condT rfl ?_ | refine JC.condF rfl ?_))
          refine r_call0 (by first | trivial | exact ⟨rfl, rfl⟩) rfl (by first | rfl | exact ⟨rfl, rfl⟩) rfl (fun w hk hs => c_At w _ a ((i - 1 : Nat) : Int) ((i - 1 : Nat) : Int) ha (hv0.mono hk)) fun w v w' _ _ _ hR => ?_
          subst hR
          skip
          refine r_call0 (by first | trivial | exact ⟨rfl, rfl⟩) rfl (by first | rfl | exact ⟨rfl, rfl⟩) rfl (fun w _ _ => c_Quo w _ _ (atZ a i i) (atZ a (i - 1 : Nat) (i - 1 : Nat)) K (IsZ.can hx) (IsZ.can hy) (by omega)) fun w v w' _ _ _ hR => ?_
          by_cases hy0 : atZ a (i - 1 : Nat) (i - 1 : Nat) = 0
          · rw [if_pos hy0] at hR hdv
            subst hR
            (repeat' (first | refine JC.seq ?_ | refine JC.ops ?_ | refine JO.nil ?_ | refine JX.thenN ?_ | (apply r_move; (iterate 3 exact rfl)) | (apply r_assign; (iterate 3 exact rfl)) | (apply r_loadN; (iterate 4 exact rfl); (first | exact at0 | exact at1 | exact at2); exact rfl) | (apply r_pickF; (iterate 4 exact rfl)) | (apply r_not; (iterate 3 exact rfl)) | (apply r_extract; (iterate 4 exact rfl)) | (apply r_storeN; exact rfl; (first | exact trivial | exact ⟨rfl, rfl⟩); exact rfl; exact rfl; (first | exact at0 | exact at1 | exact at2); (iterate 3 exact rfl)) | (apply r_allocZ; (iterate 3 exact rfl); intro _) | (apply r_storeN; exact rfl; (first | exact trivial | exact ⟨rfl, rfl⟩); exact rfl; exact rfl; (first | exact at0 | exact at1 | exact at2); (iterate 3 exact rfl)) | (apply r_skip; exact rfl; exact rfl; (first | (intro h; cases h; done) | (intro _; rfl)))))
            refine r_call0 (by first | trivial | exact ⟨rfl, rfl⟩) rfl (by first | rfl | exact ⟨rfl, rfl⟩) rfl (fun w _ _ => c_Sign w _ (atZ a i i) K (IsZ.can hx) (by omega)) fun w v w' _ _ _ hR => ?_
            subst hR
            rw [hdv, show Int.sign 0 = 0 from rfl]
            (repeat' (first | refine JC.ops ?_ | refine JO.nil ?_ | refine JX.thenN ?_ | (apply r_move; (iterate 3 exact rfl)) | (apply r_add1; (iterate 4 exact rfl); omega) | (apply r_pickT; (iterate 4 exact rfl)) | (apply r_pickF; (iterate 4 exact rfl)) | (apply r_neq; (iterate 4 exact rfl); all_goals intro hc; all_goals try (exfalso; omega)) | refine JC.skip ?_ | refine JC.condF rfl ?_ | refine JX.blockN ?_))
            exact JX.roundH (i + 1) (by dsimp only; omega) (by dsimp only; omega) (by repeat first | exact trivial | refine ⟨rfl, ?_⟩) (by (repeat' first | exact HSub.refl _ | exact HSub.nil _ | refine HSub.at 0 rfl ?_ | refine HSub.at 1 rfl ?_ | refine HSub.at 2 rfl ?_ | refine HSub.at 3 rfl ?_ | refine HSub.at 4 rfl ?_ | refine HSub.at 5 rfl ?_ | refine HSub.at 6 rfl ?_ | refine HSub.at 7 rfl ?_ | refine HSub.at 8 rfl ?_ | refine HSub.at 9 rfl ?_ | refine HSub.at 10 rfl ?_ | refine HSub.at 11 rfl ?_ | refine HSub.at 12 rfl ?_ | refine HSub.at 13 rfl ?_ | refine HSub.at 14 rfl ?_ | refine HSub.at 15 rfl ?_ | refine HSub.at 16 rfl ?_ | refine HSub.at 17 rfl ?_ | refine HSub.at 18 rfl ?_ | refine HSub.at 19 rfl ?_ | refine HSub.segH ?_ | refine HSub.skip ?_ | refine HSub.skipN ?_))
          · rw [if_neg hy0] at hR hdv
            rw [hdv] at hR
            subst hR
            (repeat' (first | refine JC.seq ?_ | refine JC.ops ?_ | refine JO.nil ?_ | refine JX.thenN ?_ | (apply r_move; (iterate 3 exact rfl)) | (apply r_assign; (iterate 3 exact rfl)) | (apply r_loadN; (iterate 4 exact rfl); (first | exact at0 | exact at1); exact rfl) | (apply r_extract; (iterate 4 exact rfl)) | (apply r_storeN; exact rfl; (first | exact trivial | exact ⟨rfl, rfl⟩); exact rfl; exact rfl; (first | exact at0 | exact at1); (iterate 3 exact rfl)) | (apply r_allocZ; (iterate 3 exact rfl); intro _) | (apply r_storeN; exact rfl; (first | exact trivial | exact ⟨rfl, rfl⟩); exact rfl; exact rfl; (first | exact at0 | exact at1); (iterate 3 exact rfl))))
            refine r_call0 (by first | trivial | exact ⟨rfl, rfl⟩) rfl (by first | rfl | exact ⟨rfl, rfl⟩) rfl (fun w _ _ => c_Sign w _ 0 K (IsZ.can (pos256 K)) (by omega)) fun w v w' _ _ _ hR => ?_
            subst hR
            rw [show Int.sign 0 = 0 from rfl]
            (repeat' (first | refine JC.ops ?_ | refine JO.nil ?_ | refine JX.thenN ?_ | (apply r_move; (iterate 3 exact rfl)) | (apply r_add1; (iterate 4 exact rfl); omega) | (apply r_pickT; (iterate 4 exact rfl)) | (apply r_pickF; (iterate 4 exact rfl)) | (apply r_not; (iterate 3 exact rfl)) | (apply r_neq; (iterate 4 exact rfl); all_goals intro hc; all_goals try (exfalso; omega)) | refine JC.skip ?_ | refine JC.condF rfl ?_ | refine JX.blockN ?_ | (apply r_skip; exact rfl; exact rfl; (first | (intro h; cases h; done) | (intro _; rfl)))))
            exact JX.roundH (i + 1) (by dsimp only; omega) (by dsimp only; omega) (by repeat first | exact trivial | refine ⟨rfl, ?_⟩) (by (repeat' first | exact HSub.refl _ | exact HSub.nil _ | refine HSub.at 0 rfl ?_ | refine HSub.at 1 rfl ?_ | refine HSub.at 2 rfl ?_ | refine HSub.at 3 rfl ?_ | refine HSub.at 4 rfl ?_ | refine HSub.at 5 rfl ?_ | refine HSub.at 6 rfl ?_ | refine HSub.at 7 rfl ?_ | refine HSub.at 8 rfl ?_ | refine HSub.at 9 rfl ?_ | refine HSub.at 10 rfl ?_ | refine HSub.at 11 rfl ?_ | refine HSub.at 12 rfl ?_ | refine HSub.at 13 rfl ?_ | refine HSub.at 14 rfl ?_ | refine HSub.at 15 rfl ?_ | refine HSub.at 16 rfl ?_ | refine HSub.at 17 rfl ?_ | refine HSub.at 18 rfl ?_ | refine HSub.at 19 rfl ?_ | refine HSub.segH ?_ | refine HSub.skip ?_ | refine HSub.skipN ?_))
        · obtain rfl : i = 0 := by omega
          (repeat' (first | refine JC.seq ?_ | refine JC.ops ?_ | refine JO.nil ?_ | refine JX.thenN ?_ | (apply r_move; (iterate 3 exact rfl)) | (apply r_assign; (iterate 3 exact rfl)) | (apply r_add1; (iterate 4 exact rfl); omega) | (apply r_lss; (iterate 4 exact rfl); all_goals intro hc; all_goals try (exfalso; omega)) | (apply r_gtr; (iterate 4 exact rfl); all_goals intro hc; all_goals try (exfalso; omega)) | refine JC.skip ?_ | refine JC.condF rfl ?_ | refine JX.blockN ?_))
          exact JX.roundH (0 + 1) (by dsimp only; omega) (by dsimp only; omega) (by repeat first | exact trivial | refine ⟨rfl, ?_⟩) (by (repeat' first | exact HSub.refl _ | exact HSub.nil _ | refine HSub.at 0 rfl ?_ | refine HSub.at 1 rfl ?_ | refine HSub.at 2 rfl ?_ | refine HSub.at 3 rfl ?_ | refine HSub.at 4 rfl ?_ | refine HSub.at 5 rfl ?_ | refine HSub.at 6 rfl ?_ | refine HSub.at 7 rfl ?_ | refine HSub.at 8 rfl ?_ | refine HSub.at 9 rfl ?_ | refine HSub.at 10 rfl ?_ | refine HSub.at 11 rfl ?_ | refine HSub.at 12 rfl ?_ | refine HSub.at 13 rfl ?_ | refine HSub.at 14 rfl ?_ | refine HSub.at 15 rfl ?_ | refine HSub.at 16 rfl ?_ | refine HSub.at 17 rfl ?_ | refine HSub.at 18 rfl ?_ | refine HSub.at 19 rfl ?_ | refine HSub.segH ?_ | refine HSub.skip ?_ | refine HSub.skipN ?_))
      · have hx0 := hne hij
        rw [hx0]
        (repeat' (first | refine JC.seq ?_ | refine JC.ops ?_ | refine JO.nil ?_ | refine JX.thenN ?_ | (apply r_move; (iterate 3 exact rfl)) | (apply r_assign; (iterate 3 exact rfl)) | (apply r_loadN; (iterate 4 exact rfl); exact at0; exact rfl) | (apply r_storeN; exact rfl; (first | exact trivial | exact ⟨rfl, rfl⟩); exact rfl; exact rfl; exact at0; (iterate 3 exact rfl)) | (apply r_neq; (iterate 4 exact rfl); all_goals intro hc; all_goals try (exfalso; omega)) | (apply r_allocZ; (iterate 3 exact rfl); intro _) | (apply r_storeN; exact rfl; (first | exact trivial | exact ⟨rfl, rfl⟩); exact rfl; exact rfl; exact at0; (iterate 3 exact rfl)) | refine JC.condT rfl ?_ | refine JC.block ?_))
        refine r_call0 (by first | trivial | exact ⟨rfl, rfl⟩) rfl (by first | rfl | exact ⟨rfl, rfl⟩) rfl (fun w _ _ => c_Sign w _ 0 K (IsZ.can (pos256 K)) (by omega)) fun w v w' _ _ _ hR => ?_
        subst hR
        rw [show Int.sign 0 = 0 from rfl]
        (repeat' (first | refine JC.ops ?_ | refine JO.nil ?_ | refine JX.thenN ?_ | (apply r_move; (iterate 3 exact rfl)) | (apply r_add1; (iterate 4 exact rfl); omega) | (apply r_neq; (iterate 4 exact rfl); all_goals intro hc; all_goals try (exfalso; omega)) | refine JC.skip ?_ | refine JC.condF rfl ?_ | refine JX.blockN ?_))
        exact JX.roundH (j + 1) (by dsimp only; omega) (by dsimp only; omega) (by repeat first | exact trivial | refine ⟨rfl, ?_⟩) (by (repeat' first | exact HSub.refl _ | exact HSub.nil _ | refine HSub.at 0 rfl ?_ | refine HSub.at 1 rfl ?_ | refine HSub.at 2 rfl ?_ | refine HSub.at 3 rfl ?_ | refine HSub.at 4 rfl ?_ | refine HSub.at 5 rfl ?_ | refine HSub.at 6 rfl ?_ | refine HSub.at 7 rfl ?_ | refine HSub.at 8 rfl ?_ | refine HSub.at 9 rfl ?_ | refine HSub.at 10 rfl ?_ | refine HSub.at 11 rfl ?_ | refine HSub.at 12 rfl ?_ | refine HSub.at 13 rfl ?_ | refine HSub.at 14 rfl ?_ | refine HSub.at 15 rfl ?_ | refine HSub.at 16 rfl ?_ | refine HSub.at 17 rfl ?_ | refine HSub.at 18 rfl ?_ | refine HSub.at 19 rfl ?_ | refine HSub.segH ?_ | refine HSub.skip ?_ | refine HSub.skipN ?_))
    · (repeat' (first | refine JC.seq ?_ | refine JC.ops ?_ | refine JO.nil ?_ | refine JX.thenN ?_ | (apply r_move; (iterate 3 exact rfl)) | (apply r_add1; (iterate 4 exact rfl); omega) | (apply r_lss; (iterate 4 exact rfl); all_goals intro hc; all_goals try (exfalso; omega)) | refine JX.thenE ?_ | refine JC.exit ?_ | refine JC.condF rfl ?_ | refine JX.blockN ?_ | refine JX.blockE ?_))
      exact JX.roundH (i + 1) (by dsimp only; omega) (by dsimp only; omega) (by repeat first | exact trivial | refine ⟨rfl, ?_⟩) (HSub.refl _)
  · (repeat' (first | refine JC.seq ?_ | refine JC.ops ?_ | refine JO.nil ?_ | refine JX.thenN ?_ | (apply r_assign; (iterate 3 exact rfl)) | (apply r_lss; (iterate 4 exact rfl); all_goals intro hc; all_goals try (exfalso; omega)) | refine JX.thenE ?_ | refine JC.exit ?_ | refine JC.ret ?_ | refine JC.condF rfl ?_ | refine JX.blockE ?_))
    exact JX.ret1 rfl (fun a w' st => ⟨st.kp, rfl⟩)


section
variable {c : Cx} {Q : Exit → Act → World → Prop} {m : Mode} {F : SFrame} {H : SHeap} {r : List SOp} {g : Option (Option Tmp × Bool)} {ns : Bool} {d : Tmp} {ty t : TypeId} {x : Operand}
theorem r_load3 {b o : Nat} (k : Nat) {cs : Array Value} {x1 x2 x3 : Value} {T : TypeId} {fz : Nat × Nat} [TN c.P t 3] (hd : dstOk c.n (some d) = true) (hg : guardF F g = some true) (hx : ev F x = some (.pointer (some ⟨b, o, none⟩))) (hl : m.live = true)
    (hb : (m.src H)[k]? = some (b, .cells cs T fz)) (h1 : cs[o]? = some x1) (h2 : cs[o + 1]? = some x2) (h3 : cs[o + 2]? = some x3) (h : JO c Q m r ((d, (.agg #[x1, x2, x3])) :: F) H) : JO c Q m (⟨some d, .load t x, ty, g, .ld, ns⟩ :: r) F H :=
  r_loadM k hd hg hx hl hb (vs := #[x1, x2, x3]) rfl (fun j hj => by
    match j, hj with
    | 0, _ => exact h1
    | 1, _ => exact h2
    | 2, _ => exact h3) h
end
set_option maxHeartbeats 4000000 in
theorem c_CheckT (K : Nat) (w : World) (v : Value) (N1 N2 N3 N4 N5 : SHeap) (E1 E2 E3 E4 E5 : Value) (a U V UI VI D : ZM) (ha : RtZ a) (hv : IsM w v a) (hU : RtZ U) (hUI : RtZ UI) (hD : RtZ D) (hV : RtZ V) (hVI : RtZ VI)
    (hu : IsM w (.agg #[nv a.r, nv a.r, E1]) U) (hui : IsM w (.agg #[nv a.r, nv a.r, E2]) UI) (hd : IsM w (.agg #[nv a.r, nv a.c, E3]) D) (hvv : IsM w (.agg #[nv a.c, nv a.c, E4]) V) (hvi : IsM w (.agg #[nv a.c, nv a.c, E5]) VI)
    (h1 : mulZ U UI = oneZ a.r) (h2 : mulZ V VI = oneZ a.c) (h3 : mulZ (mulZ U a) V = D) (h4 : NormalP D) (e1 : U.r = a.r) (e2 : U.c = a.r) (e3 : UI.r = a.r) (e4 : V.r = a.c) (e5 : V.c = a.c) (e6 : VI.r = a.c) (e7 : D.r = a.r) (e8 : D.c = a.c)
    (hKa : BdZ K a) (hKu : BdZ K U) (hKui : BdZ K UI) (hKd : BdZ K D) (hKv : BdZ K V) (hKvi : BdZ K VI) (hKp : BdZ K (mulZ U a)) (hK : K ≤ 4000000) :
    Calls Tryd.prog 19 #[v, .agg (smC a.r a.c E1 E2 E3 E4 E5)] w (Ret fun v w' => Kp [] w w' ∧ v = .bool true) := by
  have hv0 := hv
  have hr := ha.r
  have hac := ha.c
  obtain ⟨E, rfl, hE⟩ := hv
  unfold smC
  refine calls_of_S [] [] (by simp) [] Tryd.func19 rfl mixed (by kernel_rfl) Tryd.ntmps19 Tryd.results19 rfl ⟨by simp, by simp⟩ (by simp) ?_
  simp only [toS, textOps, toSOp, kindAt, kindOf, odAt, sopsAt, ordOf, zipF]
  (repeat' (first | refine JC.seq ?_ | refine JC.ops ?_ | refine JO.nil ?_ | refine JX.thenN ?_ | (apply r_assign; (iterate 3 exact rfl)) | (apply r_loadN; (iterate 4 exact rfl); exact at1; exact rfl) | (apply r_boxA; (iterate 4 exact rfl); intro _)))
  refine r_call0 (by first | trivial | exact ⟨rfl, rfl⟩) rfl (by first | rfl | exact ⟨rfl, rfl⟩) rfl (fun w hk hs => c_Right w _ a.xm (hv0.mono hk).x (by show (a.e.map wz).length < _; rw [List.length_map]; have := ha.le; omega)) fun w v w' _ _ _ hR => ?_
  obtain ⟨t, rfl, ht⟩ := hR
  obtain rfl : t = true := ht.2 ha.rx
  (repeat' (first | (apply r_move; (iterate 3 exact rfl)) | (apply r_fieldAddr; (iterate 3 exact rfl)) | (apply r_not; (iterate 3 exact rfl))))
  refine r_load3 0 rfl (by first | rfl | exact ⟨rfl, rfl⟩) rfl rfl rfl rfl rfl rfl ?_
  skip
  refine r_call0 (by first | trivial | exact ⟨rfl, rfl⟩) rfl (by first | rfl | exact ⟨rfl, rfl⟩) rfl (fun w hk hs => c_Right w _ D.xm (hd.mono hk).x (by show (D.e.map wz).length < _; rw [List.length_map]; have := hD.le; omega)) fun w v w' _ _ _ hR => ?_
  obtain ⟨t, rfl, ht⟩ := hR
  obtain rfl : t = true := ht.2 hD.rx
  (repeat' (first | (apply r_move; (iterate 3 exact rfl)) | (apply r_fieldAddr; (iterate 3 exact rfl)) | (apply r_load; (iterate 4 exact rfl); (first | exact at0 | exact at1); exact rfl) | (apply r_pickF; (iterate 4 exact rfl)) | (apply r_not; (iterate 3 exact rfl)) | (apply r_neq; (iterate 4 exact rfl); all_goals intro hc; all_goals try (exfalso; omega))))
  refine r_load3 0 rfl (by first | rfl | exact ⟨rfl, rfl⟩) rfl rfl rfl rfl rfl rfl ?_
  (repeat' (first | (apply r_fieldAddr; (iterate 3 exact rfl))))
  refine r_load3 0 rfl (by first | rfl | exact ⟨rfl, rfl⟩) rfl rfl rfl rfl rfl rfl ?_
  (repeat' (first | (apply r_fieldAddr; (iterate 3 exact rfl)) | (apply r_load; (iterate 4 exact rfl); exact at1; exact rfl)))
  refine r_call0 (by first | trivial | exact ⟨rfl, rfl⟩) rfl (by first | rfl | exact ⟨rfl, rfl⟩) rfl (fun w hk hs => c_inverse K K w _ _ U UI hU hUI (hu.mono hk) (hui.mono hk) a.r hr e1 e2 e3 h1 hKu hKui (by omega)) fun w v w' _ _ _ hR => ?_
  subst hR
  (repeat' (first | (apply r_move; (iterate 3 exact rfl)) | (apply r_fieldAddr; (iterate 3 exact rfl)) | (apply r_pickF; (iterate 4 exact rfl)) | (apply r_not; (iterate 3 exact rfl))))
  refine r_load3 0 rfl (by first | rfl | exact ⟨rfl, rfl⟩) rfl rfl rfl rfl rfl rfl ?_
  (repeat' (first | (apply r_fieldAddr; (iterate 3 exact rfl))))
  refine r_load3 0 rfl (by first | rfl | exact ⟨rfl, rfl⟩) rfl rfl rfl rfl rfl rfl ?_
  (repeat' (first | (apply r_fieldAddr; (iterate 3 exact rfl)) | (apply r_load; (iterate 4 exact rfl); exact at1; exact rfl)))
  refine r_call0 (by first | trivial | exact ⟨rfl, rfl⟩) rfl (by first | rfl | exact ⟨rfl, rfl⟩) rfl (fun w hk hs => c_inverse K K w _ _ V VI hV hVI (hvv.mono hk) (hvi.mono hk) a.c hac e4 e5 e6 h2 hKv hKvi (by omega)) fun w v w' _ _ _ hR => ?_
  subst hR
  (repeat' (first | refine JC.seq ?_ | refine JC.ops ?_ | refine JO.nil ?_ | refine JX.thenN ?_ | (apply r_fieldAddr; (iterate 3 exact rfl)) | (apply r_pickF; (iterate 4 exact rfl)) | (apply r_not; (iterate 3 exact rfl)) | refine JC.skip ?_ | refine JC.condF rfl ?_))
  rename_i b1 b2
  refine r_load3 0 rfl (by first | rfl | exact ⟨rfl, rfl⟩) rfl rfl rfl rfl rfl rfl ?_
  (repeat' (first | (apply r_loadN; (iterate 4 exact rfl); exact at1; exact rfl)))
  refine r_callA (A := [_, _]) (B := []) rfl (by first | trivial | exact ⟨rfl, rfl⟩) rfl (by first | rfl | exact ⟨rfl, rfl⟩) rfl (fun w hk hs => c_MMul K K w _ _ U a hU ha (by omega) (by omega) hKu hKa (hu.mono hk) (hv0.mono hk)) fun w v w' _ _ _ hR => ?_
  obtain ⟨N1, u1, rfl, hN1, hO1⟩ := hR
  obtain ⟨E6, rfl, hO1⟩ := hO1
  obtain ⟨A1, c1, rfl⟩ := hO1.form
  refine ⟨N1, hN1, ?_⟩
  (repeat' (first | refine JC.seq ?_ | refine JC.ops ?_ | refine JO.nil ?_ | refine JX.thenN ?_ | (apply r_move; (iterate 3 exact rfl)) | (apply r_fieldAddr; (iterate 3 exact rfl)) | (apply r_assign; (iterate 3 exact rfl)) | (apply r_loadN; (iterate 4 exact rfl); exact at0; exact rfl) | (apply r_extract; (iterate 4 exact rfl)) | (apply r_storeN; exact rfl; (first | exact trivial | exact ⟨rfl, rfl⟩); exact rfl; exact rfl; exact at0; (iterate 3 exact rfl)) | (apply r_allocZ; (iterate 3 exact rfl); intro _) | (apply r_storeN; exact rfl; (first | exact trivial | exact ⟨rfl, rfl⟩); exact rfl; exact rfl; exact at0; (iterate 3 exact rfl))))
  refine r_load3 1 rfl (by first | rfl | exact ⟨rfl, rfl⟩) rfl rfl rfl rfl rfl rfl ?_
  skip
  refine r_callA (A := [_, _, _]) (B := N1 ++ []) rfl (by first | trivial | exact ⟨rfl, rfl⟩) rfl (by first | rfl | exact ⟨rfl, rfl⟩) rfl (fun w hk hs => c_MMul K K w _ _ (mulZ U a) V (zof_rt (by show U.r ≤ 200; omega) hac) hV (by show a.c = V.r; omega) (by omega) hKp hKv ⟨_, rfl, hO1.rd.at hk hs (by (repeat' first | exact HSub.nil _ | exact HSub.hd | exact HSub.in0 | exact HSub.refl _ | refine HSub.skip ?_ | refine HSub.skipN ?_))⟩ (hvv.mono hk)) fun w v w' _ _ _ hR => ?_
  rw [h3] at hR
  obtain ⟨N2, u2, rfl, hN2, hO2⟩ := hR
  obtain ⟨E7, rfl, hO2⟩ := hO2
  obtain ⟨A2, c2, rfl⟩ := hO2.form
  refine ⟨N2, hN2, ?_⟩
  (repeat' (first | refine JC.seq ?_ | refine JC.ops ?_ | refine JO.nil ?_ | refine JX.thenN ?_ | (apply r_move; (iterate 3 exact rfl)) | (apply r_fieldAddr; (iterate 3 exact rfl)) | (apply r_assign; (iterate 3 exact rfl)) | (apply r_loadN; (iterate 4 exact rfl); exact at0; exact rfl) | (apply r_extract; (iterate 4 exact rfl)) | (apply r_storeN; exact rfl; (first | exact trivial | exact ⟨rfl, rfl⟩); exact rfl; exact rfl; exact at0; (iterate 3 exact rfl)) | (apply r_allocZ; (iterate 3 exact rfl); intro _) | (apply r_storeN; exact rfl; (first | exact trivial | exact ⟨rfl, rfl⟩); exact rfl; exact rfl; exact at0; (iterate 3 exact rfl))))
  refine r_load3 2 rfl (by first | rfl | exact ⟨rfl, rfl⟩) rfl rfl rfl rfl rfl rfl ?_
  skip
  refine r_call0 (by first | trivial | exact ⟨rfl, rfl⟩) rfl (by first | rfl | exact ⟨rfl, rfl⟩) rfl (fun w hk hs => c_Equal w _ _ D D hD hD ⟨_, rfl, hO2.rd.at hk hs (by (repeat' first | exact HSub.nil _ | exact HSub.hd | exact HSub.in0 | exact HSub.refl _ | refine HSub.skip ?_ | refine HSub.skipN ?_))⟩ (hd.mono hk)) fun w v w' _ _ _ hR => ?_
  obtain ⟨t, rfl, ht⟩ := hR
  obtain rfl : t = true := ht.2 rfl
  (repeat' (first | (apply r_move; (iterate 3 exact rfl)) | (apply r_fieldAddr; (iterate 3 exact rfl))))
  refine r_load3 2 rfl (by first | rfl | exact ⟨rfl, rfl⟩) rfl rfl rfl rfl rfl rfl ?_
  skip
  refine r_call0 (by first | trivial | exact ⟨rfl, rfl⟩) rfl (by first | rfl | exact ⟨rfl, rfl⟩) rfl (fun w hk hs => c_normal K w _ D hD (hd.mono hk) hKd (by omega) h4) fun w v w' _ _ _ hR => ?_
  subst hR
  (repeat' (first | refine JO.nil ?_ | refine JX.thenN ?_ | (apply r_assign; (iterate 3 exact rfl)) | (apply r_pickT; (iterate 4 exact rfl)) | refine JC.ret ?_))
  exact JX.ret1 rfl (fun a w' st => ⟨st.kp, rfl⟩)

set_option maxHeartbeats 4000000 in
theorem c_CheckF (w : World) (v : Value) (a : ZM) (ha : RtZ a) (hv : IsM w v a) (h0 : a.r ≠ 0) :
    Calls Tryd.prog 19 #[v, .agg smC0] w (Ret fun v w' => Kp [] w w' ∧ v = .bool false) := by
  have hv0 := hv
  have hr := ha.r
  have hac := ha.c
  obtain ⟨E, rfl, hE⟩ := hv
  unfold smC0
  refine calls_of_S [] [] (by simp) [] Tryd.func19 rfl mixed (by kernel_rfl) Tryd.ntmps19 Tryd.results19 rfl ⟨by simp, by simp⟩ (by simp) ?_
  simp only [toS, textOps, toSOp, kindAt, kindOf, odAt, sopsAt, ordOf, zipF]
  (repeat' (first | refine JC.seq ?_ | refine JC.ops ?_ | refine JO.nil ?_ | refine JX.thenN ?_ | (apply r_assign; (iterate 3 exact rfl)) | (apply r_loadN; (iterate 4 exact rfl); exact at1; exact rfl) | (apply r_boxA; (iterate 4 exact rfl); intro _)))
  refine r_call0 (by first | trivial | exact ⟨rfl, rfl⟩) rfl (by first | rfl | exact ⟨rfl, rfl⟩) rfl (fun w hk hs => c_Right w _ a.xm (hv0.mono hk).x (by show (a.e.map wz).length < _; rw [List.length_map]; have := ha.le; omega)) fun w v w' _ _ _ hR => ?_
  obtain ⟨t, rfl, ht⟩ := hR
  obtain rfl : t = true := ht.2 ha.rx
  (repeat' (first | (apply r_move; (iterate 3 exact rfl)) | (apply r_fieldAddr; (iterate 3 exact rfl)) | (apply r_not; (iterate 3 exact rfl))))
  refine r_load3 0 rfl (by first | rfl | exact ⟨rfl, rfl⟩) rfl rfl rfl rfl rfl rfl ?_
  skip
  refine r_call0 (by first | trivial | exact ⟨rfl, rfl⟩) rfl (by first | rfl | exact ⟨rfl, rfl⟩) rfl (fun w hk hs => c_Right w _ zM.xm (show IsM w (.agg #[nv 0, nv 0, .slice none 0 0]) zM from ⟨_, rfl, OwnZ.nil.rd.at hk hs (HSub.nil _)⟩).x (by decide)) fun w v w' _ _ _ hR => ?_
  obtain ⟨t, rfl, ht⟩ := hR
  obtain rfl : t = true := ht.2 (RtZ.rx ⟨by decide, by decide, rfl⟩)
  have h00 : (0 : Int) ≠ (a.r : Int) := by omega
  (repeat' (first | refine JC.seq ?_ | refine JC.ops ?_ | refine JO.nil ?_ | refine JX.thenN ?_ | (apply r_move; (iterate 3 exact rfl)) | (apply r_fieldAddr; (iterate 3 exact rfl)) | (apply r_assign; (iterate 3 exact rfl)) | (apply r_load; (iterate 4 exact rfl); (first | exact at0 | exact at1); exact rfl) | (apply r_pickT; (iterate 4 exact rfl)) | (apply r_pickF; (iterate 4 exact rfl)) | (apply r_not; (iterate 3 exact rfl)) | (apply r_neq; (iterate 4 exact rfl); all_goals intro hc; all_goals try (exfalso; omega)) | refine JX.thenR ?_ | refine JC.ret ?_ | refine JC.condT rfl ?_ | (apply r_skip; exact rfl; exact rfl; (first | (intro h; cases h; done) | (intro _; rfl)))))
  exact JX.ret1 rfl (fun a w' st => ⟨st.kp, rfl⟩)


theorem idx_lt {r c i j : Nat} (hi : i < r) (hj : j < c) : i * c + j < r * c := by
  have := Nat.mul_le_mul_right c (show i + 1 ≤ r by omega)
  rw [Nat.add_mul] at this
  omega
def IsRows (w : World) (v : Value) (xss : List (List Int)) : Prop := ∃ ss : List Value, RdW w 1 v xss.length ss ∧ ∀ i, i < xss.length → WI w (ss.getD i (iv 0)) (xss.getD i []).length (xss.getD i [])
theorem IsRows.mono {w w' : World} {v : Value} {xss : List (List Int)} (h : IsRows w v xss) (hk : Kp [] w w') : IsRows w' v xss := by
  obtain ⟨ss, h1, h2⟩ := h
  exact ⟨ss, h1.mono hk, fun i hi => (h2 i hi).mono hk⟩
def ofC (xss : List (List Int)) : Nat → Nat
  | 0 => 0
  | k + 1 => max (ofC xss k) (xss.getD k []).length
theorem ofC_le (xss : List (List Int)) : ∀ {k i : Nat}, i < k → (xss.getD i []).length ≤ ofC xss k
  | 0, i, h => by omega
  | k + 1, i, h => by
    rw [ofC]
    by_cases hi : i = k
    · subst hi; exact Nat.le_max_right _ _
    · exact Nat.le_trans (ofC_le xss (show i < k by omega)) (Nat.le_max_left _ _)
theorem max_nv (a b : Nat) : (if (a : Int) < (b : Int) then (b : Int) else (a : Int)) = ((max a b : Nat) : Int) := by
  split <;> omega

def ofE (xss : List (List Int)) (i j : Nat) : Int := (xss.getD i []).getD j 0
def ofZ (xss : List (List Int)) : ZM := zof xss.length (ofC xss xss.length) (ofE xss)
def ofS (xss : List (List Int)) (i k : Nat) : Mi := fun a b => if a < i ∨ (a = i ∧ b < k) then ofE xss a b else 0
theorem ofS_zero (r c : Nat) (xss : List (List Int)) : tbz r c (ofS xss 0 0) = tab (r * c) fun _ => 0 := by
  unfold tbz ofS
  exact tab_congr fun t _ => by simp
theorem ofS_set {r c i k : Nat} {xss : List (List Int)} (hk : k < c) : (tbz r c (ofS xss i k)).set (i * c + k) (ofE xss i k) = tbz r c (ofS xss i (k + 1)) := by
  rw [tbz_set hk]
  refine tbz_congr fun a b _ _ => ?_
  unfold ofS
  by_cases h : a = i ∧ b = k
  · obtain ⟨rfl, rfl⟩ := h; simp
  · rw [if_neg h]
    have e : (a < i ∨ a = i ∧ b < k + 1) = (a < i ∨ a = i ∧ b < k) := by simp; omega
    simp only [e]
theorem ofE_out {i j : Nat} {xss : List (List Int)} (h : (xss.getD i []).length ≤ j) : ofE xss i j = 0 := by
  unfold ofE
  rw [List.getD, List.getElem?_eq_none h]; rfl
theorem ofS_row {r c i k : Nat} {xss : List (List Int)} (hk : (xss.getD i []).length ≤ k) : tbz r c (ofS xss i k) = tbz r c (ofS xss (i + 1) 0) := by
  refine tbz_congr fun a b _ _ => ?_
  unfold ofS
  by_cases h : a = i
  · subst h
    by_cases hb : b < k
    · rw [if_pos (.inr ⟨rfl, hb⟩), if_pos (.inl (by omega))]
    · rw [if_neg (by omega), if_pos (.inl (by omega)), ofE_out (by omega)]
  · have e : (a < i ∨ a = i ∧ b < k) = (a < i + 1 ∨ a = i + 1 ∧ b < 0) := by simp; omega
    simp only [e]
theorem ofS_end {r c i : Nat} {xss : List (List Int)} (hi : r ≤ i) : tbz r c (ofS xss i 0) = tbz r c (ofE xss) := by
  refine tbz_congr fun a b ha _ => ?_
  unfold ofS; rw [if_pos (.inl (by omega))]
def I64 (n : Int) : Prop := -9223372036854775808 ≤ n ∧ n < 9223372036854775808

set_option maxHeartbeats 4000000 in
theorem c_Of (w : World) (v : Value) (xss : List (List Int)) (hv : IsRows w v xss) (hr : xss.length ≤ 200) (hcc : ofC xss xss.length ≤ 200) (hI : ∀ i j, I64 ((xss.getD i []).getD j 0)) :
    Calls Tryd.prog 15 #[v] w (Ret fun v w' => Kp [] w w' ∧ GivesM (ofZ xss) w v w') := by
  obtain ⟨ss, hss, hrow⟩ := hv
  have hrc := rcZ hr hcc
  have hlen : ∀ i, i < xss.length → (xss.getD i []).length ≤ 200 := fun i hi => Nat.le_trans (ofC_le xss hi) hcc
  have hsl : ss.length = xss.length := by have := hss.1; omega
  refine calls_of_S [⟨16, 2, [], []⟩] [] (by simp) [] Tryd.func15 rfl mixed (by kernel_rfl) Tryd.ntmps15 Tryd.results15 rfl ⟨by simp, by simp⟩ (by simp) ?_
  simp only [toS, textOps, toSOp, kindAt, kindOf, odAt, sopsAt, ordOf, zipF]
  have hR : Rd ⟨Tryd.prog, 58, w, [], by simp⟩ [] 1 v xss.length ss := hss.rd rfl []
  (repeat' (first | refine JC.seq ?_ | refine JC.ops ?_ | refine JO.nil ?_ | refine JX.thenN ?_ | (apply r_move; (iterate 3 exact rfl)) | (apply r_assign; (iterate 3 exact rfl)) | (apply r_allocZ; (iterate 3 exact rfl); intro _)))
  rename_i b2
  refine r_lenR rfl rfl rfl hR ?_
  (repeat' (first | refine JO.nil ?_ | refine JX.thenN ?_ | (apply r_move; (iterate 3 exact rfl)) | refine JC.block ?_))
  refine JC.loopH (ι := Nat) ⟨fun k => [(13, nv k), (12, nv xss.length), (11, v), (3, nv (ofC xss k)), (0, v), (2, .pointer (some ⟨b2, 0, none⟩))], fun _ => [(b2, .cells #[iv 0, iv 0, .slice none 0 0] 28)],
    fun k => k ≤ xss.length, fun k => xss.length - k⟩ 0 (by dsimp only; omega) (by repeat first | exact trivial | refine ⟨rfl, ?_⟩) (by (first | exact HSub.refl _ | (repeat' first | exact HSub.nil _ | exact HSub.refl _ | refine HSub.at 0 rfl ?_ | refine HSub.at 1 rfl ?_ | refine HSub.at 2 rfl ?_ | refine HSub.at 3 rfl ?_ | refine HSub.at 4 rfl ?_ | refine HSub.at 5 rfl ?_ | refine HSub.at 6 rfl ?_ | refine HSub.at 7 rfl ?_))) (fun k hk => ?_)
  dsimp only at hk ⊢
  by_cases hkk : k < xss.length
  · have hwi := hrow k hkk
    have hl4 := hlen k hkk
    (repeat' (first | refine JC.seq ?_ | refine JC.ops ?_ | refine JO.nil ?_ | refine JX.thenN ?_ | (apply r_lss; (iterate 4 exact rfl); all_goals intro hc; all_goals try (exfalso; omega)) | refine JC.skip ?_ | refine JC.condT rfl ?_ | refine JC.block ?_))
    refine r_idxR1 rfl rfl rfl rfl hR hkk ?_
    refine r_ldR rfl rfl rfl rfl hR (HSub.nil _) (gD_lt (d := iv 0) (by omega)) ?_
    (repeat' (first | refine JC.ops ?_ | refine JO.nil ?_ | refine JX.thenN ?_ | (apply r_move; (iterate 3 exact rfl)) | (apply r_assign; (iterate 3 exact rfl)) | (apply r_lenI; (iterate 3 exact rfl); (first | assumption | exact WI.rd (by assumption) rfl [] | exact OwnI.rd (by assumption))) | (apply r_add1; (iterate 4 exact rfl); omega) | (apply r_max; (iterate 4 exact rfl)) | refine JX.blockN ?_))
    refine JX.roundH (k + 1) (by dsimp only; omega) (by dsimp only; omega) (by dsimp only [ofC]; unfold nv; rw [← max_nv]; exact (by repeat first | exact trivial | refine ⟨rfl, ?_⟩)) (by (first | exact HSub.refl _ | (repeat' first | exact HSub.nil _ | exact HSub.refl _ | refine HSub.at 0 rfl ?_ | refine HSub.at 1 rfl ?_ | refine HSub.at 2 rfl ?_ | refine HSub.at 3 rfl ?_ | refine HSub.at 4 rfl ?_ | refine HSub.at 5 rfl ?_ | refine HSub.at 6 rfl ?_ | refine HSub.at 7 rfl ?_)))
  · have : k = xss.length := by omega
    subst this
    (repeat' (first | refine JC.seq ?_ | refine JC.ops ?_ | refine JO.nil ?_ | refine JX.thenN ?_ | (apply r_move; (iterate 3 exact rfl)) | (apply r_lss; (iterate 4 exact rfl); all_goals intro hc; all_goals try (exfalso; omega)) | refine JX.thenE ?_ | refine JC.exit ?_ | refine JC.condF rfl ?_ | refine JX.blockE ?_))
    refine r_lenR rfl rfl rfl hR ?_
    (repeat' (first | (apply r_move; (iterate 3 exact rfl))))
    refine r_callA (A := [_]) (B := []) rfl trivial rfl rfl rfl (fun w hk _ => c_Zero xss.length _ hr hcc w) fun w v' w' _ _ _ hR' => ?_
    obtain ⟨N, Eo, hN, rfl, hO⟩ := hR'
    obtain ⟨Ao, co, rfl⟩ := hO.form
    refine ⟨N, hN, ?_⟩
    have hdone : ∀ N', OwnZ N' (.slice Ao (xss.length * ofC xss xss.length) co) (xss.length * ofC xss xss.length) (tbz xss.length (ofC xss xss.length) (ofE xss)) → OwnM N' (.agg #[nv xss.length, nv (ofC xss xss.length), .slice Ao (xss.length * ofC xss xss.length) co]) (ofZ xss) := fun N' h => OwnM.mk' h
    (repeat' (first | refine JC.seq ?_ | refine JC.ops ?_ | refine JO.nil ?_ | refine JX.thenN ?_ | (apply r_move; (iterate 3 exact rfl)) | (apply r_fieldAddr; (iterate 3 exact rfl)) | (apply r_load; (iterate 4 exact rfl); (first | exact at0 | exact at1); exact rfl) | (apply r_loadN; (iterate 4 exact rfl); (first | exact at0 | exact at1); exact rfl) | (apply r_lenZ; (iterate 3 exact rfl); (first | assumption | exact WZ.rd (by assumption) rfl [] | exact OwnZ.rd (by assumption))) | (apply r_storeN; exact rfl; (first | exact trivial | exact ⟨rfl, rfl⟩); exact rfl; exact rfl; (first | exact at0 | exact at1); (iterate 3 exact rfl)) | (apply r_eql; (iterate 4 exact rfl); all_goals intro hc; all_goals try (exfalso; omega)) | (apply r_allocZ; (iterate 3 exact rfl); intro _) | (apply r_storeN; exact rfl; (first | exact trivial | exact ⟨rfl, rfl⟩); exact rfl; exact rfl; (first | exact at0 | exact at1); (iterate 3 exact rfl)) | refine JX.thenR ?_ | refine JC.skip ?_ | refine JC.ret ?_ | refine JC.condT rfl ?_ | refine JC.condF rfl ?_))
    · rename_i b6 h0
      refine JX.retC 1 rfl rfl rfl (fun a w' st => ⟨st.kp, N, st.newOf rfl (by (repeat' first | exact HSub.nil _ | exact HSub.hd | exact HSub.in0 | exact HSub.refl _ | refine HSub.skip ?_ | refine HSub.skipN ?_)), hdone _ ?_⟩)
      have e : tbz xss.length (ofC xss xss.length) (ofE xss) = tab (xss.length * ofC xss xss.length) fun _ => 0 := by
        unfold tbz
        exact tab_congr fun i hi => by omega
      rw [e]; exact hO
    · refine r_lenR rfl rfl rfl hR ?_
      (repeat' (first | refine JO.nil ?_ | refine JX.thenN ?_ | (apply r_move; (iterate 3 exact rfl)) | refine JC.block ?_))
      rename_i b6
      refine JC.loopH (ι := Nat × SHeap) ⟨fun z => [(33, nv z.1), (32, nv xss.length), (31, v), (3, nv (ofC xss xss.length)), (6, .pointer (some ⟨b6, 0, none⟩)), (2, .pointer (some ⟨b2, 0, none⟩))],
        fun z => [(b6, .cells #[nv xss.length, nv (ofC xss xss.length), .slice Ao (xss.length * ofC xss xss.length) co] 28), (b2, .cells #[iv 0, iv 0, .slice none 0 0] 28)] ++ (z.2 ++ []),
        fun z => z.1 ≤ xss.length ∧ OwnZ z.2 (.slice Ao (xss.length * ofC xss xss.length) co) (xss.length * ofC xss xss.length) (tbz xss.length (ofC xss xss.length) (ofS xss z.1 0)), fun z => xss.length - z.1⟩ (0, N) ⟨by dsimp only; omega, by rw [ofS_zero]; exact hO⟩ (by repeat first | exact trivial | refine ⟨rfl, ?_⟩) (by (first | exact HSub.refl _ | (repeat' first | exact HSub.nil _ | exact HSub.refl _ | refine HSub.at 0 rfl ?_ | refine HSub.at 1 rfl ?_ | refine HSub.at 2 rfl ?_ | refine HSub.at 3 rfl ?_ | refine HSub.at 4 rfl ?_ | refine HSub.at 5 rfl ?_ | refine HSub.at 6 rfl ?_ | refine HSub.at 7 rfl ?_))) (fun z hz => ?_)
      clear hO
      obtain ⟨i, N⟩ := z
      obtain ⟨hi, hO⟩ := hz
      dsimp only at hi hO ⊢
      by_cases hii : i < xss.length
      · have hwi := hrow i hii
        have hl4 := hlen i hii
        have hlc := ofC_le xss hii
        (repeat' (first | refine JC.seq ?_ | refine JC.ops ?_ | refine JO.nil ?_ | refine JX.thenN ?_ | (apply r_move; (iterate 3 exact rfl)) | (apply r_lss; (iterate 4 exact rfl); all_goals intro hc; all_goals try (exfalso; omega)) | refine JC.skip ?_ | refine JC.condT rfl ?_ | refine JC.block ?_))
        refine r_idxR1 rfl rfl rfl rfl hR hii ?_
        refine r_ldR rfl rfl rfl rfl hR (HSub.nil _) (gD_lt (d := iv 0) (by omega)) ?_
        (repeat' (first | refine JC.seq ?_ | refine JC.ops ?_ | refine JO.nil ?_ | refine JX.thenN ?_ | (apply r_move; (iterate 3 exact rfl)) | (apply r_assign; (iterate 3 exact rfl)) | (apply r_lenI; (iterate 3 exact rfl); (first | assumption | exact WI.rd (by assumption) rfl [] | exact OwnI.rd (by assumption))) | refine JC.block ?_))
        refine JC.loopH (ι := Nat × SHeap) ⟨fun z => [(40, nv z.1), (39, nv (xss.getD i []).length), (38, ss.getD i (iv 0)), (7, nv i), (33, nv i), (32, nv xss.length), (31, v), (3, nv (ofC xss xss.length)), (6, .pointer (some ⟨b6, 0, none⟩)), (2, .pointer (some ⟨b2, 0, none⟩))],
          fun z => [(b6, .cells #[nv xss.length, nv (ofC xss xss.length), .slice Ao (xss.length * ofC xss xss.length) co] 28), (b2, .cells #[iv 0, iv 0, .slice none 0 0] 28)] ++ (z.2 ++ []),
          fun z => z.1 ≤ (xss.getD i []).length ∧ OwnZ z.2 (.slice Ao (xss.length * ofC xss xss.length) co) (xss.length * ofC xss xss.length) (tbz xss.length (ofC xss xss.length) (ofS xss i z.1)), fun z => (xss.getD i []).length - z.1⟩ (0, N) ⟨by dsimp only; omega, hO⟩ (by repeat first | exact trivial | refine ⟨rfl, ?_⟩) (by (first | exact HSub.refl _ | (repeat' first | exact HSub.nil _ | exact HSub.refl _ | refine HSub.at 0 rfl ?_ | refine HSub.at 1 rfl ?_ | refine HSub.at 2 rfl ?_ | refine HSub.at 3 rfl ?_ | refine HSub.at 4 rfl ?_ | refine HSub.at 5 rfl ?_ | refine HSub.at 6 rfl ?_ | refine HSub.at 7 rfl ?_))) (fun z hz => ?_)
        clear hO
        obtain ⟨j, N⟩ := z
        obtain ⟨hj, hO⟩ := hz
        dsimp only at hj hO ⊢
        by_cases hjj : j < (xss.getD i []).length
        · have hjc : j < ofC xss xss.length := by omega
          have hidx := idx_lt hii hjc
          have hb1 : i * ofC xss xss.length ≤ 40000 := Nat.mul_le_mul (show i ≤ 200 by omega) hcc
          have hI2 := hI i j
          (repeat' (first | refine JC.seq ?_ | refine JC.ops ?_ | refine JC.opsD ?_ | refine JO.nil ?_ | refine JX.thenN ?_ | (apply r_move; (iterate 3 exact rfl)) | (apply r_fieldAddr; (iterate 3 exact rfl)) | (apply r_assign; (iterate 3 exact rfl)) | (apply r_load; (iterate 4 exact rfl); exact at0; exact rfl) | (apply r_idxI; (iterate 4 exact rfl); (first | assumption | exact WI.rd (by assumption) rfl [] | exact OwnI.rd (by assumption)); (first | assumption | omega)) | (apply r_ldI; (iterate 4 exact rfl); (first | assumption | exact WI.rd (by assumption) rfl [] | exact OwnI.rd (by assumption)); (repeat' first | exact HSub.nil _ | exact HSub.hd | exact HSub.in0 | exact HSub.refl _ | refine HSub.skip ?_ | refine HSub.skipN ?_); (first | assumption | omega)) | (apply r_addN; (iterate 4 exact rfl); omega) | (apply r_mulN; (iterate 4 exact rfl); (first | assumption | omega)) | (apply r_lss; (iterate 4 exact rfl); all_goals intro hc; all_goals try (exfalso; omega)) | refine JC.skip ?_ | refine JC.condT rfl ?_ | refine JC.block ?_))
          refine r_call0 (by first | trivial | exact ⟨rfl, rfl⟩) rfl rfl rfl (fun w _ _ => c_From w ((xss.getD i []).getD j 0) hI2.1 hI2.2) fun w v w' _ _ _ hR => ?_
          subst hR
          (repeat' (first | (apply r_idxZ; (iterate 4 exact rfl); (first | assumption | exact WZ.rd (by assumption) rfl [] | exact OwnZ.rd (by assumption)); (first | assumption | omega))))
          refine r_stZ (A := [_, _]) (u := ofE xss i j) hO rfl rfl (by first | trivial | exact ⟨rfl, rfl⟩) rfl rfl hidx (fun N' hO' => ?_)
          rw [ofS_set hjc] at hO'
          (repeat' (first | refine JC.ops ?_ | refine JO.nil ?_ | refine JX.thenN ?_ | (apply r_move; (iterate 3 exact rfl)) | (apply r_add1; (iterate 4 exact rfl); omega) | refine JX.blockN ?_))
          exact JX.roundH (j + 1, N') ⟨by dsimp only; omega, hO'⟩ (by dsimp only; omega) (by repeat first | exact trivial | refine ⟨rfl, ?_⟩) (by (first | exact HSub.refl _ | (repeat' first | exact HSub.nil _ | exact HSub.refl _ | refine HSub.at 0 rfl ?_ | refine HSub.at 1 rfl ?_ | refine HSub.at 2 rfl ?_ | refine HSub.at 3 rfl ?_ | refine HSub.at 4 rfl ?_ | refine HSub.at 5 rfl ?_ | refine HSub.at 6 rfl ?_ | refine HSub.at 7 rfl ?_)))
        · rw [ofS_row (show (xss.getD i []).length ≤ j by omega)] at hO
          (repeat' (first | refine JC.seq ?_ | refine JC.ops ?_ | refine JO.nil ?_ | refine JX.thenN ?_ | (apply r_move; (iterate 3 exact rfl)) | (apply r_add1; (iterate 4 exact rfl); omega) | (apply r_lss; (iterate 4 exact rfl); all_goals intro hc; all_goals try (exfalso; omega)) | refine JX.thenE ?_ | refine JC.exit ?_ | refine JC.condF rfl ?_ | refine JX.blockN ?_ | refine JX.blockE ?_))
          exact JX.roundH (i + 1, N) ⟨by dsimp only; omega, hO⟩ (by dsimp only; omega) (by repeat first | exact trivial | refine ⟨rfl, ?_⟩) (by (first | exact HSub.refl _ | (repeat' first | exact HSub.nil _ | exact HSub.refl _ | refine HSub.at 0 rfl ?_ | refine HSub.at 1 rfl ?_ | refine HSub.at 2 rfl ?_ | refine HSub.at 3 rfl ?_ | refine HSub.at 4 rfl ?_ | refine HSub.at 5 rfl ?_ | refine HSub.at 6 rfl ?_ | refine HSub.at 7 rfl ?_)))
      · rw [ofS_end (show xss.length ≤ i by omega)] at hO
        (repeat' (first | refine JC.seq ?_ | refine JC.ops ?_ | refine JO.nil ?_ | refine JX.thenN ?_ | (apply r_loadN; (iterate 4 exact rfl); (first | exact at0 | exact at1); exact rfl) | (apply r_storeN; exact rfl; (first | exact trivial | exact ⟨rfl, rfl⟩); exact rfl; exact rfl; (first | exact at0 | exact at1); (iterate 3 exact rfl)) | (apply r_lss; (iterate 4 exact rfl); all_goals intro hc; all_goals try (exfalso; omega)) | (apply r_storeN; exact rfl; (first | exact trivial | exact ⟨rfl, rfl⟩); exact rfl; exact rfl; (first | exact at0 | exact at1); (iterate 3 exact rfl)) | refine JX.thenE ?_ | refine JC.exit ?_ | refine JC.ret ?_ | refine JC.condF rfl ?_ | refine JX.blockE ?_))
        exact JX.retC 1 rfl rfl rfl (fun a w' st => ⟨st.kp, N, st.newOf rfl (by (repeat' first | exact HSub.nil _ | exact HSub.hd | exact HSub.in0 | exact HSub.refl _ | refine HSub.skip ?_ | refine HSub.skipN ?_)), hdone _ hO⟩)


section
variable {c : Cx} {Q : Exit → Act → World → Prop} {m : Mode} {F : SFrame} {H : SHeap} {r : List SOp} {g : Option (Option Tmp × Bool)} {ns : Bool} {d : Tmp} {ty t t' : TypeId} {x y : Operand}
end

def IsS (w : World) (v : Value) (R C : Nat) (L : List Int) : Prop := R < 256 ∧ C < 256 ∧ (∀ i, I64 (L.getD i 0)) ∧ ∃ E, v = .agg #[.int .u8 (R : Int), .int .u8 (C : Int), E] ∧ WI w E L.length L
theorem IsS.mono {w w' : World} {v : Value} {R C : Nat} {L : List Int} (h : IsS w v R C L) (hk : Kp [] w w') : IsS w' v R C L := by
  obtain ⟨h1, h2, h3, E, h5, h6⟩ := h
  exact ⟨h1, h2, h3, E, h5, h6.mono hk⟩



end Go.Proofs.YtemdknkghacheaaDoor

