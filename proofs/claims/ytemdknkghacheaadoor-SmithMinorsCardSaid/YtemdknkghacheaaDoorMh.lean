import Derived.Test.YtemdknkghacheaaDoorMg
import Derived.Test.YtemdknkghacheaaDoorMf
import Derived.Test.YtemdknkghacheaaDoorMe
namespace Go.Proofs.YtemdknkghacheaaDoor
open Go Go.RowKit
set_option linter.unusedSimpArgs false
set_option linter.unusedVariables false
set_option linter.unusedSectionVars false

def elS (M : Mi) (k : Nat) (last : Int) (i1 j1 : Nat) : Mi := fun i j => if k < j ∧ k < i ∧ (i < i1 ∨ (i = i1 ∧ j < j1)) then (M k k * M i j - M i k * M k j) / last else M i j
theorem elS_start (M : Mi) (k : Nat) (last : Int) (j1 : Nat) (hj : j1 ≤ k + 1) (i j : Nat) : elS M k last (k + 1) j1 i j = M i j := by
  unfold elS
  rw [if_neg]
  omega
theorem elS_row (M : Mi) (k n i1 : Nat) (last : Int) (i j : Nat) (hj : j < n) : elS M k last i1 n i j = elS M k last (i1 + 1) 0 i j := by
  unfold elS
  have : (k < j ∧ k < i ∧ (i < i1 ∨ (i = i1 ∧ j < n))) ↔ (k < j ∧ k < i ∧ (i < i1 + 1 ∨ (i = i1 + 1 ∧ j < 0))) := by omega
  simp only [this]
theorem elS_zero (M : Mi) (k i1 : Nat) (last : Int) (i j : Nat) : elS M k last i1 0 i j = elS M k last i1 (k + 1) i j := by
  unfold elS
  have : (k < j ∧ k < i ∧ (i < i1 ∨ (i = i1 ∧ j < 0))) ↔ (k < j ∧ k < i ∧ (i < i1 ∨ (i = i1 ∧ j < k + 1))) := by omega
  simp only [this]
theorem elS_step (M : Mi) (k i1 j1 : Nat) (last : Int) (hk : k < j1) (hi : k < i1) (i j : Nat) : (if i = i1 ∧ j = j1 then (M k k * M i1 j1 - M i1 k * M k j1) / last else elS M k last i1 j1 i j) = elS M k last i1 (j1 + 1) i j := by
  by_cases h : i = i1 ∧ j = j1
  · obtain ⟨rfl, rfl⟩ := h
    rw [if_pos ⟨rfl, rfl⟩]
    unfold elS
    rw [if_pos ⟨hk, hi, .inr ⟨rfl, by omega⟩⟩]
  · rw [if_neg h]
    unfold elS
    have : (k < j ∧ k < i ∧ (i < i1 ∨ (i = i1 ∧ j < j1))) ↔ (k < j ∧ k < i ∧ (i < i1 ∨ (i = i1 ∧ j < j1 + 1))) := by omega
    simp only [this]

structure DetI (n K : Nat) (A0 : Mi) (k : Nat) (last : Int) (ts : List TR) : Prop where
  ex : ∃ A, Bar n A k (tM ts) last ∧ det n A = det n A0 ∧ ∀ i j, (A i j).natAbs < 256 ^ K
  bd : ∀ i j, i < n → j < n → (tM ts i j).natAbs < 256 ^ (n * (K + 1) + 1)

theorem Bar.lt {n k K : Nat} {A M : Mi} {last : Int} (h : Bar n A k M last) (hn : n ≤ 200) (hA : ∀ i j, (A i j).natAbs < 256 ^ K) {i j : Nat} (hi : k ≤ i) (hin : i < n) (hj : k ≤ j) (hjn : j < n) : (M i j).natAbs < 256 ^ (n * (K + 1) + 1) := by
  rw [h.eq i j hi hin hj hjn]
  exact bm_bd (by omega) hn hA
theorem Bar.lastLt {n k K : Nat} {A M : Mi} {last : Int} (h : Bar n A k M last) (hk : k ≤ n) (hn : n ≤ 200) (hA : ∀ i j, (A i j).natAbs < 256 ^ K) : last.natAbs < 256 ^ (n * (K + 1) + 1) := by
  rw [h.eqd]
  refine Nat.lt_of_le_of_lt (det_bd (by omega) hA) (Nat.pow_lt_pow_right (by decide) ?_)
  have := Nat.mul_le_mul_right (K + 1) hk
  omega
theorem neg_bd {K : Nat} {A : Mi} (k q : Nat) (h : ∀ i j, (A i j).natAbs < 256 ^ K) : ∀ i j, ((setRow (swp A k q) k (fun j => -1 * A q j)) i j).natAbs < 256 ^ K := fun i j => by
  by_cases hi : i = k
  · subst hi
    rw [setRow_self, show (-1 : Int) * A q j = -(A q j) by omega, Int.natAbs_neg]
    exact h q j
  · rw [setRow_ne hi]
    unfold swp
    rw [if_neg hi]
    split <;> exact h _ _

set_option maxHeartbeats 16000000 in
theorem c_Det (K : Nat) (w : World) (v : Value) (m : ZM) (hm : RtZ m) (hsq : m.r = m.c) (hK : (m.r + 1) * (K + 1) ≤ 40000000) (hx : BdZ K m) (hv : IsM w v m) :
    Calls Tryd.prog 22 #[v] w (Ret fun v w' => Kp [] w w' ∧ v = .tuple #[Wv (det m.r m.at), .bool true]) := by
  have hv0 := hv
  have hvX := hv.x
  obtain ⟨E, rfl, hE⟩ := hv
  obtain ⟨n, c, e⟩ := m
  obtain rfl : n = c := hsq
  have hle := hm.le
  have hbr : n ≤ 200 := hm.r
  have hB : n * (K + 1) + 1 ≤ 40000000 := by
    have e1 : (n + 1) * (K + 1) = n * (K + 1) + (K + 1) := by rw [Nat.add_mul, Nat.one_mul]
    simp only at hK; omega
  refine calls_of_R [12] [⟨12, 2, [], []⟩, ⟨16, 2, [], []⟩, ⟨18, 1, [], []⟩, ⟨25, 1, [0, 1, 2, 3, 4, 6, 7, 8, 9, 10, 11, 12, 13, 14, 15, 16, 5, 17, 18, 19, 20], []⟩] [] (by simp) [] Tryd.func22 rfl mixed (by kernel_rfl) Tryd.ntmps22 Tryd.results22 rfl ⟨by simp, by simp⟩ (by simp) ?_
  simp only [toR, inR, cond_true, cond_false, Nat.reduceBEq, toS, textOps, toSOp, kindAt, kindOf, odAt, sopsAt, ordOf, zipF]
  (repeat' (first | refine JC.seq ?_ | refine JC.ops ?_ | refine JO.nil ?_ | refine JX.thenN ?_ | (apply r_assign; (iterate 3 exact rfl)) | (apply r_loadN; (iterate 4 exact rfl); exact at1; exact rfl) | (apply r_allocZ; (iterate 3 exact rfl); intro _) | (apply r_boxA; (iterate 4 exact rfl); intro _)))
  rename_i b1 b2
  refine r_call0 trivial rfl rfl rfl (fun w hk _ => c_Right w _ _ (hvX.mono hk) (by simp [ZM.xm]; simp only at hle; omega)) fun w v w' _ _ _ hR => ?_
  obtain ⟨b', rfl, hb⟩ := hR
  obtain rfl := hb.2 hm.rx
  (repeat' (first | refine JC.seq ?_ | refine JC.ops ?_ | refine JO.nil ?_ | refine JX.thenN ?_ | (apply r_move; (iterate 3 exact rfl)) | (apply r_fieldAddr; (iterate 3 exact rfl)) | (apply r_load; (iterate 4 exact rfl); exact at1; exact rfl) | (apply r_loadN; (iterate 4 exact rfl); exact at1; exact rfl) | (apply r_pickF; (iterate 4 exact rfl)) | (apply r_not; (iterate 3 exact rfl)) | (apply r_neq; (iterate 4 exact rfl); all_goals intro hc; all_goals try (exfalso; omega)) | refine JC.skip ?_ | refine JC.condF rfl ?_))
  refine r_callA (A := [_, _]) (B := []) rfl trivial rfl rfl rfl (fun w hk _ => c_table w _ _ hm (hv0.mono hk)) fun w v w' _ _ _ hR => ?_
  obtain ⟨N, ts, hN, hT, hts⟩ := hR
  have hlen : ts.length = n := by have := congrArg List.length hts; simpa using this
  refine ⟨_, hN, ?_⟩
  have hM0 : ∀ i j, i < n → j < n → tM ts i j = (ZM.mk n n e).at i j := fun i j hi hj => by
    have h1 : tr' ts i = rowI ⟨n, n, e⟩ i := by
      have h2 := congrArg (fun l => l[i]?) hts
      simp only [List.getElem?_map, List.getElem?_range hi, gD_lt (d := dT) (show i < ts.length by omega), Option.map_some, Option.some.injEq] at h2
      exact h2
    unfold tM
    rw [h1, rowI_get hj]
  obtain ⟨At, ct, rfl⟩ := hT.form
  (repeat' (first | refine JC.seq ?_ | refine JC.ops ?_ | refine JO.nil ?_ | refine JX.thenN ?_ | (apply r_assign; (iterate 3 exact rfl))))
  refine r_call0 trivial rfl rfl rfl (fun w _ _ => c_From w 1 (by omega) (by omega)) fun w v w' _ _ _ hR => ?_
  subst hR
  (repeat' (first | refine JC.seq ?_ | refine JC.ops ?_ | refine JO.nil ?_ | refine JX.thenN ?_ | (apply r_move; (iterate 3 exact rfl)) | (apply r_lenT; (iterate 3 exact rfl); assumption; assumption) | (apply r_storeN; exact rfl; (first | exact trivial | exact ⟨rfl, rfl⟩); exact rfl; exact rfl; exact at0; (iterate 3 exact rfl)) | (apply r_allocZ; (iterate 3 exact rfl); intro _) | (apply r_storeN; exact rfl; (first | exact trivial | exact ⟨rfl, rfl⟩); exact rfl; exact rfl; exact at0; (iterate 3 exact rfl)) | refine JC.block ?_))
  rename_i b5
  have hD0 : DetI n K (ZM.mk n n e).at 0 1 ts := ⟨⟨_, ⟨rfl, by decide, fun i j _ hi _ hj => by rw [hM0 i j hi hj, bm_zero]⟩, rfl, fun i j => hx.at i j⟩, fun i j hi hj => by rw [hM0 i j hi hj]; exact bd_up (hx.at i j) (by have : K + 1 ≤ n * (K + 1) := Nat.le_mul_of_pos_left _ (by omega); omega)⟩
  generalize htv : Value.slice At ts.length ct = tvv at hT ⊢
  refine JC.loopH (ι := Nat × Int × SHeap × List TR) ⟨fun z => [(30, nv z.1), (29, nv n), (4, tvv), (5, .pointer (some ⟨b5, 0, none⟩)), (2, .pointer (some ⟨b2, 0, none⟩)), (3, .bool false)],
    fun z => [(b5, .cells (wc z.2.1) 32), (b2, .cells #[.bool false, .string ⟨#[]⟩] 32)] ++ (z.2.2.1 ++ (tH z.2.2.2 ++ [])),
    fun z => z.1 ≤ n ∧ OwnT z.2.2.1 tvv n z.2.2.2 ∧ z.2.2.2.length = n ∧ DetI n K (ZM.mk n n e).at z.1 z.2.1 z.2.2.2, fun z => n - z.1⟩ (0, 1, N, ts) ⟨by omega, hT, hlen, hD0⟩ (by repeat first | exact trivial | refine ⟨rfl, ?_⟩) ?_ ?_
  · dsimp only
    simp only [List.append_nil]
    exact HSub.at 0 rfl (HSub.at 0 rfl (HSub.skip (HSub.refl _)))
  · rintro ⟨k, last, N, ts⟩ ⟨hkn, hT, hlen, hD⟩
    dsimp only at hkn hT hlen hD ⊢
    obtain ⟨A, hbar, hdet, hA⟩ := hD.ex
    by_cases hlt : k < n
    · have hV : ∀ a, tv ts a = tv ts a := fun _ => rfl
      (repeat' (first | refine JC.seq ?_ | refine JC.ops ?_ | refine JO.nil ?_ | refine JX.thenN ?_ | (apply r_move; (iterate 3 exact rfl)) | (apply r_load; (iterate 4 exact rfl); exact at0; exact rfl) | (apply r_lss; (iterate 4 exact rfl); all_goals intro hc; all_goals try (exfalso; omega)) | (apply r_allocZ; (iterate 3 exact rfl); intro _) | (apply r_store; exact rfl; (first | exact trivial | exact ⟨rfl, rfl⟩); exact rfl; exact rfl; exact at0; exact rfl; exact rfl; (first | exact Nat.le_of_ble_eq_true rfl | (simp; done) | omega)) | refine JC.skip ?_ | refine JC.condT rfl ?_ | refine JC.block ?_))
      rename_i b6
      refine r_sliceR (l := k) (h' := n) rfl rfl rfl hT.rd rfl rfl (.inl rfl) rfl rfl (.inr ⟨rfl, hlen.symm⟩) hkn (by omega) (fun v35 hv35 _ => ?_)
      rw [Nat.mul_one, Nat.mul_one] at hv35
      (repeat' (first | (apply r_makeFunc; (iterate 4 exact rfl))))
      refine r_call0 trivial rfl rfl rfl (fun w hk hs => c_IndexFuncT (f := 48) (fst := #[]) (cap := #[.pointer (some ⟨b6, 0, none⟩)]) (fun i => decide (tM ts (k + i) k ≠ 0)) w v35 (n - k) _ (fun i => tv ts (k + i)) (hv35.at hk hs (by (repeat' first | exact HSub.nil _ | exact HSub.hd | exact HSub.in0 | exact HSub.refl _ | refine HSub.skip ?_ | refine HSub.skipN ?_))) (fun i hi => by rw [List.getElem?_take_of_lt hi, List.getElem?_drop]; exact tv_get (by omega)) (by omega) (fun i w' hi hk' => c_Det1 w' (tv ts (k + i)) b6 n k (tr' ts (k + i)) ((hk'.block b6 (hs.lt (List.mem_cons_self ..)) (by simp)).trans (hs.blk _ (List.mem_cons_self ..))) (((hT.row (i := k + i) (by omega)).rd.at hk hs ((tH_sub (tg_mem (by omega))).trans (by (repeat' first | exact HSub.nil _ | exact HSub.hd | exact HSub.in0 | exact HSub.refl _ | refine HSub.skip ?_ | refine HSub.skipN ?_)))).mono hk') hlt)) fun w v w' _ _ _ hR => ?_
      rcases hR with ⟨p, rfl, hp, hpz⟩ | ⟨rfl, hno⟩
      · have hpz : tM ts (k + p) k ≠ 0 := of_decide_eq_true hpz
        by_cases hp0 : p = 0
        · subst hp0
          rw [Nat.add_zero] at hpz
          (repeat' (first | refine JC.seq ?_ | refine JC.ops ?_ | refine JC.opsD ?_ | refine JO.nil ?_ | refine JX.thenN ?_ | (apply r_move; (iterate 3 exact rfl)) | (apply r_assign; (iterate 3 exact rfl)) | (apply r_load; (iterate 4 exact rfl); (first | exact at0 | exact at1); exact rfl) | (apply r_idxTr; (iterate 4 exact rfl); assumption; assumption; omega; omega) | (apply r_idxT; (iterate 4 exact rfl); assumption; omega) | (apply r_ldTr; (iterate 4 exact rfl); assumption; assumption; (repeat' first | exact HSub.nil _ | exact HSub.hd | exact HSub.in0 | exact HSub.refl _ | refine HSub.skip ?_ | refine HSub.skipN ?_); omega; omega) | (apply r_ldT; (iterate 4 exact rfl); assumption; assumption; (repeat' first | exact HSub.nil _ | exact HSub.hd | exact HSub.in0 | exact HSub.refl _ | refine HSub.skip ?_ | refine HSub.skipN ?_); omega) | (apply r_add1; (iterate 4 exact rfl); omega) | (apply r_storeN; exact rfl; (first | exact trivial | exact ⟨rfl, rfl⟩); exact rfl; exact rfl; (first | exact at0 | exact at1); (iterate 3 exact rfl)) | (apply r_lss; (iterate 4 exact rfl); all_goals intro hc; all_goals try (exfalso; omega)) | (apply r_gtr; (iterate 4 exact rfl); all_goals intro hc; all_goals try (exfalso; omega)) | (apply r_allocZ; (iterate 3 exact rfl); intro _) | (apply r_storeN; exact rfl; (first | exact trivial | exact ⟨rfl, rfl⟩); exact rfl; exact rfl; (first | exact at0 | exact at1); (iterate 3 exact rfl)) | refine JC.skip ?_ | refine JC.condF rfl ?_))
          rename_i b9
          refine r_sliceR (l := k + 1) (h' := n) rfl rfl rfl hT.rd rfl rfl (.inl rfl) rfl rfl (.inr ⟨rfl, hlen.symm⟩) (by omega) (by omega) (fun v94 hv94 _ => ?_)
          rw [Nat.mul_one, Nat.mul_one] at hv94
          skip
          refine r_lenR rfl rfl rfl hv94 ?_
          (repeat' (first | refine JO.nil ?_ | refine JX.thenN ?_ | (apply r_move; (iterate 3 exact rfl)) | refine JC.block ?_))
          refine JC.loopH (ι := Nat × List TR) ⟨fun z => [(96, nv z.1), (95, nv (n - (k + 1))), (94, v94), (9, .pointer (some ⟨b9, 0, none⟩)), (6, .pointer (some ⟨b6, 0, none⟩)), (30, nv k), (29, nv n), (4, tvv), (5, .pointer (some ⟨b5, 0, none⟩)), (2, .pointer (some ⟨b2, 0, none⟩)), (3, .bool false)],
            fun z => [(b9, .cells (wc (tM ts k k)) 32), (b6, .cells #[nv k] 3), (b5, .cells (wc last) 32), (b2, .cells #[.bool false, .string ⟨#[]⟩] 32)] ++ (N ++ (tH z.2 ++ [])),
            fun z => z.1 ≤ n - (k + 1) ∧ OwnT N tvv n z.2 ∧ z.2.length = n ∧ (∀ a, tv z.2 a = (tv ts) a) ∧ ∀ i j, i < n → j < n → tM z.2 i j = elS (tM ts) k last (k + 1 + z.1) 0 i j, fun z => n - (k + 1) - z.1⟩ (0, ts) ⟨by omega, hT, hlen, hV, fun i j _ _ => (elS_start _ _ _ _ (by omega) _ _).symm⟩ (by repeat first | exact trivial | refine ⟨rfl, ?_⟩) (HSub.refl _) (fun z hz => ?_)
          obtain ⟨q, ts3⟩ := z
          obtain ⟨hq, hT3, hlen3, hV3, hM3⟩ := hz
          dsimp only at hq hT3 hlen3 hV3 hM3 ⊢
          by_cases hq2 : q < n - (k + 1)
          · (repeat' (first | refine JC.seq ?_ | refine JC.ops ?_ | refine JO.nil ?_ | refine JX.thenN ?_ | (apply r_lss; (iterate 4 exact rfl); all_goals intro hc; all_goals try (exfalso; omega)) | refine JC.skip ?_ | refine JC.condT rfl ?_ | refine JC.block ?_))
            refine r_idxR1 rfl rfl rfl rfl hv94 hq2 ?_
            skip
            refine r_ldR (u := (tv ts) (k + 1 + q)) rfl rfl rfl rfl hv94 (by (repeat' first | exact HSub.nil _ | exact HSub.hd | exact HSub.in0 | exact HSub.refl _ | refine HSub.skip ?_ | refine HSub.skipN ?_)) (by rw [List.getElem?_take_of_lt hq2, List.getElem?_drop, ← hV]; exact tv_get (by omega)) ?_
            (repeat' (first | refine JC.seq ?_ | refine JC.ops ?_ | refine JO.nil ?_ | refine JX.thenN ?_ | (apply r_assign; (iterate 3 exact rfl)) | (apply r_load; (iterate 4 exact rfl); exact at1; exact rfl) | (apply r_add1; (iterate 4 exact rfl); omega) | refine JC.block ?_))
            refine JC.loopH (ι := Nat × List TR) ⟨fun z => [(12, nv z.1), (11, (tv ts) (k + 1 + q)), (96, nv q), (95, nv (n - (k + 1))), (94, v94), (9, .pointer (some ⟨b9, 0, none⟩)), (6, .pointer (some ⟨b6, 0, none⟩)), (30, nv k), (29, nv n), (4, tvv), (5, .pointer (some ⟨b5, 0, none⟩)), (2, .pointer (some ⟨b2, 0, none⟩)), (3, .bool false)],
              fun z => [(b9, .cells (wc (tM ts k k)) 32), (b6, .cells #[nv k] 3), (b5, .cells (wc last) 32), (b2, .cells #[.bool false, .string ⟨#[]⟩] 32)] ++ (N ++ (tH z.2 ++ [])),
              fun z => k + 1 ≤ z.1 ∧ z.1 ≤ n ∧ OwnT N tvv n z.2 ∧ z.2.length = n ∧ (∀ a, tv z.2 a = (tv ts) a) ∧ ∀ i j, i < n → j < n → tM z.2 i j = elS (tM ts) k last (k + 1 + q) z.1 i j, fun z => n - z.1⟩ (k + 1, ts3) ⟨by omega, by omega, hT3, hlen3, hV3, fun i j hi hj => by rw [hM3 i j hi hj, elS_zero]⟩ (by repeat first | exact trivial | refine ⟨rfl, ?_⟩) (HSub.refl _) (fun z hz => ?_)
            obtain ⟨j, ts4⟩ := z
            obtain ⟨hkj, hjn, hT4, hlen4, hV4, hM4⟩ := hz
            dsimp only at hkj hjn hT4 hlen4 hV4 hM4 ⊢
            by_cases hj : j < n
            · have e1 : tM ts4 (k + 1 + q) j = tM ts (k + 1 + q) j := by rw [hM4 _ _ (by omega) hj]; unfold elS; rw [if_neg (by omega)]
              have e2 : tM ts4 (k + 1 + q) k = tM ts (k + 1 + q) k := by rw [hM4 _ _ (by omega) hlt]; unfold elS; rw [if_neg (by omega)]
              have e3 : tM ts4 k j = tM ts k j := by rw [hM4 _ _ hlt hj]; unfold elS; rw [if_neg (by omega)]
              have d0 := hD.bd k k hlt hlt
              have d1 := hD.bd (k + 1 + q) j (by omega) hj
              have d2 := hD.bd (k + 1 + q) k (by omega) hlt
              have d3 := hD.bd k j hlt hj
              rw [← e1] at d1
              rw [← e2] at d2
              rw [← e3] at d3
              (repeat' (first | refine JC.seq ?_ | refine JC.ops ?_ | refine JC.opsD ?_ | refine JO.nil ?_ | refine JX.thenN ?_ | (apply r_move; (iterate 3 exact rfl)) | (apply r_load; (iterate 4 exact rfl); (first | exact at0 | exact at1); exact rfl) | (apply r_loadN; (iterate 4 exact rfl); (first | exact at0 | exact at1); exact rfl) | (apply r_lenTr; (iterate 3 exact rfl); assumption; assumption; omega) | (apply r_idxTr; (iterate 4 exact rfl); assumption; assumption; omega; omega) | (apply r_idxT; (iterate 4 exact rfl); assumption; omega) | (apply r_ldTr; (iterate 4 exact rfl); assumption; assumption; (repeat' first | exact HSub.nil _ | exact HSub.hd | exact HSub.in0 | exact HSub.refl _ | refine HSub.skip ?_ | refine HSub.skipN ?_); omega; omega) | (apply r_ldT; (iterate 4 exact rfl); assumption; assumption; (repeat' first | exact HSub.nil _ | exact HSub.hd | exact HSub.in0 | exact HSub.refl _ | refine HSub.skip ?_ | refine HSub.skipN ?_); omega) | (apply r_lss; (iterate 4 exact rfl); all_goals intro hc; all_goals try (exfalso; omega)) | refine JC.skip ?_ | refine JC.condT rfl ?_ | refine JC.block ?_))
              refine r_call0 (by first | trivial | exact ⟨rfl, rfl⟩) rfl rfl rfl (fun w _ _ => c_Mul w _ _ (tM ts k k) (tM ts4 (k + 1 + q) j) (n * (K + 1) + 1) (IsZ.can d0) (IsZ.can d1) (by omega)) fun w v w' _ _ _ hR => ?_
              subst hR
              skip
              refine r_call0 (by first | trivial | exact ⟨rfl, rfl⟩) rfl rfl rfl (fun w _ _ => c_Mul w _ _ (tM ts4 (k + 1 + q) k) (tM ts4 k j) (n * (K + 1) + 1) (IsZ.can d2) (IsZ.can d3) (by omega)) fun w v w' _ _ _ hR => ?_
              subst hR
              skip
              refine r_call0 (by first | trivial | exact ⟨rfl, rfl⟩) rfl rfl rfl (fun w _ _ => c_Sub w _ _ (tM ts k k * tM ts4 (k + 1 + q) j) (tM ts4 (k + 1 + q) k * tM ts4 k j) _ (IsZ.can (mul_bd d0 d1)) (IsZ.can (mul_bd d2 d3)) (by omega)) fun w v w' _ _ _ hR => ?_
              subst hR
              (repeat' (first | refine JC.ops ?_ | refine JO.nil ?_ | refine JX.thenN ?_ | (apply r_move; (iterate 3 exact rfl)) | (apply r_loadN; (iterate 4 exact rfl); (first | exact at0 | exact at3); exact rfl) | (apply r_storeN; exact rfl; (first | exact trivial | exact ⟨rfl, rfl⟩); exact rfl; exact rfl; (first | exact at0 | exact at3); (iterate 3 exact rfl)) | (apply r_allocZ; (iterate 3 exact rfl); intro _) | (apply r_storeN; exact rfl; (first | exact trivial | exact ⟨rfl, rfl⟩); exact rfl; exact rfl; (first | exact at0 | exact at3); (iterate 3 exact rfl))))
              refine r_call0 (by first | trivial | exact ⟨rfl, rfl⟩) rfl rfl rfl (fun w _ _ => c_Quo w _ _ (tM ts k k * tM ts4 (k + 1 + q) j - tM ts4 (k + 1 + q) k * tM ts4 k j) last (n * (K + 1) + 1 + (n * (K + 1) + 1) + 1) (IsZ.can (sub_bd (mul_bd d0 d1) (mul_bd d2 d3))) (IsZ.can (bd_up (hbar.lastLt (by omega) hbr hA) (by omega))) (by omega)) fun w v w' _ _ _ hR => ?_
              rw [if_neg hbar.ne] at hR
              subst hR
              (repeat' (first | (apply r_move; (iterate 3 exact rfl)) | (apply r_idxTr; (iterate 4 exact rfl); assumption; assumption; omega; omega) | (apply r_extract; (iterate 4 exact rfl))))
              refine r_stTr (V := (tv ts)) (A := [_, _, _, _, _]) hV4 hT4 rfl rfl (by first | trivial | exact ⟨rfl, rfl⟩) rfl rfl (by omega) hj (fun ts5 hT5 hlen5 hV5 hM5 => ?_)
              (repeat' (first | refine JC.ops ?_ | refine JO.nil ?_ | refine JX.thenN ?_ | (apply r_move; (iterate 3 exact rfl)) | (apply r_assign; (iterate 3 exact rfl)) | (apply r_add1; (iterate 4 exact rfl); omega) | refine JX.blockN ?_))
              refine JX.roundH (j + 1, ts5) ⟨by dsimp only; omega, by dsimp only; omega, hT5, by dsimp only; omega, hV5, fun a b ha hb => ?_⟩ (by dsimp only; omega) (by repeat first | exact trivial | refine ⟨rfl, ?_⟩) (HSub.skip (HSub.refl _))
              dsimp only
              rw [hM5, hM4 a b ha hb, e1, e2, e3]
              exact elS_step _ _ _ _ _ (by omega) (by omega) _ _
            · (repeat' (first | refine JC.seq ?_ | refine JC.ops ?_ | refine JO.nil ?_ | refine JX.thenN ?_ | (apply r_move; (iterate 3 exact rfl)) | (apply r_lenTr; (iterate 3 exact rfl); assumption; assumption; omega) | (apply r_add1; (iterate 4 exact rfl); omega) | (apply r_lss; (iterate 4 exact rfl); all_goals intro hc; all_goals try (exfalso; omega)) | refine JX.thenE ?_ | refine JC.exit ?_ | refine JC.condF rfl ?_ | refine JX.blockN ?_ | refine JX.blockE ?_))
              obtain rfl : j = n := by omega
              refine JX.roundH (q + 1, ts4) ⟨by dsimp only; omega, hT4, hlen4, hV4, fun a b ha hb => ?_⟩ (by dsimp only; omega) (by repeat first | exact trivial | refine ⟨rfl, ?_⟩) (HSub.refl _)
              dsimp only
              rw [hM4 a b ha hb, elS_row _ _ _ _ _ _ _ hb]
              rfl
          · (repeat' (first | refine JC.seq ?_ | refine JC.ops ?_ | refine JO.nil ?_ | refine JX.thenN ?_ | (apply r_move; (iterate 3 exact rfl)) | (apply r_loadN; (iterate 4 exact rfl); (first | exact at0 | exact at2); exact rfl) | (apply r_add1; (iterate 4 exact rfl); omega) | (apply r_storeN; exact rfl; (first | exact trivial | exact ⟨rfl, rfl⟩); exact rfl; exact rfl; (first | exact at0 | exact at2); (iterate 3 exact rfl)) | (apply r_lss; (iterate 4 exact rfl); all_goals intro hc; all_goals try (exfalso; omega)) | (apply r_storeN; exact rfl; (first | exact trivial | exact ⟨rfl, rfl⟩); exact rfl; exact rfl; (first | exact at0 | exact at2); (iterate 3 exact rfl)) | refine JX.thenE ?_ | refine JC.exit ?_ | refine JC.condF rfl ?_ | refine JX.blockN ?_ | refine JX.blockE ?_))
            have hst := hbar.step (M' := tM ts3) hlt hpz (fun i j hi hin hj hjn => by
              rw [hM3 i j hin hjn]
              unfold elS
              rw [if_pos ⟨hj, hi, .inl (by omega)⟩])
            refine JX.roundH (k + 1, tM ts k k, N, ts3) ⟨by dsimp only; omega, hT3, hlen3, ⟨⟨A, hst, hdet, hA⟩, fun i j hi hj => ?_⟩⟩ (by dsimp only; omega) (by repeat first | exact trivial | refine ⟨rfl, ?_⟩) (by exact HSub.at 2 rfl (HSub.at 2 rfl (HSub.skip (HSub.skip (HSub.refl _)))))
            by_cases hc : k < j ∧ k < i
            · exact hst.lt hbr hA (by omega) hi (by omega) hj
            · dsimp only
              rw [hM3 i j hi hj]
              unfold elS
              rw [if_neg (by omega)]
              exact hD.bd i j hi hj
        · have hkp : k + p < n := by omega
          (repeat' (first | refine JC.seq ?_ | refine JC.ops ?_ | refine JO.nil ?_ | refine JX.thenN ?_ | (apply r_move; (iterate 3 exact rfl)) | (apply r_assign; (iterate 3 exact rfl)) | (apply r_lss; (iterate 4 exact rfl); all_goals intro hc; all_goals try (exfalso; omega)) | (apply r_gtr; (iterate 4 exact rfl); all_goals intro hc; all_goals try (exfalso; omega)) | refine JC.skip ?_ | refine JC.condT rfl ?_ | refine JC.condF rfl ?_))
          have fork : ∀ (X : SHeap), HSub [(b6, Obj.cells #[nv k] 3 (0, 0))] ((b6, Obj.cells #[nv k] 3 (0, 0)) :: X) := fun X => HSub.hd
          refine JC.forkS [(b6, .cells #[nv k] 3 (0, 0))] (fork _) 11 15 (fun i op => kindAt [(11, .seq), (15, .seq)] i op) 2 2 [0, 1, 2, 3, 4, 5, 6, 7, 8, 9, 10, 12, 13, 14, 11, 15, 16, 17, 18, 19] [0, 1, 2, 3, 4, 5, 6, 7, 8, 9, 10, 12, 13, 14, 15, 11, 16, 17, 18, 19] (by decide) mixed (by kernel_rfl) (by kernel_rfl) ?_ ?_
          · (repeat' (first | (apply r_move; (iterate 3 exact rfl)) | (apply r_load; (iterate 4 exact rfl); exact at0; exact rfl) | (apply r_idxT; (iterate 4 exact rfl); assumption; omega) | (apply r_addN; (iterate 4 exact rfl); omega)))
            refine r_ldRs (u := tv ts (k + p)) (by first | trivial | exact ⟨rfl, rfl⟩) rfl rfl rfl hT.rd (by exact HSub.skip (HSub.skip (HSub.skip HSub.in0))) (tv_get (by omega)) ?_
            skip
            refine r_ldRs (u := tv ts k) (by first | trivial | exact ⟨rfl, rfl⟩) rfl rfl rfl hT.rd (by exact HSub.skip (HSub.skip (HSub.skip HSub.in0))) (tv_get (by omega)) ?_
            (repeat' (first | (apply r_idxT; (iterate 4 exact rfl); assumption; omega)))
            refine r_stOK (A := [_, _, _]) (N := N) (B := tH ts ++ []) hT.outer rfl HSub.hd rfl rfl rfl (tv_one hT (by omega)).1 (tv_one hT (by omega)).2 (by omega) (fun N4 hO4 => ?_)
            (repeat' (first | (apply r_idxT; (iterate 4 exact rfl); assumption; omega)))
            refine r_stOK (A := [_, _, _]) (N := N4) (B := tH ts ++ []) hO4 rfl HSub.hd rfl rfl rfl (tv_one hT (by omega)).1 (tv_one hT (by omega)).2 (by omega) (fun N5 hO5 => ?_)
            have hT1 : OwnT N5 tvv n (swT ts k (k + p)) := ⟨by rw [swT_len, swT_vs (by omega) (by omega)]; exact hO5, fun t ht => hT.rows t ((swT_perm (by omega) (by omega)).mem_iff.1 ht)⟩
            have hlen1 : (swT ts k (k + p)).length = n := by rw [swT_len]; exact hlen
            have hV1 : ∀ a, tv (swT ts k (k + p)) a = tv (swT ts k (k + p)) a := fun _ => rfl
            have hsM : ∀ i j, tM (swT ts k (k + p)) i j = if i = k + p then tM ts k j else if i = k then tM ts (k + p) j else tM ts i j := swT_M (by omega) (by omega)
            have hbd1 : ∀ i j, i < n → j < n → (tM (swT ts k (k + p)) i j).natAbs < 256 ^ (n * (K + 1) + 1) := fun i j hi hj => by
              rw [hsM]
              split
              · exact hD.bd _ _ hlt hj
              · split
                · exact hD.bd _ _ hkp hj
                · exact hD.bd _ _ hi hj
            (repeat' (first | refine JO.nil ?_))
            refine JX.part (F' := [(7, nv p), (6, .pointer (some ⟨b6, 0, none⟩)), (30, nv k), (29, nv n), (4, tvv), (5, .pointer (some ⟨b5, 0, none⟩)), (2, .pointer (some ⟨b2, 0, none⟩)), (3, .bool false)]) (H' := [(b6, .cells #[nv k] 3 (0, 0)), (b5, .cells (wc last) 32), (b2, .cells #[.bool false, .string ⟨#[]⟩] 32)] ++ (N5 ++ (tH (swT ts k (k + p)) ++ []))) (by repeat first | exact trivial | refine ⟨rfl, ?_⟩) ⟨[], ?_⟩ ?_
            · simp only [List.append_nil]
              exact List.Perm.append_left _ (List.Perm.append_left _ (tH_perm (swT_perm (by omega) (by omega)).symm))
            refine JX.thenN ?_
            (repeat' (first | refine JC.seq ?_ | refine JC.ops ?_ | refine JO.nil ?_ | refine JX.thenN ?_ | (apply r_move; (iterate 3 exact rfl)) | (apply r_load; (iterate 4 exact rfl); exact at0; exact rfl) | (apply r_lenTr; (iterate 3 exact rfl); assumption; assumption; omega) | (apply r_idxT; (iterate 4 exact rfl); assumption; omega) | (apply r_ldT; (iterate 4 exact rfl); assumption; assumption; (repeat' first | exact HSub.nil _ | exact HSub.hd | exact HSub.in0 | exact HSub.refl _ | refine HSub.skip ?_ | refine HSub.skipN ?_); omega) | refine JC.block ?_))
            refine JC.loopH (ι := Nat × List TR) ⟨fun z => [(66, nv z.1), (65, nv n), (7, nv p), (6, .pointer (some ⟨b6, 0, none⟩)), (30, nv k), (29, nv n), (4, tvv), (5, .pointer (some ⟨b5, 0, none⟩)), (2, .pointer (some ⟨b2, 0, none⟩)), (3, .bool false)],
              fun z => [(b6, .cells #[nv k] 3 (0, 0)), (b5, .cells (wc last) 32), (b2, .cells #[.bool false, .string ⟨#[]⟩] 32)] ++ (N5 ++ (tH z.2 ++ [])),
              fun z => z.1 ≤ n ∧ OwnT N5 tvv n z.2 ∧ z.2.length = n ∧ (∀ a, tv z.2 a = (tv (swT ts k (k + p))) a) ∧ ∀ i j, i < n → j < n → tM z.2 i j = if i = k ∧ j < z.1 then -(tM (swT ts k (k + p)) i j) else tM (swT ts k (k + p)) i j, fun z => n - z.1⟩ (0, (swT ts k (k + p))) ⟨by omega, hT1, hlen1, hV1, fun i j _ _ => by simp⟩ (by repeat first | exact trivial | refine ⟨rfl, ?_⟩) (HSub.refl _) (fun z hz => ?_)
            obtain ⟨jj, ts2⟩ := z
            obtain ⟨hjj, hT2, hlen2, hV2, hM2⟩ := hz
            dsimp only at hjj hT2 hlen2 hV2 hM2 ⊢
            by_cases hj2 : jj < n
            · have e4 : tM ts2 k jj = tM (swT ts k (k + p)) k jj := by rw [hM2 _ _ hlt hj2, if_neg (by omega)]
              (repeat' (first | refine JC.seq ?_ | refine JC.ops ?_ | refine JC.opsD ?_ | refine JO.nil ?_ | refine JX.thenN ?_ | (apply r_move; (iterate 3 exact rfl)) | (apply r_assign; (iterate 3 exact rfl)) | (apply r_load; (iterate 4 exact rfl); exact at0; exact rfl) | (apply r_idxTr; (iterate 4 exact rfl); assumption; assumption; omega; omega) | (apply r_idxT; (iterate 4 exact rfl); assumption; omega) | (apply r_ldTr; (iterate 4 exact rfl); assumption; assumption; (repeat' first | exact HSub.nil _ | exact HSub.hd | exact HSub.in0 | exact HSub.refl _ | refine HSub.skip ?_ | refine HSub.skipN ?_); omega; omega) | (apply r_ldT; (iterate 4 exact rfl); assumption; assumption; (repeat' first | exact HSub.nil _ | exact HSub.hd | exact HSub.in0 | exact HSub.refl _ | refine HSub.skip ?_ | refine HSub.skipN ?_); omega) | (apply r_lss; (iterate 4 exact rfl); all_goals intro hc; all_goals try (exfalso; omega)) | refine JC.skip ?_ | refine JC.condT rfl ?_ | refine JC.block ?_))
              refine r_call0 (by first | trivial | exact ⟨rfl, rfl⟩) rfl rfl rfl (fun w _ _ => c_Neg w _ (tM ts2 k jj) _ (IsZ.can (by rw [e4]; exact hbd1 k jj hlt hj2)) (by omega)) fun w v w' _ _ _ hR => ?_
              subst hR
              (repeat' (first | (apply r_idxTr; (iterate 4 exact rfl); assumption; assumption; omega; omega)))
              refine r_stTr (V := (tv (swT ts k (k + p)))) (A := [_, _, _]) hV2 hT2 rfl rfl (by first | trivial | exact ⟨rfl, rfl⟩) rfl rfl (by omega) hj2 (fun ts5 hT5 hlen5 hV5 hM5 => ?_)
              (repeat' (first | refine JC.ops ?_ | refine JO.nil ?_ | refine JX.thenN ?_ | (apply r_move; (iterate 3 exact rfl)) | (apply r_add1; (iterate 4 exact rfl); omega) | refine JX.blockN ?_))
              refine JX.roundH (jj + 1, ts5) ⟨by dsimp only; omega, hT5, by dsimp only; omega, hV5, fun a b ha hb => ?_⟩ (by dsimp only; omega) (by repeat first | exact trivial | refine ⟨rfl, ?_⟩) (HSub.refl _)
              dsimp only
              rw [hM5, hM2 a b ha hb, e4]
              by_cases h1 : a = k ∧ b = jj
              · obtain ⟨rfl, rfl⟩ := h1
                rw [if_pos ⟨rfl, rfl⟩, if_pos ⟨rfl, by omega⟩]
              · rw [if_neg h1]
                by_cases h2 : a = k ∧ b < jj
                · rw [if_pos h2, if_pos ⟨h2.1, by omega⟩]
                · rw [if_neg h2, if_neg (by omega)]
            · obtain rfl : n = jj := by omega
              have hsw := hbar.swap (M' := tM ts2) (-1) (q := k + p) (by omega) hkp (fun j hj => by rw [hM2 _ _ hlt hj, if_pos ⟨rfl, hj⟩, hsM, if_neg (by omega), if_pos rfl]; omega) (fun j hj => by rw [hM2 _ _ hkp hj, if_neg (by omega), hsM, if_pos rfl]) (fun i j hi hj h1 h2 => by rw [hM2 _ _ hi hj, if_neg (by omega), hsM, if_neg h2, if_neg h1])
              have hpz2 : tM ts2 k k ≠ 0 := by
                rw [hM2 _ _ hlt hlt, if_pos ⟨rfl, hlt⟩, hsM, if_neg (by omega), if_pos rfl]
                omega
              have hdet2 : det n (setRow (swp A k (k + p)) k (fun j => -1 * A (k + p) j)) = det n (ZM.mk n n e).at := by rw [hsw.2, ← hdet]; omega
              have hbd2 : ∀ i j, i < n → j < n → (tM ts2 i j).natAbs < 256 ^ (n * (K + 1) + 1) := fun i j hi hj => by
                rw [hM2 _ _ hi hj]
                split
                · rw [Int.natAbs_neg]; exact hbd1 i j hi hj
                · exact hbd1 i j hi hj
              have hA2 := neg_bd k (k + p) hA
              (repeat' (first | refine JC.seq ?_ | refine JC.ops ?_ | refine JC.opsD ?_ | refine JO.nil ?_ | refine JX.thenN ?_ | (apply r_move; (iterate 3 exact rfl)) | (apply r_load; (iterate 4 exact rfl); (first | exact at0 | exact at1); exact rfl) | (apply r_idxTr; (iterate 4 exact rfl); assumption; assumption; omega; omega) | (apply r_idxT; (iterate 4 exact rfl); assumption; omega) | (apply r_ldTr; (iterate 4 exact rfl); assumption; assumption; (repeat' first | exact HSub.nil _ | exact HSub.hd | exact HSub.in0 | exact HSub.refl _ | refine HSub.skip ?_ | refine HSub.skipN ?_); omega; omega) | (apply r_ldT; (iterate 4 exact rfl); assumption; assumption; (repeat' first | exact HSub.nil _ | exact HSub.hd | exact HSub.in0 | exact HSub.refl _ | refine HSub.skip ?_ | refine HSub.skipN ?_); omega) | (apply r_add1; (iterate 4 exact rfl); omega) | (apply r_storeN; exact rfl; (first | exact trivial | exact ⟨rfl, rfl⟩); exact rfl; exact rfl; (first | exact at0 | exact at1); (iterate 3 exact rfl)) | (apply r_lss; (iterate 4 exact rfl); all_goals intro hc; all_goals try (exfalso; omega)) | (apply r_allocZ; (iterate 3 exact rfl); intro _) | (apply r_storeN; exact rfl; (first | exact trivial | exact ⟨rfl, rfl⟩); exact rfl; exact rfl; (first | exact at0 | exact at1); (iterate 3 exact rfl)) | refine JX.thenE ?_ | refine JC.exit ?_ | refine JC.condF rfl ?_ | refine JX.blockE ?_))
              rename_i b9
              refine r_sliceR (l := k + 1) (h' := n) rfl rfl rfl hT2.rd rfl rfl (.inl rfl) rfl rfl (.inr ⟨rfl, hlen2.symm⟩) (by omega) (by omega) (fun v94 hv94 _ => ?_)
              rw [Nat.mul_one, Nat.mul_one] at hv94
              skip
              refine r_lenR rfl rfl rfl hv94 ?_
              (repeat' (first | refine JO.nil ?_ | refine JX.thenN ?_ | (apply r_move; (iterate 3 exact rfl)) | refine JC.block ?_))
              refine JC.loopH (ι := Nat × List TR) ⟨fun z => [(96, nv z.1), (95, nv (n - (k + 1))), (94, v94), (9, .pointer (some ⟨b9, 0, none⟩)), (6, .pointer (some ⟨b6, 0, none⟩)), (30, nv k), (29, nv n), (4, tvv), (5, .pointer (some ⟨b5, 0, none⟩)), (2, .pointer (some ⟨b2, 0, none⟩)), (3, .bool false)],
                fun z => [(b9, .cells (wc (tM ts2 k k)) 32), (b6, .cells #[nv k] 3), (b5, .cells (wc last) 32), (b2, .cells #[.bool false, .string ⟨#[]⟩] 32)] ++ (N5 ++ (tH z.2 ++ [])),
                fun z => z.1 ≤ n - (k + 1) ∧ OwnT N5 tvv n z.2 ∧ z.2.length = n ∧ (∀ a, tv z.2 a = (tv (swT ts k (k + p))) a) ∧ ∀ i j, i < n → j < n → tM z.2 i j = elS (tM ts2) k last (k + 1 + z.1) 0 i j, fun z => n - (k + 1) - z.1⟩ (0, ts2) ⟨by omega, hT2, hlen2, hV2, fun i j _ _ => (elS_start _ _ _ _ (by omega) _ _).symm⟩ (by repeat first | exact trivial | refine ⟨rfl, ?_⟩) (HSub.refl _) (fun z hz => ?_)
              obtain ⟨q, ts3⟩ := z
              obtain ⟨hq, hT3, hlen3, hV3, hM3⟩ := hz
              dsimp only at hq hT3 hlen3 hV3 hM3 ⊢
              by_cases hq2 : q < n - (k + 1)
              · (repeat' (first | refine JC.seq ?_ | refine JC.ops ?_ | refine JO.nil ?_ | refine JX.thenN ?_ | (apply r_lss; (iterate 4 exact rfl); all_goals intro hc; all_goals try (exfalso; omega)) | refine JC.skip ?_ | refine JC.condT rfl ?_ | refine JC.block ?_))
                refine r_idxR1 rfl rfl rfl rfl hv94 hq2 ?_
                skip
                refine r_ldR (u := (tv (swT ts k (k + p))) (k + 1 + q)) rfl rfl rfl rfl hv94 (by (repeat' first | exact HSub.nil _ | exact HSub.hd | exact HSub.in0 | exact HSub.refl _ | refine HSub.skip ?_ | refine HSub.skipN ?_)) (by rw [List.getElem?_take_of_lt hq2, List.getElem?_drop, ← hV2]; exact tv_get (by omega)) ?_
                (repeat' (first | refine JC.seq ?_ | refine JC.ops ?_ | refine JO.nil ?_ | refine JX.thenN ?_ | (apply r_assign; (iterate 3 exact rfl)) | (apply r_load; (iterate 4 exact rfl); exact at1; exact rfl) | (apply r_add1; (iterate 4 exact rfl); omega) | refine JC.block ?_))
                refine JC.loopH (ι := Nat × List TR) ⟨fun z => [(12, nv z.1), (11, (tv (swT ts k (k + p))) (k + 1 + q)), (96, nv q), (95, nv (n - (k + 1))), (94, v94), (9, .pointer (some ⟨b9, 0, none⟩)), (6, .pointer (some ⟨b6, 0, none⟩)), (30, nv k), (29, nv n), (4, tvv), (5, .pointer (some ⟨b5, 0, none⟩)), (2, .pointer (some ⟨b2, 0, none⟩)), (3, .bool false)],
                  fun z => [(b9, .cells (wc (tM ts2 k k)) 32), (b6, .cells #[nv k] 3), (b5, .cells (wc last) 32), (b2, .cells #[.bool false, .string ⟨#[]⟩] 32)] ++ (N5 ++ (tH z.2 ++ [])),
                  fun z => k + 1 ≤ z.1 ∧ z.1 ≤ n ∧ OwnT N5 tvv n z.2 ∧ z.2.length = n ∧ (∀ a, tv z.2 a = (tv (swT ts k (k + p))) a) ∧ ∀ i j, i < n → j < n → tM z.2 i j = elS (tM ts2) k last (k + 1 + q) z.1 i j, fun z => n - z.1⟩ (k + 1, ts3) ⟨by omega, by omega, hT3, hlen3, hV3, fun i j hi hj => by rw [hM3 i j hi hj, elS_zero]⟩ (by repeat first | exact trivial | refine ⟨rfl, ?_⟩) (HSub.refl _) (fun z hz => ?_)
                obtain ⟨j, ts4⟩ := z
                obtain ⟨hkj, hjn, hT4, hlen4, hV4, hM4⟩ := hz
                dsimp only at hkj hjn hT4 hlen4 hV4 hM4 ⊢
                by_cases hj : j < n
                · have e1 : tM ts4 (k + 1 + q) j = tM ts2 (k + 1 + q) j := by rw [hM4 _ _ (by omega) hj]; unfold elS; rw [if_neg (by omega)]
                  have e2 : tM ts4 (k + 1 + q) k = tM ts2 (k + 1 + q) k := by rw [hM4 _ _ (by omega) hlt]; unfold elS; rw [if_neg (by omega)]
                  have e3 : tM ts4 k j = tM ts2 k j := by rw [hM4 _ _ hlt hj]; unfold elS; rw [if_neg (by omega)]
                  have d0 := hbd2 k k hlt hlt
                  have d1 := hbd2 (k + 1 + q) j (by omega) hj
                  have d2 := hbd2 (k + 1 + q) k (by omega) hlt
                  have d3 := hbd2 k j hlt hj
                  rw [← e1] at d1
                  rw [← e2] at d2
                  rw [← e3] at d3
                  (repeat' (first | refine JC.seq ?_ | refine JC.ops ?_ | refine JC.opsD ?_ | refine JO.nil ?_ | refine JX.thenN ?_ | (apply r_move; (iterate 3 exact rfl)) | (apply r_load; (iterate 4 exact rfl); (first | exact at0 | exact at1); exact rfl) | (apply r_loadN; (iterate 4 exact rfl); (first | exact at0 | exact at1); exact rfl) | (apply r_lenTr; (iterate 3 exact rfl); assumption; assumption; omega) | (apply r_idxTr; (iterate 4 exact rfl); assumption; assumption; omega; omega) | (apply r_idxT; (iterate 4 exact rfl); assumption; omega) | (apply r_ldTr; (iterate 4 exact rfl); assumption; assumption; (repeat' first | exact HSub.nil _ | exact HSub.hd | exact HSub.in0 | exact HSub.refl _ | refine HSub.skip ?_ | refine HSub.skipN ?_); omega; omega) | (apply r_ldT; (iterate 4 exact rfl); assumption; assumption; (repeat' first | exact HSub.nil _ | exact HSub.hd | exact HSub.in0 | exact HSub.refl _ | refine HSub.skip ?_ | refine HSub.skipN ?_); omega) | (apply r_lss; (iterate 4 exact rfl); all_goals intro hc; all_goals try (exfalso; omega)) | refine JC.skip ?_ | refine JC.condT rfl ?_ | refine JC.block ?_))
                  refine r_call0 (by first | trivial | exact ⟨rfl, rfl⟩) rfl rfl rfl (fun w _ _ => c_Mul w _ _ (tM ts2 k k) (tM ts4 (k + 1 + q) j) (n * (K + 1) + 1) (IsZ.can d0) (IsZ.can d1) (by omega)) fun w v w' _ _ _ hR => ?_
                  subst hR
                  skip
                  refine r_call0 (by first | trivial | exact ⟨rfl, rfl⟩) rfl rfl rfl (fun w _ _ => c_Mul w _ _ (tM ts4 (k + 1 + q) k) (tM ts4 k j) (n * (K + 1) + 1) (IsZ.can d2) (IsZ.can d3) (by omega)) fun w v w' _ _ _ hR => ?_
                  subst hR
                  skip
                  refine r_call0 (by first | trivial | exact ⟨rfl, rfl⟩) rfl rfl rfl (fun w _ _ => c_Sub w _ _ (tM ts2 k k * tM ts4 (k + 1 + q) j) (tM ts4 (k + 1 + q) k * tM ts4 k j) _ (IsZ.can (mul_bd d0 d1)) (IsZ.can (mul_bd d2 d3)) (by omega)) fun w v w' _ _ _ hR => ?_
                  subst hR
                  (repeat' (first | refine JC.ops ?_ | refine JO.nil ?_ | refine JX.thenN ?_ | (apply r_move; (iterate 3 exact rfl)) | (apply r_loadN; (iterate 4 exact rfl); (first | exact at0 | exact at3); exact rfl) | (apply r_storeN; exact rfl; (first | exact trivial | exact ⟨rfl, rfl⟩); exact rfl; exact rfl; (first | exact at0 | exact at3); (iterate 3 exact rfl)) | (apply r_allocZ; (iterate 3 exact rfl); intro _) | (apply r_storeN; exact rfl; (first | exact trivial | exact ⟨rfl, rfl⟩); exact rfl; exact rfl; (first | exact at0 | exact at3); (iterate 3 exact rfl))))
                  refine r_call0 (by first | trivial | exact ⟨rfl, rfl⟩) rfl rfl rfl (fun w _ _ => c_Quo w _ _ (tM ts2 k k * tM ts4 (k + 1 + q) j - tM ts4 (k + 1 + q) k * tM ts4 k j) last (n * (K + 1) + 1 + (n * (K + 1) + 1) + 1) (IsZ.can (sub_bd (mul_bd d0 d1) (mul_bd d2 d3))) (IsZ.can (bd_up (hsw.1.lastLt (by omega) hbr hA2) (by omega))) (by omega)) fun w v w' _ _ _ hR => ?_
                  rw [if_neg hsw.1.ne] at hR
                  subst hR
                  (repeat' (first | (apply r_move; (iterate 3 exact rfl)) | (apply r_idxTr; (iterate 4 exact rfl); assumption; assumption; omega; omega) | (apply r_extract; (iterate 4 exact rfl))))
                  refine r_stTr (V := (tv (swT ts k (k + p)))) (A := [_, _, _, _, _]) hV4 hT4 rfl rfl (by first | trivial | exact ⟨rfl, rfl⟩) rfl rfl (by omega) hj (fun ts5 hT5 hlen5 hV5 hM5 => ?_)
                  (repeat' (first | refine JC.ops ?_ | refine JO.nil ?_ | refine JX.thenN ?_ | (apply r_move; (iterate 3 exact rfl)) | (apply r_assign; (iterate 3 exact rfl)) | (apply r_add1; (iterate 4 exact rfl); omega) | refine JX.blockN ?_))
                  refine JX.roundH (j + 1, ts5) ⟨by dsimp only; omega, by dsimp only; omega, hT5, by dsimp only; omega, hV5, fun a b ha hb => ?_⟩ (by dsimp only; omega) (by repeat first | exact trivial | refine ⟨rfl, ?_⟩) (HSub.skip (HSub.refl _))
                  dsimp only
                  rw [hM5, hM4 a b ha hb, e1, e2, e3]
                  exact elS_step _ _ _ _ _ (by omega) (by omega) _ _
                · (repeat' (first | refine JC.seq ?_ | refine JC.ops ?_ | refine JO.nil ?_ | refine JX.thenN ?_ | (apply r_move; (iterate 3 exact rfl)) | (apply r_lenTr; (iterate 3 exact rfl); assumption; assumption; omega) | (apply r_add1; (iterate 4 exact rfl); omega) | (apply r_lss; (iterate 4 exact rfl); all_goals intro hc; all_goals try (exfalso; omega)) | refine JX.thenE ?_ | refine JC.exit ?_ | refine JC.condF rfl ?_ | refine JX.blockN ?_ | refine JX.blockE ?_))
                  obtain rfl : j = n := by omega
                  refine JX.roundH (q + 1, ts4) ⟨by dsimp only; omega, hT4, hlen4, hV4, fun a b ha hb => ?_⟩ (by dsimp only; omega) (by repeat first | exact trivial | refine ⟨rfl, ?_⟩) (HSub.refl _)
                  dsimp only
                  rw [hM4 a b ha hb, elS_row _ _ _ _ _ _ _ hb]
                  rfl
              · (repeat' (first | refine JC.seq ?_ | refine JC.ops ?_ | refine JO.nil ?_ | refine JX.thenN ?_ | (apply r_move; (iterate 3 exact rfl)) | (apply r_loadN; (iterate 4 exact rfl); (first | exact at0 | exact at2); exact rfl) | (apply r_add1; (iterate 4 exact rfl); omega) | (apply r_storeN; exact rfl; (first | exact trivial | exact ⟨rfl, rfl⟩); exact rfl; exact rfl; (first | exact at0 | exact at2); (iterate 3 exact rfl)) | (apply r_lss; (iterate 4 exact rfl); all_goals intro hc; all_goals try (exfalso; omega)) | (apply r_storeN; exact rfl; (first | exact trivial | exact ⟨rfl, rfl⟩); exact rfl; exact rfl; (first | exact at0 | exact at2); (iterate 3 exact rfl)) | refine JX.thenE ?_ | refine JC.exit ?_ | refine JC.condF rfl ?_ | refine JX.blockN ?_ | refine JX.blockE ?_))
                have hst := hsw.1.step (M' := tM ts3) hlt hpz2 (fun i j hi hin hj hjn => by
                  rw [hM3 i j hin hjn]
                  unfold elS
                  rw [if_pos ⟨hj, hi, .inl (by omega)⟩])
                refine JX.roundH (k + 1, tM ts2 k k, N5, ts3) ⟨by dsimp only; omega, hT3, hlen3, ⟨⟨_, hst, hdet2, hA2⟩, fun i j hi hj => ?_⟩⟩ (by dsimp only; omega) (by repeat first | exact trivial | refine ⟨rfl, ?_⟩) (by exact HSub.at 2 rfl (HSub.at 2 rfl (HSub.skip (HSub.skip (HSub.refl _)))))
                by_cases hc : k < j ∧ k < i
                · exact hst.lt hbr hA2 (by omega) hi (by omega) hj
                · dsimp only
                  rw [hM3 i j hi hj]
                  unfold elS
                  rw [if_neg (by omega)]
                  exact hbd2 i j hi hj
          · (repeat' (first | (apply r_move; (iterate 3 exact rfl)) | (apply r_load; (iterate 4 exact rfl); exact at0; exact rfl) | (apply r_idxT; (iterate 4 exact rfl); assumption; omega) | (apply r_addN; (iterate 4 exact rfl); omega)))
            refine r_ldRs (u := tv ts k) (by first | trivial | exact ⟨rfl, rfl⟩) rfl rfl rfl hT.rd (by exact HSub.skip (HSub.skip (HSub.skip HSub.in0))) (tv_get (by omega)) ?_
            skip
            refine r_ldRs (u := tv ts (k + p)) (by first | trivial | exact ⟨rfl, rfl⟩) rfl rfl rfl hT.rd (by exact HSub.skip (HSub.skip (HSub.skip HSub.in0))) (tv_get (by omega)) ?_
            (repeat' (first | (apply r_idxT; (iterate 4 exact rfl); assumption; omega)))
            refine r_stOK (A := [_, _, _]) (N := N) (B := tH ts ++ []) hT.outer rfl HSub.hd rfl rfl rfl (tv_one hT (by omega)).1 (tv_one hT (by omega)).2 (by omega) (fun N4 hO4 => ?_)
            (repeat' (first | (apply r_idxT; (iterate 4 exact rfl); assumption; omega)))
            refine r_stOK (A := [_, _, _]) (N := N4) (B := tH ts ++ []) hO4 rfl HSub.hd rfl rfl rfl (tv_one hT (by omega)).1 (tv_one hT (by omega)).2 (by omega) (fun N5 hO5 => ?_)
            have hT1 : OwnT N5 tvv n (swT ts k (k + p)) := ⟨by rw [swT_len, swT_vs (by omega) (by omega)]; exact hO5, fun t ht => hT.rows t ((swT_perm (by omega) (by omega)).mem_iff.1 ht)⟩
            have hlen1 : (swT ts k (k + p)).length = n := by rw [swT_len]; exact hlen
            have hV1 : ∀ a, tv (swT ts k (k + p)) a = tv (swT ts k (k + p)) a := fun _ => rfl
            have hsM : ∀ i j, tM (swT ts k (k + p)) i j = if i = k + p then tM ts k j else if i = k then tM ts (k + p) j else tM ts i j := swT_M (by omega) (by omega)
            have hbd1 : ∀ i j, i < n → j < n → (tM (swT ts k (k + p)) i j).natAbs < 256 ^ (n * (K + 1) + 1) := fun i j hi hj => by
              rw [hsM]
              split
              · exact hD.bd _ _ hlt hj
              · split
                · exact hD.bd _ _ hkp hj
                · exact hD.bd _ _ hi hj
            (repeat' (first | refine JO.nil ?_))
            refine JX.part (F' := [(7, nv p), (6, .pointer (some ⟨b6, 0, none⟩)), (30, nv k), (29, nv n), (4, tvv), (5, .pointer (some ⟨b5, 0, none⟩)), (2, .pointer (some ⟨b2, 0, none⟩)), (3, .bool false)]) (H' := [(b6, .cells #[nv k] 3 (0, 0)), (b5, .cells (wc last) 32), (b2, .cells #[.bool false, .string ⟨#[]⟩] 32)] ++ (N5 ++ (tH (swT ts k (k + p)) ++ []))) (by repeat first | exact trivial | refine ⟨rfl, ?_⟩) ⟨[], ?_⟩ ?_
            · simp only [List.append_nil]
              exact List.Perm.append_left _ (List.Perm.append_left _ (tH_perm (swT_perm (by omega) (by omega)).symm))
            refine JX.thenN ?_
            (repeat' (first | refine JC.seq ?_ | refine JC.ops ?_ | refine JO.nil ?_ | refine JX.thenN ?_ | (apply r_move; (iterate 3 exact rfl)) | (apply r_load; (iterate 4 exact rfl); exact at0; exact rfl) | (apply r_lenTr; (iterate 3 exact rfl); assumption; assumption; omega) | (apply r_idxT; (iterate 4 exact rfl); assumption; omega) | (apply r_ldT; (iterate 4 exact rfl); assumption; assumption; (repeat' first | exact HSub.nil _ | exact HSub.hd | exact HSub.in0 | exact HSub.refl _ | refine HSub.skip ?_ | refine HSub.skipN ?_); omega) | refine JC.block ?_))
            refine JC.loopH (ι := Nat × List TR) ⟨fun z => [(66, nv z.1), (65, nv n), (7, nv p), (6, .pointer (some ⟨b6, 0, none⟩)), (30, nv k), (29, nv n), (4, tvv), (5, .pointer (some ⟨b5, 0, none⟩)), (2, .pointer (some ⟨b2, 0, none⟩)), (3, .bool false)],
              fun z => [(b6, .cells #[nv k] 3 (0, 0)), (b5, .cells (wc last) 32), (b2, .cells #[.bool false, .string ⟨#[]⟩] 32)] ++ (N5 ++ (tH z.2 ++ [])),
              fun z => z.1 ≤ n ∧ OwnT N5 tvv n z.2 ∧ z.2.length = n ∧ (∀ a, tv z.2 a = (tv (swT ts k (k + p))) a) ∧ ∀ i j, i < n → j < n → tM z.2 i j = if i = k ∧ j < z.1 then -(tM (swT ts k (k + p)) i j) else tM (swT ts k (k + p)) i j, fun z => n - z.1⟩ (0, (swT ts k (k + p))) ⟨by omega, hT1, hlen1, hV1, fun i j _ _ => by simp⟩ (by repeat first | exact trivial | refine ⟨rfl, ?_⟩) (HSub.refl _) (fun z hz => ?_)
            obtain ⟨jj, ts2⟩ := z
            obtain ⟨hjj, hT2, hlen2, hV2, hM2⟩ := hz
            dsimp only at hjj hT2 hlen2 hV2 hM2 ⊢
            by_cases hj2 : jj < n
            · have e4 : tM ts2 k jj = tM (swT ts k (k + p)) k jj := by rw [hM2 _ _ hlt hj2, if_neg (by omega)]
              (repeat' (first | refine JC.seq ?_ | refine JC.ops ?_ | refine JC.opsD ?_ | refine JO.nil ?_ | refine JX.thenN ?_ | (apply r_move; (iterate 3 exact rfl)) | (apply r_assign; (iterate 3 exact rfl)) | (apply r_load; (iterate 4 exact rfl); exact at0; exact rfl) | (apply r_idxTr; (iterate 4 exact rfl); assumption; assumption; omega; omega) | (apply r_idxT; (iterate 4 exact rfl); assumption; omega) | (apply r_ldTr; (iterate 4 exact rfl); assumption; assumption; (repeat' first | exact HSub.nil _ | exact HSub.hd | exact HSub.in0 | exact HSub.refl _ | refine HSub.skip ?_ | refine HSub.skipN ?_); omega; omega) | (apply r_ldT; (iterate 4 exact rfl); assumption; assumption; (repeat' first | exact HSub.nil _ | exact HSub.hd | exact HSub.in0 | exact HSub.refl _ | refine HSub.skip ?_ | refine HSub.skipN ?_); omega) | (apply r_lss; (iterate 4 exact rfl); all_goals intro hc; all_goals try (exfalso; omega)) | refine JC.skip ?_ | refine JC.condT rfl ?_ | refine JC.block ?_))
              refine r_call0 (by first | trivial | exact ⟨rfl, rfl⟩) rfl rfl rfl (fun w _ _ => c_Neg w _ (tM ts2 k jj) _ (IsZ.can (by rw [e4]; exact hbd1 k jj hlt hj2)) (by omega)) fun w v w' _ _ _ hR => ?_
              subst hR
              (repeat' (first | (apply r_idxTr; (iterate 4 exact rfl); assumption; assumption; omega; omega)))
              refine r_stTr (V := (tv (swT ts k (k + p)))) (A := [_, _, _]) hV2 hT2 rfl rfl (by first | trivial | exact ⟨rfl, rfl⟩) rfl rfl (by omega) hj2 (fun ts5 hT5 hlen5 hV5 hM5 => ?_)
              (repeat' (first | refine JC.ops ?_ | refine JO.nil ?_ | refine JX.thenN ?_ | (apply r_move; (iterate 3 exact rfl)) | (apply r_add1; (iterate 4 exact rfl); omega) | refine JX.blockN ?_))
              refine JX.roundH (jj + 1, ts5) ⟨by dsimp only; omega, hT5, by dsimp only; omega, hV5, fun a b ha hb => ?_⟩ (by dsimp only; omega) (by repeat first | exact trivial | refine ⟨rfl, ?_⟩) (HSub.refl _)
              dsimp only
              rw [hM5, hM2 a b ha hb, e4]
              by_cases h1 : a = k ∧ b = jj
              · obtain ⟨rfl, rfl⟩ := h1
                rw [if_pos ⟨rfl, rfl⟩, if_pos ⟨rfl, by omega⟩]
              · rw [if_neg h1]
                by_cases h2 : a = k ∧ b < jj
                · rw [if_pos h2, if_pos ⟨h2.1, by omega⟩]
                · rw [if_neg h2, if_neg (by omega)]
            · obtain rfl : n = jj := by omega
              have hsw := hbar.swap (M' := tM ts2) (-1) (q := k + p) (by omega) hkp (fun j hj => by rw [hM2 _ _ hlt hj, if_pos ⟨rfl, hj⟩, hsM, if_neg (by omega), if_pos rfl]; omega) (fun j hj => by rw [hM2 _ _ hkp hj, if_neg (by omega), hsM, if_pos rfl]) (fun i j hi hj h1 h2 => by rw [hM2 _ _ hi hj, if_neg (by omega), hsM, if_neg h2, if_neg h1])
              have hpz2 : tM ts2 k k ≠ 0 := by
                rw [hM2 _ _ hlt hlt, if_pos ⟨rfl, hlt⟩, hsM, if_neg (by omega), if_pos rfl]
                omega
              have hdet2 : det n (setRow (swp A k (k + p)) k (fun j => -1 * A (k + p) j)) = det n (ZM.mk n n e).at := by rw [hsw.2, ← hdet]; omega
              have hbd2 : ∀ i j, i < n → j < n → (tM ts2 i j).natAbs < 256 ^ (n * (K + 1) + 1) := fun i j hi hj => by
                rw [hM2 _ _ hi hj]
                split
                · rw [Int.natAbs_neg]; exact hbd1 i j hi hj
                · exact hbd1 i j hi hj
              have hA2 := neg_bd k (k + p) hA
              (repeat' (first | refine JC.seq ?_ | refine JC.ops ?_ | refine JC.opsD ?_ | refine JO.nil ?_ | refine JX.thenN ?_ | (apply r_move; (iterate 3 exact rfl)) | (apply r_load; (iterate 4 exact rfl); (first | exact at0 | exact at1); exact rfl) | (apply r_idxTr; (iterate 4 exact rfl); assumption; assumption; omega; omega) | (apply r_idxT; (iterate 4 exact rfl); assumption; omega) | (apply r_ldTr; (iterate 4 exact rfl); assumption; assumption; (repeat' first | exact HSub.nil _ | exact HSub.hd | exact HSub.in0 | exact HSub.refl _ | refine HSub.skip ?_ | refine HSub.skipN ?_); omega; omega) | (apply r_ldT; (iterate 4 exact rfl); assumption; assumption; (repeat' first | exact HSub.nil _ | exact HSub.hd | exact HSub.in0 | exact HSub.refl _ | refine HSub.skip ?_ | refine HSub.skipN ?_); omega) | (apply r_add1; (iterate 4 exact rfl); omega) | (apply r_storeN; exact rfl; (first | exact trivial | exact ⟨rfl, rfl⟩); exact rfl; exact rfl; (first | exact at0 | exact at1); (iterate 3 exact rfl)) | (apply r_lss; (iterate 4 exact rfl); all_goals intro hc; all_goals try (exfalso; omega)) | (apply r_allocZ; (iterate 3 exact rfl); intro _) | (apply r_storeN; exact rfl; (first | exact trivial | exact ⟨rfl, rfl⟩); exact rfl; exact rfl; (first | exact at0 | exact at1); (iterate 3 exact rfl)) | refine JX.thenE ?_ | refine JC.exit ?_ | refine JC.condF rfl ?_ | refine JX.blockE ?_))
              rename_i b9
              refine r_sliceR (l := k + 1) (h' := n) rfl rfl rfl hT2.rd rfl rfl (.inl rfl) rfl rfl (.inr ⟨rfl, hlen2.symm⟩) (by omega) (by omega) (fun v94 hv94 _ => ?_)
              rw [Nat.mul_one, Nat.mul_one] at hv94
              skip
              refine r_lenR rfl rfl rfl hv94 ?_
              (repeat' (first | refine JO.nil ?_ | refine JX.thenN ?_ | (apply r_move; (iterate 3 exact rfl)) | refine JC.block ?_))
              refine JC.loopH (ι := Nat × List TR) ⟨fun z => [(96, nv z.1), (95, nv (n - (k + 1))), (94, v94), (9, .pointer (some ⟨b9, 0, none⟩)), (6, .pointer (some ⟨b6, 0, none⟩)), (30, nv k), (29, nv n), (4, tvv), (5, .pointer (some ⟨b5, 0, none⟩)), (2, .pointer (some ⟨b2, 0, none⟩)), (3, .bool false)],
                fun z => [(b9, .cells (wc (tM ts2 k k)) 32), (b6, .cells #[nv k] 3), (b5, .cells (wc last) 32), (b2, .cells #[.bool false, .string ⟨#[]⟩] 32)] ++ (N5 ++ (tH z.2 ++ [])),
                fun z => z.1 ≤ n - (k + 1) ∧ OwnT N5 tvv n z.2 ∧ z.2.length = n ∧ (∀ a, tv z.2 a = (tv (swT ts k (k + p))) a) ∧ ∀ i j, i < n → j < n → tM z.2 i j = elS (tM ts2) k last (k + 1 + z.1) 0 i j, fun z => n - (k + 1) - z.1⟩ (0, ts2) ⟨by omega, hT2, hlen2, hV2, fun i j _ _ => (elS_start _ _ _ _ (by omega) _ _).symm⟩ (by repeat first | exact trivial | refine ⟨rfl, ?_⟩) (HSub.refl _) (fun z hz => ?_)
              obtain ⟨q, ts3⟩ := z
              obtain ⟨hq, hT3, hlen3, hV3, hM3⟩ := hz
              dsimp only at hq hT3 hlen3 hV3 hM3 ⊢
              by_cases hq2 : q < n - (k + 1)
              · (repeat' (first | refine JC.seq ?_ | refine JC.ops ?_ | refine JO.nil ?_ | refine JX.thenN ?_ | (apply r_lss; (iterate 4 exact rfl); all_goals intro hc; all_goals try (exfalso; omega)) | refine JC.skip ?_ | refine JC.condT rfl ?_ | refine JC.block ?_))
                refine r_idxR1 rfl rfl rfl rfl hv94 hq2 ?_
                skip
                refine r_ldR (u := (tv (swT ts k (k + p))) (k + 1 + q)) rfl rfl rfl rfl hv94 (by (repeat' first | exact HSub.nil _ | exact HSub.hd | exact HSub.in0 | exact HSub.refl _ | refine HSub.skip ?_ | refine HSub.skipN ?_)) (by rw [List.getElem?_take_of_lt hq2, List.getElem?_drop, ← hV2]; exact tv_get (by omega)) ?_
                (repeat' (first | refine JC.seq ?_ | refine JC.ops ?_ | refine JO.nil ?_ | refine JX.thenN ?_ | (apply r_assign; (iterate 3 exact rfl)) | (apply r_load; (iterate 4 exact rfl); exact at1; exact rfl) | (apply r_add1; (iterate 4 exact rfl); omega) | refine JC.block ?_))
                refine JC.loopH (ι := Nat × List TR) ⟨fun z => [(12, nv z.1), (11, (tv (swT ts k (k + p))) (k + 1 + q)), (96, nv q), (95, nv (n - (k + 1))), (94, v94), (9, .pointer (some ⟨b9, 0, none⟩)), (6, .pointer (some ⟨b6, 0, none⟩)), (30, nv k), (29, nv n), (4, tvv), (5, .pointer (some ⟨b5, 0, none⟩)), (2, .pointer (some ⟨b2, 0, none⟩)), (3, .bool false)],
                  fun z => [(b9, .cells (wc (tM ts2 k k)) 32), (b6, .cells #[nv k] 3), (b5, .cells (wc last) 32), (b2, .cells #[.bool false, .string ⟨#[]⟩] 32)] ++ (N5 ++ (tH z.2 ++ [])),
                  fun z => k + 1 ≤ z.1 ∧ z.1 ≤ n ∧ OwnT N5 tvv n z.2 ∧ z.2.length = n ∧ (∀ a, tv z.2 a = (tv (swT ts k (k + p))) a) ∧ ∀ i j, i < n → j < n → tM z.2 i j = elS (tM ts2) k last (k + 1 + q) z.1 i j, fun z => n - z.1⟩ (k + 1, ts3) ⟨by omega, by omega, hT3, hlen3, hV3, fun i j hi hj => by rw [hM3 i j hi hj, elS_zero]⟩ (by repeat first | exact trivial | refine ⟨rfl, ?_⟩) (HSub.refl _) (fun z hz => ?_)
                obtain ⟨j, ts4⟩ := z
                obtain ⟨hkj, hjn, hT4, hlen4, hV4, hM4⟩ := hz
                dsimp only at hkj hjn hT4 hlen4 hV4 hM4 ⊢
                by_cases hj : j < n
                · have e1 : tM ts4 (k + 1 + q) j = tM ts2 (k + 1 + q) j := by rw [hM4 _ _ (by omega) hj]; unfold elS; rw [if_neg (by omega)]
                  have e2 : tM ts4 (k + 1 + q) k = tM ts2 (k + 1 + q) k := by rw [hM4 _ _ (by omega) hlt]; unfold elS; rw [if_neg (by omega)]
                  have e3 : tM ts4 k j = tM ts2 k j := by rw [hM4 _ _ hlt hj]; unfold elS; rw [if_neg (by omega)]
                  have d0 := hbd2 k k hlt hlt
                  have d1 := hbd2 (k + 1 + q) j (by omega) hj
                  have d2 := hbd2 (k + 1 + q) k (by omega) hlt
                  have d3 := hbd2 k j hlt hj
                  rw [← e1] at d1
                  rw [← e2] at d2
                  rw [← e3] at d3
                  (repeat' (first | refine JC.seq ?_ | refine JC.ops ?_ | refine JC.opsD ?_ | refine JO.nil ?_ | refine JX.thenN ?_ | (apply r_move; (iterate 3 exact rfl)) | (apply r_load; (iterate 4 exact rfl); (first | exact at0 | exact at1); exact rfl) | (apply r_loadN; (iterate 4 exact rfl); (first | exact at0 | exact at1); exact rfl) | (apply r_lenTr; (iterate 3 exact rfl); assumption; assumption; omega) | (apply r_idxTr; (iterate 4 exact rfl); assumption; assumption; omega; omega) | (apply r_idxT; (iterate 4 exact rfl); assumption; omega) | (apply r_ldTr; (iterate 4 exact rfl); assumption; assumption; (repeat' first | exact HSub.nil _ | exact HSub.hd | exact HSub.in0 | exact HSub.refl _ | refine HSub.skip ?_ | refine HSub.skipN ?_); omega; omega) | (apply r_ldT; (iterate 4 exact rfl); assumption; assumption; (repeat' first | exact HSub.nil _ | exact HSub.hd | exact HSub.in0 | exact HSub.refl _ | refine HSub.skip ?_ | refine HSub.skipN ?_); omega) | (apply r_lss; (iterate 4 exact rfl); all_goals intro hc; all_goals try (exfalso; omega)) | refine JC.skip ?_ | refine JC.condT rfl ?_ | refine JC.block ?_))
                  refine r_call0 (by first | trivial | exact ⟨rfl, rfl⟩) rfl rfl rfl (fun w _ _ => c_Mul w _ _ (tM ts2 k k) (tM ts4 (k + 1 + q) j) (n * (K + 1) + 1) (IsZ.can d0) (IsZ.can d1) (by omega)) fun w v w' _ _ _ hR => ?_
                  subst hR
                  skip
                  refine r_call0 (by first | trivial | exact ⟨rfl, rfl⟩) rfl rfl rfl (fun w _ _ => c_Mul w _ _ (tM ts4 (k + 1 + q) k) (tM ts4 k j) (n * (K + 1) + 1) (IsZ.can d2) (IsZ.can d3) (by omega)) fun w v w' _ _ _ hR => ?_
                  subst hR
                  skip
                  refine r_call0 (by first | trivial | exact ⟨rfl, rfl⟩) rfl rfl rfl (fun w _ _ => c_Sub w _ _ (tM ts2 k k * tM ts4 (k + 1 + q) j) (tM ts4 (k + 1 + q) k * tM ts4 k j) _ (IsZ.can (mul_bd d0 d1)) (IsZ.can (mul_bd d2 d3)) (by omega)) fun w v w' _ _ _ hR => ?_
                  subst hR
                  (repeat' (first | refine JC.ops ?_ | refine JO.nil ?_ | refine JX.thenN ?_ | (apply r_move; (iterate 3 exact rfl)) | (apply r_loadN; (iterate 4 exact rfl); (first | exact at0 | exact at3); exact rfl) | (apply r_storeN; exact rfl; (first | exact trivial | exact ⟨rfl, rfl⟩); exact rfl; exact rfl; (first | exact at0 | exact at3); (iterate 3 exact rfl)) | (apply r_allocZ; (iterate 3 exact rfl); intro _) | (apply r_storeN; exact rfl; (first | exact trivial | exact ⟨rfl, rfl⟩); exact rfl; exact rfl; (first | exact at0 | exact at3); (iterate 3 exact rfl))))
                  refine r_call0 (by first | trivial | exact ⟨rfl, rfl⟩) rfl rfl rfl (fun w _ _ => c_Quo w _ _ (tM ts2 k k * tM ts4 (k + 1 + q) j - tM ts4 (k + 1 + q) k * tM ts4 k j) last (n * (K + 1) + 1 + (n * (K + 1) + 1) + 1) (IsZ.can (sub_bd (mul_bd d0 d1) (mul_bd d2 d3))) (IsZ.can (bd_up (hsw.1.lastLt (by omega) hbr hA2) (by omega))) (by omega)) fun w v w' _ _ _ hR => ?_
                  rw [if_neg hsw.1.ne] at hR
                  subst hR
                  (repeat' (first | (apply r_move; (iterate 3 exact rfl)) | (apply r_idxTr; (iterate 4 exact rfl); assumption; assumption; omega; omega) | (apply r_extract; (iterate 4 exact rfl))))
                  refine r_stTr (V := (tv (swT ts k (k + p)))) (A := [_, _, _, _, _]) hV4 hT4 rfl rfl (by first | trivial | exact ⟨rfl, rfl⟩) rfl rfl (by omega) hj (fun ts5 hT5 hlen5 hV5 hM5 => ?_)
                  (repeat' (first | refine JC.ops ?_ | refine JO.nil ?_ | refine JX.thenN ?_ | (apply r_move; (iterate 3 exact rfl)) | (apply r_assign; (iterate 3 exact rfl)) | (apply r_add1; (iterate 4 exact rfl); omega) | refine JX.blockN ?_))
                  refine JX.roundH (j + 1, ts5) ⟨by dsimp only; omega, by dsimp only; omega, hT5, by dsimp only; omega, hV5, fun a b ha hb => ?_⟩ (by dsimp only; omega) (by repeat first | exact trivial | refine ⟨rfl, ?_⟩) (HSub.skip (HSub.refl _))
                  dsimp only
                  rw [hM5, hM4 a b ha hb, e1, e2, e3]
                  exact elS_step _ _ _ _ _ (by omega) (by omega) _ _
                · (repeat' (first | refine JC.seq ?_ | refine JC.ops ?_ | refine JO.nil ?_ | refine JX.thenN ?_ | (apply r_move; (iterate 3 exact rfl)) | (apply r_lenTr; (iterate 3 exact rfl); assumption; assumption; omega) | (apply r_add1; (iterate 4 exact rfl); omega) | (apply r_lss; (iterate 4 exact rfl); all_goals intro hc; all_goals try (exfalso; omega)) | refine JX.thenE ?_ | refine JC.exit ?_ | refine JC.condF rfl ?_ | refine JX.blockN ?_ | refine JX.blockE ?_))
                  obtain rfl : j = n := by omega
                  refine JX.roundH (q + 1, ts4) ⟨by dsimp only; omega, hT4, hlen4, hV4, fun a b ha hb => ?_⟩ (by dsimp only; omega) (by repeat first | exact trivial | refine ⟨rfl, ?_⟩) (HSub.refl _)
                  dsimp only
                  rw [hM4 a b ha hb, elS_row _ _ _ _ _ _ _ hb]
                  rfl
              · (repeat' (first | refine JC.seq ?_ | refine JC.ops ?_ | refine JO.nil ?_ | refine JX.thenN ?_ | (apply r_move; (iterate 3 exact rfl)) | (apply r_loadN; (iterate 4 exact rfl); (first | exact at0 | exact at2); exact rfl) | (apply r_add1; (iterate 4 exact rfl); omega) | (apply r_storeN; exact rfl; (first | exact trivial | exact ⟨rfl, rfl⟩); exact rfl; exact rfl; (first | exact at0 | exact at2); (iterate 3 exact rfl)) | (apply r_lss; (iterate 4 exact rfl); all_goals intro hc; all_goals try (exfalso; omega)) | (apply r_storeN; exact rfl; (first | exact trivial | exact ⟨rfl, rfl⟩); exact rfl; exact rfl; (first | exact at0 | exact at2); (iterate 3 exact rfl)) | refine JX.thenE ?_ | refine JC.exit ?_ | refine JC.condF rfl ?_ | refine JX.blockN ?_ | refine JX.blockE ?_))
                have hst := hsw.1.step (M' := tM ts3) hlt hpz2 (fun i j hi hin hj hjn => by
                  rw [hM3 i j hin hjn]
                  unfold elS
                  rw [if_pos ⟨hj, hi, .inl (by omega)⟩])
                refine JX.roundH (k + 1, tM ts2 k k, N5, ts3) ⟨by dsimp only; omega, hT3, hlen3, ⟨⟨_, hst, hdet2, hA2⟩, fun i j hi hj => ?_⟩⟩ (by dsimp only; omega) (by repeat first | exact trivial | refine ⟨rfl, ?_⟩) (by exact HSub.at 2 rfl (HSub.at 2 rfl (HSub.skip (HSub.skip (HSub.refl _)))))
                by_cases hc : k < j ∧ k < i
                · exact hst.lt hbr hA2 (by omega) hi (by omega) hj
                · dsimp only
                  rw [hM3 i j hi hj]
                  unfold elS
                  rw [if_neg (by omega)]
                  exact hbd2 i j hi hj
      · have hz : det n (ZM.mk n n e).at = 0 := by
          rw [← hdet]
          exact hbar.none hlt (fun i hi hin => by
            have := hno (i - k) (by omega)
            rw [show k + (i - k) = i by omega] at this
            simpa using this)
        (repeat' (first | refine JC.seq ?_ | refine JC.ops ?_ | refine JO.nil ?_ | refine JX.thenN ?_ | (apply r_move; (iterate 3 exact rfl)) | (apply r_assign; (iterate 3 exact rfl)) | (apply r_storeN; exact rfl; (first | exact trivial | exact ⟨rfl, rfl⟩); exact rfl; exact rfl; exact at2; (iterate 3 exact rfl)) | (apply r_lss; (iterate 4 exact rfl); all_goals intro hc; all_goals try (exfalso; omega)) | (apply r_buildL; (iterate 5 exact rfl)) | (apply r_storeN; exact rfl; (first | exact trivial | exact ⟨rfl, rfl⟩); exact rfl; exact rfl; exact at2; (iterate 3 exact rfl)) | refine JX.thenR ?_ | refine JC.ret ?_ | refine JC.condT rfl ?_ | refine JX.blockR ?_))
        exact JX.retCT 2 rfl rfl rfl rfl (fun a w' st => ⟨st.kp, by rw [hz, Wz0]; rfl⟩)
    · (repeat' (first | refine JC.seq ?_ | refine JC.ops ?_ | refine JO.nil ?_ | refine JX.thenN ?_ | (apply r_assign; (iterate 3 exact rfl)) | (apply r_loadN; (iterate 4 exact rfl); (first | exact at0 | exact at1); exact rfl) | (apply r_storeN; exact rfl; (first | exact trivial | exact ⟨rfl, rfl⟩); exact rfl; exact rfl; (first | exact at0 | exact at1); (iterate 3 exact rfl)) | (apply r_lss; (iterate 4 exact rfl); all_goals intro hc; all_goals try (exfalso; omega)) | (apply r_storeN; exact rfl; (first | exact trivial | exact ⟨rfl, rfl⟩); exact rfl; exact rfl; (first | exact at0 | exact at1); (iterate 3 exact rfl)) | refine JX.thenE ?_ | refine JC.exit ?_ | refine JC.ret ?_ | refine JC.condF rfl ?_ | refine JX.blockE ?_))
      obtain rfl : k = n := by omega
      exact JX.retCT 1 rfl rfl rfl rfl (fun a w' st => ⟨st.kp, by rw [← hdet, ← hbar.done]; rfl⟩)

end Go.Proofs.YtemdknkghacheaaDoor

namespace Go.Proofs.YtemdknkghacheaaDoor
open Go
set_option linter.unusedSimpArgs false
set_option linter.unusedVariables false
set_option linter.unusedSectionVars false

end Go.Proofs.YtemdknkghacheaaDoor

namespace Go.Proofs.YtemdknkghacheaaDoor
open Go Go.RowKit
set_option linter.unusedSimpArgs false
set_option linter.unusedVariables false
set_option linter.unusedSectionVars false

section
variable {c : Cx} {Q : Exit → Act → World → Prop} {m : Mode} {F : SFrame} {H : SHeap} {r : List SOp} {g : Option (Option Tmp × Bool)} {ns : Bool} {ty : TypeId} {N : SHeap} {v : Value} {cc : Nat} {ts : List TR}
end

structure RedI (n cc k : Nat) (M0 : Mi) (X E : Nat) (i : Nat) (ts : List TR) : Prop where
  red : Red n M0 (tM ts)
  top : ∀ a, a < k → ∀ b, tM ts a b = M0 a b
  zer : ∀ a, k < a → a < i → tM ts a k = 0
  col : ∀ a, k ≤ a → a < n → (tM ts a k).natAbs ≤ X
  all : ∀ a b, k ≤ a → a < n → (tM ts a b).natAbs ≤ E
  zs : ∀ b, (∀ a, k ≤ a → a < n → M0 a b = 0) → ∀ a, k ≤ a → a < n → tM ts a b = 0


def tnC (t : Tn) : Array Value := #[.bool (decide (t.a < 0)), sv (magU t.a.natAbs), .bool (decide (t.b < 0)), sv (magU t.b.natAbs), .bool (decide (t.c < 0)), sv (magU t.c.natAbs), .bool (decide (t.d < 0)), sv (magU t.d.natAbs)]
structure BdT (K : Nat) (t : Tn) : Prop where
  a : t.a.natAbs < 256 ^ K
  b : t.b.natAbs < 256 ^ K
  c : t.c.natAbs < 256 ^ K
  d : t.d.natAbs < 256 ^ K

section
variable {c : Cx} {Q : Exit → Act → World → Prop} {m : Mode} {F : SFrame} {H : SHeap} {r : List SOp} {g : Option (Option Tmp × Bool)} {ns : Bool} {d : Tmp} {ty t : TypeId} {x : Operand}
theorem r_build0 {zc : Array Value} {places : Array (Nat × Nat)} [TSt c.P t zc places] (hd : dstOk c.n (some d) = true) (hg : guardF F g = some true)
    (h : JO c Q m r ((d, (.agg zc)) :: F) H) : JO c Q m (⟨some d, .build t #[], ty, g, .mov, ns⟩ :: r) F H :=
  r_build (l := []) (cs := zc) hd hg rfl rfl h
theorem r_ldTn {b o : Nat} (k : Nat) {cs : Array Value} {T : TypeId} {fz : Nat × Nat} {z : Int} [TN c.P t 2] (hd : dstOk c.n (some d) = true) (hg : guardF F g = some true) (hx : ev F x = some (.pointer (some ⟨b, o, none⟩))) (hl : m.live = true)
    (hb : (m.src H)[k]? = some (b, .cells cs T fz)) (h0 : cs[o]? = some (.bool (decide (z < 0)))) (h1 : cs[o + 1]? = some (sv (magU z.natAbs))) (h : JO c Q m r ((d, Wv z) :: F) H) : JO c Q m (⟨some d, .load t x, ty, g, .ld, ns⟩ :: r) F H :=
  r_loadM (n := 2) (vs := #[.bool (decide (z < 0)), sv (magU z.natAbs)]) k hd hg hx hl hb rfl (fun j hj => by
    rcases (show j = 0 ∨ j = 1 by omega) with rfl | rfl
    · exact h0
    · exact h1) h
end

theorem JX.retCC {c : Cx} {t t' : Tmp} {ty ty' n n' b b' : Nat} {cs cs' : Array Value} {T T' : TypeId} {fz fz' : Nat × Nat} {R : Value → World → Prop} {F : SFrame} {H : SHeap} [TN c.P ty n] [TN c.P ty' n'] (k k' : Nat) (h1 : look F t = some (.pointer (some ⟨b, 0, none⟩)))
    (h2 : H[k]? = some (b, Obj.cells cs T fz)) (hn : cs.size = n) (h1' : look F t' = some (.pointer (some ⟨b', 0, none⟩))) (h2' : H[k']? = some (b', Obj.cells cs' T' fz')) (hn' : cs'.size = n')
    (hR : ∀ a w, St c F H a w → R (.tuple #[.agg cs, .agg cs']) w) : JX c (endPost c.P #[.cell t ty, .cell t' ty'] (Ret R)) .ret F H :=
  JX.ret' [.agg cs, .agg cs'] (JR.cellN k h1 h2 hn (JR.cellN k' h1' h2' hn' JR.nil)) hR
set_option maxHeartbeats 4000000 in
theorem c_pair (K : Nat) (w : World) (t : Tn) (x y : Int) (hK : K ≤ 20000000) (ht : BdT K t) (hx : x.natAbs < 256 ^ K) (hy : y.natAbs < 256 ^ K) :
    Calls Tryd.prog 84 #[.agg (tnC t), Wv x, Wv y] w (Ret fun v w' => Kp [] w w' ∧ v = .tuple #[Wv (t.p x y), Wv (t.q x y)]) := by
  refine calls_of_S [⟨1, 1, [0, 1, 2, 4, 5, 6, 9, 10, 11, 13, 14, 15, 3, 7, 8, 12, 16, 17, 18, 19], []⟩] [] (by simp) [] Tryd.func84 rfl mixed (by kernel_rfl) Tryd.ntmps84 Tryd.results84 rfl ⟨by simp, by simp⟩ (by simp) ?_
  simp only [toS, textOps, toSOp, kindAt, kindOf, odAt, sopsAt, ordOf, zipF]
  (repeat' (first | refine JC.seq ?_ | refine JC.ops ?_ | refine JO.nil ?_ | refine JX.thenN ?_ | (apply r_allocZ; (iterate 3 exact rfl); intro _) | (apply r_boxA; (iterate 4 exact rfl); intro _)))
  rename_i b3 b4 b5 b6 b7
  refine JC.opsDs [(b5, .cells #[.bool (decide (y < 0)), sv (magU y.natAbs)] 32), (b4, .cells #[.bool (decide (x < 0)), sv (magU x.natAbs)] 32), (b3, .cells (tnC t) 86)] (by (first | exact HSub.refl _ | (repeat' first | exact HSub.nil _ | exact HSub.refl _ | refine HSub.at 0 rfl ?_ | refine HSub.at 1 rfl ?_ | refine HSub.at 2 rfl ?_ | refine HSub.at 3 rfl ?_ | refine HSub.at 4 rfl ?_ | refine HSub.at 5 rfl ?_ | refine HSub.at 6 rfl ?_ | refine HSub.at 7 rfl ?_))) ?_
  (repeat' (first | (apply r_fieldAddr; (iterate 3 exact rfl)) | (apply r_loadN; (iterate 4 exact rfl); (first | exact at0 | exact at1 | exact at2); exact rfl) | (apply r_ldTn; (iterate 4 exact rfl); (first | exact at0 | exact at1 | exact at2); exact rfl; exact rfl)))
  refine r_call0 (by first | trivial | exact ⟨rfl, rfl⟩) rfl (by first | rfl | exact ⟨rfl, rfl⟩) rfl (fun w hk hs => c_Mul w _ _ t.a x K (IsZ.can ht.a) (IsZ.can hx) (by omega)) fun w v w' _ _ _ hR => ?_
  subst hR
  skip
  refine r_call0 (by first | trivial | exact ⟨rfl, rfl⟩) rfl (by first | rfl | exact ⟨rfl, rfl⟩) rfl (fun w hk hs => c_Mul w _ _ t.b y K (IsZ.can ht.b) (IsZ.can hy) (by omega)) fun w v w' _ _ _ hR => ?_
  subst hR
  skip
  refine r_call0 (by first | trivial | exact ⟨rfl, rfl⟩) rfl (by first | rfl | exact ⟨rfl, rfl⟩) rfl (fun w hk hs => c_Add w _ _ (t.a * x) (t.b * y) (K + K) (IsZ.can (mul_bd ht.a hx)) (IsZ.can (mul_bd ht.b hy)) (by omega)) fun w v w' _ _ _ hR => ?_
  subst hR
  skip
  refine r_call0 (by first | trivial | exact ⟨rfl, rfl⟩) rfl (by first | rfl | exact ⟨rfl, rfl⟩) rfl (fun w hk hs => c_Mul w _ _ t.c x K (IsZ.can ht.c) (IsZ.can hx) (by omega)) fun w v w' _ _ _ hR => ?_
  subst hR
  skip
  refine r_call0 (by first | trivial | exact ⟨rfl, rfl⟩) rfl (by first | rfl | exact ⟨rfl, rfl⟩) rfl (fun w hk hs => c_Mul w _ _ t.d y K (IsZ.can ht.d) (IsZ.can hy) (by omega)) fun w v w' _ _ _ hR => ?_
  subst hR
  skip
  refine r_call0 (by first | trivial | exact ⟨rfl, rfl⟩) rfl (by first | rfl | exact ⟨rfl, rfl⟩) rfl (fun w hk hs => c_Add w _ _ (t.c * x) (t.d * y) (K + K) (IsZ.can (mul_bd ht.c hx)) (IsZ.can (mul_bd ht.d hy)) (by omega)) fun w v w' _ _ _ hR => ?_
  subst hR
  (repeat' (first | refine JO.nil ?_ | refine JX.thenN ?_ | (apply r_storeN; exact rfl; (first | exact trivial | exact ⟨rfl, rfl⟩); exact rfl; exact rfl; (first | exact at0 | exact at1); (iterate 3 exact rfl)) | (apply r_storeKN; (iterate 3 exact rfl); (first | exact at0 | exact at1); (iterate 3 exact rfl); (repeat' first | exact HSub.refl _ | exact HSub.nil _ | refine HSub.at 0 rfl ?_ | refine HSub.at 1 rfl ?_ | refine HSub.at 2 rfl ?_ | refine HSub.at 3 rfl ?_ | refine HSub.at 4 rfl ?_ | refine HSub.at 5 rfl ?_ | refine HSub.at 6 rfl ?_ | refine HSub.at 7 rfl ?_ | refine HSub.at 8 rfl ?_ | refine HSub.at 9 rfl ?_ | refine HSub.at 10 rfl ?_ | refine HSub.at 11 rfl ?_ | refine HSub.at 12 rfl ?_ | refine HSub.at 13 rfl ?_ | refine HSub.at 14 rfl ?_ | refine HSub.at 15 rfl ?_ | refine HSub.at 16 rfl ?_ | refine HSub.at 17 rfl ?_ | refine HSub.at 18 rfl ?_ | refine HSub.at 19 rfl ?_ | refine HSub.segH ?_ | refine HSub.skip ?_ | refine HSub.skipN ?_)) | (apply r_storeN; exact rfl; (first | exact trivial | exact ⟨rfl, rfl⟩); exact rfl; exact rfl; (first | exact at0 | exact at1); (iterate 3 exact rfl)) | refine JC.ret ?_))
  exact JX.retCC 1 0 rfl rfl rfl rfl rfl rfl (fun a w st => ⟨st.kp, rfl⟩)

theorem tnC_back (t : Tn) : tnC t.back = #[.bool (decide (t.d < 0)), sv (magU (t.d).natAbs), .bool (decide (-t.b < 0)), sv (magU (-t.b).natAbs), .bool (decide (-t.c < 0)), sv (magU (-t.c).natAbs), .bool (decide (t.a < 0)), sv (magU (t.a).natAbs)] := rfl
set_option maxHeartbeats 4000000 in
theorem c_back (K : Nat) (w : World) (t : Tn) (hK : K ≤ 20000000) (ht : BdT K t) :
    Calls Tryd.prog 68 #[.agg (tnC t)] w (Ret fun v w' => Kp [] w w' ∧ v = .agg (tnC t.back)) := by
  refine calls_of_S [⟨1, 1, [0, 1, 2, 3, 5, 6, 8, 9, 4, 7, 10, 11], []⟩] [] (by simp) [] Tryd.func68 rfl mixed (by kernel_rfl) Tryd.ntmps68 Tryd.results68 rfl ⟨by simp, by simp⟩ (by simp) ?_
  simp only [toS, textOps, toSOp, kindAt, kindOf, odAt, sopsAt, ordOf, zipF]
  (repeat' (first | refine JC.seq ?_ | refine JC.ops ?_ | refine JO.nil ?_ | refine JX.thenN ?_ | (apply r_allocZ; (iterate 3 exact rfl); intro _) | (apply r_boxA; (iterate 4 exact rfl); intro _)))
  rename_i b1 b2
  refine JC.opsDs [(b1, .cells (tnC t) 86)] (by (first | exact HSub.refl _ | (repeat' first | exact HSub.nil _ | exact HSub.refl _ | refine HSub.at 0 rfl ?_ | refine HSub.at 1 rfl ?_ | refine HSub.at 2 rfl ?_ | refine HSub.at 3 rfl ?_ | refine HSub.at 4 rfl ?_ | refine HSub.at 5 rfl ?_ | refine HSub.at 6 rfl ?_ | refine HSub.at 7 rfl ?_))) ?_
  (repeat' (first | (apply r_fieldAddr; (iterate 3 exact rfl)) | (apply r_ldTn; (iterate 4 exact rfl); exact at0; exact rfl; exact rfl)))
  refine r_call0 (by first | trivial | exact ⟨rfl, rfl⟩) rfl (by first | rfl | exact ⟨rfl, rfl⟩) rfl (fun w hk hs => c_Neg w _ t.b K (IsZ.can ht.b) (by omega)) fun w v w' _ _ _ hR => ?_
  subst hR
  skip
  refine r_call0 (by first | trivial | exact ⟨rfl, rfl⟩) rfl (by first | rfl | exact ⟨rfl, rfl⟩) rfl (fun w hk hs => c_Neg w _ t.c K (IsZ.can ht.c) (by omega)) fun w v w' _ _ _ hR => ?_
  subst hR
  skip
  refine r_build (l := [(0, Wv t.d), (1, Wv (-t.b)), (2, Wv (-t.c)), (3, Wv t.a)]) (cs := #[.bool (decide (t.d < 0)), sv (magU (t.d).natAbs), .bool (decide (-t.b < 0)), sv (magU (-t.b).natAbs), .bool (decide (-t.c < 0)), sv (magU (-t.c).natAbs), .bool (decide (t.a < 0)), sv (magU (t.a).natAbs)]) rfl rfl rfl (by kernel_rfl) ?_
  (repeat' (first | refine JO.nil ?_ | refine JX.thenN ?_ | (apply r_storeN; exact rfl; (first | exact trivial | exact ⟨rfl, rfl⟩); exact rfl; exact rfl; exact at0; (iterate 3 exact rfl)) | (apply r_storeN; exact rfl; (first | exact trivial | exact ⟨rfl, rfl⟩); exact rfl; exact rfl; exact at0; (iterate 3 exact rfl)) | refine JC.ret ?_))
  exact JX.retC 0 rfl rfl rfl (fun a w st => ⟨st.kp, by rw [tnC_back]⟩)


theorem keys_append (A B : SHeap) : keys (A ++ B) = keys A ++ keys B := by simp [keys]
theorem keys_tH : ∀ (ts : List TR), keys (tH ts) = (ts.map fun t => keys t.1).flatten
  | [] => rfl
  | t :: ts => by
    show keys (t.1 ++ tH ts) = _
    rw [keys_append, keys_tH ts]; rfl
theorem tH_keys {N N' : SHeap} {v : Value} {cc : Nat} {ts ts' : List TR} (h : OwnT N v cc ts) (h' : OwnT N' v cc ts') (hl : ts'.length = ts.length) (hV : ∀ a, tv ts' a = tv ts a) : keys (tH ts') = keys (tH ts) := by
  rw [keys_tH, keys_tH]
  congr 1
  refine List.ext_getElem (by simpa using hl) fun i h1 h2 => ?_
  have hi : i < ts.length := by simpa using h2
  have a1 := h.row hi
  have a2 := h'.row (i := i) (by omega)
  rw [hV i] at a2
  have e1 : ts.getD i dT = ts[i] := by rw [List.getD, List.getElem?_eq_getElem hi]; rfl
  have e2 : ts'.getD i dT = ts'[i] := by rw [List.getD, List.getElem?_eq_getElem (by omega)]; rfl
  rw [e1] at a1
  rw [e2] at a2
  simp only [List.getElem_map]
  exact OwnRow.keys_eq a2 a1
def GridR (N : SHeap) (ts : List TR) (v : Value) (cc : Nat) (g : Nat → Nat → Int) (w w' : World) : Prop :=
  Kp (keys (N ++ tH ts)) w w' ∧ ∃ ts', keys (N ++ tH ts') = keys (N ++ tH ts) ∧ InW (N ++ tH ts') w' ∧ OwnT N v cc ts' ∧ ts'.length = ts.length ∧ (∀ a, tv ts' a = tv ts a) ∧ ∀ a b, tM ts' a b = g a b

set_option maxHeartbeats 8000000 in
theorem c_grows (K : Nat) (w : World) (v : Value) (N : SHeap) (ts : List TR) (cc i k : Nat) (t : Tn) (hT : OwnT N v cc ts) (hs : Hsat (N ++ tH ts) w) (hi : i < ts.length) (hk : k < ts.length) (hik : i ≠ k) (hr : ts.length ≤ 200) (hcc : cc ≤ 200)
    (hK : K ≤ 20000000) (ht : BdT K t) (hb : ∀ a b, (tM ts a b).natAbs < 256 ^ K) :
    Calls Tryd.prog 67 #[v, nv i, nv k, .agg (tnC t)] w (Ret fun _ w' => GridR N ts v cc (fun a b => if a = k ∧ b < cc then t.q (tM ts i b) (tM ts k b) else if a = i ∧ b < cc then t.p (tM ts i b) (tM ts k b) else tM ts a b) w w') := by
  have hM := keys_lt hs
  refine calls_of_S [⟨4, 4, [], []⟩] (keys (N ++ tH ts)) hM (N ++ (tH ts ++ [])) Tryd.func67 rfl mixed (by kernel_rfl) Tryd.ntmps67 Tryd.results67 rfl (by simpa using hs) (fun p hp => List.mem_map.2 ⟨p, by simpa using hp, rfl⟩) ?_
  simp only [toS, textOps, toSOp, kindAt, kindOf, odAt, sopsAt, ordOf, zipF]
  have hV : ∀ a, tv ts a = tv ts a := fun _ => rfl
  (repeat' (first | refine JC.seq ?_ | refine JC.ops ?_ | refine JO.nil ?_ | refine JX.thenN ?_ | (apply r_move; (iterate 3 exact rfl)) | (apply r_lenTr; (iterate 3 exact rfl); assumption; assumption; omega) | (apply r_idxT; (iterate 4 exact rfl); assumption; omega) | (apply r_ldT; (iterate 4 exact rfl); assumption; assumption; (repeat' first | exact HSub.nil _ | exact HSub.hd | exact HSub.in0 | exact HSub.refl _ | refine HSub.skip ?_ | refine HSub.skipN ?_); omega) | (apply r_boxA; (iterate 4 exact rfl); intro _) | refine JC.block ?_))
  rename_i b7
  refine JC.loopH (ι := Nat × List TR) ⟨fun z => [(14, nv z.1), (13, nv cc), (7, .pointer (some ⟨b7, 0, none⟩)), (0, v), (1, nv i), (2, nv k)], fun z => [(b7, .cells (tnC t) 86)] ++ (N ++ (tH z.2 ++ [])),
    fun z => z.1 ≤ cc ∧ OwnT N v cc z.2 ∧ z.2.length = ts.length ∧ (∀ a, tv z.2 a = tv ts a) ∧ ∀ a b, tM z.2 a b = if a = k ∧ b < z.1 then t.q (tM ts i b) (tM ts k b) else if a = i ∧ b < z.1 then t.p (tM ts i b) (tM ts k b) else tM ts a b, fun z => cc - z.1⟩ (0, ts)
    ⟨by omega, hT, rfl, hV, fun a b => by rw [if_neg (by omega), if_neg (by omega)]⟩ (by repeat first | exact trivial | refine ⟨rfl, ?_⟩) (HSub.refl _) (fun z hz => ?_)
  obtain ⟨c, t1⟩ := z
  obtain ⟨hc, hT1, hl1, hV1, hM1⟩ := hz
  dsimp only at hc hT1 hl1 hV1 hM1 ⊢
  have hi1 : i < t1.length := by omega
  have hk1 : k < t1.length := by omega
  by_cases hlt : c < cc
  · have e1 : tM t1 i c = tM ts i c := by rw [hM1, if_neg (by omega), if_neg (by omega)]
    have e2 : tM t1 k c = tM ts k c := by rw [hM1, if_neg (by omega), if_neg (by omega)]
    (repeat' (first | refine JC.seq ?_ | refine JC.ops ?_ | refine JC.opsD ?_ | refine JO.nil ?_ | refine JX.thenN ?_ | (apply r_move; (iterate 3 exact rfl)) | (apply r_assign; (iterate 3 exact rfl)) | (apply r_loadN; (iterate 4 exact rfl); exact at0; exact rfl) | (apply r_idxTr; (iterate 4 exact rfl); assumption; assumption; omega; omega) | (apply r_idxT; (iterate 4 exact rfl); assumption; omega) | (apply r_ldTr; (iterate 4 exact rfl); assumption; assumption; (repeat' first | exact HSub.nil _ | exact HSub.hd | exact HSub.in0 | exact HSub.refl _ | refine HSub.skip ?_ | refine HSub.skipN ?_); omega; omega) | (apply r_ldT; (iterate 4 exact rfl); assumption; assumption; (repeat' first | exact HSub.nil _ | exact HSub.hd | exact HSub.in0 | exact HSub.refl _ | refine HSub.skip ?_ | refine HSub.skipN ?_); omega) | (apply r_lss; (iterate 4 exact rfl); all_goals intro hc; all_goals try (exfalso; omega)) | refine JC.skip ?_ | refine JC.condT rfl ?_ | refine JC.block ?_))
    refine r_call0 (by first | trivial | exact ⟨rfl, rfl⟩) rfl (by first | rfl | exact ⟨rfl, rfl⟩) rfl (fun w _ _ => c_pair K w t (tM t1 i c) (tM t1 k c) hK ht (by rw [e1]; exact hb i c) (by rw [e2]; exact hb k c)) fun w v w' _ _ _ hR => ?_
    rw [e1, e2] at hR
    subst hR
    (repeat' (first | (apply r_move; (iterate 3 exact rfl)) | (apply r_idxTr; (iterate 4 exact rfl); assumption; assumption; omega; omega) | (apply r_extract; (iterate 4 exact rfl))))
    refine r_stTr (A := [_]) (B := []) (i := i) (j := c) (V := tv ts) (u := t.p (tM ts i c) (tM ts k c)) hV1 hT1 rfl rfl (by first | trivial | exact ⟨rfl, rfl⟩) rfl rfl hi1 hlt (fun t2 hT2 hl2 hV2 hM2 => ?_)
    (repeat' (first | (apply r_idxTr; (iterate 4 exact rfl); assumption; assumption; omega; omega)))
    refine r_stTr (A := [_]) (B := []) (i := k) (j := c) (V := tv ts) (u := t.q (tM ts i c) (tM ts k c)) hV2 hT2 rfl rfl (by first | trivial | exact ⟨rfl, rfl⟩) rfl rfl (by omega) hlt (fun t3 hT3 hl3 hV3 hM3 => ?_)
    (repeat' (first | refine JC.ops ?_ | refine JO.nil ?_ | refine JX.thenN ?_ | (apply r_move; (iterate 3 exact rfl)) | (apply r_add1; (iterate 4 exact rfl); omega) | refine JX.blockN ?_))
    refine JX.roundH (c + 1, t3) ⟨by dsimp only; omega, hT3, by dsimp only; omega, hV3, fun a b => ?_⟩ (by dsimp only; omega) (by repeat first | exact trivial | refine ⟨rfl, ?_⟩) (HSub.refl _)
    dsimp only
    rw [hM3, hM2, hM1]
    by_cases h1 : a = k
    · subst h1
      by_cases h2 : b = c
      · subst h2; rw [if_pos ⟨rfl, rfl⟩, if_pos ⟨rfl, by omega⟩]
      · rw [if_neg (by omega), if_neg (by omega)]
        by_cases h3 : b < c
        · rw [if_pos ⟨rfl, h3⟩, if_pos ⟨rfl, by omega⟩]
        · rw [if_neg (by omega), if_neg (by omega), if_neg (by omega), if_neg (by omega)]
    · rw [if_neg (by omega), if_neg (show ¬ (a = k ∧ b < c) by omega), if_neg (show ¬ (a = k ∧ b < c + 1) by omega)]
      by_cases h2 : a = i
      · subst h2
        by_cases h3 : b = c
        · subst h3; rw [if_pos ⟨rfl, rfl⟩, if_pos ⟨rfl, by omega⟩]
        · rw [if_neg (by omega)]
          by_cases h4 : b < c
          · rw [if_pos ⟨rfl, h4⟩, if_pos ⟨rfl, by omega⟩]
          · rw [if_neg (by omega), if_neg (by omega)]
      · rw [if_neg (by omega), if_neg (by omega), if_neg (by omega)]
  · (repeat' (first | refine JC.seq ?_ | refine JC.ops ?_ | refine JO.nil ?_ | refine JX.thenN ?_ | (apply r_lss; (iterate 4 exact rfl); all_goals intro hc; all_goals try (exfalso; omega)) | refine JX.thenE ?_ | refine JC.exit ?_ | refine JC.condF rfl ?_ | refine JX.blockE ?_))
    obtain rfl : c = cc := by omega
    exact JX.end0 (fun a w' st => ⟨st.kp, t1, by rw [keys_append, keys_append, tH_keys hT hT1 hl1 hV1], fun p hp => st.hs.blk p (by simpa using Or.inr hp), hT1, hl1, hV1, hM1⟩)

set_option maxHeartbeats 8000000 in
theorem c_gcols (K : Nat) (w : World) (v : Value) (N : SHeap) (ts : List TR) (cc i k : Nat) (t : Tn) (hT : OwnT N v cc ts) (hs : Hsat (N ++ tH ts) w) (hi : i < cc) (hk : k < cc) (hik : i ≠ k) (hr : ts.length ≤ 200) (hcc : cc ≤ 200)
    (hK : K ≤ 20000000) (ht : BdT K t) (hb : ∀ a b, (tM ts a b).natAbs < 256 ^ K) :
    Calls Tryd.prog 69 #[v, nv i, nv k, .agg (tnC t)] w (Ret fun _ w' => GridR N ts v cc (fun a b => if a < ts.length ∧ b = k then t.q (tM ts a i) (tM ts a k) else if a < ts.length ∧ b = i then t.p (tM ts a i) (tM ts a k) else tM ts a b) w w') := by
  have hM := keys_lt hs
  obtain ⟨r, hrl⟩ : ∃ r, r = ts.length := ⟨_, rfl⟩
  refine calls_of_S [⟨4, 4, [], []⟩] (keys (N ++ tH ts)) hM (N ++ (tH ts ++ [])) Tryd.func69 rfl mixed (by kernel_rfl) Tryd.ntmps69 Tryd.results69 rfl (by simpa using hs) (fun p hp => List.mem_map.2 ⟨p, by simpa using hp, rfl⟩) ?_
  simp only [toS, textOps, toSOp, kindAt, kindOf, odAt, sopsAt, ordOf, zipF]
  have hV : ∀ a, tv ts a = tv ts a := fun _ => rfl
  have hrl' : ts.length = r := hrl.symm
  (repeat' (first | refine JC.seq ?_ | refine JC.ops ?_ | refine JO.nil ?_ | refine JX.thenN ?_ | (apply r_move; (iterate 3 exact rfl)) | (apply r_lenT; (iterate 3 exact rfl); assumption; assumption) | (apply r_boxA; (iterate 4 exact rfl); intro _) | refine JC.block ?_))
  rename_i b7
  refine JC.loopH (ι := Nat × List TR) ⟨fun z => [(11, nv z.1), (10, nv r), (7, .pointer (some ⟨b7, 0, none⟩)), (0, v), (1, nv i), (2, nv k)], fun z => [(b7, .cells (tnC t) 86)] ++ (N ++ (tH z.2 ++ [])),
    fun z => z.1 ≤ r ∧ OwnT N v cc z.2 ∧ z.2.length = ts.length ∧ (∀ a, tv z.2 a = tv ts a) ∧ ∀ a b, tM z.2 a b = if a < z.1 ∧ b = k then t.q (tM ts a i) (tM ts a k) else if a < z.1 ∧ b = i then t.p (tM ts a i) (tM ts a k) else tM ts a b, fun z => r - z.1⟩ (0, ts)
    ⟨by omega, hT, rfl, hV, fun a b => by rw [if_neg (by omega), if_neg (by omega)]⟩ (by repeat first | exact trivial | refine ⟨rfl, ?_⟩) (HSub.refl _) (fun z hz => ?_)
  obtain ⟨c, t1⟩ := z
  obtain ⟨hc, hT1, hl1, hV1, hM1⟩ := hz
  dsimp only at hc hT1 hl1 hV1 hM1 ⊢
  by_cases hlt : c < r
  · have hc1 : c < t1.length := by omega
    have e1 : tM t1 c i = tM ts c i := by rw [hM1, if_neg (by omega), if_neg (by omega)]
    have e2 : tM t1 c k = tM ts c k := by rw [hM1, if_neg (by omega), if_neg (by omega)]
    (repeat' (first | refine JC.seq ?_ | refine JC.ops ?_ | refine JC.opsD ?_ | refine JO.nil ?_ | refine JX.thenN ?_ | (apply r_move; (iterate 3 exact rfl)) | (apply r_assign; (iterate 3 exact rfl)) | (apply r_loadN; (iterate 4 exact rfl); exact at0; exact rfl) | (apply r_idxTr; (iterate 4 exact rfl); assumption; assumption; omega; omega) | (apply r_idxT; (iterate 4 exact rfl); assumption; omega) | (apply r_ldTr; (iterate 4 exact rfl); assumption; assumption; (repeat' first | exact HSub.nil _ | exact HSub.hd | exact HSub.in0 | exact HSub.refl _ | refine HSub.skip ?_ | refine HSub.skipN ?_); omega; omega) | (apply r_ldT; (iterate 4 exact rfl); assumption; assumption; (repeat' first | exact HSub.nil _ | exact HSub.hd | exact HSub.in0 | exact HSub.refl _ | refine HSub.skip ?_ | refine HSub.skipN ?_); omega) | (apply r_lss; (iterate 4 exact rfl); all_goals intro hc; all_goals try (exfalso; omega)) | refine JC.skip ?_ | refine JC.condT rfl ?_ | refine JC.block ?_))
    refine r_call0 (by first | trivial | exact ⟨rfl, rfl⟩) rfl (by first | rfl | exact ⟨rfl, rfl⟩) rfl (fun w _ _ => c_pair K w t (tM t1 c i) (tM t1 c k) hK ht (by rw [e1]; exact hb c i) (by rw [e2]; exact hb c k)) fun w v w' _ _ _ hR => ?_
    rw [e1, e2] at hR
    subst hR
    (repeat' (first | (apply r_move; (iterate 3 exact rfl)) | (apply r_idxTr; (iterate 4 exact rfl); assumption; assumption; omega; omega) | (apply r_extract; (iterate 4 exact rfl))))
    refine r_stTr (A := [_]) (B := []) (i := c) (j := i) (V := tv ts) (u := t.p (tM ts c i) (tM ts c k)) hV1 hT1 rfl rfl (by first | trivial | exact ⟨rfl, rfl⟩) rfl rfl hc1 hi (fun t2 hT2 hl2 hV2 hM2 => ?_)
    (repeat' (first | (apply r_idxTr; (iterate 4 exact rfl); assumption; assumption; omega; omega)))
    refine r_stTr (A := [_]) (B := []) (i := c) (j := k) (V := tv ts) (u := t.q (tM ts c i) (tM ts c k)) hV2 hT2 rfl rfl (by first | trivial | exact ⟨rfl, rfl⟩) rfl rfl (by omega) hk (fun t3 hT3 hl3 hV3 hM3 => ?_)
    (repeat' (first | refine JC.ops ?_ | refine JO.nil ?_ | refine JX.thenN ?_ | (apply r_move; (iterate 3 exact rfl)) | (apply r_add1; (iterate 4 exact rfl); omega) | refine JX.blockN ?_))
    refine JX.roundH (c + 1, t3) ⟨by dsimp only; omega, hT3, by dsimp only; omega, hV3, fun a b => ?_⟩ (by dsimp only; omega) (by repeat first | exact trivial | refine ⟨rfl, ?_⟩) (HSub.refl _)
    dsimp only
    rw [hM3, hM2, hM1]
    by_cases h1 : a = c
    · subst h1
      by_cases h2 : b = k
      · subst h2; rw [if_pos ⟨rfl, rfl⟩, if_pos ⟨by omega, rfl⟩]
      · rw [if_neg (by omega), if_neg (show ¬ (a < a ∧ b = k) by omega), if_neg (show ¬ (a < a ∧ b = i) by omega), if_neg (show ¬ (a < a + 1 ∧ b = k) by omega)]
        by_cases h3 : b = i
        · subst h3; rw [if_pos ⟨rfl, rfl⟩, if_pos ⟨by omega, rfl⟩]
        · rw [if_neg (by omega), if_neg (by omega)]
    · rw [if_neg (by omega), if_neg (show ¬ (a = c ∧ b = i) by omega)]
      have e3 : (a < c + 1 ∧ b = k) ↔ (a < c ∧ b = k) := by omega
      have e4 : (a < c + 1 ∧ b = i) ↔ (a < c ∧ b = i) := by omega
      simp only [e3, e4]
  · (repeat' (first | refine JC.seq ?_ | refine JC.ops ?_ | refine JO.nil ?_ | refine JX.thenN ?_ | (apply r_lss; (iterate 4 exact rfl); all_goals intro hc; all_goals try (exfalso; omega)) | refine JX.thenE ?_ | refine JC.exit ?_ | refine JC.condF rfl ?_ | refine JX.blockE ?_))
    obtain rfl : c = r := by omega
    exact JX.end0 (fun a w' st => ⟨st.kp, t1, by rw [keys_append, keys_append, tH_keys hT hT1 hl1 hV1], fun p hp => st.hs.blk p (by simpa using Or.inr hp), hT1, hl1, hV1, fun a b => by rw [hM1, hrl']⟩)


section
variable {c : Cx} {Q : Exit → Act → World → Prop} {m : Mode} {F : SFrame} {H : SHeap} {r : List SOp} {g : Option (Option Tmp × Bool)} {ns : Bool} {ty : TypeId} {N : SHeap} {v : Value} {cc : Nat} {ts : List TR}
theorem r_callGr {A B : SHeap} {f : FuncId} {args : Array Operand} {ats : Array TypeId} {vs : List Value} {dd : Option Tmp} {gg : Nat → Nat → Int} [TF c.P f] (hH : H = A ++ (N ++ (tH ts ++ B))) (hm : m.mayStore ns r) (hd : dstOk c.n dd = true) (hg : guardF F g = some true) (ha : evArgs F args.toList = some vs)
    (hc : ∀ w, Hsat (N ++ tH ts) w → Calls c.P f vs.toArray w (Ret fun _ w' => GridR N ts v cc gg w w'))
    (h : ∀ u ts', OwnT N v cc ts' → ts'.length = ts.length → (∀ a, tv ts' a = tv ts a) → (∀ a b, tM ts' a b = gg a b) → JO c Q m.spent r (putF F dd u) (A ++ (N ++ (tH ts' ++ B)))) :
    JO c Q m (⟨dd, .call ⟨.value (.func f), args, ats⟩, ty, g, .seq, ns⟩ :: r) F H := by
  refine r_callO (A := A) (N := N ++ tH ts) (B := B) (by rw [hH, List.append_assoc]) hm hd hg ha (fun w _ hs => hc w (HSub.hsat (by rw [hH, ← List.append_assoc N]; exact HSub.skipN HSub.in0) hs)) (fun w u w' _ _ _ hR => ?_)
  obtain ⟨ts', hk, hin, hT', hl, hV, hM⟩ := hR
  refine ⟨N ++ tH ts', hk, hin, ?_⟩
  have h1 := h u ts' hT' hl hV hM
  rw [List.append_assoc]
  exact h1
theorem r_callGrL {A B Hs : SHeap} {f : FuncId} {args : Array Operand} {ats : Array TypeId} {vs : List Value} {dd : Option Tmp} {gg : Nat → Nat → Int} [TF c.P f] (hH : H = A ++ (N ++ (tH ts ++ B))) (hHs : HSub Hs (A ++ B)) (hd : dstOk c.n dd = true) (hg : guardF F g = some true) (ha : evArgs F args.toList = some vs)
    (hc : ∀ w, Hsat (N ++ tH ts) w → Calls c.P f vs.toArray w (Ret fun _ w' => GridR N ts v cc gg w w'))
    (h : ∀ u ts', OwnT N v cc ts' → ts'.length = ts.length → (∀ a, tv ts' a = tv ts a) → (∀ a b, tM ts' a b = gg a b) → JO c Q (.draw Hs true) r (putF F dd u) (A ++ (N ++ (tH ts' ++ B)))) :
    JO c Q (.draw Hs true) (⟨dd, .call ⟨.value (.func f), args, ats⟩, ty, g, .seq, ns⟩ :: r) F H := by
  refine r_callOL (A := A) (N := N ++ tH ts) (B := B) (by rw [hH, List.append_assoc]) hHs hd hg ha (fun w _ hs => hc w (HSub.hsat (by rw [hH, ← List.append_assoc N]; exact HSub.skipN HSub.in0) hs)) (fun w u w' _ _ _ hR => ?_)
  obtain ⟨ts', hk, hin, hT', hl, hV, hM⟩ := hR
  refine ⟨N ++ tH ts', hk, hin, ?_⟩
  have h1 := h u ts' hT' hl hV hM
  rw [List.append_assoc]
  exact h1
end

structure WV where
  u : Value
  ui : Value
  d : Value
  v : Value
  vi : Value
  Nu : SHeap
  Nui : SHeap
  Nd : SHeap
  Nv : SHeap
  Nvi : SHeap
structure WT where
  u : List TR
  ui : List TR
  d : List TR
  v : List TR
  vi : List TR
def WV.cells (W : WV) (m n : Nat) : Array Value := #[W.u, W.ui, W.d, W.v, W.vi, nv m, nv n]
def wkH (b : Nat) (W : WV) (m n : Nat) (T : WT) : SHeap := (b, .cells (W.cells m n) 79) :: (W.Nu ++ (tH T.u ++ (W.Nui ++ (tH T.ui ++ (W.Nd ++ (tH T.d ++ (W.Nv ++ (tH T.v ++ (W.Nvi ++ (tH T.vi ++ []))))))))))
def tL (ts : List TR) : List (List Int) := ts.map (·.2.2)
theorem tM_gE (ts : List TR) (a b : Nat) : tM ts a b = gE (tL ts) a b := by
  unfold tM gE tL tr'
  have e : (ts.map (·.2.2)).getD a [] = (ts.getD a dT).2.2 := by
    simp only [List.getD, List.getElem?_map]
    cases h : ts[a]? <;> simp [dT]
  rw [e]
structure IsT (N : SHeap) (v : Value) (r c : Nat) (ts : List TR) (g : List (List Int)) : Prop where
  T : OwnT N v c ts
  len : ts.length = r
  eq : tL ts = g
theorem IsT.rc {N : SHeap} {v : Value} {r c : Nat} {ts : List TR} {g : List (List Int)} (h : IsT N v r c ts g) : Rec r c g :=
  ⟨by rw [← h.eq]; unfold tL; rw [List.length_map, h.len], fun x hx => by
    rw [← h.eq] at hx
    unfold tL at hx
    obtain ⟨t, ht, rfl⟩ := List.mem_map.1 hx
    exact (h.T.rows t ht).len⟩
theorem IsT.at {N : SHeap} {v : Value} {r c : Nat} {ts : List TR} {g : List (List Int)} (h : IsT N v r c ts g) (a b : Nat) : tM ts a b = gE g a b := by rw [tM_gE, h.eq]
theorem IsT.of {N : SHeap} {v : Value} {r c : Nat} {ts ts' : List TR} {g g' : List (List Int)} (h : IsT N v r c ts g) (hT : OwnT N v c ts') (hl : ts'.length = ts.length) (hg : Rec r c g') (e : ∀ a b, a < r → b < c → tM ts' a b = gE g' a b) : IsT N v r c ts' g' := by
  have h0 : IsT N v r c ts' (tL ts') := ⟨hT, by rw [hl, h.len], rfl⟩
  exact ⟨hT, h0.len, h0.rc.ext hg fun a b ha hb => by rw [← tM_gE]; exact e a b ha hb⟩
structure IsWk (W : WV) (m n : Nat) (T : WT) (S : Sm) : Prop where
  u : IsT W.Nu W.u m m T.u S.u
  ui : IsT W.Nui W.ui m m T.ui S.ui
  d : IsT W.Nd W.d m n T.d S.d
  v : IsT W.Nv W.v n n T.v S.v
  vi : IsT W.Nvi W.vi n n T.vi S.vi
structure SameV (T T' : WT) : Prop where
  u : ∀ a, tv T'.u a = tv T.u a
  ui : ∀ a, tv T'.ui a = tv T.ui a
  d : ∀ a, tv T'.d a = tv T.d a
  v : ∀ a, tv T'.v a = tv T.v a
  vi : ∀ a, tv T'.vi a = tv T.vi a
theorem SameV.refl (T : WT) : SameV T T := ⟨fun _ => rfl, fun _ => rfl, fun _ => rfl, fun _ => rfl, fun _ => rfl⟩
theorem IsT.keys {N : SHeap} {v : Value} {r c : Nat} {ts ts' : List TR} {g g' : List (List Int)} (h : IsT N v r c ts g) (h' : IsT N v r c ts' g') (hV : ∀ a, tv ts' a = tv ts a) : Go.Proofs.YtemdknkghacheaaDoor.keys (tH ts') = Go.Proofs.YtemdknkghacheaaDoor.keys (tH ts) := tH_keys h.T h'.T (by rw [h.len, h'.len]) hV
theorem wkH_keys {b m n : Nat} {W : WV} {T T' : WT} {S S' : Sm} (h : IsWk W m n T S) (h' : IsWk W m n T' S') (hV : SameV T T') : keys (wkH b W m n T') = keys (wkH b W m n T) := by
  unfold wkH
  simp only [keys, List.map_cons, List.map_append]
  have e1 := h.u.keys h'.u hV.u
  have e2 := h.ui.keys h'.ui hV.ui
  have e3 := h.d.keys h'.d hV.d
  have e4 := h.v.keys h'.v hV.v
  have e5 := h.vi.keys h'.vi hV.vi
  unfold keys at e1 e2 e3 e4 e5
  rw [e1, e2, e3, e4, e5]
def WkR (b : Nat) (W : WV) (m n : Nat) (T : WT) (S' : Sm) (w w' : World) : Prop :=
  Kp (keys (wkH b W m n T)) w w' ∧ ∃ T', keys (wkH b W m n T') = keys (wkH b W m n T) ∧ InW (wkH b W m n T') w' ∧ IsWk W m n T' S' ∧ SameV T T'

theorem BdT.flip {K : Nat} {t : Tn} (h : BdT K t) : BdT K t.flip := ⟨h.d, by show (-t.c).natAbs < _; rw [Int.natAbs_neg]; exact h.c, by show (-t.b).natAbs < _; rw [Int.natAbs_neg]; exact h.b, h.a⟩
theorem IsT.rows {N : SHeap} {v : Value} {r c i k : Nat} {ts ts' : List TR} {g : List (List Int)} {t : Tn} (h : IsT N v r c ts g) (hi : i < r) (hk : k < r) (hT : OwnT N v c ts') (hl : ts'.length = ts.length)
    (e : ∀ a b, tM ts' a b = if a = k ∧ b < c then t.q (tM ts i b) (tM ts k b) else if a = i ∧ b < c then t.p (tM ts i b) (tM ts k b) else tM ts a b) : IsT N v r c ts' (rowsL i k t g) :=
  h.of hT hl (h.rc.rows hi hk) fun a b ha hb => by
    rw [e, gE_rows h.rc hi hk hb, h.at, h.at, h.at]
    have e1 : (a = k ∧ b < c) ↔ a = k := by omega
    have e2 : (a = i ∧ b < c) ↔ a = i := by omega
    simp only [e1, e2]
theorem IsT.cols {N : SHeap} {v : Value} {r c i k : Nat} {ts ts' : List TR} {g : List (List Int)} {t : Tn} (h : IsT N v r c ts g) (hi : i < c) (hk : k < c) (hT : OwnT N v c ts') (hl : ts'.length = ts.length)
    (e : ∀ a b, tM ts' a b = if a < ts.length ∧ b = k then t.q (tM ts a i) (tM ts a k) else if a < ts.length ∧ b = i then t.p (tM ts a i) (tM ts a k) else tM ts a b) : IsT N v r c ts' (colsL i k t g) :=
  h.of hT hl h.rc.cols fun a b ha hb => by
    rw [e, gE_cols h.rc hi hk ha, h.at, h.at, h.at, h.len]
    have e1 : (a < r ∧ b = k) ↔ b = k := by omega
    have e2 : (a < r ∧ b = i) ↔ b = i := by omega
    simp only [e1, e2]

set_option maxHeartbeats 8000000 in
theorem c_wrows (K : Nat) (w : World) (b : Nat) (W : WV) (m n : Nat) (T : WT) (S : Sm) (i k : Nat) (t : Tn) (hW : IsWk W m n T S) (hs : Hsat (wkH b W m n T) w) (hi : i < m) (hk : k < m) (hik : i ≠ k) (hm : m ≤ 200) (hn : n ≤ 200)
    (hK : K ≤ 20000000) (ht : BdT K t) (hb : Ok K S) :
    Calls Tryd.prog 39 #[.pointer (some ⟨b, 0, none⟩), nv i, nv k, .agg (tnC t)] w (Ret fun _ w' => WkR b W m n T (S.rows i k t) w w') := by
  have hM := keys_lt hs
  refine calls_of_S [⟨1, 1, [], []⟩, ⟨2, 1, [], []⟩] (keys (wkH b W m n T)) hM (wkH b W m n T) Tryd.func39 rfl mixed (by kernel_rfl) Tryd.ntmps39 Tryd.results39 rfl hs (fun p hp => List.mem_map.2 ⟨p, hp, rfl⟩) ?_
  simp only [toS, textOps, toSOp, kindAt, kindOf, odAt, sopsAt, ordOf, zipF]
  have hlu := hW.u.len
  have hlui := hW.ui.len
  have hld := hW.d.len
  unfold wkH
  (repeat' (first | refine JC.seq ?_ | refine JC.ops ?_ | refine JC.opsD ?_ | refine JO.nil ?_ | refine JX.thenN ?_ | (apply r_move; (iterate 3 exact rfl)) | (apply r_fieldAddr; (iterate 3 exact rfl)) | (apply r_load; (iterate 4 exact rfl); (first | exact at0 | exact at1); exact rfl) | (apply r_loadN; (iterate 4 exact rfl); (first | exact at0 | exact at1); exact rfl) | (apply r_nilCheck; (iterate 3 exact rfl)) | (apply r_boxA; (iterate 4 exact rfl); intro _)))
  rename_i b7
  refine r_callGr (A := (b7, .cells (tnC t) 86) :: (b, .cells (W.cells m n) 79) :: (W.Nu ++ (tH T.u ++ (W.Nui ++ tH T.ui)))) (B := W.Nv ++ (tH T.v ++ (W.Nvi ++ (tH T.vi ++ [])))) (by simp only [List.cons_append, List.nil_append, List.append_assoc]) (by first | trivial | exact ⟨rfl, rfl⟩) rfl (by first | rfl | exact ⟨rfl, rfl⟩) rfl (fun w hs => c_grows K w W.d W.Nd T.d n i k t hW.d.T hs (by omega) (by omega) hik (by omega) hn hK ht (fun x y => by rw [hW.d.at]; exact okG_at hb.d x y)) (fun _ d' hTd hld' hVd hMd => ?_)
  simp only [List.cons_append, List.nil_append, List.append_assoc]
  (repeat' (first | refine JC.seq ?_ | refine JC.opsD ?_ | refine JO.nil ?_ | refine JX.thenN ?_ | (apply r_move; (iterate 3 exact rfl)) | (apply r_fieldAddr; (iterate 3 exact rfl)) | (apply r_load; (iterate 4 exact rfl); (first | exact at0 | exact at1); exact rfl) | (apply r_loadN; (iterate 4 exact rfl); (first | exact at0 | exact at1); exact rfl) | (apply r_nilCheck; (iterate 3 exact rfl))))
  refine r_callGr (A := [(b7, .cells (tnC t) 86), (b, .cells (W.cells m n) 79)]) (B := W.Nui ++ (tH T.ui ++ (W.Nd ++ (tH d' ++ (W.Nv ++ (tH T.v ++ (W.Nvi ++ (tH T.vi ++ [])))))))) (by simp only [List.cons_append, List.nil_append, List.append_assoc]) (by first | trivial | exact ⟨rfl, rfl⟩) rfl (by first | rfl | exact ⟨rfl, rfl⟩) rfl (fun w hs => c_grows K w W.u W.Nu T.u m i k t hW.u.T hs (by omega) (by omega) hik (by omega) hm hK ht (fun x y => by rw [hW.u.at]; exact okG_at hb.u x y)) (fun _ u' hTu hlu' hVu hMu => ?_)
  simp only [List.cons_append, List.nil_append, List.append_assoc]
  (repeat' (first | refine JC.seq ?_ | refine JC.ops ?_ | refine JO.nil ?_ | refine JX.thenN ?_ | (apply r_loadN; (iterate 4 exact rfl); exact at0; exact rfl)))
  refine r_call0 (by first | trivial | exact ⟨rfl, rfl⟩) rfl (by first | rfl | exact ⟨rfl, rfl⟩) rfl (fun w _ _ => c_back K w t hK ht) fun w v w' _ _ _ hR => ?_
  subst hR
  (repeat' (first | refine JO.nil ?_ | refine JX.thenN ?_ | (apply r_storeN; exact rfl; (first | exact trivial | exact ⟨rfl, rfl⟩); exact rfl; exact rfl; exact at0; (iterate 3 exact rfl)) | (apply r_allocZ; (iterate 3 exact rfl); intro _) | (apply r_storeN; exact rfl; (first | exact trivial | exact ⟨rfl, rfl⟩); exact rfl; exact rfl; exact at0; (iterate 3 exact rfl))))
  rename_i b8
  refine JC.opsDs [(b8, .cells (tnC t.back) 86), (b, .cells (W.cells m n) 79)] (by (first | exact HSub.refl _ | (repeat' first | exact HSub.nil _ | exact HSub.refl _ | refine HSub.at 0 rfl ?_ | refine HSub.at 1 rfl ?_ | refine HSub.at 2 rfl ?_ | refine HSub.at 3 rfl ?_ | refine HSub.at 4 rfl ?_ | refine HSub.at 5 rfl ?_ | refine HSub.at 6 rfl ?_ | refine HSub.at 7 rfl ?_))) ?_
  (repeat' (first | (apply r_move; (iterate 3 exact rfl)) | (apply r_fieldAddr; (iterate 3 exact rfl)) | (apply r_load; (iterate 4 exact rfl); (first | exact at0 | exact at1); exact rfl) | (apply r_ldTn; (iterate 4 exact rfl); (first | exact at0 | exact at1); exact rfl; exact rfl) | (apply r_nilCheck; (iterate 3 exact rfl))))
  refine r_build (l := [(0, Wv t.back.a), (1, Wv t.back.c), (2, Wv t.back.b), (3, Wv t.back.d)]) (cs := tnC t.flip) rfl rfl rfl (by kernel_rfl) ?_
  skip
  refine r_callGrL (A := (b8, .cells (tnC t.back) 86) :: (b7, .cells (tnC t) 86) :: (b, .cells (W.cells m n) 79) :: (W.Nu ++ tH u')) (B := W.Nd ++ (tH d' ++ (W.Nv ++ (tH T.v ++ (W.Nvi ++ (tH T.vi ++ [])))))) (by simp only [List.set_cons_zero, List.cons_append, List.nil_append, List.append_assoc]) (by (first | exact HSub.refl _ | (repeat' first | exact HSub.nil _ | exact HSub.refl _ | refine HSub.at 0 rfl ?_ | refine HSub.at 1 rfl ?_ | refine HSub.at 2 rfl ?_ | refine HSub.at 3 rfl ?_ | refine HSub.at 4 rfl ?_ | refine HSub.at 5 rfl ?_ | refine HSub.at 6 rfl ?_ | refine HSub.at 7 rfl ?_))) rfl (by first | rfl | exact ⟨rfl, rfl⟩) rfl (fun w hs => c_gcols K w W.ui W.Nui T.ui m i k t.flip hW.ui.T hs (by omega) (by omega) hik (by omega) hm hK ht.flip (fun x y => by rw [hW.ui.at]; exact okG_at hb.ui x y)) (fun _ w' hTw hlw hVw hMw => ?_)
  simp only [List.cons_append, List.nil_append, List.append_assoc]
  (repeat' (first | refine JO.nil ?_))
  have hW' : IsWk W m n ⟨u', w', d', T.v, T.vi⟩ (S.rows i k t) := ⟨hW.u.rows hi hk hTu hlu' hMu, hW.ui.cols hi hk hTw hlw hMw, hW.d.rows hi hk hTd hld' hMd, hW.v, hW.vi⟩
  have hV' : SameV T ⟨u', w', d', T.v, T.vi⟩ := ⟨hVu, hVw, hVd, fun _ => rfl, fun _ => rfl⟩
  exact JX.end0 (fun a w'' st => ⟨st.kp, _, wkH_keys hW hW' hV', fun p hp => st.hs.blk p (by unfold wkH at hp; exact List.mem_cons_of_mem _ (List.mem_cons_of_mem _ hp)), hW', hV'⟩)

set_option maxHeartbeats 8000000 in
theorem c_wcols (K : Nat) (w : World) (b : Nat) (W : WV) (m n : Nat) (T : WT) (S : Sm) (i k : Nat) (t : Tn) (hW : IsWk W m n T S) (hs : Hsat (wkH b W m n T) w) (hi : i < n) (hk : k < n) (hik : i ≠ k) (hm : m ≤ 200) (hn : n ≤ 200)
    (hK : K ≤ 20000000) (ht : BdT K t) (hb : Ok K S) :
    Calls Tryd.prog 65 #[.pointer (some ⟨b, 0, none⟩), nv i, nv k, .agg (tnC t)] w (Ret fun _ w' => WkR b W m n T (S.cols i k t) w w') := by
  have hM := keys_lt hs
  refine calls_of_S [⟨1, 1, [], []⟩, ⟨2, 1, [], []⟩] (keys (wkH b W m n T)) hM (wkH b W m n T) Tryd.func65 rfl mixed (by kernel_rfl) Tryd.ntmps65 Tryd.results65 rfl hs (fun p hp => List.mem_map.2 ⟨p, hp, rfl⟩) ?_
  simp only [toS, textOps, toSOp, kindAt, kindOf, odAt, sopsAt, ordOf, zipF]
  have hlv := hW.v.len
  have hlvi := hW.vi.len
  have hld := hW.d.len
  unfold wkH
  (repeat' (first | refine JC.seq ?_ | refine JC.ops ?_ | refine JC.opsD ?_ | refine JO.nil ?_ | refine JX.thenN ?_ | (apply r_move; (iterate 3 exact rfl)) | (apply r_fieldAddr; (iterate 3 exact rfl)) | (apply r_load; (iterate 4 exact rfl); (first | exact at0 | exact at1); exact rfl) | (apply r_loadN; (iterate 4 exact rfl); (first | exact at0 | exact at1); exact rfl) | (apply r_nilCheck; (iterate 3 exact rfl)) | (apply r_boxA; (iterate 4 exact rfl); intro _)))
  rename_i b7
  refine r_callGr (A := (b7, .cells (tnC t) 86) :: (b, .cells (W.cells m n) 79) :: (W.Nu ++ (tH T.u ++ (W.Nui ++ tH T.ui)))) (B := W.Nv ++ (tH T.v ++ (W.Nvi ++ (tH T.vi ++ [])))) (by simp only [List.set_cons_zero, List.cons_append, List.nil_append, List.append_assoc]) (by first | trivial | exact ⟨rfl, rfl⟩) rfl (by first | rfl | exact ⟨rfl, rfl⟩) rfl (fun w hs => c_gcols K w W.d W.Nd T.d n i k t hW.d.T hs (by omega) (by omega) hik (by omega) hn hK ht (fun x y => by rw [hW.d.at]; exact okG_at hb.d x y)) (fun _ d' hTd hld' hVd hMd => ?_)
  simp only [List.cons_append, List.nil_append, List.append_assoc]
  (repeat' (first | refine JC.seq ?_ | refine JC.opsD ?_ | refine JO.nil ?_ | refine JX.thenN ?_ | (apply r_move; (iterate 3 exact rfl)) | (apply r_fieldAddr; (iterate 3 exact rfl)) | (apply r_load; (iterate 4 exact rfl); (first | exact at0 | exact at1); exact rfl) | (apply r_loadN; (iterate 4 exact rfl); (first | exact at0 | exact at1); exact rfl) | (apply r_nilCheck; (iterate 3 exact rfl))))
  refine r_callGr (A := (b7, .cells (tnC t) 86) :: (b, .cells (W.cells m n) 79) :: (W.Nu ++ (tH T.u ++ (W.Nui ++ (tH T.ui ++ (W.Nd ++ tH d')))))) (B := W.Nvi ++ (tH T.vi ++ [])) (by simp only [List.set_cons_zero, List.cons_append, List.nil_append, List.append_assoc]) (by first | trivial | exact ⟨rfl, rfl⟩) rfl (by first | rfl | exact ⟨rfl, rfl⟩) rfl (fun w hs => c_gcols K w W.v W.Nv T.v n i k t hW.v.T hs (by omega) (by omega) hik (by omega) hn hK ht (fun x y => by rw [hW.v.at]; exact okG_at hb.v x y)) (fun _ v' hTv hlv' hVv hMv => ?_)
  simp only [List.cons_append, List.nil_append, List.append_assoc]
  (repeat' (first | refine JC.seq ?_ | refine JC.ops ?_ | refine JO.nil ?_ | refine JX.thenN ?_ | (apply r_loadN; (iterate 4 exact rfl); exact at0; exact rfl)))
  refine r_call0 (by first | trivial | exact ⟨rfl, rfl⟩) rfl (by first | rfl | exact ⟨rfl, rfl⟩) rfl (fun w _ _ => c_back K w t hK ht) fun w v w' _ _ _ hR => ?_
  subst hR
  (repeat' (first | refine JO.nil ?_ | refine JX.thenN ?_ | (apply r_storeN; exact rfl; (first | exact trivial | exact ⟨rfl, rfl⟩); exact rfl; exact rfl; exact at0; (iterate 3 exact rfl)) | (apply r_allocZ; (iterate 3 exact rfl); intro _) | (apply r_storeN; exact rfl; (first | exact trivial | exact ⟨rfl, rfl⟩); exact rfl; exact rfl; exact at0; (iterate 3 exact rfl))))
  rename_i b8
  refine JC.opsDs [(b8, .cells (tnC t.back) 86), (b, .cells (W.cells m n) 79)] (by (first | exact HSub.refl _ | (repeat' first | exact HSub.nil _ | exact HSub.refl _ | refine HSub.at 0 rfl ?_ | refine HSub.at 1 rfl ?_ | refine HSub.at 2 rfl ?_ | refine HSub.at 3 rfl ?_ | refine HSub.at 4 rfl ?_ | refine HSub.at 5 rfl ?_ | refine HSub.at 6 rfl ?_ | refine HSub.at 7 rfl ?_))) ?_
  (repeat' (first | (apply r_move; (iterate 3 exact rfl)) | (apply r_fieldAddr; (iterate 3 exact rfl)) | (apply r_load; (iterate 4 exact rfl); (first | exact at0 | exact at1); exact rfl) | (apply r_ldTn; (iterate 4 exact rfl); (first | exact at0 | exact at1); exact rfl; exact rfl) | (apply r_nilCheck; (iterate 3 exact rfl))))
  refine r_build (l := [(0, Wv t.back.a), (1, Wv t.back.c), (2, Wv t.back.b), (3, Wv t.back.d)]) (cs := tnC t.flip) rfl rfl rfl (by kernel_rfl) ?_
  skip
  refine r_callGrL (A := (b8, .cells (tnC t.back) 86) :: (b7, .cells (tnC t) 86) :: (b, .cells (W.cells m n) 79) :: (W.Nu ++ (tH T.u ++ (W.Nui ++ (tH T.ui ++ (W.Nd ++ (tH d' ++ (W.Nv ++ tH v')))))))) (B := []) (by simp only [List.set_cons_zero, List.cons_append, List.nil_append, List.append_assoc]) (by (first | exact HSub.refl _ | (repeat' first | exact HSub.nil _ | exact HSub.refl _ | refine HSub.at 0 rfl ?_ | refine HSub.at 1 rfl ?_ | refine HSub.at 2 rfl ?_ | refine HSub.at 3 rfl ?_ | refine HSub.at 4 rfl ?_ | refine HSub.at 5 rfl ?_ | refine HSub.at 6 rfl ?_ | refine HSub.at 7 rfl ?_))) rfl (by first | rfl | exact ⟨rfl, rfl⟩) rfl (fun w hs => c_grows K w W.vi W.Nvi T.vi n i k t.flip hW.vi.T hs (by omega) (by omega) hik (by omega) hn hK ht.flip (fun x y => by rw [hW.vi.at]; exact okG_at hb.vi x y)) (fun _ w' hTw hlw' hVw hMw => ?_)
  simp only [List.cons_append, List.nil_append, List.append_assoc]
  (repeat' (first | refine JO.nil ?_))
  have hW' : IsWk W m n ⟨T.u, T.ui, d', v', w'⟩ (S.cols i k t) := ⟨hW.u, hW.ui, hW.d.cols hi hk hTd hld' hMd, hW.v.cols hi hk hTv hlv' hMv, hW.vi.rows hi hk hTw hlw' hMw⟩
  have hV' : SameV T ⟨T.u, T.ui, d', v', w'⟩ := ⟨fun _ => rfl, fun _ => rfl, hVd, hVv, hVw⟩
  exact JX.end0 (fun a w'' st => ⟨st.kp, _, wkH_keys hW hW' hV', fun p hp => st.hs.blk p (by unfold wkH at hp; exact List.mem_cons_of_mem _ (List.mem_cons_of_mem _ hp)), hW', hV'⟩)


section
variable {c : Cx} {Q : Exit → Act → World → Prop} {F : SFrame} {H : SHeap} {r : List SOp} {g : Option (Option Tmp × Bool)} {ns : Bool} {ty : TypeId} {x : Operand}
theorem r_callVOL {A N B Hs : SHeap} {f : FuncId} {args : Array Operand} {ats : Array TypeId} {vs : List Value} {first cap : Array Value} {R : World → Value → World → Prop} {dd : Option Tmp} [TF c.P f] (hH : H = A ++ (N ++ B)) (hHs : HSub Hs (A ++ B)) (hd : dstOk c.n dd = true) (hg : guardF F g = some true)
    (hx : ev F x = some (.func (.func f) first cap)) (ha : evArgs F args.toList = some vs)
    (hc : ∀ w, Kp c.M c.w0 w → Hsat H w → Calls c.P f (first ++ vs.toArray ++ cap) w (Ret fun v w' => Kp (keys N) w w' ∧ R w v w'))
    (h : ∀ w v w', Kp c.M c.w0 w → Hsat H w → Kp (keys N) w w' → R w v w' → ∃ N', keys N' = keys N ∧ InW N' w' ∧ JO c Q (.draw Hs true) r (putF F dd v) (A ++ (N' ++ B))) :
    JO c Q (.draw Hs true) (⟨dd, .call ⟨.value x, args, ats⟩, ty, g, .seq, ns⟩ :: r) F H := by
  subst hH
  refine ⟨⟨hd, .inr ⟨hg, fun a w st hs => ?_⟩⟩⟩
  have hrun : (execOp a.eval ⟨dd, .call ⟨.value x, args, ats⟩, ty, "", #[], none⟩).run c.P w = .ok (.enter f (first ++ vs.toArray ++ cap)) w := by
    show (do let d ← resolve a.eval ⟨.value x, args, ats⟩ ty; invoke d.target d.args).run c.P w = _
    have h1 : args.map a.eval = vs.toArray := by
      have := evArgs_map st.fr ha
      apply Array.ext'
      rw [Array.toList_map, this]
    have h0 : (resolve a.eval ⟨.value x, args, ats⟩ ty).run c.P w = .ok { target := .fn (.func f) cap, args := first ++ vs.toArray } w := by
      simp [resolve, h1, st.fr.ev hx, Deferred.ofValue]
    rw [Sem.run_bind, h0]
    simp only [Result.andThen_ok, invoke, TF.run]
  unfold Oper.wp SOp.oper
  rw [hrun]
  refine Calls.mono (hc w st.kp st.hs) fun e w' he => ?_
  cases e with
  | panicked ch => exact he.elim
  | outgrown => exact he.elim
  | returned v =>
    obtain ⟨hk, hR⟩ := he
    obtain ⟨N', hkeys, hb, hj⟩ := h w v w' st.kp st.hs hk hR
    have hp : (A ++ (N ++ B)).Perm ((A ++ B) ++ N) := (perm_mid A N B).symm
    have hnd := (st.perm hp).hs.nd
    have hnd0 := hnd
    rw [List.map_append, List.nodup_append] at hnd
    obtain ⟨st', hstep, hkk⟩ := turn_step (N' := N') st hp (by have := hnd.2.1; unfold keys at hkeys; rw [hkeys]; exact this) hb (fun k hk' => .inl (hkeys ▸ hk')) (fun k h1 h2 => hk.block k h1 h2) hk.size hk.os hk.tape hk.output
    have hAB : Hsat (A ++ B) w' := by
      have h0 : Hsat (A ++ B) w := (HSub.sub (List.sublist_append_left (A ++ B) N)).hsat (st.perm hp).hs
      exact h0.kp hk fun p hp' hpk => hnd.2.2 p.1 (List.mem_map.2 ⟨p, hp', rfl⟩) p.1 hpk rfl
    refine ⟨hstep, _, _, .draw Hs true, (st'.perm (perm_mid A N' B)).put v hd, fun k hk' => hkk k ?_, ⟨rfl, fun _ => ⟨rfl, hHs.hsat hAB⟩, fun _ => rfl, .inl rfl⟩, hj.h⟩
    obtain ⟨q, hq, rfl⟩ := List.mem_map.1 hk'
    exact List.mem_map.2 ⟨q, (perm_mid A N' B).mem_iff.2 hq, rfl⟩
end

theorem natAbs_div_le (a b : Int) : (a / b).natAbs ≤ a.natAbs := Int.natAbs_ediv_le_natAbs a b
theorem one_bd (K : Nat) : (1 : Int).natAbs < 256 ^ (K + 1) := by
  rw [Nat.pow_succ]; have := pos256 K; show 1 < _; omega
theorem zero_bd (K : Nat) : (0 : Int).natAbs < 256 ^ K := pos256 K
theorem gcdp_bd {a b g x y : Int} {K : Nat} (h : GcdP a b g x y) (ha : a.natAbs < 256 ^ K) (hb : b.natAbs < 256 ^ K) : g.natAbs ≤ 256 ^ K ∧ x.natAbs ≤ 256 ^ K ∧ y.natAbs ≤ 256 ^ K + 1 := by
  by_cases hz : b = 0
  · obtain ⟨h1, h2⟩ := h.z hz
    have e := h.e
    rw [hz] at e
    have e2 : Int.gcd a 0 = a.natAbs := by simp [Int.gcd]
    rw [e2] at e
    have hs : a.sign.natAbs ≤ 1 := by rcases Int.lt_trichotomy a 0 with h | h | h <;> simp [Int.sign_eq_neg_one_of_neg, Int.sign_eq_one_of_pos, h]
    have := pos256 K
    refine ⟨by omega, by rw [h1]; omega, by rw [h2]; simp⟩
  · obtain ⟨h0, h1, h2⟩ := h.n hz
    have hgp : 0 < g := by
      have := h.e
      have h1 : 0 < Int.gcd a b := Int.gcd_pos_of_ne_zero_right _ hz
      omega
    have hgb : g ≤ b.natAbs := by
      have h5 : g ∣ b := by rw [h.e]; exact Int.gcd_dvd_right ..
      have h6 := Int.natAbs_dvd_natAbs.2 h5
      have h7 := Nat.le_of_dvd (by omega) h6
      omega
    have hxb : x < b.natAbs := by
      rcases Int.lt_or_le x b.natAbs with h | h
      · exact h
      · have : (b.natAbs : Int) * 1 ≤ x * g := Int.mul_le_mul h (by omega) (by omega) h0
        omega
    refine ⟨by omega, by omega, ?_⟩
    have e1 : y * b = g - x * a := by omega
    have e2 : y.natAbs * b.natAbs ≤ g.natAbs + x.natAbs * a.natAbs := by
      rw [← Int.natAbs_mul, e1, ← Int.natAbs_mul]; omega
    have e3 : x.natAbs * a.natAbs ≤ b.natAbs * a.natAbs := Nat.mul_le_mul_right _ (by omega)
    have e4 : y.natAbs * b.natAbs ≤ (a.natAbs + 1) * b.natAbs := by rw [Nat.add_mul, Nat.mul_comm a.natAbs]; omega
    have e5 := Nat.le_of_mul_le_mul_right e4 (by omega)
    omega
theorem clearT_bd {x y : Int} {tn : Tn} {ch : Bool} {K : Nat} (h : clearT x y = some (tn, ch)) (hx : x.natAbs < 256 ^ K) (hy : y.natAbs < 256 ^ K) : BdT (K + 1) tn := by
  unfold clearT at h
  have hp : 256 ^ (K + 1) = 256 ^ K * 256 := Nat.pow_succ ..
  have h0 := pos256 K
  split at h
  · cases h
  · split at h
    · cases h
      have h1 := natAbs_div_le y x
      exact ⟨one_bd K, zero_bd _, by show (-(y / x)).natAbs < _; rw [Int.natAbs_neg]; omega, one_bd K⟩
    · cases h
      obtain ⟨h1, h2, h3⟩ := gcdp_bd (gcdF_ok x y) hx hy
      have h4 := natAbs_div_le y (gcdF x y).1
      have h5 := natAbs_div_le x (gcdF x y).1
      exact ⟨by show ((gcdF x y).2.1).natAbs < _; omega, by show ((gcdF x y).2.2).natAbs < _; omega, by show (-(y / (gcdF x y).1)).natAbs < _; rw [Int.natAbs_neg]; omega, by show (x / (gcdF x y).1).natAbs < _; omega⟩

def tnC0 (z : Int) : Array Value := #[.bool (decide ((1 : Int) < 0)), sv (magU (Int.natAbs 1)), .bool false, .string ⟨#[]⟩, .bool (decide (z < 0)), sv (magU z.natAbs), .bool (decide ((1 : Int) < 0)), sv (magU (Int.natAbs 1))]
theorem tnC_0 (z : Int) : tnC ⟨1, 0, z, 1⟩ = tnC0 z := by
  have h : magU (Int.natAbs 0) = [] := congrArg Prod.snd wz_zero
  unfold tnC tnC0
  dsimp only
  rw [h]
  rfl
def ClrR (b : Nat) (W : WV) (m n : Nat) (T : WT) (S : Sm) (op : Tn → Sm) : Option (Tn × Bool) → Value → World → World → Prop
  | none, v, w, w' => v = .bool false ∧ WkR b W m n T S w w'
  | some (tn, ch), v, w, w' => v = .bool ch ∧ WkR b W m n T (op tn) w w'

set_option maxHeartbeats 8000000 in
theorem c_clear {fR : FuncId} [TF Tryd.prog fR] (K : Nat) (w : World) (b : Nat) (W : WV) (m n : Nat) (T : WT) (S : Sm) (i k : Nat) (x y : Int) (op : Tn → Sm) (hW : IsWk W m n T S) (hs : Hsat (wkH b W m n T) w)
    (hK : K ≤ 9000000) (hx : x.natAbs < 256 ^ K) (hy : y.natAbs < 256 ^ K)
    (hcall : ∀ (t : Tn) (w : World), BdT (K + 1) t → Hsat (wkH b W m n T) w → Calls Tryd.prog fR #[.pointer (some ⟨b, 0, none⟩), nv i, nv k, .agg (tnC t)] w (Ret fun _ w' => WkR b W m n T (op t) w w')) :
    Calls Tryd.prog 66 #[Wv x, Wv y, nv i, nv k, .func (.func fR) #[.pointer (some ⟨b, 0, none⟩)] #[]] w (Ret fun v w' => Kp (keys (wkH b W m n T)) w w' ∧ ClrR b W m n T S op (clearT x y) v w w') := by
  have hM := keys_lt hs
  refine calls_of_S [⟨6, 0, [0, 1, 2, 3, 4, 5, 7, 6, 8, 9], []⟩, ⟨11, 0, [0, 1, 2, 3, 4, 5, 7, 6, 8, 9], []⟩] (keys (wkH b W m n T)) hM (wkH b W m n T ++ []) Tryd.func66 rfl mixed (by kernel_rfl) Tryd.ntmps66 Tryd.results66 rfl (by simpa using hs) (fun p hp => List.mem_map.2 ⟨p, by simpa using hp, rfl⟩) ?_
  simp only [toS, textOps, toSOp, kindAt, kindOf, odAt, sopsAt, ordOf, zipF]
  (repeat' (first | refine JC.seq ?_ | refine JC.ops ?_ | refine JO.nil ?_ | refine JX.thenN ?_ | (apply r_assign; (iterate 3 exact rfl)) | (apply r_loadN; (iterate 4 exact rfl); exact at0; exact rfl) | (apply r_boxA; (iterate 4 exact rfl); intro _)))
  rename_i b5 b6
  refine r_call0 (by first | trivial | exact ⟨rfl, rfl⟩) rfl (by first | rfl | exact ⟨rfl, rfl⟩) rfl (fun w _ _ => c_Sign w _ y K (IsZ.can hy) (by omega)) fun w v w' _ _ _ hR => ?_
  subst hR
  (repeat' (first | refine JC.seq ?_ | refine JC.ops ?_ | refine JO.nil ?_ | refine JX.thenN ?_ | (apply r_assign; (iterate 3 exact rfl)) | (apply r_eql; (iterate 4 exact rfl); all_goals intro hc; all_goals try (exfalso; omega)) | refine JX.thenR ?_ | refine JC.skip ?_ | refine JC.ret ?_ | refine JC.condT rfl ?_ | refine JC.condF rfl ?_))
  · have e : clearT x y = none := by unfold clearT; rw [if_pos (Int.sign_eq_zero_iff_zero.1 hc)]
    exact JX.ret1 rfl (fun a w' st => ⟨st.kp, by rw [e]; exact ⟨rfl, st.kp, T, rfl, fun p hp => st.hs.blk p (by simpa using Or.inr (Or.inr hp)), hW, SameV.refl T⟩⟩)
  · have hy0 : y ≠ 0 := fun h => hc (by rw [h]; rfl)
    refine r_call0 (by first | trivial | exact ⟨rfl, rfl⟩) rfl (by first | rfl | exact ⟨rfl, rfl⟩) rfl (fun w _ _ => c_From w 1 (by decide) (by decide)) fun w v w' _ _ _ hR => ?_
    subst hR
    (repeat' (first | refine JC.seq ?_ | refine JC.ops ?_ | refine JO.nil ?_ | refine JX.thenN ?_ | (apply r_loadN; (iterate 4 exact rfl); (first | exact at0 | exact at1 | exact at2); exact rfl) | (apply r_storeN; exact rfl; (first | exact trivial | exact ⟨rfl, rfl⟩); exact rfl; exact rfl; (first | exact at0 | exact at1 | exact at2); (iterate 3 exact rfl)) | (apply r_allocZ; (iterate 3 exact rfl); intro _) | (apply r_storeN; exact rfl; (first | exact trivial | exact ⟨rfl, rfl⟩); exact rfl; exact rfl; (first | exact at0 | exact at1 | exact at2); (iterate 3 exact rfl))))
    rename_i b11
    refine r_call0 (by first | trivial | exact ⟨rfl, rfl⟩) rfl (by first | rfl | exact ⟨rfl, rfl⟩) rfl (fun w _ _ => c_Quo w _ _ y x K (IsZ.can hy) (IsZ.can hx) (by omega)) fun w v w' _ _ _ hR => ?_
    have hQ : ∃ q r z, v = .tuple #[Wv q, Wv r, .bool z] ∧ (z = true → x ≠ 0 ∧ q = y / x ∧ r = y % x) ∧ (z = false → x = 0) ∧ q.natAbs < 256 ^ K ∧ r.natAbs < 256 ^ K := by
      by_cases h0 : x = 0
      · rw [if_pos h0] at hR; exact ⟨0, 0, false, hR, fun h => (by cases h), fun _ => h0, pos256 K, pos256 K⟩
      · rw [if_neg h0] at hR; exact ⟨_, _, true, hR, fun _ => ⟨h0, rfl, rfl⟩, fun h => (by cases h), by have := natAbs_div_le y x; omega, by have := Int.emod_lt y h0; have := Int.emod_nonneg y h0; omega⟩
    clear hR
    obtain ⟨q, r, z, rfl, hz1, hz2, hqb, hrb⟩ := hQ
    (repeat' (first | refine JO.nil ?_ | (apply r_move; (iterate 3 exact rfl)) | (apply r_assign; (iterate 3 exact rfl)) | (apply r_extract; (iterate 4 exact rfl)) | (apply r_storeN; exact rfl; (first | exact trivial | exact ⟨rfl, rfl⟩); exact rfl; exact rfl; (first | exact at0 | exact at1); (iterate 3 exact rfl)) | (apply r_allocZ; (iterate 3 exact rfl); intro _) | (apply r_storeN; exact rfl; (first | exact trivial | exact ⟨rfl, rfl⟩); exact rfl; exact rfl; (first | exact at0 | exact at1); (iterate 3 exact rfl))))
    rename_i b12 b13
    refine JX.part (F' := [(14, .bool z), (13, .pointer (some ⟨b13, 0, none⟩)), (12, .pointer (some ⟨b12, 0, none⟩)), (11, .pointer (some ⟨b11, 0, none⟩)), (6, .pointer (some ⟨b6, 0, none⟩)), (5, .pointer (some ⟨b5, 0, none⟩)), (2, nv i), (3, nv k), (4, .func (.func fR) #[.pointer (some ⟨b, 0, none⟩)] #[])])
      (H' := [(b13, .cells (wc r) 32), (b12, .cells (wc q) 32), (b11, .cells (wc 1) 32), (b6, .cells (wc y) 32), (b5, .cells (wc x) 32)] ++ (wkH b W m n T ++ [])) (by repeat first | exact trivial | refine ⟨rfl, ?_⟩) (by (repeat' first | exact HSub.refl _ | exact HSub.nil _ | refine HSub.at 0 rfl ?_ | refine HSub.at 1 rfl ?_ | refine HSub.at 2 rfl ?_ | refine HSub.at 3 rfl ?_ | refine HSub.at 4 rfl ?_ | refine HSub.at 5 rfl ?_ | refine HSub.at 6 rfl ?_ | refine HSub.at 7 rfl ?_ | refine HSub.at 8 rfl ?_ | refine HSub.at 9 rfl ?_ | refine HSub.at 10 rfl ?_ | refine HSub.at 11 rfl ?_ | refine HSub.at 12 rfl ?_ | refine HSub.at 13 rfl ?_ | refine HSub.at 14 rfl ?_ | refine HSub.at 15 rfl ?_ | refine HSub.at 16 rfl ?_ | refine HSub.at 17 rfl ?_ | refine HSub.at 18 rfl ?_ | refine HSub.at 19 rfl ?_ | refine HSub.segH ?_ | refine HSub.skip ?_ | refine HSub.skipN ?_)) ?_
    cases z with
    | true =>
      obtain ⟨hx0, hq, hr⟩ := hz1 rfl
      refine JX.thenN ?_
      (repeat' (first | refine JC.seq ?_ | refine JC.ops ?_ | (apply r_move; (iterate 3 exact rfl)) | (apply r_loadN; (iterate 4 exact rfl); exact at0; exact rfl)))
      refine r_call0 (by first | trivial | exact ⟨rfl, rfl⟩) rfl (by first | rfl | exact ⟨rfl, rfl⟩) rfl (fun w _ _ => c_Sign w _ r K (IsZ.can hrb) (by omega)) fun w v w' _ _ _ hR => ?_
      subst hR
      (repeat' (first | refine JC.seq ?_ | refine JC.ops ?_ | refine JO.nil ?_ | refine JX.thenN ?_ | (apply r_loadN; (iterate 4 exact rfl); (first | exact at3 | exact at4); exact rfl) | (apply r_pickT; (iterate 4 exact rfl)) | (apply r_eql; (iterate 4 exact rfl); all_goals intro hc; all_goals try (exfalso; omega)) | refine JC.skip ?_ | refine JC.condT rfl ?_ | refine JC.condF rfl ?_))
      · have e : clearT x y = some (⟨1, 0, -q, 1⟩, false) := by
          have := Int.sign_eq_zero_iff_zero.1 hc
          unfold clearT; rw [if_neg hy0, if_pos ⟨hx0, by omega⟩, hq]
        have hbd := clearT_bd e hx hy
        refine JC.opsDs [(b12, .cells (wc q) 32), (b11, .cells (wc 1) 32)] (by (first | exact HSub.refl _ | (repeat' first | exact HSub.nil _ | exact HSub.refl _ | refine HSub.at 0 rfl ?_ | refine HSub.at 1 rfl ?_ | refine HSub.at 2 rfl ?_ | refine HSub.at 3 rfl ?_ | refine HSub.at 4 rfl ?_ | refine HSub.at 5 rfl ?_ | refine HSub.at 6 rfl ?_ | refine HSub.at 7 rfl ?_))) ?_
        (repeat' (first | (apply r_move; (iterate 3 exact rfl)) | (apply r_loadN; (iterate 4 exact rfl); (first | exact at0 | exact at1); exact rfl) | (apply r_build0; exact rfl; exact rfl)))
        refine r_call0 (by first | trivial | exact ⟨rfl, rfl⟩) rfl (by first | rfl | exact ⟨rfl, rfl⟩) rfl (fun w _ _ => c_Neg w _ q K (IsZ.can hqb) (by omega)) fun w v w' _ _ _ hR => ?_
        subst hR
        skip
        refine r_build (l := [(0, Wv 1), (1, .agg #[.bool false, .string ⟨#[]⟩]), (2, Wv (-q)), (3, Wv 1)]) (cs := tnC0 (-q)) rfl rfl rfl (by kernel_rfl) ?_
        skip
        refine r_callVOL (A := [_, _, _, _, _]) (N := wkH b W m n T) (B := []) (R := fun w _ w' => WkR b W m n T (op ⟨1, 0, -q, 1⟩) w w') rfl (by (first | exact HSub.refl _ | (repeat' first | exact HSub.nil _ | exact HSub.refl _ | refine HSub.at 0 rfl ?_ | refine HSub.at 1 rfl ?_ | refine HSub.at 2 rfl ?_ | refine HSub.at 3 rfl ?_ | refine HSub.at 4 rfl ?_ | refine HSub.at 5 rfl ?_ | refine HSub.at 6 rfl ?_ | refine HSub.at 7 rfl ?_))) rfl (by first | rfl | exact ⟨rfl, rfl⟩) rfl rfl (fun w _ hs => ?_) (fun w1 v1 w2 _ _ _ hR => ?_)
        · have h := hcall ⟨1, 0, -q, 1⟩ w hbd (HSub.hsat (by rw [List.append_nil]; exact HSub.skipN (HSub.refl _)) hs)
          rw [tnC_0] at h
          exact calls_mono h fun v w' h => ⟨h.1, h⟩
        · obtain ⟨_, T', hkk, hin, hW', hV'⟩ := hR
          refine ⟨wkH b W m n T', hkk, hin, ?_⟩
          (repeat' (first | refine JC.seq ?_ | refine JC.ops ?_ | refine JO.nil ?_ | refine JX.thenN ?_ | (apply r_assign; (iterate 3 exact rfl)) | refine JX.thenR ?_ | refine JC.ret ?_))
          exact JX.ret1 rfl (fun a w' st => ⟨st.kp, by rw [e]; exact ⟨rfl, st.kp, T', hkk, fun p hp => st.hs.blk p (List.mem_append_right _ (List.mem_append_left _ hp)), hW', hV'⟩⟩)
      · have hnd : ¬ (x ≠ 0 ∧ y % x = 0) := fun h => hc (by rw [hr, h.2]; rfl)
        obtain ⟨g, s, t, hgst⟩ : ∃ g s t, gcdF x y = (g, s, t) := ⟨_, _, _, rfl⟩
        have hG : GcdP x y g s t := by have := gcdF_ok x y; rw [hgst] at this; exact this
        have hg0 : g ≠ 0 := by
          have h1 := hG.e
          have h2 : 0 < Int.gcd x y := Int.gcd_pos_of_ne_zero_right _ hy0
          omega
        have e : clearT x y = some (⟨s, t, -(y / g), x / g⟩, true) := by unfold clearT; rw [if_neg hy0, if_neg hnd, hgst]
        have hbd := clearT_bd e hx hy
        have hgb : g.natAbs < 256 ^ (K + 1) := by
          have := (gcdp_bd hG hx hy).1
          have := pos256 K
          rw [Nat.pow_succ]; omega
        have hyg : (y / g).natAbs < 256 ^ (K + 1) := by have h1 := natAbs_div_le y g; exact bd_up (by omega) (Nat.le_succ K)
        refine r_call0 (by first | trivial | exact ⟨rfl, rfl⟩) rfl (by first | rfl | exact ⟨rfl, rfl⟩) rfl (fun w _ _ => c_Gcd w _ _ x y K (IsZ.can hx) (IsZ.can hy) (by omega)) fun w v w' _ _ _ hR => ?_
        obtain ⟨g', s', t', rfl, hG'⟩ := hR
        obtain ⟨rfl, rfl, rfl⟩ := hG.unique hG'
        (repeat' (first | refine JO.nil ?_ | (apply r_move; (iterate 3 exact rfl)) | (apply r_extract; (iterate 4 exact rfl)) | (apply r_storeN; exact rfl; (first | exact trivial | exact ⟨rfl, rfl⟩); exact rfl; exact rfl; (first | exact at0 | exact at1 | exact at2); (iterate 3 exact rfl)) | (apply r_allocZ; (iterate 3 exact rfl); intro _) | (apply r_storeN; exact rfl; (first | exact trivial | exact ⟨rfl, rfl⟩); exact rfl; exact rfl; (first | exact at0 | exact at1 | exact at2); (iterate 3 exact rfl))))
        rename_i b15 b16 b17
        refine JX.part (F' := [(17, .pointer (some ⟨b17, 0, none⟩)), (16, .pointer (some ⟨b16, 0, none⟩)), (15, .pointer (some ⟨b15, 0, none⟩)), (6, .pointer (some ⟨b6, 0, none⟩)), (5, .pointer (some ⟨b5, 0, none⟩)), (2, nv i), (3, nv k), (4, .func (.func fR) #[.pointer (some ⟨b, 0, none⟩)] #[])]) (H' := [(b17, .cells (wc t) 32), (b16, .cells (wc s) 32), (b15, .cells (wc g) 32), (b6, .cells (wc y) 32), (b5, .cells (wc x) 32)] ++ (wkH b W m n T ++ [])) (by repeat first | exact trivial | refine ⟨rfl, ?_⟩) (by (repeat' first | exact HSub.refl _ | exact HSub.nil _ | refine HSub.at 0 rfl ?_ | refine HSub.at 1 rfl ?_ | refine HSub.at 2 rfl ?_ | refine HSub.at 3 rfl ?_ | refine HSub.at 4 rfl ?_ | refine HSub.at 5 rfl ?_ | refine HSub.at 6 rfl ?_ | refine HSub.at 7 rfl ?_ | refine HSub.at 8 rfl ?_ | refine HSub.at 9 rfl ?_ | refine HSub.at 10 rfl ?_ | refine HSub.at 11 rfl ?_ | refine HSub.at 12 rfl ?_ | refine HSub.at 13 rfl ?_ | refine HSub.at 14 rfl ?_ | refine HSub.at 15 rfl ?_ | refine HSub.at 16 rfl ?_ | refine HSub.at 17 rfl ?_ | refine HSub.at 18 rfl ?_ | refine HSub.at 19 rfl ?_ | refine HSub.segH ?_ | refine HSub.skip ?_ | refine HSub.skipN ?_)) ?_
        refine JX.thenN ?_
        (repeat' (first | refine JC.seq ?_ | refine JC.ops ?_ | (apply r_loadN; (iterate 4 exact rfl); (first | exact at2 | exact at4); exact rfl)))
        refine r_call0 (by first | trivial | exact ⟨rfl, rfl⟩) rfl (by first | rfl | exact ⟨rfl, rfl⟩) rfl (fun w _ _ => c_Quo w _ _ x g (K + 1) (IsZ.can (bd_up hx (Nat.le_succ K))) (IsZ.can hgb) (by omega)) fun w v w' _ _ _ hR => ?_
        rw [if_neg hg0] at hR
        subst hR
        (repeat' (first | refine JO.nil ?_ | (apply r_move; (iterate 3 exact rfl)) | (apply r_assign; (iterate 3 exact rfl)) | (apply r_extract; (iterate 4 exact rfl)) | (apply r_storeN; exact rfl; (first | exact trivial | exact ⟨rfl, rfl⟩); exact rfl; exact rfl; (first | exact at0 | exact at1); (iterate 3 exact rfl)) | (apply r_allocZ; (iterate 3 exact rfl); intro _) | (apply r_storeN; exact rfl; (first | exact trivial | exact ⟨rfl, rfl⟩); exact rfl; exact rfl; (first | exact at0 | exact at1); (iterate 3 exact rfl))))
        rename_i b18 b19
        refine JX.part (F' := [(18, .pointer (some ⟨b18, 0, none⟩)), (17, .pointer (some ⟨b17, 0, none⟩)), (16, .pointer (some ⟨b16, 0, none⟩)), (15, .pointer (some ⟨b15, 0, none⟩)), (6, .pointer (some ⟨b6, 0, none⟩)), (2, nv i), (3, nv k), (4, .func (.func fR) #[.pointer (some ⟨b, 0, none⟩)] #[])]) (H' := [(b18, .cells (wc (x / g)) 32), (b17, .cells (wc t) 32), (b16, .cells (wc s) 32), (b15, .cells (wc g) 32), (b6, .cells (wc y) 32)] ++ (wkH b W m n T ++ [])) (by repeat first | exact trivial | refine ⟨rfl, ?_⟩) (by (repeat' first | exact HSub.refl _ | exact HSub.nil _ | refine HSub.at 0 rfl ?_ | refine HSub.at 1 rfl ?_ | refine HSub.at 2 rfl ?_ | refine HSub.at 3 rfl ?_ | refine HSub.at 4 rfl ?_ | refine HSub.at 5 rfl ?_ | refine HSub.at 6 rfl ?_ | refine HSub.at 7 rfl ?_ | refine HSub.at 8 rfl ?_ | refine HSub.at 9 rfl ?_ | refine HSub.at 10 rfl ?_ | refine HSub.at 11 rfl ?_ | refine HSub.at 12 rfl ?_ | refine HSub.at 13 rfl ?_ | refine HSub.at 14 rfl ?_ | refine HSub.at 15 rfl ?_ | refine HSub.at 16 rfl ?_ | refine HSub.at 17 rfl ?_ | refine HSub.at 18 rfl ?_ | refine HSub.at 19 rfl ?_ | refine HSub.segH ?_ | refine HSub.skip ?_ | refine HSub.skipN ?_)) ?_
        refine JX.thenN ?_
        (repeat' (first | refine JC.seq ?_ | refine JC.ops ?_ | (apply r_loadN; (iterate 4 exact rfl); (first | exact at3 | exact at4); exact rfl)))
        refine r_call0 (by first | trivial | exact ⟨rfl, rfl⟩) rfl (by first | rfl | exact ⟨rfl, rfl⟩) rfl (fun w _ _ => c_Quo w _ _ y g (K + 1) (IsZ.can (bd_up hy (Nat.le_succ K))) (IsZ.can hgb) (by omega)) fun w v w' _ _ _ hR => ?_
        rw [if_neg hg0] at hR
        subst hR
        (repeat' (first | refine JO.nil ?_ | (apply r_move; (iterate 3 exact rfl)) | (apply r_assign; (iterate 3 exact rfl)) | (apply r_extract; (iterate 4 exact rfl)) | (apply r_storeN; exact rfl; (first | exact trivial | exact ⟨rfl, rfl⟩); exact rfl; exact rfl; (first | exact at0 | exact at1); (iterate 3 exact rfl)) | (apply r_allocZ; (iterate 3 exact rfl); intro _) | (apply r_storeN; exact rfl; (first | exact trivial | exact ⟨rfl, rfl⟩); exact rfl; exact rfl; (first | exact at0 | exact at1); (iterate 3 exact rfl))))
        rename_i b21 b22
        refine JX.part (F' := [(21, .pointer (some ⟨b21, 0, none⟩)), (18, .pointer (some ⟨b18, 0, none⟩)), (17, .pointer (some ⟨b17, 0, none⟩)), (16, .pointer (some ⟨b16, 0, none⟩)), (2, nv i), (3, nv k), (4, .func (.func fR) #[.pointer (some ⟨b, 0, none⟩)] #[])]) (H' := [(b21, .cells (wc (y / g)) 32), (b18, .cells (wc (x / g)) 32), (b17, .cells (wc t) 32), (b16, .cells (wc s) 32)] ++ (wkH b W m n T ++ [])) (by repeat first | exact trivial | refine ⟨rfl, ?_⟩) (by (repeat' first | exact HSub.refl _ | exact HSub.nil _ | refine HSub.at 0 rfl ?_ | refine HSub.at 1 rfl ?_ | refine HSub.at 2 rfl ?_ | refine HSub.at 3 rfl ?_ | refine HSub.at 4 rfl ?_ | refine HSub.at 5 rfl ?_ | refine HSub.at 6 rfl ?_ | refine HSub.at 7 rfl ?_ | refine HSub.at 8 rfl ?_ | refine HSub.at 9 rfl ?_ | refine HSub.at 10 rfl ?_ | refine HSub.at 11 rfl ?_ | refine HSub.at 12 rfl ?_ | refine HSub.at 13 rfl ?_ | refine HSub.at 14 rfl ?_ | refine HSub.at 15 rfl ?_ | refine HSub.at 16 rfl ?_ | refine HSub.at 17 rfl ?_ | refine HSub.at 18 rfl ?_ | refine HSub.at 19 rfl ?_ | refine HSub.segH ?_ | refine HSub.skip ?_ | refine HSub.skipN ?_)) ?_
        refine JX.thenN ?_
        (repeat' (first | refine JC.seq ?_))
        refine JC.opsDs [(b21, .cells (wc (y / g)) 32), (b18, .cells (wc (x / g)) 32), (b17, .cells (wc t) 32), (b16, .cells (wc s) 32)] (by (first | exact HSub.refl _ | (repeat' first | exact HSub.nil _ | exact HSub.refl _ | refine HSub.at 0 rfl ?_ | refine HSub.at 1 rfl ?_ | refine HSub.at 2 rfl ?_ | refine HSub.at 3 rfl ?_ | refine HSub.at 4 rfl ?_ | refine HSub.at 5 rfl ?_ | refine HSub.at 6 rfl ?_ | refine HSub.at 7 rfl ?_))) ?_
        (repeat' (first | (apply r_move; (iterate 3 exact rfl)) | (apply r_loadN; (iterate 4 exact rfl); (first | exact at0 | exact at1 | exact at2 | exact at3); exact rfl)))
        refine r_call0 (by first | trivial | exact ⟨rfl, rfl⟩) rfl (by first | rfl | exact ⟨rfl, rfl⟩) rfl (fun w _ _ => c_Neg w _ (y / g) (K + 1) (IsZ.can hyg) (by omega)) fun w v w' _ _ _ hR => ?_
        subst hR
        skip
        refine r_build (l := [(0, Wv s), (1, Wv t), (2, Wv (-(y / g))), (3, Wv (x / g))]) (cs := tnC ⟨s, t, -(y / g), x / g⟩) rfl rfl rfl (by kernel_rfl) ?_
        skip
        refine r_callVOL (A := [_, _, _, _]) (N := wkH b W m n T) (B := []) (R := fun w _ w' => WkR b W m n T (op ⟨s, t, -(y / g), x / g⟩) w w') rfl (by (first | exact HSub.refl _ | (repeat' first | exact HSub.nil _ | exact HSub.refl _ | refine HSub.at 0 rfl ?_ | refine HSub.at 1 rfl ?_ | refine HSub.at 2 rfl ?_ | refine HSub.at 3 rfl ?_ | refine HSub.at 4 rfl ?_ | refine HSub.at 5 rfl ?_ | refine HSub.at 6 rfl ?_ | refine HSub.at 7 rfl ?_))) rfl (by first | rfl | exact ⟨rfl, rfl⟩) rfl rfl (fun w _ hs => ?_) (fun w1 v1 w2 _ _ _ hR => ?_)
        · have h := hcall ⟨s, t, -(y / g), x / g⟩ w hbd (HSub.hsat (by rw [List.append_nil]; exact HSub.skipN (HSub.refl _)) hs)
          exact calls_mono h fun v w' h => ⟨h.1, h⟩
        · obtain ⟨_, T', hkk, hin, hW', hV'⟩ := hR
          refine ⟨wkH b W m n T', hkk, hin, ?_⟩
          (repeat' (first | refine JC.seq ?_ | refine JC.ops ?_ | refine JO.nil ?_ | refine JX.thenN ?_ | (apply r_assign; (iterate 3 exact rfl)) | refine JC.ret ?_))
          exact JX.ret1 rfl (fun a w' st => ⟨st.kp, by rw [e]; exact ⟨rfl, st.kp, T', hkk, fun p hp => st.hs.blk p (List.mem_append_right _ (List.mem_append_left _ hp)), hW', hV'⟩⟩)
    | false =>
      have hx0 := hz2 rfl
      refine JX.thenN ?_
      (repeat' (first | refine JC.seq ?_ | refine JC.ops ?_ | refine JO.nil ?_ | refine JX.thenN ?_ | (apply r_move; (iterate 3 exact rfl)) | (apply r_loadN; (iterate 4 exact rfl); (first | exact at3 | exact at4); exact rfl) | (apply r_pickF; (iterate 4 exact rfl)) | refine JC.skip ?_ | refine JC.condF rfl ?_ | (apply r_skip; exact rfl; exact rfl; (first | (intro h; cases h; done) | (intro _; rfl)))))
      have hnd : ¬ (x ≠ 0 ∧ y % x = 0) := fun h => h.1 hx0
      obtain ⟨g, s, t, hgst⟩ : ∃ g s t, gcdF x y = (g, s, t) := ⟨_, _, _, rfl⟩
      have hG : GcdP x y g s t := by have := gcdF_ok x y; rw [hgst] at this; exact this
      have hg0 : g ≠ 0 := by
        have h1 := hG.e
        have h2 : 0 < Int.gcd x y := Int.gcd_pos_of_ne_zero_right _ hy0
        omega
      have e : clearT x y = some (⟨s, t, -(y / g), x / g⟩, true) := by unfold clearT; rw [if_neg hy0, if_neg hnd, hgst]
      have hbd := clearT_bd e hx hy
      have hgb : g.natAbs < 256 ^ (K + 1) := by
        have := (gcdp_bd hG hx hy).1
        have := pos256 K
        rw [Nat.pow_succ]; omega
      have hyg : (y / g).natAbs < 256 ^ (K + 1) := by have h1 := natAbs_div_le y g; exact bd_up (by omega) (Nat.le_succ K)
      refine r_call0 (by first | trivial | exact ⟨rfl, rfl⟩) rfl (by first | rfl | exact ⟨rfl, rfl⟩) rfl (fun w _ _ => c_Gcd w _ _ x y K (IsZ.can hx) (IsZ.can hy) (by omega)) fun w v w' _ _ _ hR => ?_
      obtain ⟨g', s', t', rfl, hG'⟩ := hR
      obtain ⟨rfl, rfl, rfl⟩ := hG.unique hG'
      (repeat' (first | refine JO.nil ?_ | (apply r_move; (iterate 3 exact rfl)) | (apply r_extract; (iterate 4 exact rfl)) | (apply r_storeN; exact rfl; (first | exact trivial | exact ⟨rfl, rfl⟩); exact rfl; exact rfl; (first | exact at0 | exact at1 | exact at2); (iterate 3 exact rfl)) | (apply r_allocZ; (iterate 3 exact rfl); intro _) | (apply r_storeN; exact rfl; (first | exact trivial | exact ⟨rfl, rfl⟩); exact rfl; exact rfl; (first | exact at0 | exact at1 | exact at2); (iterate 3 exact rfl))))
      rename_i b15 b16 b17
      refine JX.part (F' := [(17, .pointer (some ⟨b17, 0, none⟩)), (16, .pointer (some ⟨b16, 0, none⟩)), (15, .pointer (some ⟨b15, 0, none⟩)), (6, .pointer (some ⟨b6, 0, none⟩)), (5, .pointer (some ⟨b5, 0, none⟩)), (2, nv i), (3, nv k), (4, .func (.func fR) #[.pointer (some ⟨b, 0, none⟩)] #[])]) (H' := [(b17, .cells (wc t) 32), (b16, .cells (wc s) 32), (b15, .cells (wc g) 32), (b6, .cells (wc y) 32), (b5, .cells (wc x) 32)] ++ (wkH b W m n T ++ [])) (by repeat first | exact trivial | refine ⟨rfl, ?_⟩) (by (repeat' first | exact HSub.refl _ | exact HSub.nil _ | refine HSub.at 0 rfl ?_ | refine HSub.at 1 rfl ?_ | refine HSub.at 2 rfl ?_ | refine HSub.at 3 rfl ?_ | refine HSub.at 4 rfl ?_ | refine HSub.at 5 rfl ?_ | refine HSub.at 6 rfl ?_ | refine HSub.at 7 rfl ?_ | refine HSub.at 8 rfl ?_ | refine HSub.at 9 rfl ?_ | refine HSub.at 10 rfl ?_ | refine HSub.at 11 rfl ?_ | refine HSub.at 12 rfl ?_ | refine HSub.at 13 rfl ?_ | refine HSub.at 14 rfl ?_ | refine HSub.at 15 rfl ?_ | refine HSub.at 16 rfl ?_ | refine HSub.at 17 rfl ?_ | refine HSub.at 18 rfl ?_ | refine HSub.at 19 rfl ?_ | refine HSub.segH ?_ | refine HSub.skip ?_ | refine HSub.skipN ?_)) ?_
      refine JX.thenN ?_
      (repeat' (first | refine JC.seq ?_ | refine JC.ops ?_ | (apply r_loadN; (iterate 4 exact rfl); (first | exact at2 | exact at4); exact rfl)))
      refine r_call0 (by first | trivial | exact ⟨rfl, rfl⟩) rfl (by first | rfl | exact ⟨rfl, rfl⟩) rfl (fun w _ _ => c_Quo w _ _ x g (K + 1) (IsZ.can (bd_up hx (Nat.le_succ K))) (IsZ.can hgb) (by omega)) fun w v w' _ _ _ hR => ?_
      rw [if_neg hg0] at hR
      subst hR
      (repeat' (first | refine JO.nil ?_ | (apply r_move; (iterate 3 exact rfl)) | (apply r_assign; (iterate 3 exact rfl)) | (apply r_extract; (iterate 4 exact rfl)) | (apply r_storeN; exact rfl; (first | exact trivial | exact ⟨rfl, rfl⟩); exact rfl; exact rfl; (first | exact at0 | exact at1); (iterate 3 exact rfl)) | (apply r_allocZ; (iterate 3 exact rfl); intro _) | (apply r_storeN; exact rfl; (first | exact trivial | exact ⟨rfl, rfl⟩); exact rfl; exact rfl; (first | exact at0 | exact at1); (iterate 3 exact rfl))))
      rename_i b18 b19
      refine JX.part (F' := [(18, .pointer (some ⟨b18, 0, none⟩)), (17, .pointer (some ⟨b17, 0, none⟩)), (16, .pointer (some ⟨b16, 0, none⟩)), (15, .pointer (some ⟨b15, 0, none⟩)), (6, .pointer (some ⟨b6, 0, none⟩)), (2, nv i), (3, nv k), (4, .func (.func fR) #[.pointer (some ⟨b, 0, none⟩)] #[])]) (H' := [(b18, .cells (wc (x / g)) 32), (b17, .cells (wc t) 32), (b16, .cells (wc s) 32), (b15, .cells (wc g) 32), (b6, .cells (wc y) 32)] ++ (wkH b W m n T ++ [])) (by repeat first | exact trivial | refine ⟨rfl, ?_⟩) (by (repeat' first | exact HSub.refl _ | exact HSub.nil _ | refine HSub.at 0 rfl ?_ | refine HSub.at 1 rfl ?_ | refine HSub.at 2 rfl ?_ | refine HSub.at 3 rfl ?_ | refine HSub.at 4 rfl ?_ | refine HSub.at 5 rfl ?_ | refine HSub.at 6 rfl ?_ | refine HSub.at 7 rfl ?_ | refine HSub.at 8 rfl ?_ | refine HSub.at 9 rfl ?_ | refine HSub.at 10 rfl ?_ | refine HSub.at 11 rfl ?_ | refine HSub.at 12 rfl ?_ | refine HSub.at 13 rfl ?_ | refine HSub.at 14 rfl ?_ | refine HSub.at 15 rfl ?_ | refine HSub.at 16 rfl ?_ | refine HSub.at 17 rfl ?_ | refine HSub.at 18 rfl ?_ | refine HSub.at 19 rfl ?_ | refine HSub.segH ?_ | refine HSub.skip ?_ | refine HSub.skipN ?_)) ?_
      refine JX.thenN ?_
      (repeat' (first | refine JC.seq ?_ | refine JC.ops ?_ | (apply r_loadN; (iterate 4 exact rfl); (first | exact at3 | exact at4); exact rfl)))
      refine r_call0 (by first | trivial | exact ⟨rfl, rfl⟩) rfl (by first | rfl | exact ⟨rfl, rfl⟩) rfl (fun w _ _ => c_Quo w _ _ y g (K + 1) (IsZ.can (bd_up hy (Nat.le_succ K))) (IsZ.can hgb) (by omega)) fun w v w' _ _ _ hR => ?_
      rw [if_neg hg0] at hR
      subst hR
      (repeat' (first | refine JO.nil ?_ | (apply r_move; (iterate 3 exact rfl)) | (apply r_assign; (iterate 3 exact rfl)) | (apply r_extract; (iterate 4 exact rfl)) | (apply r_storeN; exact rfl; (first | exact trivial | exact ⟨rfl, rfl⟩); exact rfl; exact rfl; (first | exact at0 | exact at1); (iterate 3 exact rfl)) | (apply r_allocZ; (iterate 3 exact rfl); intro _) | (apply r_storeN; exact rfl; (first | exact trivial | exact ⟨rfl, rfl⟩); exact rfl; exact rfl; (first | exact at0 | exact at1); (iterate 3 exact rfl))))
      rename_i b21 b22
      refine JX.part (F' := [(21, .pointer (some ⟨b21, 0, none⟩)), (18, .pointer (some ⟨b18, 0, none⟩)), (17, .pointer (some ⟨b17, 0, none⟩)), (16, .pointer (some ⟨b16, 0, none⟩)), (2, nv i), (3, nv k), (4, .func (.func fR) #[.pointer (some ⟨b, 0, none⟩)] #[])]) (H' := [(b21, .cells (wc (y / g)) 32), (b18, .cells (wc (x / g)) 32), (b17, .cells (wc t) 32), (b16, .cells (wc s) 32)] ++ (wkH b W m n T ++ [])) (by repeat first | exact trivial | refine ⟨rfl, ?_⟩) (by (repeat' first | exact HSub.refl _ | exact HSub.nil _ | refine HSub.at 0 rfl ?_ | refine HSub.at 1 rfl ?_ | refine HSub.at 2 rfl ?_ | refine HSub.at 3 rfl ?_ | refine HSub.at 4 rfl ?_ | refine HSub.at 5 rfl ?_ | refine HSub.at 6 rfl ?_ | refine HSub.at 7 rfl ?_ | refine HSub.at 8 rfl ?_ | refine HSub.at 9 rfl ?_ | refine HSub.at 10 rfl ?_ | refine HSub.at 11 rfl ?_ | refine HSub.at 12 rfl ?_ | refine HSub.at 13 rfl ?_ | refine HSub.at 14 rfl ?_ | refine HSub.at 15 rfl ?_ | refine HSub.at 16 rfl ?_ | refine HSub.at 17 rfl ?_ | refine HSub.at 18 rfl ?_ | refine HSub.at 19 rfl ?_ | refine HSub.segH ?_ | refine HSub.skip ?_ | refine HSub.skipN ?_)) ?_
      refine JX.thenN ?_
      (repeat' (first | refine JC.seq ?_))
      refine JC.opsDs [(b21, .cells (wc (y / g)) 32), (b18, .cells (wc (x / g)) 32), (b17, .cells (wc t) 32), (b16, .cells (wc s) 32)] (by (first | exact HSub.refl _ | (repeat' first | exact HSub.nil _ | exact HSub.refl _ | refine HSub.at 0 rfl ?_ | refine HSub.at 1 rfl ?_ | refine HSub.at 2 rfl ?_ | refine HSub.at 3 rfl ?_ | refine HSub.at 4 rfl ?_ | refine HSub.at 5 rfl ?_ | refine HSub.at 6 rfl ?_ | refine HSub.at 7 rfl ?_))) ?_
      (repeat' (first | (apply r_move; (iterate 3 exact rfl)) | (apply r_loadN; (iterate 4 exact rfl); (first | exact at0 | exact at1 | exact at2 | exact at3); exact rfl)))
      refine r_call0 (by first | trivial | exact ⟨rfl, rfl⟩) rfl (by first | rfl | exact ⟨rfl, rfl⟩) rfl (fun w _ _ => c_Neg w _ (y / g) (K + 1) (IsZ.can hyg) (by omega)) fun w v w' _ _ _ hR => ?_
      subst hR
      skip
      refine r_build (l := [(0, Wv s), (1, Wv t), (2, Wv (-(y / g))), (3, Wv (x / g))]) (cs := tnC ⟨s, t, -(y / g), x / g⟩) rfl rfl rfl (by kernel_rfl) ?_
      skip
      refine r_callVOL (A := [_, _, _, _]) (N := wkH b W m n T) (B := []) (R := fun w _ w' => WkR b W m n T (op ⟨s, t, -(y / g), x / g⟩) w w') rfl (by (first | exact HSub.refl _ | (repeat' first | exact HSub.nil _ | exact HSub.refl _ | refine HSub.at 0 rfl ?_ | refine HSub.at 1 rfl ?_ | refine HSub.at 2 rfl ?_ | refine HSub.at 3 rfl ?_ | refine HSub.at 4 rfl ?_ | refine HSub.at 5 rfl ?_ | refine HSub.at 6 rfl ?_ | refine HSub.at 7 rfl ?_))) rfl (by first | rfl | exact ⟨rfl, rfl⟩) rfl rfl (fun w _ hs => ?_) (fun w1 v1 w2 _ _ _ hR => ?_)
      · have h := hcall ⟨s, t, -(y / g), x / g⟩ w hbd (HSub.hsat (by rw [List.append_nil]; exact HSub.skipN (HSub.refl _)) hs)
        exact calls_mono h fun v w' h => ⟨h.1, h⟩
      · obtain ⟨_, T', hkk, hin, hW', hV'⟩ := hR
        refine ⟨wkH b W m n T', hkk, hin, ?_⟩
        (repeat' (first | refine JC.seq ?_ | refine JC.ops ?_ | refine JO.nil ?_ | refine JX.thenN ?_ | (apply r_assign; (iterate 3 exact rfl)) | refine JC.ret ?_))
        exact JX.ret1 rfl (fun a w' st => ⟨st.kp, by rw [e]; exact ⟨rfl, st.kp, T', hkk, fun p hp => st.hs.blk p (List.mem_append_right _ (List.mem_append_left _ hp)), hW', hV'⟩⟩)


section
variable {P : Program} {ops : Array Oper}

theorem wait_spec {j k : Nat} (h : waits ops j k = true) : ∃ o e, ops[j]? = some o ∧ e ∈ o.after ∧ Region.binds .any e = true ∧ e.on = k := by
  unfold waits at h
  split at h
  · rename_i o ho
    obtain ⟨e, he, hb⟩ := Array.any_eq_true'.1 h
    simp only [Bool.and_eq_true, beq_iff_eq] at hb
    exact ⟨o, e, ho, he, hb.1, hb.2⟩
  · cases h
theorem ready_wait {j k : Nat} {listed : Array Bool} (hj : j ∈ Region.ready .any ops listed) (h : waits ops j k = true) : listed.getD k false = true := by
  obtain ⟨_, oj, hoj, hall⟩ := mem_ready.1 hj
  obtain ⟨o, e, ho, he, hb, rfl⟩ := wait_spec h
  rw [hoj] at ho
  cases ho
  exact hall e he hb

theorem ordr_chain {i k j : Nat} (hki : waits ops k i = true) (hjk : waits ops j k = true) : ∀ (f : Nat) (listed : Array Bool) (l : List Nat), (listed.getD k false = true → listed.getD i false = true) → Ordr ops f listed l → Ordr (edge ops i j) f listed l
  | 0, _, _, _, h => h
  | f + 1, listed, l, hi, h => by
    rcases h with ⟨h1, rfl⟩ | ⟨x, l', hx, rfl, h⟩
    · refine .inl ⟨?_, rfl⟩
      cases hq : Region.ready .any (edge ops i j) listed with
      | nil => rfl
      | cons y ys =>
        have := (ready_edge.1 (show y ∈ Region.ready .any (edge ops i j) listed by rw [hq]; simp)).1
        rw [h1] at this; cases this
    · refine .inr ⟨x, l', ready_edge.2 ⟨hx, fun e => ?_⟩, rfl, ordr_chain hki hjk f _ l' (fun hk => ?_) h⟩
      · subst e; exact hi (ready_wait hx hjk)
      · by_cases e : x = k
        · subst e; exact listed_set (ready_wait hx hki)
        · refine listed_set (hi ?_)
          simpa [e] using hk

def chain (ops : Array Oper) : List (Nat × Nat × Nat) → Array Oper
  | [] => ops
  | (i, _, j) :: r => chain (edge ops i j) r
def chainOk (ops : Array Oper) : List (Nat × Nat × Nat) → Bool
  | [] => true
  | (i, k, j) :: r => waits ops k i && (waits ops j k && chainOk (edge ops i j) r)
theorem chain_size : ∀ (L : List (Nat × Nat × Nat)) (ops : Array Oper), (chain ops L).size = ops.size
  | [], _ => rfl
  | (i, _, j) :: r, ops => by
    show (chain (edge ops i j) r).size = _
    rw [chain_size r, edge_size]
theorem ordr_chains : ∀ (L : List (Nat × Nat × Nat)) (ops : Array Oper), chainOk ops L = true → ∀ (f n : Nat) (l : List Nat), Ordr ops f (Array.replicate n false) l → Ordr (chain ops L) f (Array.replicate n false) l
  | [], _, _, _, _, _, h => h
  | (i, k, j) :: r, ops, hc, f, n, l, h => by
    simp only [chainOk, Bool.and_eq_true] at hc
    refine ordr_chains r _ hc.2.2 f n l (ordr_chain hc.1 hc.2.1 f _ l (fun hk => ?_) h)
    exfalso
    by_cases hlt : k < n <;> simp [hlt] at hk
theorem wpOps_chain {Q : Exit → Act → World → Prop} : ∀ (L : List (Nat × Nat × Nat)) (ops : Array Oper) (l : List Nat) (a : Act) (w : World), wpOps P (chain ops L) Q l a w → wpOps P ops Q l a w
  | [], _, _, _, _, h => h
  | (i, _, j) :: r, ops, l, a, w, h => wpOps_edge l a w (wpOps_chain r (edge ops i j) l a w h)
theorem sopsAt_chain {kd : Nat → Op → Kind} {tail : Nat} : ∀ (L : List (Nat × Nat × Nat)) (ops : Array Oper) (l : List Nat), sopsAt kd (chain ops L) tail l = sopsAt kd ops tail l
  | [], _, _ => rfl
  | (i, _, j) :: r, ops, l => by
    show sopsAt kd (chain (edge ops i j) r) tail l = _
    rw [sopsAt_chain r, sopsAt_edge]
end

theorem JC.chain {c : Cx} {Q : Exit → Act → World → Prop} {F : SFrame} {H : SHeap} {id : Nat} {ops : Array Oper} (Hs : SHeap) (hHs : HSub Hs H) (L : List (Nat × Nat × Nat)) (kd : Nat → Op → Kind) (t : Nat) (o : List Nat) (hm : c.P.follows .mixedOrders = true)
    (hL : chainOk ops L = true) (hB : canonB c.P kd (chain ops L) o t = true) (h : JO c Q (.draw Hs true) (sopsAt kd ops t o) F H) : JC c Q (.raw (.region id ops true)) F H := ⟨fun a w st => by
  show (Code.region id ops true).wp c.P Q a w
  refine wp_mono ?_ (fun e a w h => Only.up e a w h)
  have a1 := any_of_canon (Q := Q) hB st (hHs.hsat st.hs) (by rw [sopsAt_chain]; exact h.h)
  rw [chain_size] at a1
  refine wp_region_draw fun t => ?_
  simp only [Region.schedule, hm, Bool.true_or, if_true]
  have h := ordr_chains L ops hL _ _ _ (ordr_go (ops := ops) ops.size t (Array.replicate ops.size false))
  obtain ⟨t', ht⟩ := go_ordr _ _ _ h
  have := wpAny_sound ops.size t' _ a _ a1
  rw [ht] at this
  exact wpOps_chain L _ _ _ _ this⟩


theorem BdT.up {K : Nat} {t : Tn} (h : BdT K t) : BdT (K + 1) t := ⟨bd_up h.a (Nat.le_succ K), bd_up h.b (Nat.le_succ K), bd_up h.c (Nat.le_succ K), bd_up h.d (Nat.le_succ K)⟩
theorem okG_up {K : Nat} {g : List (List Int)} (h : okG K g = true) : okG (K + 1) g = true := by
  unfold okG at h ⊢
  exact List.all_eq_true.2 fun r hr => List.all_eq_true.2 fun x hx => decide_eq_true (bd_up (of_decide_eq_true (List.all_eq_true.1 (List.all_eq_true.1 h r hr) x hx)) (Nat.le_succ K))
theorem Ok.up {K : Nat} {S : Sm} (h : Ok K S) : Ok (K + 1) S := ⟨okG_up h.u, okG_up h.ui, okG_up h.d, okG_up h.v, okG_up h.vi⟩
theorem WkR.of {b : Nat} {W : WV} {m n : Nat} {T T1 : WT} {S2 : Sm} {w w' : World} (h : WkR b W m n T1 S2 w w') (hV : SameV T T1) : ∃ T2, keys (wkH b W m n T2) = keys (wkH b W m n T1) ∧ InW (wkH b W m n T2) w' ∧ IsWk W m n T2 S2 ∧ SameV T T2 := by
  obtain ⟨_, T2, h1, h2, h3, h4⟩ := h
  exact ⟨T2, h1, h2, h3, ⟨fun a => by rw [h4.u, hV.u], fun a => by rw [h4.ui, hV.ui], fun a => by rw [h4.d, hV.d], fun a => by rw [h4.v, hV.v], fun a => by rw [h4.vi, hV.vi]⟩⟩
theorem clrR_of {K t i : Nat} {S : Sm} {r : Sm × Bool} {b : Nat} {W : WV} {m n : Nat} {T : WT} {v : Value} {w w' : World} (h : clrR K t i S = some r) (hb : Ok K S) (hR : ClrR b W m n T S (fun tn => S.rows t i tn) (clearT (gE S.d t t) (gE S.d i t)) v w w') : v = .bool r.2 ∧ WkR b W m n T r.1 w w' ∧ Ok K r.1 := by
  unfold clrR at h
  cases hc : clearT (gE S.d t t) (gE S.d i t) with
  | none =>
    rw [hc] at h hR
    cases h
    exact ⟨hR.1, hR.2, hb⟩
  | some p =>
    obtain ⟨tn, ch⟩ := p
    rw [hc] at h hR
    dsimp only at h
    cases hk : ck K (S.rows t i tn) with
    | none => rw [hk] at h; cases h
    | some S' =>
      rw [hk] at h
      obtain ⟨rfl, hok⟩ := ck_some hk
      cases h
      exact ⟨hR.1, hR.2, hok⟩
theorem clrC_of {K t i : Nat} {S : Sm} {r : Sm × Bool} {b : Nat} {W : WV} {m n : Nat} {T : WT} {v : Value} {w w' : World} (h : clrC K t i S = some r) (hb : Ok K S) (hR : ClrR b W m n T S (fun tn => S.cols t i tn) (clearT (gE S.d t t) (gE S.d t i)) v w w') : v = .bool r.2 ∧ WkR b W m n T r.1 w w' ∧ Ok K r.1 := by
  unfold clrC at h
  cases hc : clearT (gE S.d t t) (gE S.d t i) with
  | none =>
    rw [hc] at h hR
    cases h
    exact ⟨hR.1, hR.2, hb⟩
  | some p =>
    obtain ⟨tn, ch⟩ := p
    rw [hc] at h hR
    dsimp only at h
    cases hk : ck K (S.cols t i tn) with
    | none => rw [hk] at h; cases h
    | some S' =>
      rw [hk] at h
      obtain ⟨rfl, hok⟩ := ck_some hk
      cases h
      exact ⟨hR.1, hR.2, hok⟩
theorem rowP_step {K t k i : Nat} {S S' : Sm} (h : rowP K t (k + 1) i S = some S') : ∃ r, clrR K t i S = some r ∧ rowP K t k (i + 1) r.1 = some S' := by
  rw [rowP] at h
  cases hc : clrR K t i S with
  | none => rw [hc] at h; cases h
  | some r => rw [hc] at h; exact ⟨r, rfl, h⟩
theorem colP_step {K t k j : Nat} {ch : Bool} {S : Sm} {q : Sm × Bool} (h : colP K t (k + 1) j ch S = some q) : ∃ r, clrC K t j S = some r ∧ colP K t k (j + 1) (ch || r.2) r.1 = some q := by
  rw [colP] at h
  cases hc : clrC K t j S with
  | none => rw [hc] at h; cases h
  | some r => rw [hc] at h; exact ⟨r, rfl, h⟩
theorem crossF_step {K t m n f : Nat} {S S' : Sm} (h : crossF K t m n (f + 1) S = some S') : ∃ S1 S2 ch, rowP K t (m - (t + 1)) (t + 1) S = some S1 ∧ colP K t (n - (t + 1)) (t + 1) false S1 = some (S2, ch) ∧ (ch = true → crossF K t m n f S2 = some S') ∧ (ch = false → S2 = S') := by
  rw [crossF] at h
  cases h1 : rowP K t (m - (t + 1)) (t + 1) S with
  | none => rw [h1] at h; cases h
  | some S1 =>
    rw [h1] at h
    dsimp only at h
    cases h2 : colP K t (n - (t + 1)) (t + 1) false S1 with
    | none => rw [h2] at h; cases h
    | some r =>
      obtain ⟨S2, ch⟩ := r
      rw [h2] at h
      dsimp only at h
      refine ⟨S1, S2, ch, rfl, h2, fun hc => ?_, fun hc => ?_⟩
      · rw [hc] at h; exact h
      · rw [hc] at h; exact Option.some.inj h

set_option maxHeartbeats 16000000 in
theorem c_cross (K fc : Nat) (w : World) (b : Nat) (W : WV) (m n : Nat) (T : WT) (S S' : Sm) (t : Nat) (hW : IsWk W m n T S) (hs : Hsat (wkH b W m n T) w) (htm : t < m) (htn : t < n) (hm : m ≤ 200) (hn : n ≤ 200)
    (hK : K ≤ 9000000) (hb : Ok K S) (hc : crossF K t m n fc S = some S') :
    Calls Tryd.prog 37 #[.pointer (some ⟨b, 0, none⟩), nv t] w (Ret fun _ w' => WkR b W m n T S' w w') := by
  have hM := keys_lt hs
  have hS0 := SameV.refl T
  refine calls_of_R [6, 10] [] (keys (wkH b W m n T)) hM (wkH b W m n T) Tryd.func37 rfl mixed (by kernel_rfl) Tryd.ntmps37 Tryd.results37 rfl hs (fun p hp => List.mem_map.2 ⟨p, hp, rfl⟩) ?_
  simp only [toR, inR, cond_true, cond_false, Nat.reduceBEq, toS, textOps, toSOp, kindAt, kindOf, odAt, sopsAt, ordOf, zipF]
  (repeat' (first | refine JC.seq ?_ | refine JC.ops ?_ | refine JO.nil ?_ | refine JX.thenN ?_ | (apply r_assign; (iterate 3 exact rfl)) | refine JC.block ?_))
  refine JC.loopH (ι := Nat × Bool × Sm × WT) ⟨fun z => [(4, .bool z.2.1), (0, .pointer (some ⟨b, 0, none⟩)), (1, nv t)], fun z => wkH b W m n z.2.2.2,
    fun z => IsWk W m n z.2.2.2 z.2.2.1 ∧ SameV T z.2.2.2 ∧ Ok K z.2.2.1 ∧ (z.2.1 = true → crossF K t m n z.1 z.2.2.1 = some S') ∧ (z.2.1 = false → z.2.2.1 = S'), fun z => if z.2.1 = true then z.1 else 0⟩ (fc, true, S, T)
    ⟨hW, hS0, hb, fun _ => hc, fun h => by cases h⟩ (by repeat first | exact trivial | refine ⟨rfl, ?_⟩) (HSub.refl _) (fun z hz => ?_)
  obtain ⟨f, ch, S1, T1⟩ := z
  obtain ⟨hW1, hV1, hb1, hc1, hc2⟩ := hz
  dsimp only at hW1 hV1 hb1 hc1 hc2 ⊢
  cases ch with
  | false =>
    obtain rfl := hc2 rfl
    (repeat' (first | refine JC.seq ?_ | refine JC.ops ?_ | refine JO.nil ?_ | refine JX.thenN ?_ | (apply r_move; (iterate 3 exact rfl)) | refine JX.thenE ?_ | refine JC.exit ?_ | refine JC.condF rfl ?_ | refine JX.blockE ?_))
    exact JX.end0 (fun a w'' st => ⟨st.kp, T1, wkH_keys hW hW1 hV1, fun p hp => st.hs.blk p hp, hW1, hV1⟩)
  | true =>
    have hc1 := hc1 rfl
    cases f with
    | zero => cases hc1
    | succ f =>
    obtain ⟨Sr, Sc, fl, hr, hcl, hf1, hf2⟩ := crossF_step hc1
    (repeat' (first | refine JC.seq ?_ | refine JC.ops ?_ | refine JO.nil ?_ | refine JX.thenN ?_ | (apply r_move; (iterate 3 exact rfl)) | (apply r_assign; (iterate 3 exact rfl)) | (apply r_add1; (iterate 4 exact rfl); omega) | refine JC.skip ?_ | refine JC.condT rfl ?_ | refine JC.block ?_))
    clear hc1 hc2
    refine JC.loopH (ι := Nat × Sm × WT) ⟨fun z => [(5, nv z.1), (4, .bool false), (0, .pointer (some ⟨b, 0, none⟩)), (1, nv t)], fun z => wkH b W m n z.2.2,
      fun z => t + 1 ≤ z.1 ∧ z.1 ≤ m ∧ IsWk W m n z.2.2 z.2.1 ∧ SameV T z.2.2 ∧ Ok K z.2.1 ∧ rowP K t (m - z.1) z.1 z.2.1 = some Sr, fun z => m - z.1⟩ (t + 1, S1, T1)
      ⟨by omega, by omega, hW1, hV1, hb1, hr⟩ (by repeat first | exact trivial | refine ⟨rfl, ?_⟩) (HSub.refl _) (fun z hz => ?_)
    clear hr hb1 hV1 hW1
    obtain ⟨i, S1, T1⟩ := z
    obtain ⟨hti, him, hW1, hV1, hb1, hr⟩ := hz
    dsimp only at hti him hW1 hV1 hb1 hr ⊢
    have hld := hW1.d.len
    have hT1 := hW1.d.T
    have hVr : ∀ a, tv T1.d a = tv T1.d a := fun _ => rfl
    refine JC.part (F' := [(5, nv i), (4, .bool false), (0, .pointer (some ⟨b, 0, none⟩)), (1, nv t)]) (H' := (b, .cells (W.cells m n) 79) :: (W.Nu ++ (tH T1.u ++ (W.Nui ++ (tH T1.ui ++ (W.Nd ++ (tH T1.d ++ (W.Nv ++ (tH T1.v ++ (W.Nvi ++ (tH T1.vi ++ []))))))))))) (by repeat first | exact trivial | refine ⟨rfl, ?_⟩) (HSub.refl _) ?_
    (repeat' (first | refine JC.seq ?_ | refine JC.ops ?_ | (apply r_move; (iterate 3 exact rfl)) | (apply r_fieldAddr; (iterate 3 exact rfl)) | (apply r_nilCheck; (iterate 3 exact rfl))))
    refine r_idxArr (j := 0) rfl rfl rfl rfl (by omega) ?_
    by_cases hlt : i < m
    · obtain ⟨r, hr1, hr2⟩ := rowP_step (show rowP K t (m - (i + 1) + 1) i S1 = some Sr by rw [show m - (i + 1) + 1 = m - i by omega]; exact hr)
      (repeat' (first | refine JC.seq ?_ | refine JO.nil ?_ | refine JX.thenN ?_ | (apply r_load; (iterate 4 exact rfl); exact at0; exact rfl) | (apply r_lss; (iterate 4 exact rfl); all_goals intro hc; all_goals try (exfalso; omega)) | refine JC.skip ?_ | refine JC.condT rfl ?_ | refine JC.block ?_))
      refine JC.chain ((b, .cells (W.cells m n) 79) :: (W.Nu ++ (tH T1.u ++ (W.Nui ++ (tH T1.ui ++ (W.Nd ++ (tH T1.d ++ (W.Nv ++ (tH T1.v ++ (W.Nvi ++ (tH T1.vi ++ []))))))))))) (HSub.refl _) [(4, 6, 7), (4, 7, 9), (4, 9, 10), (4, 10, 26), (7, 9, 10), (7, 10, 26), (15, 17, 18), (15, 18, 20), (15, 20, 21), (15, 21, 26), (18, 20, 21), (18, 21, 26)] (fun i op => kindAt [] i op) 1 [0, 1, 2, 3, 4, 5, 6, 7, 8, 9, 10, 11, 12, 13, 14, 15, 16, 17, 18, 19, 20, 21, 22, 23, 24, 25, 26] mixed (by kernel_rfl) (by kernel_rfl) ?_
      (repeat' (first | (apply r_move; (iterate 3 exact rfl)) | (apply r_fieldAddr; (iterate 3 exact rfl)) | (apply r_load; (iterate 4 exact rfl); exact at0; exact rfl) | (apply r_idxTr; (iterate 4 exact rfl); assumption; assumption; omega; omega) | (apply r_idxT; (iterate 4 exact rfl); assumption; omega) | (apply r_ldTr; (iterate 4 exact rfl); assumption; assumption; (repeat' first | exact HSub.nil _ | exact HSub.hd | exact HSub.in0 | exact HSub.refl _ | refine HSub.skip ?_ | refine HSub.skipN ?_); omega; omega) | (apply r_ldT; (iterate 4 exact rfl); assumption; assumption; (repeat' first | exact HSub.nil _ | exact HSub.hd | exact HSub.in0 | exact HSub.refl _ | refine HSub.skip ?_ | refine HSub.skipN ?_); omega) | (apply r_nilCheck; (iterate 3 exact rfl)) | (apply r_makeFunc; (iterate 4 exact rfl))))
      refine r_callO (A := []) (N := wkH b W m n T1) (B := []) (R := fun w v w' => ClrR b W m n T1 S1 (fun tn => S1.rows t i tn) (clearT (gE S1.d t t) (gE S1.d i t)) v w w') (by simp only [wkH, List.nil_append, List.append_nil]) (by first | trivial | exact ⟨rfl, rfl⟩) rfl (by first | rfl | exact ⟨rfl, rfl⟩) rfl (fun w _ hs => ?_) (fun w1 v1 w2 _ _ hk2 hR => ?_)
      · have hs1 : Hsat (wkH b W m n T1) w := hs
        have h := c_clear (fR := 39) K w b W m n T1 S1 t i (gE S1.d t t) (gE S1.d i t) (fun tn => S1.rows t i tn) hW1 hs1 hK (okG_at hb1.d _ _) (okG_at hb1.d _ _)
          (fun tn w' htn' hs2 => c_wrows (K + 1) w' b W m n T1 S1 t i tn hW1 hs2 (by omega) (by omega) (by omega) hm hn (by omega) htn' hb1.up)
        rw [← hW1.d.at, ← hW1.d.at] at h
        rw [← hW1.d.at, ← hW1.d.at]
        exact h
      · obtain ⟨hv, hwk, hok⟩ := clrR_of hr1 hb1 hR
        obtain ⟨T2, hk2, hin2, hW2, hV2⟩ := hwk.of hV1
        refine ⟨wkH b W m n T2, hk2, hin2, ?_⟩
        (repeat' (first | refine JC.ops ?_ | refine JO.nil ?_ | refine JX.thenN ?_ | (apply r_move; (iterate 3 exact rfl)) | (apply r_assign; (iterate 3 exact rfl)) | (apply r_add1; (iterate 4 exact rfl); omega) | refine JX.blockN ?_))
        exact JX.roundH (i + 1, r.1, T2) ⟨by dsimp only; omega, by dsimp only; omega, hW2, hV2, hok, by dsimp only; rw [show m - (i + 1) = m - (i + 1) from rfl]; exact hr2⟩ (by dsimp only; omega) (by repeat first | exact trivial | refine ⟨rfl, ?_⟩) (by simpa using HSub.refl _)
    · (repeat' (first | refine JC.seq ?_ | refine JC.ops ?_ | refine JO.nil ?_ | refine JX.thenN ?_ | (apply r_move; (iterate 3 exact rfl)) | (apply r_assign; (iterate 3 exact rfl)) | (apply r_load; (iterate 4 exact rfl); exact at0; exact rfl) | (apply r_add1; (iterate 4 exact rfl); omega) | (apply r_lss; (iterate 4 exact rfl); all_goals intro hc; all_goals try (exfalso; omega)) | refine JX.thenE ?_ | refine JC.exit ?_ | refine JC.condF rfl ?_ | refine JC.block ?_ | refine JX.blockE ?_))
      obtain rfl : m = i := by omega
      rw [Nat.sub_self, rowP] at hr
      obtain rfl := Option.some.inj hr
      clear hr
      refine JC.loopH (ι := Nat × Bool × Sm × WT) ⟨fun z => [(6, nv z.1), (4, .bool z.2.1), (0, .pointer (some ⟨b, 0, none⟩)), (1, nv t)], fun z => wkH b W m n z.2.2.2,
        fun z => t + 1 ≤ z.1 ∧ z.1 ≤ n ∧ IsWk W m n z.2.2.2 z.2.2.1 ∧ SameV T z.2.2.2 ∧ Ok K z.2.2.1 ∧ colP K t (n - z.1) z.1 z.2.1 z.2.2.1 = some (Sc, fl), fun z => n - z.1⟩ (t + 1, false, S1, T1)
        ⟨by omega, by omega, hW1, hV1, hb1, hcl⟩ (by repeat first | exact trivial | refine ⟨rfl, ?_⟩) (by simpa [wkH] using HSub.refl _) (fun z hz => ?_)
      clear hcl hb1 hV1 hW1 hT1 hVr hld
      obtain ⟨j, ch, S1, T1⟩ := z
      obtain ⟨htj, hjn, hW1, hV1, hb1, hcl⟩ := hz
      dsimp only at htj hjn hW1 hV1 hb1 hcl ⊢
      have hld := hW1.d.len
      have hT1 := hW1.d.T
      have hVr : ∀ a, tv T1.d a = tv T1.d a := fun _ => rfl
      refine JC.part (F' := [(6, nv j), (4, .bool ch), (0, .pointer (some ⟨b, 0, none⟩)), (1, nv t)]) (H' := (b, .cells (W.cells m n) 79) :: (W.Nu ++ (tH T1.u ++ (W.Nui ++ (tH T1.ui ++ (W.Nd ++ (tH T1.d ++ (W.Nv ++ (tH T1.v ++ (W.Nvi ++ (tH T1.vi ++ []))))))))))) (by repeat first | exact trivial | refine ⟨rfl, ?_⟩) (HSub.refl _) ?_
      (repeat' (first | refine JC.seq ?_ | refine JC.ops ?_ | (apply r_move; (iterate 3 exact rfl)) | (apply r_fieldAddr; (iterate 3 exact rfl)) | (apply r_nilCheck; (iterate 3 exact rfl))))
      refine r_idxArr (j := 1) rfl rfl rfl rfl (by omega) ?_
      by_cases hlt : j < n
      · obtain ⟨⟨r, rch⟩, hr1, hr2⟩ := colP_step (show colP K t (n - (j + 1) + 1) j ch S1 = some (Sc, fl) by rw [show n - (j + 1) + 1 = n - j by omega]; exact hcl)
        (repeat' (first | refine JC.seq ?_ | refine JO.nil ?_ | refine JX.thenN ?_ | (apply r_load; (iterate 4 exact rfl); exact at0; exact rfl) | (apply r_lss; (iterate 4 exact rfl); all_goals intro hc; all_goals try (exfalso; omega)) | refine JC.skip ?_ | refine JC.condT rfl ?_ | refine JC.block ?_))
        refine JC.chain ((b, .cells (W.cells m n) 79) :: (W.Nu ++ (tH T1.u ++ (W.Nui ++ (tH T1.ui ++ (W.Nd ++ (tH T1.d ++ (W.Nv ++ (tH T1.v ++ (W.Nvi ++ (tH T1.vi ++ []))))))))))) (HSub.refl _) [(4, 6, 7), (4, 7, 9), (4, 9, 10), (4, 10, 26), (7, 9, 10), (7, 10, 26), (15, 17, 18), (15, 18, 20), (15, 20, 21), (15, 21, 26), (18, 20, 21), (18, 21, 26)] (fun i op => kindAt [] i op) 1 [0, 1, 2, 3, 4, 5, 6, 7, 8, 9, 10, 11, 12, 13, 14, 15, 16, 17, 18, 19, 20, 21, 22, 23, 24, 25, 26] mixed (by kernel_rfl) (by kernel_rfl) ?_
        (repeat' (first | (apply r_move; (iterate 3 exact rfl)) | (apply r_fieldAddr; (iterate 3 exact rfl)) | (apply r_load; (iterate 4 exact rfl); exact at0; exact rfl) | (apply r_idxTr; (iterate 4 exact rfl); assumption; assumption; omega; omega) | (apply r_idxT; (iterate 4 exact rfl); assumption; omega) | (apply r_ldTr; (iterate 4 exact rfl); assumption; assumption; (repeat' first | exact HSub.nil _ | exact HSub.hd | exact HSub.in0 | exact HSub.refl _ | refine HSub.skip ?_ | refine HSub.skipN ?_); omega; omega) | (apply r_ldT; (iterate 4 exact rfl); assumption; assumption; (repeat' first | exact HSub.nil _ | exact HSub.hd | exact HSub.in0 | exact HSub.refl _ | refine HSub.skip ?_ | refine HSub.skipN ?_); omega) | (apply r_nilCheck; (iterate 3 exact rfl)) | (apply r_makeFunc; (iterate 4 exact rfl))))
        refine r_callO (A := []) (N := wkH b W m n T1) (B := []) (R := fun w v w' => ClrR b W m n T1 S1 (fun tn => S1.cols t j tn) (clearT (gE S1.d t t) (gE S1.d t j)) v w w') (by simp only [wkH, List.nil_append, List.append_nil]) (by first | trivial | exact ⟨rfl, rfl⟩) rfl (by first | rfl | exact ⟨rfl, rfl⟩) rfl (fun w _ hs => ?_) (fun w1 v1 w2 _ _ hk2 hR => ?_)
        · have hs1 : Hsat (wkH b W m n T1) w := hs
          have h := c_clear (fR := 65) K w b W m n T1 S1 t j (gE S1.d t t) (gE S1.d t j) (fun tn => S1.cols t j tn) hW1 hs1 hK (okG_at hb1.d _ _) (okG_at hb1.d _ _)
            (fun tn w' htn' hs2 => c_wcols (K + 1) w' b W m n T1 S1 t j tn hW1 hs2 (by omega) (by omega) (by omega) hm hn (by omega) htn' hb1.up)
          rw [← hW1.d.at, ← hW1.d.at] at h
          rw [← hW1.d.at, ← hW1.d.at]
          exact h
        · obtain ⟨hv, hwk, hok⟩ := clrC_of hr1 hb1 hR
          obtain ⟨T2, hk2, hin2, hW2, hV2⟩ := hwk.of hV1
          refine ⟨wkH b W m n T2, hk2, hin2, ?_⟩
          dsimp only at hv hr2
          rw [hv]
          cases rch with
          | true =>
            (repeat' (first | refine JC.ops ?_ | refine JO.nil ?_ | refine JX.thenN ?_ | (apply r_move; (iterate 3 exact rfl)) | (apply r_assign; (iterate 3 exact rfl)) | (apply r_add1; (iterate 4 exact rfl); omega) | refine JC.condT rfl ?_ | refine JX.blockN ?_))
            exact JX.roundH (j + 1, true, r, T2) ⟨by dsimp only; omega, by dsimp only; omega, hW2, hV2, hok, by simpa using hr2⟩ (by dsimp only; omega) (by repeat first | exact trivial | refine ⟨rfl, ?_⟩) (by simpa using HSub.refl _)
          | false =>
            (repeat' (first | refine JC.ops ?_ | refine JO.nil ?_ | refine JX.thenN ?_ | (apply r_move; (iterate 3 exact rfl)) | (apply r_assign; (iterate 3 exact rfl)) | (apply r_add1; (iterate 4 exact rfl); omega) | refine JC.skip ?_ | refine JC.condF rfl ?_ | refine JX.blockN ?_))
            exact JX.roundH (j + 1, ch, r, T2) ⟨by dsimp only; omega, by dsimp only; omega, hW2, hV2, hok, by simpa using hr2⟩ (by dsimp only; omega) (by repeat first | exact trivial | refine ⟨rfl, ?_⟩) (by simpa using HSub.refl _)
      · (repeat' (first | refine JO.nil ?_ | refine JX.thenN ?_ | (apply r_load; (iterate 4 exact rfl); exact at0; exact rfl) | (apply r_lss; (iterate 4 exact rfl); all_goals intro hc; all_goals try (exfalso; omega)) | refine JX.thenE ?_ | refine JC.exit ?_ | refine JC.condF rfl ?_ | refine JX.blockN ?_ | refine JX.blockE ?_))
        obtain rfl : n = j := by omega
        rw [Nat.sub_self, colP] at hcl
        obtain ⟨rfl, rfl⟩ := Prod.mk.inj (Option.some.inj hcl)
        exact JX.roundH (f, ch, S1, T1) ⟨hW1, hV1, hb1, hf1, hf2⟩ (by dsimp only; split <;> simp) (by repeat first | exact trivial | refine ⟨rfl, ?_⟩) (by simpa [wkH] using HSub.refl _)

end Go.Proofs.YtemdknkghacheaaDoor

