/- Walks of field: row reduction, the reference's. -/
import Derived.Test.YtdoogoglfbohaaaFldW4
namespace Go.Proofs.Ytdoogoglfbohaaa
open Go Go.RowKit
set_option linter.unusedSimpArgs false
set_option linter.unusedVariables false
set_option linter.unusedSectionVars false

theorem c_reduce (w : World) (v : Value) (m : NM) (hm : Big m) (hv : IsM w v m) :
    Calls Try.prog 45 #[v] w (Ret fun v w' => Kp [] w w' ∧ GivesML (echM m) (pivM m) w v w') := by
  rcases Nat.eq_zero_or_pos (m.r * m.c) with h | h
  · exact c_reduce0 w v m hm h hv
  · exact c_reduce1 w v m hm h hv

theorem redTo_full {p r c : Nat} [NeZero p] {xs : List Nat} {j : Nat} (h : (redTo p r c xs j).2.length = r) : ∀ d, redTo p r c xs (j + d) = redTo p r c xs j
  | 0 => rfl
  | d + 1 => by
    rw [← Nat.add_assoc, redTo_none (by rw [redTo_full h d]; omega) (by rw [redTo_full h d]; intro i a b; omega), redTo_full h d]

/-- Columns before k are turned into those of g'. -/
def coS (k : Nat) (g' g : Nat → Nat → Nat) : Nat → Nat → Nat := fun a b => if b < k then g' a b else g a b

theorem coS_zero (g' g : Nat → Nat → Nat) : coS 0 g' g = g := by funext a b; simp [coS]
theorem coS_end {r c k : Nat} {g' g : Nat → Nat → Nat} (hk : c ≤ k) : tab2 r c (coS k g' g) = tab2 r c g' := tab2_congr fun a b _ hb => by unfold coS; rw [if_pos (by omega)]
theorem coS_at {k a : Nat} {g' g : Nat → Nat → Nat} : coS k g' g a k = g a k := by simp [coS]

theorem scS_step {r c p f at' i k : Nat} {g : Nat → Nat → Nat} (hi : i < r) (ha : at' < r) (hk : k < c) :
    ((tab2 r c (coS k (eaG at' (fun _ x => x * f % p) (swG at' i g)) g)).set (i * c + k) (g at' k)).set (at' * c + k) (g i k * f % p) = tab2 r c (coS (k + 1) (eaG at' (fun _ x => x * f % p) (swG at' i g)) g) := by
  rw [tab2_set hk, tab2_set hk]
  refine tab2_congr fun a b _ _ => ?_
  unfold coS eaG swG
  by_cases hb : b = k
  · subst hb
    by_cases h1 : a = at'
    · subst h1; simp
    · by_cases h2 : a = i
      · subst h2; simp [h1]
      · simp [h1, h2]
  · have : (b < k + 1) = (b < k) := by simp; omega
    simp only [hb, and_false, if_false, this]

/-- Row i, while it is turned: columns before k are done. -/
def roS (p at' j i k : Nat) (g : Nat → Nat → Nat) : Nat → Nat → Nat := fun a b => if a = i ∧ b < k then (g a b + (p - g a j) * g at' b) % p else elS p at' j i g a b

theorem roS_zero (p at' j i : Nat) (g : Nat → Nat → Nat) : roS p at' j i 0 g = elS p at' j i g := by funext a b; simp [roS]
theorem roS_i {p at' j i k : Nat} {g : Nat → Nat → Nat} : roS p at' j i k g i k = g i k := by simp [roS, elS]
theorem roS_at {p at' j i k b : Nat} {g : Nat → Nat → Nat} (h : i ≠ at') : roS p at' j i k g at' b = g at' b := by
  unfold roS; rw [if_neg (fun e => h e.1.symm), elS_at]
theorem roS_step {r c p at' j i k : Nat} {g : Nat → Nat → Nat} (hk : k < c) : (tab2 r c (roS p at' j i k g)).set (i * c + k) ((g i k + (p - g i j) * g at' k) % p) = tab2 r c (roS p at' j i (k + 1) g) := by
  rw [tab2_set hk]
  refine tab2_congr fun a b _ _ => ?_
  unfold roS
  by_cases hb : b = k
  · subst hb
    by_cases h1 : a = i
    · subst h1; simp
    · simp [h1]
  · have : (b < k + 1) = (b < k) := by simp; omega
    simp only [hb, and_false, if_false, this]
theorem roS_end {r c p at' j i k : Nat} {g : Nat → Nat → Nat} (hk : c ≤ k) (hi : i ≠ at') : tab2 r c (roS p at' j i k g) = tab2 r c (elS p at' j (i + 1) g) := by
  refine tab2_congr fun a b _ hb => ?_
  unfold roS elS
  by_cases h1 : a = i
  · subst h1; rw [if_pos ⟨rfl, by omega⟩, if_pos ⟨by omega, hi⟩]
  · have : (a < i + 1) = (a < i) := by simp; omega
    simp only [h1, false_and, if_false, this]

theorem HSub.rot2 {N : SHeap} {x y : Nat × Obj} : HSub (x :: y :: (N ++ ([] ++ []))) (N ++ [x, y]) := ⟨[], by
  have : (N ++ [x, y]).Perm ([x, y] ++ N) := List.perm_append_comm
  simpa using this⟩

set_option maxHeartbeats 16000000 in
theorem c_refreduce (w : World) (v : Value) (m : NM) (hm : Big m) (hv : IsM w v m) :
    Calls Try.prog 53 #[v] w (Ret fun v w' => Kp [] w w' ∧ GivesML (echM m) (pivM m) w v w') := by
  obtain ⟨E, rfl, hE⟩ := hv
  have hl := hm.len
  have hbr := hm.r
  have hbc := hm.c
  haveI := hm.pr.nz
  have hp := hm.pr
  have hp9 := hp.2.1
  have hpos : 0 < m.p := by have := hp.1; omega
  have hn1 : m.r * m.c ≤ 320000 := Nat.mul_le_mul hbr hbc
  rw [hl] at hE
  refine calls_of_S [⟨3, 1, [0, 1, 2, 3, 5, 6, 4, 7, 8, 9, 10], []⟩, ⟨18, 2, [], []⟩, ⟨19, 2, [], []⟩, ⟨27, 2, [], []⟩] [] (by simp) [] Try.func53 rfl mixed (by kernel_rfl) Try.ntmps53 Try.results53 rfl ⟨by simp, by simp⟩ (by simp) ?_
  simp only [toS, textOps, toSOp, kindAt, kindOf, odAt, sopsAt, ordOf, zipF]
  (repeat' (first | refine JC.seq ?_ | refine JC.ops ?_ | refine JO.nil ?_ | refine JX.thenN ?_ | (apply r_fieldAddr; exact rfl; exact rfl; exact rfl) | (apply r_assign; exact rfl; exact rfl; exact rfl) | (apply r_load; exact rfl; exact rfl; exact rfl; exact rfl; (first | exact at0 | exact at1 | exact at2 | exact at3 | exact at4 | exact at5 | exact at6 | exact at7); exact rfl) | (apply r_allocZ; exact rfl; exact rfl; exact rfl; intro _) | (apply r_boxA; exact rfl; exact rfl; exact rfl; exact rfl; intro _)))
  rename_i b1 b2
  refine JC.opsDs [(b1, .cells #[nv m.p, nv m.r, nv m.c, E] 27)] (by (first | exact HSub.refl _ | (repeat' first | exact HSub.nil _ | exact HSub.refl _ | refine HSub.at 0 rfl ?_ | refine HSub.at 1 rfl ?_ | refine HSub.at 2 rfl ?_ | refine HSub.at 3 rfl ?_ | refine HSub.at 4 rfl ?_ | refine HSub.at 5 rfl ?_ | refine HSub.at 6 rfl ?_ | refine HSub.at 7 rfl ?_))) ?_
  (repeat' (first | (apply r_move; exact rfl; exact rfl; exact rfl) | (apply r_fieldAddr; exact rfl; exact rfl; exact rfl) | (apply r_load; exact rfl; exact rfl; exact rfl; exact rfl; (first | exact at0 | exact at1 | exact at2 | exact at3 | exact at4 | exact at5 | exact at6 | exact at7); exact rfl)))
  refine r_buildSlice0 rfl rfl rfl (fun b => ?_)
  skip
  have hO : OwnN [(b, .cells #[] 3)] (.slice (some ⟨b, 0, none⟩) 0 0) 0 [] := own_lit b 0 [] [] rfl rfl (by omega)
  refine r_appendNL (A := []) hO (WN.rd hE rfl []) (by (repeat' first | exact HSub.nil _ | exact HSub.hd | exact HSub.in0 | exact HSub.refl _ | refine HSub.skip ?_ | refine HSub.skipN ?_)) rfl (by (first | exact HSub.refl _ | (repeat' first | exact HSub.nil _ | exact HSub.refl _ | refine HSub.at 0 rfl ?_ | refine HSub.at 1 rfl ?_ | refine HSub.at 2 rfl ?_ | refine HSub.at 3 rfl ?_ | refine HSub.at 4 rfl ?_ | refine HSub.at 5 rfl ?_ | refine HSub.at 6 rfl ?_ | refine HSub.at 7 rfl ?_))) rfl rfl rfl rfl (by omega) (fun v' N hO' => ?_)
  rw [Nat.zero_add, List.nil_append] at hO'
  obtain ⟨A, cap, rfl⟩ := hO'.form
  (repeat' (first | refine JC.seq ?_ | refine JC.ops ?_ | refine JO.nil ?_ | refine JX.thenN ?_ | (apply r_assign; exact rfl; exact rfl; exact rfl) | (apply r_allocZ; exact rfl; exact rfl; exact rfl; intro _) | (apply r_buildL; exact rfl; exact rfl; exact rfl; exact rfl; exact rfl) | (apply r_storeN; exact rfl; (first | exact trivial | exact ⟨rfl, rfl⟩); exact rfl; exact rfl; (first | exact at0 | exact at1 | exact at2 | exact at3 | exact at4 | exact at5 | exact at6 | exact at7); exact rfl; exact rfl; exact rfl) | refine JC.block ?_))
  rename_i b6
  refine JC.loopH (ι := Nat × SHeap × SHeap × Value) ⟨fun z => [(9, nv z.1), (8, nv (redTo m.p m.r m.c m.e z.1).2.length), (4, nv m.p), (5, nv m.c), (6, .pointer (some ⟨b6, 0, none⟩)), (1, .pointer (some ⟨b1, 0, none⟩)), (2, .pointer (some ⟨b2, 0, none⟩)), (7, z.2.2.2)],
    fun z => [(b6, .cells #[nv m.p, nv m.r, nv m.c, .slice A (m.r * m.c) cap] 27), (b2, .cells #[iv 0, iv 0, iv 0, .slice none 0 0] 27), (b1, .cells #[nv m.p, nv m.r, nv m.c, E] 27)] ++ (z.2.1 ++ (z.2.2.1 ++ [])),
    fun z => z.1 ≤ m.c ∧ OwnN z.2.1 (.slice A (m.r * m.c) cap) (m.r * m.c) (redTo m.p m.r m.c m.e z.1).1 ∧ OwnN z.2.2.1 z.2.2.2 (redTo m.p m.r m.c m.e z.1).2.length (redTo m.p m.r m.c m.e z.1).2, fun z => m.c - z.1⟩ (0, N, [], .slice none 0 0) ⟨by dsimp only; omega, hO', OwnN.nil⟩ (by repeat first | exact trivial | refine ⟨rfl, ?_⟩) (HSub.at 0 rfl HSub.rot2) (fun z hz => ?_)
  clear hO' hO
  obtain ⟨j, N, M, vp⟩ := z
  obtain ⟨hj, hO, hM⟩ := hz
  dsimp only at hj hO hM ⊢
  have hok := redTo_ok hp hm.els j hj
  have hk := hok.red.kr
  generalize hs : redTo m.p m.r m.c m.e j = s at *
  have hk8 : s.2.length ≤ 400 := by omega
  have hlt : ∀ a b, ent m.c s.1 a b < m.p := hok.els.ent hpos
  by_cases hjc : j < m.c ∧ s.2.length < m.r
  · obtain ⟨hjc, har⟩ := hjc
    (repeat' (first | refine JC.seq ?_ | refine JC.ops ?_ | refine JO.nil ?_ | refine JX.thenN ?_ | (apply r_move; exact rfl; exact rfl; exact rfl) | (apply r_fieldAddr; exact rfl; exact rfl; exact rfl) | (apply r_assign; exact rfl; exact rfl; exact rfl) | (apply r_load; exact rfl; exact rfl; exact rfl; exact rfl; (first | exact at0 | exact at1 | exact at2 | exact at3 | exact at4 | exact at5 | exact at6 | exact at7); exact rfl) | (apply r_pickT; exact rfl; exact rfl; exact rfl; exact rfl) | (apply r_lss; exact rfl; exact rfl; exact rfl; exact rfl; all_goals intro hc; all_goals try (exfalso; omega)) | refine JC.skip ?_ | refine JC.condT rfl ?_ | refine JC.block ?_))
    refine JC.loopH (ι := Nat) ⟨fun i => [(10, nv i), (9, nv j), (8, nv s.2.length), (4, nv m.p), (5, nv m.c), (6, .pointer (some ⟨b6, 0, none⟩)), (1, .pointer (some ⟨b1, 0, none⟩)), (2, .pointer (some ⟨b2, 0, none⟩)), (7, vp)],
      fun _ => [(b6, .cells #[nv m.p, nv m.r, nv m.c, .slice A (m.r * m.c) cap] 27), (b2, .cells #[iv 0, iv 0, iv 0, .slice none 0 0] 27), (b1, .cells #[nv m.p, nv m.r, nv m.c, E] 27)] ++ (N ++ (M ++ [])),
      fun i => s.2.length ≤ i ∧ i ≤ m.r ∧ ∀ t, s.2.length ≤ t → t < i → ent m.c s.1 t j = 0, fun i => m.r - i⟩ s.2.length ⟨Nat.le_refl _, hk, fun t a b => by omega⟩ (by repeat first | exact trivial | refine ⟨rfl, ?_⟩) (by (first | exact HSub.refl _ | (repeat' first | exact HSub.nil _ | exact HSub.refl _ | refine HSub.at 0 rfl ?_ | refine HSub.at 1 rfl ?_ | refine HSub.at 2 rfl ?_ | refine HSub.at 3 rfl ?_ | refine HSub.at 4 rfl ?_ | refine HSub.at 5 rfl ?_ | refine HSub.at 6 rfl ?_ | refine HSub.at 7 rfl ?_))) (fun i hi => ?_)
    obtain ⟨hki, hir, hz⟩ := hi
    dsimp only
    have hic : i * m.c ≤ 320000 := Nat.mul_le_mul (show i ≤ 400 by omega) hbc
    have hac : s.2.length * m.c ≤ 320000 := Nat.mul_le_mul hk8 hbc
    by_cases hi : i < m.r
    · have hij := idx_lt hi hjc
      (repeat' (first | refine JC.seq ?_ | refine JC.ops ?_ | refine JO.nil ?_ | refine JX.thenN ?_ | (apply r_move; exact rfl; exact rfl; exact rfl) | (apply r_fieldAddr; exact rfl; exact rfl; exact rfl) | (apply r_assign; exact rfl; exact rfl; exact rfl) | (apply r_load; exact rfl; exact rfl; exact rfl; exact rfl; (first | exact at0 | exact at1 | exact at2 | exact at3 | exact at4 | exact at5 | exact at6 | exact at7); exact rfl) | (apply r_idxN; exact rfl; exact rfl; exact rfl; exact rfl; (first | assumption | exact WN.rd (by assumption) rfl [] | exact OwnN.rd (by assumption)); (first | assumption | omega)) | (apply r_ldN; exact rfl; exact rfl; exact rfl; exact rfl; (first | assumption | exact WN.rd (by assumption) rfl [] | exact OwnN.rd (by assumption)); (repeat' first | exact HSub.nil _ | exact HSub.hd | exact HSub.in0 | exact HSub.refl _ | refine HSub.skip ?_ | refine HSub.skipN ?_); (first | assumption | omega)) | (apply r_add1; exact rfl; exact rfl; exact rfl; exact rfl; omega) | (apply r_addN; exact rfl; exact rfl; exact rfl; exact rfl; omega) | (apply r_mulN; exact rfl; exact rfl; exact rfl; exact rfl; (first | assumption | omega)) | (apply r_pickT; exact rfl; exact rfl; exact rfl; exact rfl) | (apply r_lss; exact rfl; exact rfl; exact rfl; exact rfl; all_goals intro hc; all_goals try (exfalso; omega)) | (apply r_eql; exact rfl; exact rfl; exact rfl; exact rfl; all_goals intro hc; all_goals try (exfalso; omega)) | refine JX.thenE ?_ | refine JC.skip ?_ | refine JC.exit ?_ | refine JC.condT rfl ?_ | refine JC.condF rfl ?_ | refine JC.block ?_ | refine JX.blockN ?_ | refine JX.blockE ?_))
      · exact JX.roundH (i + 1) ⟨by omega, by omega, fun t a b => by
          by_cases e : t = i
          · subst e; show s.1.getD (t * m.c + j) 0 = 0; omega
          · exact hz t a (by omega)⟩ (by dsimp only; omega) (by repeat first | exact trivial | refine ⟨rfl, ?_⟩) (by (first | exact HSub.refl _ | (repeat' first | exact HSub.nil _ | exact HSub.refl _ | refine HSub.at 0 rfl ?_ | refine HSub.at 1 rfl ?_ | refine HSub.at 2 rfl ?_ | refine HSub.at 3 rfl ?_ | refine HSub.at 4 rfl ?_ | refine HSub.at 5 rfl ?_ | refine HSub.at 6 rfl ?_ | refine HSub.at 7 rfl ?_)))
      · have hne : ent m.c s.1 i j ≠ 0 := fun e => by
          have e' : s.1.getD (i * m.c + j) 0 = 0 := e
          omega
        have hinv := invN_lt (n := ent m.c s.1 i j) hp
        have hnext := redTo_some (p := m.p) (r := m.r) (c := m.c) (j := j) (i := i) (xs := m.e) (by rw [hs]; exact hki) hi (by rw [hs]; exact hz) (by rw [hs]; exact hne)
        rw [hs] at hnext
        rw [← tab2_of hok.els.len] at hO
        refine r_call0 trivial rfl rfl rfl (fun w _ hs => c_Over w (ent m.c s.1 i j) m.p hp (by omega) (hlt i j)) fun w v w' _ _ _ hv => ?_
        subst hv
        (repeat' (first | refine JC.seq ?_ | refine JC.ops ?_ | refine JO.nil ?_ | refine JX.thenN ?_ | (apply r_assign; exact rfl; exact rfl; exact rfl) | refine JC.block ?_))
        refine JC.loopH (ι := Nat × SHeap) ⟨fun z => [(12, nv z.1), (11, nv (invN m.p (ent m.c s.1 i j))), (10, nv i), (9, nv j), (8, nv s.2.length), (4, nv m.p), (5, nv m.c), (6, .pointer (some ⟨b6, 0, none⟩)), (1, .pointer (some ⟨b1, 0, none⟩)), (2, .pointer (some ⟨b2, 0, none⟩)), (7, vp)],
          fun z => [(b6, .cells #[nv m.p, nv m.r, nv m.c, .slice A (m.r * m.c) cap] 27), (b2, .cells #[iv 0, iv 0, iv 0, .slice none 0 0] 27), (b1, .cells #[nv m.p, nv m.r, nv m.c, E] 27)] ++ (z.2 ++ (M ++ [])),
          fun z => z.1 ≤ m.c ∧ OwnN z.2 (.slice A (m.r * m.c) cap) (m.r * m.c) (tab2 m.r m.c (coS z.1 (eaG s.2.length (fun _ x => x * invN m.p (ent m.c s.1 i j) % m.p) (swG s.2.length i (ent m.c s.1))) (ent m.c s.1))), fun z => m.c - z.1⟩ (0, N) ⟨by dsimp only; omega, by dsimp only; rw [coS_zero]; exact hO⟩ (by repeat first | exact trivial | refine ⟨rfl, ?_⟩) (by (first | exact HSub.refl _ | (repeat' first | exact HSub.nil _ | exact HSub.refl _ | refine HSub.at 0 rfl ?_ | refine HSub.at 1 rfl ?_ | refine HSub.at 2 rfl ?_ | refine HSub.at 3 rfl ?_ | refine HSub.at 4 rfl ?_ | refine HSub.at 5 rfl ?_ | refine HSub.at 6 rfl ?_ | refine HSub.at 7 rfl ?_))) (fun z hz2 => ?_)
        clear hO
        obtain ⟨k, N⟩ := z
        obtain ⟨hkc, hO⟩ := hz2
        dsimp only at hkc hO ⊢
        by_cases hk1 : k < m.c
        · have h1 := idx_lt hi hk1
          have h2 := idx_lt har hk1
          have e1 : (tab2 m.r m.c (coS k (eaG s.2.length (fun _ x => x * invN m.p (ent m.c s.1 i j) % m.p) (swG s.2.length i (ent m.c s.1))) (ent m.c s.1))).getD (i * m.c + k) 0 = ent m.c s.1 i k := by rw [tab2_get hi hk1, coS_at]
          have e2 : (tab2 m.r m.c (coS k (eaG s.2.length (fun _ x => x * invN m.p (ent m.c s.1 i j) % m.p) (swG s.2.length i (ent m.c s.1))) (ent m.c s.1))).getD (s.2.length * m.c + k) 0 = ent m.c s.1 s.2.length k := by rw [tab2_get har hk1, coS_at]
          have hbb := mul_bound (hlt i k) hinv hp9
          (repeat' (first | refine JC.seq ?_ | refine JC.ops ?_ | refine JC.opsD ?_ | refine JO.nil ?_ | refine JX.thenN ?_ | (apply r_move; exact rfl; exact rfl; exact rfl) | (apply r_fieldAddr; exact rfl; exact rfl; exact rfl) | (apply r_assign; exact rfl; exact rfl; exact rfl) | (apply r_load; exact rfl; exact rfl; exact rfl; exact rfl; (first | exact at0 | exact at1 | exact at2 | exact at3 | exact at4 | exact at5 | exact at6 | exact at7); exact rfl) | (apply r_idxN; exact rfl; exact rfl; exact rfl; exact rfl; (first | assumption | exact WN.rd (by assumption) rfl [] | exact OwnN.rd (by assumption)); (first | assumption | omega)) | (apply r_ldN; exact rfl; exact rfl; exact rfl; exact rfl; (first | assumption | exact WN.rd (by assumption) rfl [] | exact OwnN.rd (by assumption)); (repeat' first | exact HSub.nil _ | exact HSub.hd | exact HSub.in0 | exact HSub.refl _ | refine HSub.skip ?_ | refine HSub.skipN ?_); (first | assumption | omega)) | (apply r_addN; exact rfl; exact rfl; exact rfl; exact rfl; omega) | (apply r_mulN; exact rfl; exact rfl; exact rfl; exact rfl; (first | assumption | omega)) | (apply r_lss; exact rfl; exact rfl; exact rfl; exact rfl; all_goals intro hc; all_goals try (exfalso; omega)) | refine JC.skip ?_ | refine JC.condT rfl ?_ | refine JC.block ?_))
          rw [e1]
          skip
          refine r_stN (A := [_, _, _]) (u := ent m.c s.1 s.2.length k) hO rfl rfl ⟨rfl, rfl⟩ rfl (congrArg (fun t => some (nv t)) e2) h1 (fun N' hO' => ?_)
          (repeat' (first | refine JC.opsD ?_ | refine JO.nil ?_ | refine JX.thenN ?_ | (apply r_move; exact rfl; exact rfl; exact rfl) | (apply r_fieldAddr; exact rfl; exact rfl; exact rfl) | (apply r_load; exact rfl; exact rfl; exact rfl; exact rfl; (first | exact at0 | exact at1 | exact at2 | exact at3 | exact at4 | exact at5 | exact at6 | exact at7); exact rfl) | (apply r_idxN; exact rfl; exact rfl; exact rfl; exact rfl; (first | assumption | exact WN.rd (by assumption) rfl [] | exact OwnN.rd (by assumption)); (first | assumption | omega)) | (apply r_addN; exact rfl; exact rfl; exact rfl; exact rfl; omega) | (apply r_mulN; exact rfl; exact rfl; exact rfl; exact rfl; (first | assumption | omega)) | (apply r_modN; exact rfl; exact rfl; exact rfl; exact rfl; omega)))
          refine r_stN (A := [_, _, _]) hO' rfl rfl ⟨rfl, rfl⟩ rfl rfl h2 (fun N'' hO'' => ?_)
          rw [scS_step hi har hk1] at hO''
          (repeat' (first | refine JC.ops ?_ | refine JO.nil ?_ | refine JX.thenN ?_ | (apply r_move; exact rfl; exact rfl; exact rfl) | (apply r_assign; exact rfl; exact rfl; exact rfl) | (apply r_add1; exact rfl; exact rfl; exact rfl; exact rfl; omega) | refine JX.blockN ?_))
          exact JX.roundH (k + 1, N'') ⟨by dsimp only; omega, hO''⟩ (by dsimp only; omega) (by repeat first | exact trivial | refine ⟨rfl, ?_⟩) (by (first | exact HSub.refl _ | (repeat' first | exact HSub.nil _ | exact HSub.refl _ | refine HSub.at 0 rfl ?_ | refine HSub.at 1 rfl ?_ | refine HSub.at 2 rfl ?_ | refine HSub.at 3 rfl ?_ | refine HSub.at 4 rfl ?_ | refine HSub.at 5 rfl ?_ | refine HSub.at 6 rfl ?_ | refine HSub.at 7 rfl ?_)))
        · rw [coS_end (by omega)] at hO
          generalize hg1 : eaG s.2.length (fun _ x => x * invN m.p (ent m.c s.1 i j) % m.p) (swG s.2.length i (ent m.c s.1)) = g1 at hO
          have hg1lt : ∀ a b, g1 a b < m.p := fun a b => by
            rw [← hg1]
            unfold eaG swG
            repeat' split
            all_goals first | exact hlt _ _ | exact Nat.mod_lt _ hpos
          (repeat' (first | refine JC.seq ?_ | refine JC.ops ?_ | refine JO.nil ?_ | refine JX.thenN ?_ | (apply r_move; exact rfl; exact rfl; exact rfl) | (apply r_assign; exact rfl; exact rfl; exact rfl) | (apply r_lss; exact rfl; exact rfl; exact rfl; exact rfl; all_goals intro hc; all_goals try (exfalso; omega)) | refine JX.thenE ?_ | refine JC.exit ?_ | refine JC.condF rfl ?_ | refine JC.block ?_ | refine JX.blockE ?_))
          refine JC.loopH (ι := Nat × SHeap) ⟨fun z => [(14, nv z.1), (9, nv j), (8, nv s.2.length), (4, nv m.p), (5, nv m.c), (6, .pointer (some ⟨b6, 0, none⟩)), (1, .pointer (some ⟨b1, 0, none⟩)), (2, .pointer (some ⟨b2, 0, none⟩)), (7, vp)],
            fun z => [(b6, .cells #[nv m.p, nv m.r, nv m.c, .slice A (m.r * m.c) cap] 27), (b2, .cells #[iv 0, iv 0, iv 0, .slice none 0 0] 27), (b1, .cells #[nv m.p, nv m.r, nv m.c, E] 27)] ++ (z.2 ++ (M ++ [])),
            fun z => z.1 ≤ m.r ∧ OwnN z.2 (.slice A (m.r * m.c) cap) (m.r * m.c) (tab2 m.r m.c (elS m.p s.2.length j z.1 g1)), fun z => m.r - z.1⟩ (0, N) ⟨by dsimp only; omega, by dsimp only; rw [show elS m.p s.2.length j 0 g1 = g1 by funext a b; simp [elS]]; exact hO⟩ (by repeat first | exact trivial | refine ⟨rfl, ?_⟩) (by (first | exact HSub.refl _ | (repeat' first | exact HSub.nil _ | exact HSub.refl _ | refine HSub.at 0 rfl ?_ | refine HSub.at 1 rfl ?_ | refine HSub.at 2 rfl ?_ | refine HSub.at 3 rfl ?_ | refine HSub.at 4 rfl ?_ | refine HSub.at 5 rfl ?_ | refine HSub.at 6 rfl ?_ | refine HSub.at 7 rfl ?_))) (fun z hz2 => ?_)
          clear hO
          obtain ⟨a, N⟩ := z
          obtain ⟨har1, hO⟩ := hz2
          dsimp only at har1 hO ⊢
          by_cases ha : a < m.r
          · have haj := idx_lt ha hjc
            have hac1 : a * m.c ≤ 320000 := Nat.mul_le_mul (show a ≤ 400 by omega) hbc
            have e3 : (tab2 m.r m.c (elS m.p s.2.length j a g1)).getD (a * m.c + j) 0 = g1 a j := by rw [tab2_get ha hjc, elS_k]
            have hgaj := hg1lt a j
            (repeat' (first | refine JC.seq ?_ | refine JC.ops ?_ | refine JO.nil ?_ | refine JX.thenN ?_ | (apply r_move; exact rfl; exact rfl; exact rfl) | (apply r_fieldAddr; exact rfl; exact rfl; exact rfl) | (apply r_assign; exact rfl; exact rfl; exact rfl) | (apply r_load; exact rfl; exact rfl; exact rfl; exact rfl; (first | exact at0 | exact at1 | exact at2 | exact at3 | exact at4 | exact at5 | exact at6 | exact at7); exact rfl) | (apply r_idxN; exact rfl; exact rfl; exact rfl; exact rfl; (first | assumption | exact WN.rd (by assumption) rfl [] | exact OwnN.rd (by assumption)); (first | assumption | omega)) | (apply r_ldN; exact rfl; exact rfl; exact rfl; exact rfl; (first | assumption | exact WN.rd (by assumption) rfl [] | exact OwnN.rd (by assumption)); (repeat' first | exact HSub.nil _ | exact HSub.hd | exact HSub.in0 | exact HSub.refl _ | refine HSub.skip ?_ | refine HSub.skipN ?_); (first | assumption | omega)) | (apply r_addN; exact rfl; exact rfl; exact rfl; exact rfl; omega) | (apply r_mulN; exact rfl; exact rfl; exact rfl; exact rfl; (first | assumption | omega)) | (apply r_lss; exact rfl; exact rfl; exact rfl; exact rfl; all_goals intro hc; all_goals try (exfalso; omega)) | refine JC.skip ?_ | refine JC.condT rfl ?_ | refine JC.block ?_))
            rw [e3]
            refine JC.loopH (ι := Nat × SHeap) ⟨fun z => [(16, nv z.1), (15, nv (g1 a j)), (14, nv a), (9, nv j), (8, nv s.2.length), (4, nv m.p), (5, nv m.c), (6, .pointer (some ⟨b6, 0, none⟩)), (1, .pointer (some ⟨b1, 0, none⟩)), (2, .pointer (some ⟨b2, 0, none⟩)), (7, vp)],
              fun z => [(b6, .cells #[nv m.p, nv m.r, nv m.c, .slice A (m.r * m.c) cap] 27), (b2, .cells #[iv 0, iv 0, iv 0, .slice none 0 0] 27), (b1, .cells #[nv m.p, nv m.r, nv m.c, E] 27)] ++ (z.2 ++ (M ++ [])),
              fun z => z.1 ≤ m.c ∧ (z.1 = 0 ∨ (a ≠ s.2.length ∧ 0 < g1 a j)) ∧ OwnN z.2 (.slice A (m.r * m.c) cap) (m.r * m.c) (tab2 m.r m.c (roS m.p s.2.length j a z.1 g1)), fun z => m.c - z.1⟩ (0, N) ⟨by dsimp only; omega, .inl rfl, by dsimp only; rw [roS_zero]; exact hO⟩ (by repeat first | exact trivial | refine ⟨rfl, ?_⟩) (by (first | exact HSub.refl _ | (repeat' first | exact HSub.nil _ | exact HSub.refl _ | refine HSub.at 0 rfl ?_ | refine HSub.at 1 rfl ?_ | refine HSub.at 2 rfl ?_ | refine HSub.at 3 rfl ?_ | refine HSub.at 4 rfl ?_ | refine HSub.at 5 rfl ?_ | refine HSub.at 6 rfl ?_ | refine HSub.at 7 rfl ?_))) (fun z hz2 => ?_)
            clear hO
            obtain ⟨k, N⟩ := z
            obtain ⟨hkc, hk0, hO⟩ := hz2
            dsimp only at hkc hk0 hO ⊢
            by_cases hk1 : k < m.c ∧ a ≠ s.2.length ∧ 0 < g1 a j
            · obtain ⟨hk1, ha0, hg0⟩ := hk1
              have h1 := idx_lt ha hk1
              have h2 := idx_lt har hk1
              have e4 : (tab2 m.r m.c (roS m.p s.2.length j a k g1)).getD (a * m.c + k) 0 = g1 a k := by rw [tab2_get ha hk1, roS_i]
              have e5 : (tab2 m.r m.c (roS m.p s.2.length j a k g1)).getD (s.2.length * m.c + k) 0 = g1 s.2.length k := by rw [tab2_get har hk1, roS_at ha0]
              have hx := hg1lt a k
              have hbb := mul_bound (show m.p - g1 a j < m.p by omega) (hg1lt s.2.length k) hp9
              rw [← e4] at hx
              rw [← e5] at hbb
              (repeat' (first | refine JC.seq ?_ | refine JC.ops ?_ | refine JC.opsD ?_ | refine JO.nil ?_ | refine JX.thenN ?_ | (apply r_move; exact rfl; exact rfl; exact rfl) | (apply r_fieldAddr; exact rfl; exact rfl; exact rfl) | (apply r_load; exact rfl; exact rfl; exact rfl; exact rfl; (first | exact at0 | exact at1 | exact at2 | exact at3 | exact at4 | exact at5 | exact at6 | exact at7); exact rfl) | (apply r_idxN; exact rfl; exact rfl; exact rfl; exact rfl; (first | assumption | exact WN.rd (by assumption) rfl [] | exact OwnN.rd (by assumption)); (first | assumption | omega)) | (apply r_ldN; exact rfl; exact rfl; exact rfl; exact rfl; (first | assumption | exact WN.rd (by assumption) rfl [] | exact OwnN.rd (by assumption)); (repeat' first | exact HSub.nil _ | exact HSub.hd | exact HSub.in0 | exact HSub.refl _ | refine HSub.skip ?_ | refine HSub.skipN ?_); (first | assumption | omega)) | (apply r_addN; exact rfl; exact rfl; exact rfl; exact rfl; omega) | (apply r_mulN; exact rfl; exact rfl; exact rfl; exact rfl; (first | assumption | omega)) | (apply r_modN; exact rfl; exact rfl; exact rfl; exact rfl; omega) | (apply r_subN; exact rfl; exact rfl; exact rfl; exact rfl; omega) | (apply r_pickT; exact rfl; exact rfl; exact rfl; exact rfl) | (apply r_lss; exact rfl; exact rfl; exact rfl; exact rfl; all_goals intro hc; all_goals try (exfalso; omega)) | (apply r_gtr; exact rfl; exact rfl; exact rfl; exact rfl; all_goals intro hc; all_goals try (exfalso; omega)) | (apply r_neq; exact rfl; exact rfl; exact rfl; exact rfl; all_goals intro hc; all_goals try (exfalso; omega)) | refine JC.skip ?_ | refine JC.condT rfl ?_ | refine JC.block ?_))
              refine r_stN (A := [_, _, _]) (u := (g1 a k + (m.p - g1 a j) * g1 s.2.length k) % m.p) hO rfl rfl ⟨rfl, rfl⟩ rfl (by rw [← e4, ← e5]; rfl) h1 (fun N' hO' => ?_)
              rw [roS_step hk1] at hO'
              (repeat' (first | refine JC.ops ?_ | refine JO.nil ?_ | refine JX.thenN ?_ | (apply r_move; exact rfl; exact rfl; exact rfl) | (apply r_assign; exact rfl; exact rfl; exact rfl) | (apply r_add1; exact rfl; exact rfl; exact rfl; exact rfl; omega) | refine JX.blockN ?_))
              exact JX.roundH (k + 1, N') ⟨by dsimp only; omega, .inr ⟨ha0, hg0⟩, hO'⟩ (by dsimp only; omega) (by repeat first | exact trivial | refine ⟨rfl, ?_⟩) (by (first | exact HSub.refl _ | (repeat' first | exact HSub.nil _ | exact HSub.refl _ | refine HSub.at 0 rfl ?_ | refine HSub.at 1 rfl ?_ | refine HSub.at 2 rfl ?_ | refine HSub.at 3 rfl ?_ | refine HSub.at 4 rfl ?_ | refine HSub.at 5 rfl ?_ | refine HSub.at 6 rfl ?_ | refine HSub.at 7 rfl ?_)))
            · have hel : tab2 m.r m.c (roS m.p s.2.length j a k g1) = tab2 m.r m.c (elS m.p s.2.length j (a + 1) g1) := by
                by_cases hs0 : a ≠ s.2.length ∧ 0 < g1 a j
                · exact roS_end (by omega) hs0.1
                · have hk00 : k = 0 := by
                    rcases hk0 with h | h
                    · exact h
                    · exact absurd h hs0
                  subst hk00
                  rw [roS_zero]
                  exact elS_skip hg1lt (by omega)
              rw [hel] at hO
              (repeat' (first | refine JC.seq ?_ | refine JC.ops ?_ | refine JO.nil ?_ | refine JX.thenN ?_ | (apply r_move; exact rfl; exact rfl; exact rfl) | (apply r_assign; exact rfl; exact rfl; exact rfl) | (apply r_add1; exact rfl; exact rfl; exact rfl; exact rfl; omega) | (apply r_pickT; exact rfl; exact rfl; exact rfl; exact rfl) | (apply r_pickF; exact rfl; exact rfl; exact rfl; exact rfl) | (apply r_lss; exact rfl; exact rfl; exact rfl; exact rfl; all_goals intro hc; all_goals try (exfalso; omega)) | (apply r_gtr; exact rfl; exact rfl; exact rfl; exact rfl; all_goals intro hc; all_goals try (exfalso; omega)) | (apply r_neq; exact rfl; exact rfl; exact rfl; exact rfl; all_goals intro hc; all_goals try (exfalso; omega)) | refine JX.thenE ?_ | refine JC.exit ?_ | refine JC.condF rfl ?_ | refine JX.blockN ?_ | refine JX.blockE ?_ | (apply r_skip; exact rfl; exact rfl; (first | (intro h; cases h; done) | (intro _; rfl)))))
              all_goals exact JX.roundH (a + 1, N) ⟨by dsimp only; omega, hO⟩ (by dsimp only; omega) (by repeat first | exact trivial | refine ⟨rfl, ?_⟩) (by (first | exact HSub.refl _ | (repeat' first | exact HSub.nil _ | exact HSub.refl _ | refine HSub.at 0 rfl ?_ | refine HSub.at 1 rfl ?_ | refine HSub.at 2 rfl ?_ | refine HSub.at 3 rfl ?_ | refine HSub.at 4 rfl ?_ | refine HSub.at 5 rfl ?_ | refine HSub.at 6 rfl ?_ | refine HSub.at 7 rfl ?_)))
          · subst hg1
            rw [elS_end (by omega) hi] at hO
            have hlen2 : (s.2 ++ [j]).length = s.2.length + 1 := by simp
            have hL : ∀ b5 : Nat, OwnN [(b5, .cells ⟨[nv j]⟩ 3)] (.slice (some ⟨b5, 0, none⟩) 1 1) 1 [j] := fun b5 => own_lit b5 1 [j] _ rfl rfl (by omega)
            (repeat' (first | refine JC.seq ?_ | refine JC.ops ?_ | refine JO.nil ?_ | refine JX.thenN ?_ | (apply r_move; exact rfl; exact rfl; exact rfl) | (apply r_fieldAddr; exact rfl; exact rfl; exact rfl) | (apply r_load; exact rfl; exact rfl; exact rfl; exact rfl; (first | exact at0 | exact at1 | exact at2 | exact at3 | exact at4 | exact at5 | exact at6 | exact at7); exact rfl) | (apply r_lss; exact rfl; exact rfl; exact rfl; exact rfl; all_goals intro hc; all_goals try (exfalso; omega)) | (apply r_build1; exact rfl; exact rfl; exact rfl; exact rfl; exact rfl; (repeat first | exact trivial | refine ⟨rfl, ?_⟩); decide; decide; intro _) | refine JX.thenE ?_ | refine JC.exit ?_ | refine JC.condF rfl ?_ | refine JX.blockE ?_))
            rename_i b5
            refine r_appendN (A := (b5, .cells ⟨[nv j]⟩ 3) :: ([(b6, .cells #[nv m.p, nv m.r, nv m.c, .slice A (m.r * m.c) cap] 27), (b2, .cells #[iv 0, iv 0, iv 0, .slice none 0 0] 27), (b1, .cells #[nv m.p, nv m.r, nv m.c, E] 27)] ++ N)) (B := []) hM (hL _).rd (by (repeat' first | exact HSub.nil _ | exact HSub.hd | exact HSub.in0 | exact HSub.refl _ | refine HSub.skip ?_ | refine HSub.skipN ?_)) ?_ trivial rfl rfl rfl rfl (by omega) (fun vp' M' hM' => ?_)
            · simp
            (repeat' (first | refine JC.ops ?_ | refine JO.nil ?_ | refine JX.thenN ?_ | (apply r_move; exact rfl; exact rfl; exact rfl) | (apply r_assign; exact rfl; exact rfl; exact rfl) | (apply r_add1; exact rfl; exact rfl; exact rfl; exact rfl; omega) | refine JX.blockN ?_))
            refine JX.roundH (j + 1, N, M', vp') ⟨by dsimp only; omega, by dsimp only; rw [hnext]; exact hO, by dsimp only; rw [hnext, hlen2]; exact hM'⟩ (by dsimp only; omega) (by dsimp only; rw [hnext]; dsimp only; rw [hlen2]; exact (by repeat first | exact trivial | refine ⟨rfl, ?_⟩)) ?_
            dsimp only
            refine HSub.skip ?_
            exact ⟨[], by simp⟩
    · (repeat' (first | refine JC.seq ?_ | refine JC.ops ?_ | refine JO.nil ?_ | refine JX.thenN ?_ | (apply r_move; exact rfl; exact rfl; exact rfl) | (apply r_fieldAddr; exact rfl; exact rfl; exact rfl) | (apply r_assign; exact rfl; exact rfl; exact rfl) | (apply r_load; exact rfl; exact rfl; exact rfl; exact rfl; (first | exact at0 | exact at1 | exact at2 | exact at3 | exact at4 | exact at5 | exact at6 | exact at7); exact rfl) | (apply r_add1; exact rfl; exact rfl; exact rfl; exact rfl; omega) | (apply r_pickF; exact rfl; exact rfl; exact rfl; exact rfl) | (apply r_lss; exact rfl; exact rfl; exact rfl; exact rfl; all_goals intro hc; all_goals try (exfalso; omega)) | (apply r_eql; exact rfl; exact rfl; exact rfl; exact rfl; all_goals intro hc; all_goals try (exfalso; omega)) | refine JX.thenE ?_ | refine JC.exit ?_ | refine JC.condT rfl ?_ | refine JC.condF rfl ?_ | refine JX.blockE ?_ | (apply r_skip; exact rfl; exact rfl; (first | (intro h; cases h; done) | (intro _; rfl)))))
      have hnext := redTo_none (p := m.p) (r := m.r) (c := m.c) (j := j) (xs := m.e) (by rw [hs]; exact hk) (by rw [hs]; exact fun t a b => hz t a (by omega))
      rw [hs] at hnext
      exact JX.roundH (j + 1, N, M, vp) ⟨by dsimp only; omega, by dsimp only; rw [hnext]; exact hO, by dsimp only; rw [hnext]; exact hM⟩ (by dsimp only; omega) (by dsimp only; rw [hnext]; exact (by repeat first | exact trivial | refine ⟨rfl, ?_⟩)) (by (first | exact HSub.refl _ | (repeat' first | exact HSub.nil _ | exact HSub.refl _ | refine HSub.at 0 rfl ?_ | refine HSub.at 1 rfl ?_ | refine HSub.at 2 rfl ?_ | refine HSub.at 3 rfl ?_ | refine HSub.at 4 rfl ?_ | refine HSub.at 5 rfl ?_ | refine HSub.at 6 rfl ?_ | refine HSub.at 7 rfl ?_)))
  · have hend : redTo m.p m.r m.c m.e m.c = s := by
      by_cases h : j < m.c
      · have := redTo_full (p := m.p) (r := m.r) (c := m.c) (xs := m.e) (j := j) (by rw [hs]; omega) (m.c - j)
        rw [show j + (m.c - j) = m.c by omega, hs] at this
        exact this
      · have : j = m.c := by omega
        subst this; exact hs
    (repeat' (first | refine JC.seq ?_ | refine JC.ops ?_ | refine JO.nil ?_ | refine JX.thenN ?_ | (apply r_move; exact rfl; exact rfl; exact rfl) | (apply r_fieldAddr; exact rfl; exact rfl; exact rfl) | (apply r_assign; exact rfl; exact rfl; exact rfl) | (apply r_load; exact rfl; exact rfl; exact rfl; exact rfl; (first | exact at0 | exact at1 | exact at2 | exact at3 | exact at4 | exact at5 | exact at6 | exact at7); exact rfl) | (apply r_loadN; exact rfl; exact rfl; exact rfl; exact rfl; (first | exact at0 | exact at1 | exact at2 | exact at3 | exact at4 | exact at5 | exact at6 | exact at7); exact rfl) | (apply r_pickT; exact rfl; exact rfl; exact rfl; exact rfl) | (apply r_pickF; exact rfl; exact rfl; exact rfl; exact rfl) | (apply r_lss; exact rfl; exact rfl; exact rfl; exact rfl; all_goals intro hc; all_goals try (exfalso; omega)) | (apply r_storeN; exact rfl; (first | exact trivial | exact ⟨rfl, rfl⟩); exact rfl; exact rfl; (first | exact at0 | exact at1 | exact at2 | exact at3 | exact at4 | exact at5 | exact at6 | exact at7); exact rfl; exact rfl; exact rfl) | refine JX.thenE ?_ | refine JC.exit ?_ | refine JC.ret ?_ | refine JC.condF rfl ?_ | refine JX.blockE ?_ | (apply r_skip; exact rfl; exact rfl; (first | (intro h; cases h; done) | (intro _; rfl)))))
    all_goals refine JX.retCT 1 rfl rfl rfl rfl (fun a w' st => ⟨st.kp, N, M, _, _, rfl, st.newOf rfl ?_, ?_, ?_⟩)
    all_goals first
      | exact HSub.skip (HSub.skip (HSub.skip (by rw [List.append_nil]; exact HSub.refl _)))
      | (unfold echM; rw [hend]; exact OwnM.mk' hO)
      | (unfold pivM; rw [hend]; exact hM)

end Go.Proofs.Ytdoogoglfbohaaa
