/- Walks of field: row reduction of a matrix that is not empty. -/
import Derived.Test.YtdoogoglfbohaaaFldW3
namespace Go.Proofs.Ytdoogoglfbohaaa
open Go Go.RowKit
set_option linter.unusedSimpArgs false
set_option linter.unusedVariables false
set_option linter.unusedSectionVars false

theorem hs_at {H : SHeap} {w : World} {b : Nat} {o : Obj} (h : Hsat H w) (k : Nat) (hk : H[k]? = some (b, o)) : w.heap[b]? = some o := h.blk (b, o) (List.mem_of_getElem? hk)
theorem hs_ne {H : SHeap} {w : World} {b b' : Nat} {o o' : Obj} (h : Hsat H w) (k k' : Nat) (hk : H[k]? = some (b, o)) (hk' : H[k']? = some (b', o')) (hne : k ≠ k') : b ≠ b' := by
  intro e
  subst e
  have e1 : (H.map (·.1))[k]? = some b := by simp [hk]
  have e2 : (H.map (·.1))[k']? = some b := by simp [hk']
  have hl := (List.getElem?_eq_some_iff.1 e1).1
  exact hne ((List.getElem?_inj hl h.nd).1 (e1.trans e2.symm))

set_option maxHeartbeats 16000000 in
theorem c_reduce1 (w : World) (v : Value) (m : NM) (hm : Big m) (h0 : 0 < m.r * m.c) (hv : IsM w v m) :
    Calls Try.prog 45 #[v] w (Ret fun v w' => Kp [] w w' ∧ GivesML (echM m) (pivM m) w v w') := by
  obtain ⟨E, rfl, hE⟩ := hv
  have hl := hm.len
  have hbr := hm.r
  have hbc := hm.c
  haveI := hm.pr.nz
  have hp := hm.pr
  have hp9 := hp.2.1
  have hpos : 0 < m.p := by have := hp.1; omega
  have hn1 : m.r * m.c ≤ 320000 := Nat.mul_le_mul hbr hbc
  have hc0 : 0 < m.c := Nat.pos_of_ne_zero fun e => by rw [e, Nat.mul_zero] at h0; omega
  rw [hl] at hE
  refine calls_of_S [⟨13, 0, [0, 1, 3, 4, 5, 7, 11, 12, 2, 6, 8, 9, 10, 13, 14, 15], [(9, .seq)]⟩, ⟨19, 0, [0, 1, 3, 4, 6, 7, 8, 9, 10, 11, 2, 5, 12, 13, 14], []⟩] [] (by simp) [] Try.func45 rfl mixed (by kernel_rfl) Try.ntmps45 Try.results45 rfl ⟨by simp, by simp⟩ (by simp) ?_
  simp only [toS, textOps, toSOp, kindAt, kindOf, odAt, sopsAt, ordOf, zipF]
  (repeat' (first | refine JC.seq ?_ | refine JC.ops ?_ | refine JO.nil ?_ | refine JX.thenN ?_ | (apply r_fieldAddr; exact rfl; exact rfl; exact rfl) | (apply r_assign; exact rfl; exact rfl; exact rfl) | (apply r_load; exact rfl; exact rfl; exact rfl; exact rfl; (first | exact at0 | exact at1 | exact at2 | exact at3 | exact at4 | exact at5 | exact at6 | exact at7); exact rfl) | (apply r_allocZ; exact rfl; exact rfl; exact rfl; intro _) | (apply r_boxA; exact rfl; exact rfl; exact rfl; exact rfl; intro _) | refine JC.scope ?_))
  rename_i b1 b2
  refine r_callA (A := [_, _]) (B := []) rfl trivial rfl rfl rfl (fun w hk _ => c_Clone w _ _ _ (hE.mono hk) (by omega)) fun w v w' _ _ _ hR => ?_
  obtain ⟨N, hN, hO⟩ := hR
  obtain ⟨bE, cap, rest, rfl, rfl, hcap, hrest, hcapm⟩ := hO.named h0
  refine ⟨_, hN, ?_⟩
  (repeat' (first | refine JC.seq ?_ | refine JC.ops ?_ | refine JO.nil ?_ | refine JX.thenN ?_ | (apply r_fieldAddr; exact rfl; exact rfl; exact rfl) | (apply r_loadN; exact rfl; exact rfl; exact rfl; exact rfl; (first | exact at0 | exact at1 | exact at2 | exact at3 | exact at4 | exact at5 | exact at6 | exact at7); exact rfl) | (apply r_store; exact rfl; (first | exact trivial | exact ⟨rfl, rfl⟩); exact rfl; exact rfl; (first | exact at0 | exact at1 | exact at2 | exact at3 | exact at4 | exact at5 | exact at6 | exact at7); exact rfl; exact rfl; (first | exact Nat.le_of_ble_eq_true rfl | (simp; done) | omega))))
  refine r_build (cs := rdC m.p m.r m.c (.slice (some ⟨bE, 0, none⟩) (m.r * m.c) cap) (List.replicate 998 0)) rfl rfl rfl ?_ ?_
  · rw [rdC, List.map_replicate]
    exact fill_rd _ _ _ _ _ _ _ _ _ List.length_replicate
  (repeat' (first | refine JC.seq ?_ | refine JC.ops ?_ | refine JO.nil ?_ | refine JX.thenN ?_ | (apply r_assign; exact rfl; exact rfl; exact rfl) | (apply r_boxA; exact rfl; exact rfl; exact rfl; exact rfl; intro _)))
  refine JC.label ?_
  (repeat' (first | refine JC.seq ?_ | refine JC.ops ?_ | refine JO.nil ?_ | refine JX.thenN ?_ | (apply r_move; exact rfl; exact rfl; exact rfl) | (apply r_fieldAddr; exact rfl; exact rfl; exact rfl) | (apply r_load; exact rfl; exact rfl; exact rfl; exact rfl; (first | exact at0 | exact at1 | exact at2 | exact at3 | exact at4 | exact at5 | exact at6 | exact at7); exact rfl) | refine JC.block ?_))
  rename_i bm
  refine JC.loopH (ι := Nat × SHeap × Value × List Nat) ⟨fun z => [(20, nv z.1), (19, nv m.c), (1, .pointer (some ⟨b1, 0, none⟩)), (2, .pointer (some ⟨b2, 0, none⟩)), (4, .pointer (some ⟨bm, 0, none⟩)), (5, z.2.2.1)],
    fun z => [(bm, .cells (rdC m.p m.r m.c (.slice (some ⟨bE, 0, none⟩) (m.r * m.c) cap) z.2.2.2) 63), (b2, .cells #[iv 0, iv 0, iv 0, .slice none 0 0] 27), (b1, .cells #[nv m.p, nv m.r, nv m.c, .slice (some ⟨bE, 0, none⟩) (m.r * m.c) cap] 27), (bE, .cells (rowC (tab2 m.r m.c (ent m.c (redTo m.p m.r m.c m.e z.1).1)) rest) 3 (0, 0))] ++ (z.2.1 ++ []),
    fun z => z.1 ≤ m.c ∧ OwnN z.2.1 z.2.2.1 (redTo m.p m.r m.c m.e z.1).2.length (redTo m.p m.r m.c m.e z.1).2 ∧ Ovs m.p z.2.2.2, fun z => m.c - z.1⟩ (0, [], .slice none 0 0, List.replicate 998 0) ⟨by dsimp only; omega, OwnN.nil, Ovs.zero _⟩ (by repeat first | exact trivial | refine ⟨rfl, ?_⟩) (by dsimp only [redTo]; rw [tab2_of hl]; exact (by (first | exact HSub.refl _ | (repeat' first | exact HSub.nil _ | exact HSub.refl _ | refine HSub.at 0 rfl ?_ | refine HSub.at 1 rfl ?_ | refine HSub.at 2 rfl ?_ | refine HSub.at 3 rfl ?_ | refine HSub.at 4 rfl ?_ | refine HSub.at 5 rfl ?_ | refine HSub.at 6 rfl ?_ | refine HSub.at 7 rfl ?_)))) (fun z hz => ?_)
  obtain ⟨j, M, vp, ov⟩ := z
  obtain ⟨hj, hM, hov⟩ := hz
  dsimp only at hj hM hov ⊢
  by_cases hjc : j < m.c
  · have hok := redTo_ok hp hm.els j (by omega)
    have hk := hok.red.kr
    generalize hs : redTo m.p m.r m.c m.e j = s at *
    have hk8 : s.2.length ≤ 400 := by omega
    (repeat' (first | refine JC.seq ?_ | refine JC.ops ?_ | refine JO.nil ?_ | refine JX.thenN ?_ | (apply r_move; exact rfl; exact rfl; exact rfl) | (apply r_assign; exact rfl; exact rfl; exact rfl) | (apply r_lenN; exact rfl; exact rfl; exact rfl; (first | assumption | exact WN.rd (by assumption) rfl [] | exact OwnN.rd (by assumption))) | (apply r_lss; exact rfl; exact rfl; exact rfl; exact rfl; all_goals intro hc; all_goals try (exfalso; omega)) | refine JC.skip ?_ | refine JC.condT rfl ?_ | refine JC.block ?_))
    refine JC.loopH (ι := Nat) ⟨fun i => [(8, nv i), (7, nv s.2.length), (6, nv j), (20, nv j), (19, nv m.c), (1, .pointer (some ⟨b1, 0, none⟩)), (2, .pointer (some ⟨b2, 0, none⟩)), (4, .pointer (some ⟨bm, 0, none⟩)), (5, vp)],
      fun _ => [(bm, .cells (rdC m.p m.r m.c (.slice (some ⟨bE, 0, none⟩) (m.r * m.c) cap) ov) 63), (b2, .cells #[iv 0, iv 0, iv 0, .slice none 0 0] 27), (b1, .cells #[nv m.p, nv m.r, nv m.c, .slice (some ⟨bE, 0, none⟩) (m.r * m.c) cap] 27), (bE, .cells (rowC (tab2 m.r m.c (ent m.c s.1)) rest) 3 (0, 0))] ++ (M ++ []),
      fun i => s.2.length ≤ i ∧ i ≤ m.r ∧ ∀ t, s.2.length ≤ t → t < i → ent m.c s.1 t j = 0, fun i => m.r - i⟩ s.2.length ⟨Nat.le_refl _, hk, fun t a b => by omega⟩ (by repeat first | exact trivial | refine ⟨rfl, ?_⟩) (by (first | exact HSub.refl _ | (repeat' first | exact HSub.nil _ | exact HSub.refl _ | refine HSub.at 0 rfl ?_ | refine HSub.at 1 rfl ?_ | refine HSub.at 2 rfl ?_ | refine HSub.at 3 rfl ?_ | refine HSub.at 4 rfl ?_ | refine HSub.at 5 rfl ?_ | refine HSub.at 6 rfl ?_ | refine HSub.at 7 rfl ?_))) (fun i hi => ?_)
    obtain ⟨hki, hir, hz⟩ := hi
    dsimp only
    by_cases hi : i < m.r
    · have hrow := row_le (c := m.c) hi
      have hij := idx_lt hi hjc
      have htl : (tab2 m.r m.c (ent m.c s.1)).length = m.r * m.c := tab2_len _ _ _
      (repeat' (first | refine JC.seq ?_ | refine JC.ops ?_ | refine JO.nil ?_ | refine JX.thenN ?_ | (apply r_move; exact rfl; exact rfl; exact rfl) | (apply r_fieldAddr; exact rfl; exact rfl; exact rfl) | (apply r_load; exact rfl; exact rfl; exact rfl; exact rfl; (first | exact at0 | exact at1 | exact at2 | exact at3 | exact at4 | exact at5 | exact at6 | exact at7); exact rfl) | (apply r_lss; exact rfl; exact rfl; exact rfl; exact rfl; all_goals intro hc; all_goals try (exfalso; omega)) | refine JC.skip ?_ | refine JC.condT rfl ?_ | refine JC.block ?_))
      refine r_call0 trivial rfl rfl rfl (fun w _ hs => c_row w bm i m.p m.r m.c bE _ cap ov (hs_at hs 0 rfl) hrow hc0 hcap (by omega)) fun w v w' _ _ _ hv => ?_
      subst hv
      (repeat' (first | refine JC.seq ?_ | refine JC.ops ?_ | refine JO.nil ?_ | refine JX.thenN ?_ | (apply r_move; exact rfl; exact rfl; exact rfl) | (apply r_assign; exact rfl; exact rfl; exact rfl) | (apply r_idxB; exact rfl; exact rfl; exact rfl; exact rfl; omega) | (apply r_ldB; exact rfl; exact rfl; exact rfl; exact rfl; (first | exact at0 | exact at1 | exact at2 | exact at3 | exact at4 | exact at5 | exact at6 | exact at7); omega) | (apply r_add1; exact rfl; exact rfl; exact rfl; exact rfl; omega) | (apply r_eql; exact rfl; exact rfl; exact rfl; exact rfl; all_goals intro hc; all_goals try (exfalso; omega)) | refine JX.thenE ?_ | refine JC.skip ?_ | refine JC.exit ?_ | refine JC.condT rfl ?_ | refine JC.condF rfl ?_ | refine JX.blockE ?_))
      · refine JX.roundH (i + 1) ⟨by omega, by omega, fun t a b => ?_⟩ (by dsimp only; omega) (by repeat first | exact trivial | refine ⟨rfl, ?_⟩) (by (first | exact HSub.refl _ | (repeat' first | exact HSub.nil _ | exact HSub.refl _ | refine HSub.at 0 rfl ?_ | refine HSub.at 1 rfl ?_ | refine HSub.at 2 rfl ?_ | refine HSub.at 3 rfl ?_ | refine HSub.at 4 rfl ?_ | refine HSub.at 5 rfl ?_ | refine HSub.at 6 rfl ?_ | refine HSub.at 7 rfl ?_)))
        by_cases e : t = i
        · subst e; rw [tab2_get hi hjc] at hc; omega
        · exact hz t a (by omega)
      · rw [tab2_get hi hjc] at hc
        have hne : ent m.c s.1 i j ≠ 0 := by omega
        have hlt : ∀ a b, ent m.c s.1 a b < m.p := hok.els.ent hpos
        have har : s.2.length < m.r := by omega
        have harow := row_le (c := m.c) har
        have hinv := invN_lt (n := ent m.c s.1 i j) hp
        have hnext := redTo_some (p := m.p) (r := m.r) (c := m.c) (j := j) (i := i) (xs := m.e) (by rw [hs]; exact hki) hi (by rw [hs]; exact hz) (by rw [hs]; exact hne)
        rw [hs] at hnext
        refine r_callO (A := [_, _, _]) (N := [_]) (B := M ++ []) rfl trivial rfl rfl rfl (fun w _ hs => c_swap w bm s.2.length i m.p m.r m.c bE _ cap ov (ent m.c s.1) rest (hs_at hs 0 rfl) (hs_ne hs 0 3 rfl rfl (by omega)) (hs_at hs 3 rfl) har hi hc0 rfl hcap (by omega)) fun w v w' _ _ _ hv => ?_
        refine ⟨[(bE, .cells (rowC (tab2 m.r m.c (swG s.2.length i (ent m.c s.1))) rest) 3 (0, 0))], rfl, fun q hq => by cases List.mem_singleton.1 hq; exact hv, ?_⟩
        (repeat' (first | refine JC.seq ?_ | refine JO.nil ?_ | refine JX.thenN ?_))
        refine JC.opsDs [(b1, .cells #[nv m.p, nv m.r, nv m.c, .slice (some ⟨bE, 0, none⟩) (m.r * m.c) cap] 27)] (by (first | exact HSub.refl _ | (repeat' first | exact HSub.nil _ | exact HSub.refl _ | refine HSub.at 0 rfl ?_ | refine HSub.at 1 rfl ?_ | refine HSub.at 2 rfl ?_ | refine HSub.at 3 rfl ?_ | refine HSub.at 4 rfl ?_ | refine HSub.at 5 rfl ?_ | refine HSub.at 6 rfl ?_ | refine HSub.at 7 rfl ?_))) ?_
        (repeat' (first | (apply r_move; exact rfl; exact rfl; exact rfl) | (apply r_fieldAddr; exact rfl; exact rfl; exact rfl) | (apply r_load; exact rfl; exact rfl; exact rfl; exact rfl; (first | exact at0 | exact at1 | exact at2 | exact at3 | exact at4 | exact at5 | exact at6 | exact at7); exact rfl)))
        refine r_call0 trivial rfl rfl rfl (fun w _ hs => c_row w bm s.2.length m.p m.r m.c bE _ cap ov (hs_at hs 0 rfl) harow hc0 hcap (by omega)) fun w v w' _ _ _ hv => ?_
        subst hv
        skip
        refine r_call0 trivial rfl rfl rfl (fun w _ hs => c_row w bm s.2.length m.p m.r m.c bE _ cap ov (hs_at hs 0 rfl) harow hc0 hcap (by omega)) fun w v w' _ _ _ hv => ?_
        subst hv
        have haj := idx_lt har hjc
        have htl2 : (tab2 m.r m.c (swG s.2.length i (ent m.c s.1))).length = m.r * m.c := tab2_len _ _ _
        (repeat' (first | (apply r_idxB; exact rfl; exact rfl; exact rfl; exact rfl; omega) | (apply r_ldBSeq; exact trivial; exact rfl; exact rfl; exact rfl; (first | exact at0 | exact at1 | exact at2 | exact at3 | exact at4 | exact at5 | exact at6 | exact at7); omega)))
        have e1 : (tab2 m.r m.c (swG s.2.length i (ent m.c s.1))).getD (s.2.length * m.c + j) 0 = ent m.c s.1 i j := by rw [tab2_get har hjc]; simp [swG]
        rw [e1]
        refine r_callOL (A := []) (N := [(bm, .cells (rdC m.p m.r m.c (.slice (some ⟨bE, 0, none⟩) (m.r * m.c) cap) ov) 63 (0, 0))]) (B := [_, _, _] ++ (M ++ [])) rfl (by (first | exact HSub.refl _ | (repeat' first | exact HSub.nil _ | exact HSub.refl _ | refine HSub.at 0 rfl ?_ | refine HSub.at 1 rfl ?_ | refine HSub.at 2 rfl ?_ | refine HSub.at 3 rfl ?_ | refine HSub.at 4 rfl ?_ | refine HSub.at 5 rfl ?_ | refine HSub.at 6 rfl ?_ | refine HSub.at 7 rfl ?_))) rfl rfl rfl (fun w _ hs => c_invert w bm (ent m.c s.1 i j) m.p m.r m.c _ ov (hs_at hs 0 rfl) hov hp (by omega) (hlt i j)) fun w v w' _ _ _ hR => ?_
        obtain ⟨rfl, ov', hov', hR'⟩ := hR
        refine ⟨[(bm, .cells (rdC m.p m.r m.c (.slice (some ⟨bE, 0, none⟩) (m.r * m.c) cap) ov') 63 (0, 0))], rfl, fun q hq => by cases List.mem_singleton.1 hq; exact hR', ?_⟩
        (repeat' (first | (apply r_buildL; exact rfl; exact rfl; exact rfl; exact rfl; exact rfl) | (apply r_makeFunc; exact rfl; exact rfl; exact rfl; exact rfl)))
        refine r_callOL (A := [_, _, _]) (N := [_]) (B := M ++ []) rfl (by (first | exact HSub.refl _ | (repeat' first | exact HSub.nil _ | exact HSub.refl _ | refine HSub.at 0 rfl ?_ | refine HSub.at 1 rfl ?_ | refine HSub.at 2 rfl ?_ | refine HSub.at 3 rfl ?_ | refine HSub.at 4 rfl ?_ | refine HSub.at 5 rfl ?_ | refine HSub.at 6 rfl ?_ | refine HSub.at 7 rfl ?_))) rfl rfl rfl (fun w _ hs => c_each (f := 67) (fst := #[.agg #[.slice none 0 0, nv (invN m.p (ent m.c s.1 i j)), nv m.p]]) (cap' := #[]) w s.2.length m.r m.c bE _ (swG s.2.length i (ent m.c s.1)) (fun _ x => x * invN m.p (ent m.c s.1 i j) % m.p) rest (hs_at hs 3 rfl) har (by omega)
          (fun w' k _ _ _ => c_scale w' _ _ _ k _ (by simp only [swG, if_true]; exact hlt i k) hinv hp9)) fun w v w' _ _ _ hv => ?_
        refine ⟨[(bE, .cells (rowC (tab2 m.r m.c (eaG s.2.length (fun _ x => x * invN m.p (ent m.c s.1 i j) % m.p) (swG s.2.length i (ent m.c s.1)))) rest) 3 (0, 0))], rfl, fun q hq => by cases List.mem_singleton.1 hq; exact hv, ?_⟩
        (repeat' (first | refine JC.seq ?_ | refine JC.ops ?_ | refine JO.nil ?_ | refine JX.thenN ?_ | (apply r_move; exact rfl; exact rfl; exact rfl) | (apply r_fieldAddr; exact rfl; exact rfl; exact rfl) | (apply r_load; exact rfl; exact rfl; exact rfl; exact rfl; (first | exact at0 | exact at1 | exact at2 | exact at3 | exact at4 | exact at5 | exact at6 | exact at7); exact rfl) | refine JC.block ?_))
        generalize hg1 : eaG s.2.length (fun _ x => x * invN m.p (ent m.c s.1 i j) % m.p) (swG s.2.length i (ent m.c s.1)) = g1
        have hg1lt : ∀ a b, g1 a b < m.p := fun a b => by
          rw [← hg1]
          unfold eaG swG
          repeat' split
          all_goals first | exact hlt _ _ | exact Nat.mod_lt _ hpos
        refine JC.loopH (ι := Nat) ⟨fun k => [(61, nv k), (60, nv m.r), (6, nv j), (7, nv s.2.length), (20, nv j), (19, nv m.c), (1, .pointer (some ⟨b1, 0, none⟩)), (2, .pointer (some ⟨b2, 0, none⟩)), (4, .pointer (some ⟨bm, 0, none⟩)), (5, vp)],
          fun k => [(bm, .cells (rdC m.p m.r m.c (.slice (some ⟨bE, 0, none⟩) (m.r * m.c) cap) ov') 63), (b2, .cells #[iv 0, iv 0, iv 0, .slice none 0 0] 27), (b1, .cells #[nv m.p, nv m.r, nv m.c, .slice (some ⟨bE, 0, none⟩) (m.r * m.c) cap] 27), (bE, .cells (rowC (tab2 m.r m.c (elS m.p s.2.length j k g1)) rest) 3 (0, 0))] ++ (M ++ []),
          fun k => k ≤ m.r, fun k => m.r - k⟩ 0 (by dsimp only; omega) (by repeat first | exact trivial | refine ⟨rfl, ?_⟩) (by dsimp only; rw [show elS m.p s.2.length j 0 g1 = g1 by funext a b; simp [elS]]; exact (by (first | exact HSub.refl _ | (repeat' first | exact HSub.nil _ | exact HSub.refl _ | refine HSub.at 0 rfl ?_ | refine HSub.at 1 rfl ?_ | refine HSub.at 2 rfl ?_ | refine HSub.at 3 rfl ?_ | refine HSub.at 4 rfl ?_ | refine HSub.at 5 rfl ?_ | refine HSub.at 6 rfl ?_ | refine HSub.at 7 rfl ?_)))) (fun k hkr => ?_)
        dsimp only at hkr ⊢
        by_cases hkr1 : k < m.r
        · have hkrow := row_le (c := m.c) hkr1
          have hkj := idx_lt hkr1 hjc
          have htl3 : (tab2 m.r m.c (elS m.p s.2.length j k g1)).length = m.r * m.c := tab2_len _ _ _
          have e2 : (tab2 m.r m.c (elS m.p s.2.length j k g1)).getD (k * m.c + j) 0 = g1 k j := by rw [tab2_get hkr1 hjc, elS_k]
          have hgk := hg1lt k j
          (repeat' (first | refine JC.seq ?_ | refine JC.ops ?_ | refine JO.nil ?_ | refine JX.thenN ?_ | (apply r_move; exact rfl; exact rfl; exact rfl) | (apply r_assign; exact rfl; exact rfl; exact rfl) | (apply r_lss; exact rfl; exact rfl; exact rfl; exact rfl; all_goals intro hc; all_goals try (exfalso; omega)) | refine JC.skip ?_ | refine JC.condT rfl ?_ | refine JC.block ?_))
          refine r_call0 trivial rfl rfl rfl (fun w _ hs => c_row w bm k m.p m.r m.c bE _ cap ov' (hs_at hs 0 rfl) hkrow hc0 hcap (by omega)) fun w v w' _ _ _ hv => ?_
          subst hv
          (repeat' (first | refine JC.seq ?_ | refine JC.ops ?_ | refine JO.nil ?_ | refine JX.thenN ?_ | (apply r_move; exact rfl; exact rfl; exact rfl) | (apply r_assign; exact rfl; exact rfl; exact rfl) | (apply r_idxB; exact rfl; exact rfl; exact rfl; exact rfl; omega) | (apply r_ldB; exact rfl; exact rfl; exact rfl; exact rfl; (first | exact at0 | exact at1 | exact at2 | exact at3 | exact at4 | exact at5 | exact at6 | exact at7); omega) | (apply r_add1; exact rfl; exact rfl; exact rfl; exact rfl; omega) | (apply r_pickT; exact rfl; exact rfl; exact rfl; exact rfl) | (apply r_pickF; exact rfl; exact rfl; exact rfl; exact rfl) | (apply r_gtr; exact rfl; exact rfl; exact rfl; exact rfl; all_goals intro hc; all_goals try (exfalso; omega)) | (apply r_neq; exact rfl; exact rfl; exact rfl; exact rfl; all_goals intro hc; all_goals try (exfalso; omega)) | refine JC.skip ?_ | refine JC.condT rfl ?_ | refine JC.condF rfl ?_ | refine JX.blockN ?_ | (apply r_skip; exact rfl; exact rfl; (first | (intro h; cases h; done) | (intro _; rfl)))))
          · rw [e2] at hc ⊢
            refine JC.opsDs [(b1, .cells #[nv m.p, nv m.r, nv m.c, .slice (some ⟨bE, 0, none⟩) (m.r * m.c) cap] 27)] (by (first | exact HSub.refl _ | (repeat' first | exact HSub.nil _ | exact HSub.refl _ | refine HSub.at 0 rfl ?_ | refine HSub.at 1 rfl ?_ | refine HSub.at 2 rfl ?_ | refine HSub.at 3 rfl ?_ | refine HSub.at 4 rfl ?_ | refine HSub.at 5 rfl ?_ | refine HSub.at 6 rfl ?_ | refine HSub.at 7 rfl ?_))) ?_
            (repeat' (first | (apply r_move; exact rfl; exact rfl; exact rfl) | (apply r_fieldAddr; exact rfl; exact rfl; exact rfl) | (apply r_load; exact rfl; exact rfl; exact rfl; exact rfl; (first | exact at0 | exact at1 | exact at2 | exact at3 | exact at4 | exact at5 | exact at6 | exact at7); exact rfl) | (apply r_subN; exact rfl; exact rfl; exact rfl; exact rfl; omega)))
            refine r_call0 trivial rfl rfl rfl (fun w _ hs => c_row w bm k m.p m.r m.c bE _ cap ov' (hs_at hs 0 rfl) hkrow hc0 hcap (by omega)) fun w v w' _ _ _ hv => ?_
            subst hv
            skip
            refine r_call0 trivial rfl rfl rfl (fun w _ hs => c_row w bm s.2.length m.p m.r m.c bE _ cap ov' (hs_at hs 0 rfl) harow hc0 hcap (by omega)) fun w v w' _ _ _ hv => ?_
            subst hv
            (repeat' (first | (apply r_buildL; exact rfl; exact rfl; exact rfl; exact rfl; exact rfl) | (apply r_makeFunc; exact rfl; exact rfl; exact rfl; exact rfl)))
            refine r_callOL (A := [_, _, _]) (N := [(bE, .cells (rowC (tab2 m.r m.c (elS m.p s.2.length j k g1)) rest) 3 (0, 0))]) (B := M ++ []) rfl (by (first | exact HSub.refl _ | (repeat' first | exact HSub.nil _ | exact HSub.refl _ | refine HSub.at 0 rfl ?_ | refine HSub.at 1 rfl ?_ | refine HSub.at 2 rfl ?_ | refine HSub.at 3 rfl ?_ | refine HSub.at 4 rfl ?_ | refine HSub.at 5 rfl ?_ | refine HSub.at 6 rfl ?_ | refine HSub.at 7 rfl ?_))) rfl rfl rfl (fun w _ hs => c_each (f := 68) (fst := #[.agg #[.slice (some ⟨bE, s.2.length * m.c, none⟩) m.c (cap - s.2.length * m.c), nv (m.p - g1 k j), nv m.p]]) (cap' := #[]) w k m.r m.c bE _ (elS m.p s.2.length j k g1) (fun b x => (x + g1 s.2.length b * (m.p - g1 k j)) % m.p) rest (hs_at hs 3 rfl) hkr1 (by omega)
              (fun w' b hb _ hE' => by
                have hbl := idx_lt har hb
                have e3 : (tab2 m.r m.c (eaS k b (fun b x => (x + g1 s.2.length b * (m.p - g1 k j)) % m.p) (elS m.p s.2.length j k g1))).getD (s.2.length * m.c + b) 0 = g1 s.2.length b := by
                  rw [tab2_get har hb]; unfold eaS eaG; rw [if_neg (by omega), elS_at]
                have := c_add w' (elS m.p s.2.length j k g1 k b) (m.p - g1 k j) m.p b (s.2.length * m.c) m.c (cap - s.2.length * m.c) bE _ _ _ _ hE' hb (by rw [tab2_len]; exact hbl) (by rw [elS_k]; exact hg1lt k b) (by rw [e3]; exact hg1lt _ b) (by omega) hp9
                rw [e3] at this
                exact this)) fun w v w' _ _ _ hv => ?_
            refine ⟨[(bE, .cells (rowC (tab2 m.r m.c (eaG k (fun b x => (x + g1 s.2.length b * (m.p - g1 k j)) % m.p) (elS m.p s.2.length j k g1))) rest) 3 (0, 0))], rfl, fun q hq => by cases List.mem_singleton.1 hq; exact hv, ?_⟩
            rw [elS_step (by omega)]
            (repeat' (first | refine JC.ops ?_ | refine JO.nil ?_ | refine JX.thenN ?_ | (apply r_move; exact rfl; exact rfl; exact rfl) | (apply r_add1; exact rfl; exact rfl; exact rfl; exact rfl; omega) | refine JX.blockN ?_))
            exact JX.roundH (k + 1) (by dsimp only; omega) (by dsimp only; omega) (by repeat first | exact trivial | refine ⟨rfl, ?_⟩) (by (first | exact HSub.refl _ | (repeat' first | exact HSub.nil _ | exact HSub.refl _ | refine HSub.at 0 rfl ?_ | refine HSub.at 1 rfl ?_ | refine HSub.at 2 rfl ?_ | refine HSub.at 3 rfl ?_ | refine HSub.at 4 rfl ?_ | refine HSub.at 5 rfl ?_ | refine HSub.at 6 rfl ?_ | refine HSub.at 7 rfl ?_)))
          · skip
            rw [e2] at hc
            rw [elS_skip hg1lt (.inr (by omega))]
            exact JX.roundH (k + 1) (by dsimp only; omega) (by dsimp only; omega) (by repeat first | exact trivial | refine ⟨rfl, ?_⟩) (by (first | exact HSub.refl _ | (repeat' first | exact HSub.nil _ | exact HSub.refl _ | refine HSub.at 0 rfl ?_ | refine HSub.at 1 rfl ?_ | refine HSub.at 2 rfl ?_ | refine HSub.at 3 rfl ?_ | refine HSub.at 4 rfl ?_ | refine HSub.at 5 rfl ?_ | refine HSub.at 6 rfl ?_ | refine HSub.at 7 rfl ?_)))
          · skip
            rw [elS_skip hg1lt (.inl (by omega))]
            exact JX.roundH (k + 1) (by dsimp only; omega) (by dsimp only; omega) (by repeat first | exact trivial | refine ⟨rfl, ?_⟩) (by (first | exact HSub.refl _ | (repeat' first | exact HSub.nil _ | exact HSub.refl _ | refine HSub.at 0 rfl ?_ | refine HSub.at 1 rfl ?_ | refine HSub.at 2 rfl ?_ | refine HSub.at 3 rfl ?_ | refine HSub.at 4 rfl ?_ | refine HSub.at 5 rfl ?_ | refine HSub.at 6 rfl ?_ | refine HSub.at 7 rfl ?_)))
        · (repeat' (first | refine JC.seq ?_ | refine JC.ops ?_ | refine JO.nil ?_ | refine JX.thenN ?_ | (apply r_move; exact rfl; exact rfl; exact rfl) | (apply r_lss; exact rfl; exact rfl; exact rfl; exact rfl; all_goals intro hc; all_goals try (exfalso; omega)) | (apply r_build1; exact rfl; exact rfl; exact rfl; exact rfl; exact rfl; (repeat first | exact trivial | refine ⟨rfl, ?_⟩); decide; decide; intro _) | refine JX.thenE ?_ | refine JC.exit ?_ | refine JC.condF rfl ?_ | refine JX.blockE ?_))
          subst hg1
          rw [elS_end (by omega) hi]
          have hlen2 : (s.2 ++ [j]).length = s.2.length + 1 := by simp
          have hL : ∀ b5 : Nat, OwnN [(b5, .cells ⟨[nv j]⟩ 3)] (.slice (some ⟨b5, 0, none⟩) 1 1) 1 [j] := fun b5 => own_lit b5 1 [j] _ rfl rfl (by omega)
          refine r_appendN (A := [_, _, _, _, _]) hM (hL _).rd (by (repeat' first | exact HSub.nil _ | exact HSub.hd | exact HSub.in0 | exact HSub.refl _ | refine HSub.skip ?_ | refine HSub.skipN ?_)) rfl trivial rfl rfl rfl rfl (by omega) (fun vp' M' hM' => ?_)
          (repeat' (first | refine JC.ops ?_ | refine JO.nil ?_ | refine JX.thenN ?_ | (apply r_move; exact rfl; exact rfl; exact rfl) | (apply r_assign; exact rfl; exact rfl; exact rfl) | (apply r_add1; exact rfl; exact rfl; exact rfl; exact rfl; omega) | refine JX.thenE ?_ | refine JC.exit ?_ | refine JX.blockE ?_ | refine JX.blockO rfl ?_))
          refine JX.roundH (j + 1, M', vp', ov') ⟨by dsimp only; omega, by dsimp only; rw [hnext, hlen2]; exact hM', hov'⟩ (by dsimp only; omega) (by repeat first | exact trivial | refine ⟨rfl, ?_⟩) (by dsimp only; rw [hnext, tab2_of (tab2_len _ _ _)]; exact HSub.skip (by (first | exact HSub.refl _ | (repeat' first | exact HSub.nil _ | exact HSub.refl _ | refine HSub.at 0 rfl ?_ | refine HSub.at 1 rfl ?_ | refine HSub.at 2 rfl ?_ | refine HSub.at 3 rfl ?_ | refine HSub.at 4 rfl ?_ | refine HSub.at 5 rfl ?_ | refine HSub.at 6 rfl ?_ | refine HSub.at 7 rfl ?_))))
    · (repeat' (first | refine JC.seq ?_ | refine JC.ops ?_ | refine JO.nil ?_ | refine JX.thenN ?_ | (apply r_move; exact rfl; exact rfl; exact rfl) | (apply r_fieldAddr; exact rfl; exact rfl; exact rfl) | (apply r_load; exact rfl; exact rfl; exact rfl; exact rfl; (first | exact at0 | exact at1 | exact at2 | exact at3 | exact at4 | exact at5 | exact at6 | exact at7); exact rfl) | (apply r_add1; exact rfl; exact rfl; exact rfl; exact rfl; omega) | (apply r_lss; exact rfl; exact rfl; exact rfl; exact rfl; all_goals intro hc; all_goals try (exfalso; omega)) | refine JX.thenE ?_ | refine JC.exit ?_ | refine JC.condF rfl ?_ | refine JX.blockN ?_ | refine JX.blockE ?_))
      have hnext := redTo_none (p := m.p) (r := m.r) (c := m.c) (j := j) (xs := m.e) (by rw [hs]; exact hk) (by rw [hs]; exact fun t a b => hz t a (by omega))
      rw [hs] at hnext
      refine JX.roundH (j + 1, M, vp, ov) ⟨by dsimp only; omega, by dsimp only; rw [hnext]; exact hM, hov⟩ (by dsimp only; omega) (by repeat first | exact trivial | refine ⟨rfl, ?_⟩) (by dsimp only; rw [hnext]; exact (by (first | exact HSub.refl _ | (repeat' first | exact HSub.nil _ | exact HSub.refl _ | refine HSub.at 0 rfl ?_ | refine HSub.at 1 rfl ?_ | refine HSub.at 2 rfl ?_ | refine HSub.at 3 rfl ?_ | refine HSub.at 4 rfl ?_ | refine HSub.at 5 rfl ?_ | refine HSub.at 6 rfl ?_ | refine HSub.at 7 rfl ?_))))
  · (repeat' (first | refine JC.seq ?_ | refine JC.ops ?_ | refine JO.nil ?_ | refine JX.thenN ?_ | (apply r_move; exact rfl; exact rfl; exact rfl) | (apply r_fieldAddr; exact rfl; exact rfl; exact rfl) | (apply r_nilCheck; exact rfl; exact rfl; exact rfl) | (apply r_lss; exact rfl; exact rfl; exact rfl; exact rfl; all_goals intro hc; all_goals try (exfalso; omega)) | refine JX.thenE ?_ | refine JC.exit ?_ | refine JC.condF rfl ?_ | refine JX.blockE ?_))
    have hjc' : j = m.c := by omega
    subst hjc'
    refine r_loadM (n := 4) (vs := #[nv m.p, nv m.r, nv m.c, .slice (some ⟨bE, 0, none⟩) (m.r * m.c) cap]) 0 rfl rfl rfl rfl rfl rfl (fun k hk => ?_) ?_
    · rcases k with _ | _ | _ | _ | k
      · exact rdC0 _ _ _ _ _
      · exact rdC1 _ _ _ _ _
      · exact rdC2 _ _ _ _ _
      · exact rdC3 _ _ _ _ _
      · omega
    (repeat' (first | refine JO.nil ?_ | refine JX.thenN ?_ | (apply r_move; exact rfl; exact rfl; exact rfl) | (apply r_assign; exact rfl; exact rfl; exact rfl) | (apply r_storeN; exact rfl; (first | exact trivial | exact ⟨rfl, rfl⟩); exact rfl; exact rfl; (first | exact at0 | exact at1 | exact at2 | exact at3 | exact at4 | exact at5 | exact at6 | exact at7); exact rfl; exact rfl; exact rfl) | refine JC.ret ?_ | refine JX.scopeR ?_))
    have hok := redTo_ok hp hm.els m.c (Nat.le_refl _)
    have hO := OwnN.ofNamed (b := bE) hok.els.len hcap hrest hcapm
    rw [tab2_of hok.els.len]
    refine JX.retCT 1 rfl rfl rfl rfl (fun a w' st => ⟨st.kp, [_], M, _, _, rfl, st.newOf rfl (HSub.at 3 rfl (by (repeat' first | exact HSub.nil _ | exact HSub.hd | exact HSub.in0 | exact HSub.refl _ | refine HSub.skip ?_ | refine HSub.skipN ?_))), OwnM.mk' hO, ?_⟩)
    exact hM

end Go.Proofs.Ytdoogoglfbohaaa
