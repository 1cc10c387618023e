/- Walks of field: solutions of the reference; solutions of what does not fit; inverses. -/
import Derived.Test.YtdoogoglfbohaaaFldW9
namespace Go.Proofs.Ytdoogoglfbohaaa
open Go Go.RowKit
set_option linter.unusedSimpArgs false
set_option linter.unusedVariables false
set_option linter.unusedSectionVars false

/-- Row n of a solution, while it is made: columns before k are done. -/
def soS (c c1 : Nat) (e l : List Nat) (n k : Nat) : Nat → Nat → Nat := fun a b => if a = l.getD n 0 ∧ b < k then ent c e n (c1 + b) else solG c c1 e l n a b
theorem soS_zero (c c1 : Nat) (e l : List Nat) (n : Nat) : soS c c1 e l n 0 = solG c c1 e l n := by funext a b; simp [soS]
theorem soS_step {r c2 c c1 : Nat} {e l : List Nat} {n k : Nat} (hk : k < c2) : (tab2 r c2 (soS c c1 e l n k)).set (l.getD n 0 * c2 + k) (ent c e n (c1 + k)) = tab2 r c2 (soS c c1 e l n (k + 1)) := by
  rw [tab2_set hk]
  refine tab2_congr fun a b _ _ => ?_
  unfold soS
  by_cases hb : b = k
  · subst hb
    by_cases h : a = l.getD n 0
    · rw [if_pos ⟨h, rfl⟩, if_pos ⟨h, by omega⟩]
    · rw [if_neg (fun q => h q.1), if_neg (fun q => h q.1), if_neg (fun q => h q.1)]
  · have : (b < k + 1) = (b < k) := by simp; omega
    simp only [hb, and_false, if_false, this]
theorem soS_end {r c2 c c1 : Nat} {e l : List Nat} {n k : Nat} (hk : c2 ≤ k) : tab2 r c2 (soS c c1 e l n k) = tab2 r c2 (solG c c1 e l (n + 1)) := by
  refine tab2_congr fun a b _ hb => ?_
  show (if a = l.getD n 0 ∧ b < k then ent c e n (c1 + b) else solG c c1 e l n a b) = if a = l.getD n 0 then ent c e n (c1 + b) else solG c c1 e l n a b
  by_cases h : a = l.getD n 0
  · rw [if_pos ⟨h, by omega⟩, if_pos h]
  · rw [if_neg (fun q => h q.1), if_neg h]

set_option maxHeartbeats 4000000 in
theorem c_refSolve (w : World) (v u : Value) (m n : NM) (hm : Rt m) (hn : Rt n) (hp : m.p = n.p) (hr : m.r = n.r) (hv : IsM w v m) (hu : IsM w u n) :
    Calls Try.prog 25 #[v, u] w (Ret fun v w' => Kp [] w w' ∧ GivesO (solM m n) w v w') := by
  have hv0 := hv
  have hu0 := hu
  obtain ⟨E, rfl, hE⟩ := hv
  obtain ⟨E', rfl, hE'⟩ := hu
  have hB := Big.join hm hn hp
  obtain ⟨hPr, hPc, hPlt, hPnd, hPmem, hPels, hPent⟩ := Pvs.of hB
  have hl := hm.len
  have hl' := hn.len
  rw [hl] at hE
  rw [hl'] at hE'
  have hbr := hm.r
  have hbc := hm.c
  have hbc' := hn.c
  have hjr : (joinM m n).r = m.r := rfl
  have hjc : (joinM m n).c = m.c + n.c := rfl
  have hjp : (joinM m n).p = m.p := rfl
  rw [hjr] at hPr
  rw [hjc] at hPc hPlt hPmem
  rw [hjr, hjc] at hPels
  rw [hjp, hjc] at hPent
  refine calls_of_S [⟨8, 2, [], []⟩, ⟨9, 2, [], []⟩, ⟨15, 1, [], []⟩, ⟨20, 2, [], []⟩] [] (by simp) [] Try.func25 rfl mixed (by kernel_rfl) Try.ntmps25 Try.results25 rfl ⟨by simp, by simp⟩ (by simp) ?_
  simp only [toS, textOps, toSOp, kindAt, kindOf, odAt, sopsAt, ordOf, zipF]
  (repeat' (first | refine JC.seq ?_ | refine JC.ops ?_ | refine JO.nil ?_ | refine JX.thenN ?_ | (apply r_assign; exact rfl; exact rfl; exact rfl) | (apply r_loadN; exact rfl; exact rfl; exact rfl; exact rfl; (first | exact at0 | exact at1 | exact at2 | exact at3 | exact at4 | exact at5 | exact at6 | exact at7); exact rfl) | (apply r_allocZ; exact rfl; exact rfl; exact rfl; intro _) | (apply r_boxA; exact rfl; exact rfl; exact rfl; exact rfl; intro _)))
  rename_i b2 b3 b4
  refine r_call0 trivial rfl rfl rfl (fun w hk _ => c_refone w _ _ m.fm n.fm (hv0.f.mono hk) (hu0.f.mono hk) hm.flen hn.flen) fun w v w' _ _ _ hR => ?_
  obtain ⟨b', rfl, hb⟩ := hR
  obtain rfl := hb.2 (oneF_of hm hn hp)
  (repeat' (first | refine JC.seq ?_ | refine JC.ops ?_ | refine JO.nil ?_ | refine JX.thenN ?_ | (apply r_move; exact rfl; exact rfl; exact rfl) | (apply r_fieldAddr; exact rfl; exact rfl; exact rfl) | (apply r_assign; exact rfl; exact rfl; exact rfl) | (apply r_load; exact rfl; exact rfl; exact rfl; exact rfl; (first | exact at0 | exact at1 | exact at2 | exact at3 | exact at4 | exact at5 | exact at6 | exact at7); exact rfl) | (apply r_addN; exact rfl; exact rfl; exact rfl; exact rfl; omega) | (apply r_pickF; exact rfl; exact rfl; exact rfl; exact rfl) | (apply r_not; exact rfl; exact rfl; exact rfl) | (apply r_neq; exact rfl; exact rfl; exact rfl; exact rfl; all_goals intro hc; all_goals try (exfalso; omega)) | refine JC.skip ?_ | refine JC.condF rfl ?_))
  refine r_build (cs := #[nv m.p, nv m.r, nv (m.c + n.c), .slice none 0 0]) rfl rfl rfl rfl ?_
  (repeat' (first | refine JC.seq ?_ | refine JC.ops ?_ | refine JO.nil ?_ | refine JX.thenN ?_ | (apply r_assign; exact rfl; exact rfl; exact rfl) | (apply r_allocZ; exact rfl; exact rfl; exact rfl; intro _) | (apply r_storeN; exact rfl; (first | exact trivial | exact ⟨rfl, rfl⟩); exact rfl; exact rfl; (first | exact at0 | exact at1 | exact at2 | exact at3 | exact at4 | exact at5 | exact at6 | exact at7); exact rfl; exact rfl; exact rfl) | refine JC.block ?_))
  rename_i b7
  refine JC.loopH (ι := Nat × SHeap × Value) ⟨fun z => [(8, nv z.1), (7, .pointer (some ⟨b7, 0, none⟩)), (2, .pointer (some ⟨b2, 0, none⟩)), (3, .pointer (some ⟨b3, 0, none⟩)), (4, .pointer (some ⟨b4, 0, none⟩))],
    fun z => [(b7, .cells #[nv m.p, nv m.r, nv (m.c + n.c), z.2.2] 27), (b4, .cells #[iv 0, iv 0, iv 0, .slice none 0 0] 27), (b3, .cells #[nv n.p, nv n.r, nv n.c, E'] 27), (b2, .cells #[nv m.p, nv m.r, nv m.c, E] 27)] ++ (z.2.1 ++ []),
    fun z => z.1 ≤ m.r ∧ OwnN z.2.1 z.2.2 (z.1 * (m.c + n.c)) (jS m n z.1), fun z => m.r - z.1⟩ (0, [], .slice none 0 0) ⟨by omega, by rw [jS_zero, Nat.zero_mul]; exact OwnN.nil⟩ (by repeat first | exact trivial | refine ⟨rfl, ?_⟩) (by (first | exact HSub.refl _ | (repeat' first | exact HSub.nil _ | exact HSub.refl _ | refine HSub.at 0 rfl ?_ | refine HSub.at 1 rfl ?_ | refine HSub.at 2 rfl ?_ | refine HSub.at 3 rfl ?_ | refine HSub.at 4 rfl ?_ | refine HSub.at 5 rfl ?_ | refine HSub.at 6 rfl ?_ | refine HSub.at 7 rfl ?_))) (fun z hz => ?_)
  obtain ⟨i, N, vE⟩ := z
  obtain ⟨hin, hO⟩ := hz
  dsimp only at hin hO ⊢
  obtain ⟨Ao, co, rfl⟩ := hO.form
  have hic : i * m.c ≤ 160000 := Nat.mul_le_mul (show i ≤ 400 by omega) hbc
  have hic1 : (i + 1) * m.c ≤ 160400 := by rw [Nat.add_mul]; omega
  have hid : i * n.c ≤ 160000 := Nat.mul_le_mul (show i ≤ 400 by omega) hbc'
  have hid1 : (i + 1) * n.c ≤ 160400 := by rw [Nat.add_mul]; omega
  have hiw : i * (m.c + n.c) ≤ 320000 := Nat.mul_le_mul (show i ≤ 400 by omega) (show m.c + n.c ≤ 800 by omega)
  by_cases hi : i < m.r
  · have hi' : i < n.r := by omega
    (repeat' (first | refine JC.seq ?_ | refine JC.ops ?_ | refine JO.nil ?_ | refine JX.thenN ?_ | (apply r_move; exact rfl; exact rfl; exact rfl) | (apply r_fieldAddr; exact rfl; exact rfl; exact rfl) | (apply r_load; exact rfl; exact rfl; exact rfl; exact rfl; (first | exact at0 | exact at1 | exact at2 | exact at3 | exact at4 | exact at5 | exact at6 | exact at7); exact rfl) | (apply r_lss; exact rfl; exact rfl; exact rfl; exact rfl; all_goals intro hc; all_goals try (exfalso; omega)) | refine JC.skip ?_ | refine JC.condT rfl ?_ | refine JC.block ?_))
    refine JC.opsDs [(b7, .cells #[nv m.p, nv m.r, nv (m.c + n.c), .slice Ao (i * (m.c + n.c)) co] 27), (b4, .cells #[iv 0, iv 0, iv 0, .slice none 0 0] 27), (b3, .cells #[nv n.p, nv n.r, nv n.c, E'] 27), (b2, .cells #[nv m.p, nv m.r, nv m.c, E] 27)] (by (first | exact HSub.refl _ | (repeat' first | exact HSub.nil _ | exact HSub.refl _ | refine HSub.at 0 rfl ?_ | refine HSub.at 1 rfl ?_ | refine HSub.at 2 rfl ?_ | refine HSub.at 3 rfl ?_ | refine HSub.at 4 rfl ?_ | refine HSub.at 5 rfl ?_ | refine HSub.at 6 rfl ?_ | refine HSub.at 7 rfl ?_))) ?_
    (repeat' (first | (apply r_move; exact rfl; exact rfl; exact rfl) | (apply r_fieldAddr; exact rfl; exact rfl; exact rfl) | (apply r_load; exact rfl; exact rfl; exact rfl; exact rfl; (first | exact at0 | exact at1 | exact at2 | exact at3 | exact at4 | exact at5 | exact at6 | exact at7); exact rfl) | (apply r_add1; exact rfl; exact rfl; exact rfl; exact rfl; omega) | (apply r_mulN; exact rfl; exact rfl; exact rfl; exact rfl; (first | assumption | omega))))
    refine r_rowN rfl rfl rfl (WN.rd hE rfl []) rfl rfl (row_le hi) (fun v1 hv1 _ => ?_)
    skip
    refine r_appendNL (A := [_, _, _, _]) hO hv1 (by (repeat' first | exact HSub.nil _ | exact HSub.hd | exact HSub.in0 | exact HSub.refl _ | refine HSub.skip ?_ | refine HSub.skipN ?_)) rfl (by (first | exact HSub.refl _ | (repeat' first | exact HSub.nil _ | exact HSub.refl _ | refine HSub.at 0 rfl ?_ | refine HSub.at 1 rfl ?_ | refine HSub.at 2 rfl ?_ | refine HSub.at 3 rfl ?_ | refine HSub.at 4 rfl ?_ | refine HSub.at 5 rfl ?_ | refine HSub.at 6 rfl ?_ | refine HSub.at 7 rfl ?_))) rfl rfl rfl rfl (by omega) (fun v3 N' hO' => ?_)
    obtain ⟨A3, c3, rfl⟩ := hO'.form
    (repeat' (first | refine JO.nil ?_ | refine JX.thenN ?_ | (apply r_fieldAddr; exact rfl; exact rfl; exact rfl) | (apply r_store; exact rfl; (first | exact trivial | exact ⟨rfl, rfl⟩); exact rfl; exact rfl; (first | exact at0 | exact at1 | exact at2 | exact at3 | exact at4 | exact at5 | exact at6 | exact at7); exact rfl; exact rfl; (first | exact Nat.le_of_ble_eq_true rfl | (simp; done) | omega))))
    refine JC.opsDs [(b7, .cells #[nv m.p, nv m.r, nv (m.c + n.c), .slice A3 (i * (m.c + n.c) + m.c) c3] 27), (b4, .cells #[iv 0, iv 0, iv 0, .slice none 0 0] 27), (b3, .cells #[nv n.p, nv n.r, nv n.c, E'] 27), (b2, .cells #[nv m.p, nv m.r, nv m.c, E] 27)] (by (first | exact HSub.refl _ | (repeat' first | exact HSub.nil _ | exact HSub.refl _ | refine HSub.at 0 rfl ?_ | refine HSub.at 1 rfl ?_ | refine HSub.at 2 rfl ?_ | refine HSub.at 3 rfl ?_ | refine HSub.at 4 rfl ?_ | refine HSub.at 5 rfl ?_ | refine HSub.at 6 rfl ?_ | refine HSub.at 7 rfl ?_))) ?_
    (repeat' (first | (apply r_move; exact rfl; exact rfl; exact rfl) | (apply r_fieldAddr; exact rfl; exact rfl; exact rfl) | (apply r_load; exact rfl; exact rfl; exact rfl; exact rfl; (first | exact at0 | exact at1 | exact at2 | exact at3 | exact at4 | exact at5 | exact at6 | exact at7); exact rfl) | (apply r_add1; exact rfl; exact rfl; exact rfl; exact rfl; omega) | (apply r_mulN; exact rfl; exact rfl; exact rfl; exact rfl; (first | assumption | omega))))
    refine r_rowN rfl rfl rfl (WN.rd hE' rfl []) rfl rfl (row_le hi') (fun v2 hv2 _ => ?_)
    skip
    refine r_appendNL (A := [_, _, _, _]) hO' hv2 (by (repeat' first | exact HSub.nil _ | exact HSub.hd | exact HSub.in0 | exact HSub.refl _ | refine HSub.skip ?_ | refine HSub.skipN ?_)) rfl (by (first | exact HSub.refl _ | (repeat' first | exact HSub.nil _ | exact HSub.refl _ | refine HSub.at 0 rfl ?_ | refine HSub.at 1 rfl ?_ | refine HSub.at 2 rfl ?_ | refine HSub.at 3 rfl ?_ | refine HSub.at 4 rfl ?_ | refine HSub.at 5 rfl ?_ | refine HSub.at 6 rfl ?_ | refine HSub.at 7 rfl ?_))) rfl rfl rfl rfl (by omega) (fun v4 N'' hO'' => ?_)
    rw [jS_succ hl hl' hi hi', show i * (m.c + n.c) + m.c + n.c = (i + 1) * (m.c + n.c) by rw [Nat.add_mul]; omega] at hO''
    obtain ⟨A4, c4, rfl⟩ := hO''.form
    (repeat' (first | refine JC.ops ?_ | refine JO.nil ?_ | refine JX.thenN ?_ | (apply r_move; exact rfl; exact rfl; exact rfl) | (apply r_fieldAddr; exact rfl; exact rfl; exact rfl) | (apply r_assign; exact rfl; exact rfl; exact rfl) | (apply r_add1; exact rfl; exact rfl; exact rfl; exact rfl; omega) | (apply r_store; exact rfl; (first | exact trivial | exact ⟨rfl, rfl⟩); exact rfl; exact rfl; (first | exact at0 | exact at1 | exact at2 | exact at3 | exact at4 | exact at5 | exact at6 | exact at7); exact rfl; exact rfl; (first | exact Nat.le_of_ble_eq_true rfl | (simp; done) | omega)) | refine JX.blockN ?_))
    exact JX.roundH (i + 1, N'', _) ⟨by dsimp only; omega, hO''⟩ (by dsimp only; omega) (by repeat first | exact trivial | refine ⟨rfl, ?_⟩) (by (first | exact HSub.refl _ | (repeat' first | exact HSub.nil _ | exact HSub.refl _ | refine HSub.at 0 rfl ?_ | refine HSub.at 1 rfl ?_ | refine HSub.at 2 rfl ?_ | refine HSub.at 3 rfl ?_ | refine HSub.at 4 rfl ?_ | refine HSub.at 5 rfl ?_ | refine HSub.at 6 rfl ?_ | refine HSub.at 7 rfl ?_)))
  · have : i = m.r := by omega
    subst this
    rw [jS_end] at hO
    (repeat' (first | refine JC.seq ?_ | refine JC.ops ?_ | refine JO.nil ?_ | refine JX.thenN ?_ | (apply r_move; exact rfl; exact rfl; exact rfl) | (apply r_fieldAddr; exact rfl; exact rfl; exact rfl) | (apply r_load; exact rfl; exact rfl; exact rfl; exact rfl; (first | exact at0 | exact at1 | exact at2 | exact at3 | exact at4 | exact at5 | exact at6 | exact at7); exact rfl) | (apply r_loadN; exact rfl; exact rfl; exact rfl; exact rfl; (first | exact at0 | exact at1 | exact at2 | exact at3 | exact at4 | exact at5 | exact at6 | exact at7); exact rfl) | (apply r_lss; exact rfl; exact rfl; exact rfl; exact rfl; all_goals intro hc; all_goals try (exfalso; omega)) | refine JX.thenE ?_ | refine JC.exit ?_ | refine JC.condF rfl ?_ | refine JX.blockE ?_))
    refine r_callA (A := [_, _, _, _]) rfl trivial rfl rfl rfl (fun w hk hs => c_refreduce w _ (joinM m n) hB ⟨_, rfl, by rw [hB.len]; exact hO.rd.at hk hs (by (repeat' first | exact HSub.nil _ | exact HSub.hd | exact HSub.in0 | exact HSub.refl _ | refine HSub.skip ?_ | refine HSub.skipN ?_))⟩) fun w v w' _ _ _ hR => ?_
    obtain ⟨Ne, N2, u, x, rfl, hN, ⟨Eo, rfl, hOe⟩, hO2⟩ := hR
    rw [hPels] at hOe
    obtain ⟨Ae, ce, rfl⟩ := hOe.form
    refine ⟨_, hN, ?_⟩
    rw [List.append_assoc]
    (repeat' (first | refine JC.seq ?_ | refine JC.ops ?_ | refine JO.nil ?_ | refine JX.thenN ?_ | (apply r_move; exact rfl; exact rfl; exact rfl) | (apply r_fieldAddr; exact rfl; exact rfl; exact rfl) | (apply r_assign; exact rfl; exact rfl; exact rfl) | (apply r_load; exact rfl; exact rfl; exact rfl; exact rfl; (first | exact at0 | exact at1 | exact at2 | exact at3 | exact at4 | exact at5 | exact at6 | exact at7); exact rfl) | (apply r_extract; exact rfl; exact rfl; exact rfl; exact rfl) | (apply r_allocZ; exact rfl; exact rfl; exact rfl; intro _) | (apply r_storeN; exact rfl; (first | exact trivial | exact ⟨rfl, rfl⟩); exact rfl; exact rfl; (first | exact at0 | exact at1 | exact at2 | exact at3 | exact at4 | exact at5 | exact at6 | exact at7); exact rfl; exact rfl; exact rfl)))
    rename_i b9
    refine r_callA (A := [_, _, _, _, _]) rfl trivial rfl rfl rfl (fun w hk _ => c_refZero m.p m.c n.c hm.pr hm.c hn.c w) fun w v w' _ _ _ hR => ?_
    obtain ⟨N8, E8, hN8, rfl, hO8⟩ := hR
    obtain ⟨A8, c8, rfl⟩ := hO8.form
    refine ⟨N8, hN8, ?_⟩
    (repeat' (first | refine JC.seq ?_ | refine JC.ops ?_ | refine JO.nil ?_ | refine JX.thenN ?_ | (apply r_assign; exact rfl; exact rfl; exact rfl) | (apply r_allocZ; exact rfl; exact rfl; exact rfl; intro _) | (apply r_storeN; exact rfl; (first | exact trivial | exact ⟨rfl, rfl⟩); exact rfl; exact rfl; (first | exact at0 | exact at1 | exact at2 | exact at3 | exact at4 | exact at5 | exact at6 | exact at7); exact rfl; exact rfl; exact rfl) | refine JC.block ?_))
    rename_i b11
    refine JC.loopH (ι := Nat × SHeap) ⟨fun z => [(12, nv z.1), (10, x), (11, .pointer (some ⟨b11, 0, none⟩)), (9, .pointer (some ⟨b9, 0, none⟩)), (7, .pointer (some ⟨b7, 0, none⟩)), (4, .pointer (some ⟨b4, 0, none⟩)), (3, .pointer (some ⟨b3, 0, none⟩)), (2, .pointer (some ⟨b2, 0, none⟩))],
      fun z => [(b11, .cells #[nv m.p, nv m.c, nv n.c, .slice A8 (m.c * n.c) c8] 27), (b9, .cells #[nv m.p, nv m.r, nv (m.c + n.c), .slice Ae (m.r * (m.c + n.c)) ce] 27), (b7, .cells #[nv m.p, nv m.r, nv (m.c + n.c), .slice Ao (m.r * (m.c + n.c)) co] 27), (b4, .cells #[iv 0, iv 0, iv 0, .slice none 0 0] 27), (b3, .cells #[nv n.p, nv n.r, nv n.c, E'] 27), (b2, .cells #[nv m.p, nv m.r, nv m.c, E] 27)] ++ (z.2 ++ (Ne ++ (N2 ++ (N ++ [])))),
      fun z => z.1 ≤ (pivM (joinM m n)).length ∧ OwnN z.2 (.slice A8 (m.c * n.c) c8) (m.c * n.c) (tab2 m.c n.c (solG (m.c + n.c) m.c (echM (joinM m n)).e (pivM (joinM m n)) z.1)) ∧ ∀ t, t < z.1 → (pivM (joinM m n)).getD t 0 < m.c, fun z => (pivM (joinM m n)).length - z.1⟩ (0, N8) ⟨by dsimp only; omega, hO8, fun t h => by dsimp only at h; omega⟩ (by repeat first | exact trivial | refine ⟨rfl, ?_⟩) (by (first | exact HSub.refl _ | (repeat' first | exact HSub.nil _ | exact HSub.refl _ | refine HSub.at 0 rfl ?_ | refine HSub.at 1 rfl ?_ | refine HSub.at 2 rfl ?_ | refine HSub.at 3 rfl ?_ | refine HSub.at 4 rfl ?_ | refine HSub.at 5 rfl ?_ | refine HSub.at 6 rfl ?_ | refine HSub.at 7 rfl ?_))) (fun z hz => ?_)
    clear hO8
    obtain ⟨i, N8⟩ := z
    obtain ⟨hi, hO8, hall⟩ := hz
    dsimp only at hi hO8 hall ⊢
    by_cases hil : i < (pivM (joinM m n)).length
    · by_cases hlt : (pivM (joinM m n)).getD i 0 < m.c
      · have hb1 : i * (m.c + n.c) ≤ 320000 := Nat.mul_le_mul (show i ≤ 400 by omega) (show m.c + n.c ≤ 800 by omega)
        have hb2 : (pivM (joinM m n)).getD i 0 * n.c ≤ 160000 := Nat.mul_le_mul (show (pivM (joinM m n)).getD i 0 ≤ 400 by omega) hbc'
        (repeat' (first | refine JC.seq ?_ | refine JC.ops ?_ | refine JC.opsD ?_ | refine JO.nil ?_ | refine JX.thenN ?_ | (apply r_move; exact rfl; exact rfl; exact rfl) | (apply r_fieldAddr; exact rfl; exact rfl; exact rfl) | (apply r_assign; exact rfl; exact rfl; exact rfl) | (apply r_load; exact rfl; exact rfl; exact rfl; exact rfl; (first | exact at0 | exact at1 | exact at2 | exact at3 | exact at4 | exact at5 | exact at6 | exact at7); exact rfl) | (apply r_idxN; exact rfl; exact rfl; exact rfl; exact rfl; (first | assumption | exact WN.rd (by assumption) rfl [] | exact OwnN.rd (by assumption)); (first | assumption | omega)) | (apply r_ldN; exact rfl; exact rfl; exact rfl; exact rfl; (first | assumption | exact WN.rd (by assumption) rfl [] | exact OwnN.rd (by assumption)); (repeat' first | exact HSub.nil _ | exact HSub.hd | exact HSub.in0 | exact HSub.refl _ | refine HSub.skip ?_ | refine HSub.skipN ?_); (first | assumption | omega)) | (apply r_lenN; exact rfl; exact rfl; exact rfl; (first | assumption | exact WN.rd (by assumption) rfl [] | exact OwnN.rd (by assumption))) | (apply r_lss; exact rfl; exact rfl; exact rfl; exact rfl; all_goals intro hc; all_goals try (exfalso; omega)) | (apply r_geq; exact rfl; exact rfl; exact rfl; exact rfl; all_goals intro hc; all_goals try (exfalso; omega)) | refine JC.skip ?_ | refine JC.condT rfl ?_ | refine JC.condF rfl ?_ | refine JC.block ?_))
        refine JC.loopH (ι := Nat × SHeap) ⟨fun z => [(13, nv z.1), (12, nv i), (10, x), (11, .pointer (some ⟨b11, 0, none⟩)), (9, .pointer (some ⟨b9, 0, none⟩)), (7, .pointer (some ⟨b7, 0, none⟩)), (4, .pointer (some ⟨b4, 0, none⟩)), (3, .pointer (some ⟨b3, 0, none⟩)), (2, .pointer (some ⟨b2, 0, none⟩))],
          fun z => [(b11, .cells #[nv m.p, nv m.c, nv n.c, .slice A8 (m.c * n.c) c8] 27), (b9, .cells #[nv m.p, nv m.r, nv (m.c + n.c), .slice Ae (m.r * (m.c + n.c)) ce] 27), (b7, .cells #[nv m.p, nv m.r, nv (m.c + n.c), .slice Ao (m.r * (m.c + n.c)) co] 27), (b4, .cells #[iv 0, iv 0, iv 0, .slice none 0 0] 27), (b3, .cells #[nv n.p, nv n.r, nv n.c, E'] 27), (b2, .cells #[nv m.p, nv m.r, nv m.c, E] 27)] ++ (z.2 ++ (Ne ++ (N2 ++ (N ++ [])))),
          fun z => z.1 ≤ n.c ∧ OwnN z.2 (.slice A8 (m.c * n.c) c8) (m.c * n.c) (tab2 m.c n.c (soS (m.c + n.c) m.c (echM (joinM m n)).e (pivM (joinM m n)) i z.1)), fun z => n.c - z.1⟩ (0, N8) ⟨by dsimp only; omega, by dsimp only; rw [soS_zero]; exact hO8⟩ (by repeat first | exact trivial | refine ⟨rfl, ?_⟩) (by (first | exact HSub.refl _ | (repeat' first | exact HSub.nil _ | exact HSub.refl _ | refine HSub.at 0 rfl ?_ | refine HSub.at 1 rfl ?_ | refine HSub.at 2 rfl ?_ | refine HSub.at 3 rfl ?_ | refine HSub.at 4 rfl ?_ | refine HSub.at 5 rfl ?_ | refine HSub.at 6 rfl ?_ | refine HSub.at 7 rfl ?_))) (fun z hz => ?_)
        clear hO8
        obtain ⟨j, N8⟩ := z
        obtain ⟨hj, hO8⟩ := hz
        dsimp only at hj hO8 ⊢
        by_cases hjn : j < n.c
        · have h1 := idx_lt hlt hjn
          have h2 := idx_lt (c := m.c + n.c) (j := m.c + j) (show i < m.r by omega) (by omega)
          rw [← Nat.add_assoc] at h2
          (repeat' (first | refine JC.seq ?_ | refine JC.ops ?_ | refine JC.opsD ?_ | refine JO.nil ?_ | refine JX.thenN ?_ | (apply r_move; exact rfl; exact rfl; exact rfl) | (apply r_fieldAddr; exact rfl; exact rfl; exact rfl) | (apply r_load; exact rfl; exact rfl; exact rfl; exact rfl; (first | exact at0 | exact at1 | exact at2 | exact at3 | exact at4 | exact at5 | exact at6 | exact at7); exact rfl) | (apply r_idxN; exact rfl; exact rfl; exact rfl; exact rfl; (first | assumption | exact WN.rd (by assumption) rfl [] | exact OwnN.rd (by assumption)); (first | assumption | omega)) | (apply r_ldN; exact rfl; exact rfl; exact rfl; exact rfl; (first | assumption | exact WN.rd (by assumption) rfl [] | exact OwnN.rd (by assumption)); (repeat' first | exact HSub.nil _ | exact HSub.hd | exact HSub.in0 | exact HSub.refl _ | refine HSub.skip ?_ | refine HSub.skipN ?_); (first | assumption | omega)) | (apply r_addN; exact rfl; exact rfl; exact rfl; exact rfl; omega) | (apply r_mulN; exact rfl; exact rfl; exact rfl; exact rfl; (first | assumption | omega)) | (apply r_lss; exact rfl; exact rfl; exact rfl; exact rfl; all_goals intro hc; all_goals try (exfalso; omega)) | refine JC.skip ?_ | refine JC.condT rfl ?_ | refine JC.block ?_))
          refine r_stN (A := [_, _, _, _, _, _]) (u := ent (m.c + n.c) (echM (joinM m n)).e i (m.c + j)) hO8 rfl rfl (by first | trivial | exact ⟨rfl, rfl⟩) rfl (by unfold ent; rw [← Nat.add_assoc]; rfl) h1 (fun N' hO' => ?_)
          rw [soS_step hjn] at hO'
          (repeat' (first | refine JC.ops ?_ | refine JO.nil ?_ | refine JX.thenN ?_ | (apply r_move; exact rfl; exact rfl; exact rfl) | (apply r_assign; exact rfl; exact rfl; exact rfl) | (apply r_add1; exact rfl; exact rfl; exact rfl; exact rfl; omega) | refine JX.blockN ?_))
          exact JX.roundH (j + 1, N') ⟨by dsimp only; omega, hO'⟩ (by dsimp only; omega) (by repeat first | exact trivial | refine ⟨rfl, ?_⟩) (by (first | exact HSub.refl _ | (repeat' first | exact HSub.nil _ | exact HSub.refl _ | refine HSub.at 0 rfl ?_ | refine HSub.at 1 rfl ?_ | refine HSub.at 2 rfl ?_ | refine HSub.at 3 rfl ?_ | refine HSub.at 4 rfl ?_ | refine HSub.at 5 rfl ?_ | refine HSub.at 6 rfl ?_ | refine HSub.at 7 rfl ?_)))
        · rw [soS_end (show n.c ≤ j by omega)] at hO8
          (repeat' (first | refine JC.seq ?_ | refine JC.ops ?_ | refine JO.nil ?_ | refine JX.thenN ?_ | (apply r_move; exact rfl; exact rfl; exact rfl) | (apply r_fieldAddr; exact rfl; exact rfl; exact rfl) | (apply r_assign; exact rfl; exact rfl; exact rfl) | (apply r_load; exact rfl; exact rfl; exact rfl; exact rfl; (first | exact at0 | exact at1 | exact at2 | exact at3 | exact at4 | exact at5 | exact at6 | exact at7); exact rfl) | (apply r_add1; exact rfl; exact rfl; exact rfl; exact rfl; omega) | (apply r_lss; exact rfl; exact rfl; exact rfl; exact rfl; all_goals intro hc; all_goals try (exfalso; omega)) | refine JX.thenE ?_ | refine JC.exit ?_ | refine JC.condF rfl ?_ | refine JX.blockN ?_ | refine JX.blockE ?_))
          exact JX.roundH (i + 1, N8) ⟨by dsimp only; omega, hO8, fun t ht => by
            dsimp only at ht
            by_cases h : t = i
            · subst h; exact hlt
            · exact hall t (by omega)⟩ (by dsimp only; omega) (by repeat first | exact trivial | refine ⟨rfl, ?_⟩) (by (first | exact HSub.refl _ | (repeat' first | exact HSub.nil _ | exact HSub.refl _ | refine HSub.at 0 rfl ?_ | refine HSub.at 1 rfl ?_ | refine HSub.at 2 rfl ?_ | refine HSub.at 3 rfl ?_ | refine HSub.at 4 rfl ?_ | refine HSub.at 5 rfl ?_ | refine HSub.at 6 rfl ?_ | refine HSub.at 7 rfl ?_)))
      · (repeat' (first | refine JC.seq ?_ | refine JC.ops ?_ | refine JC.opsD ?_ | refine JO.nil ?_ | refine JX.thenN ?_ | (apply r_move; exact rfl; exact rfl; exact rfl) | (apply r_fieldAddr; exact rfl; exact rfl; exact rfl) | (apply r_assign; exact rfl; exact rfl; exact rfl) | (apply r_load; exact rfl; exact rfl; exact rfl; exact rfl; (first | exact at0 | exact at1 | exact at2 | exact at3 | exact at4 | exact at5 | exact at6 | exact at7); exact rfl) | (apply r_idxN; exact rfl; exact rfl; exact rfl; exact rfl; (first | assumption | exact WN.rd (by assumption) rfl [] | exact OwnN.rd (by assumption)); (first | assumption | omega)) | (apply r_ldN; exact rfl; exact rfl; exact rfl; exact rfl; (first | assumption | exact WN.rd (by assumption) rfl [] | exact OwnN.rd (by assumption)); (repeat' first | exact HSub.nil _ | exact HSub.hd | exact HSub.in0 | exact HSub.refl _ | refine HSub.skip ?_ | refine HSub.skipN ?_); (first | assumption | omega)) | (apply r_lenN; exact rfl; exact rfl; exact rfl; (first | assumption | exact WN.rd (by assumption) rfl [] | exact OwnN.rd (by assumption))) | (apply r_lss; exact rfl; exact rfl; exact rfl; exact rfl; all_goals intro hc; all_goals try (exfalso; omega)) | (apply r_geq; exact rfl; exact rfl; exact rfl; exact rfl; all_goals intro hc; all_goals try (exfalso; omega)) | (apply r_buildL; exact rfl; exact rfl; exact rfl; exact rfl; exact rfl) | (apply r_storeN; exact rfl; (first | exact trivial | exact ⟨rfl, rfl⟩); exact rfl; exact rfl; (first | exact at0 | exact at1 | exact at2 | exact at3 | exact at4 | exact at5 | exact at6 | exact at7); exact rfl; exact rfl; exact rfl) | refine JX.thenR ?_ | refine JC.skip ?_ | refine JC.ret ?_ | refine JC.condT rfl ?_ | refine JC.block ?_ | refine JX.blockR ?_))
        refine JX.retCT 3 rfl rfl rfl rfl (fun a w' st => ⟨st.kp, ?_⟩)
        unfold solM
        rw [if_neg (fun h => hlt (h _ (mem_getD hil)))]
        rfl
    · (repeat' (first | refine JC.seq ?_ | refine JC.ops ?_ | refine JO.nil ?_ | refine JX.thenN ?_ | (apply r_move; exact rfl; exact rfl; exact rfl) | (apply r_assign; exact rfl; exact rfl; exact rfl) | (apply r_loadN; exact rfl; exact rfl; exact rfl; exact rfl; (first | exact at0 | exact at1 | exact at2 | exact at3 | exact at4 | exact at5 | exact at6 | exact at7); exact rfl) | (apply r_lenN; exact rfl; exact rfl; exact rfl; (first | assumption | exact WN.rd (by assumption) rfl [] | exact OwnN.rd (by assumption))) | (apply r_lss; exact rfl; exact rfl; exact rfl; exact rfl; all_goals intro hc; all_goals try (exfalso; omega)) | (apply r_storeN; exact rfl; (first | exact trivial | exact ⟨rfl, rfl⟩); exact rfl; exact rfl; (first | exact at0 | exact at1 | exact at2 | exact at3 | exact at4 | exact at5 | exact at6 | exact at7); exact rfl; exact rfl; exact rfl) | refine JX.thenE ?_ | refine JC.exit ?_ | refine JC.ret ?_ | refine JC.condF rfl ?_ | refine JX.blockE ?_))
      refine JX.retCT 3 rfl rfl rfl rfl (fun a w' st => ⟨st.kp, ?_⟩)
      have hii : i = (pivM (joinM m n)).length := by omega
      subst hii
      unfold solM
      rw [if_pos (fun y hy => by
        obtain ⟨t, ht, rfl⟩ := List.mem_iff_getElem.1 hy
        have := hall t ht
        simpa only [List.getD, List.getElem?_eq_getElem ht, Option.getD_some] using this)]
      exact ⟨N8, _, rfl, st.newOf rfl (by (repeat' first | exact HSub.nil _ | exact HSub.hd | exact HSub.in0 | exact HSub.refl _ | refine HSub.skip ?_ | refine HSub.skipN ?_)), OwnM.mk' hO8⟩

set_option maxHeartbeats 2000000 in
theorem c_SolveF (w : World) (v u : Value) (a b : FM) (h : ¬ (OneF a b ∧ a.R = b.R)) (ha : IsF w v a) (hb : IsF w u b) (hl : a.E.length < 1000000000) (hl' : b.E.length < 1000000000) :
    Calls Try.prog 24 #[v, u] w (Ret fun v w' => Kp [] w w' ∧ v = .tuple #[zeroV, .bool false]) := by
  have hvF := ha
  have huF := hb
  obtain ⟨E, rfl, hE⟩ := ha
  obtain ⟨E', rfl, hE'⟩ := hb
  unfold fmV
  refine calls_of_S [] [] (by simp) [] Try.func24 rfl mixed (by kernel_rfl) Try.ntmps24 Try.results24 rfl ⟨by simp, by simp⟩ (by simp) ?_
  simp only [toS, textOps, toSOp, kindAt, kindOf, odAt, sopsAt, ordOf, zipF]
  (repeat' (first | refine JC.seq ?_ | refine JC.ops ?_ | refine JO.nil ?_ | refine JX.thenN ?_ | (apply r_assign; exact rfl; exact rfl; exact rfl) | (apply r_loadN; exact rfl; exact rfl; exact rfl; exact rfl; (first | exact at0 | exact at1 | exact at2 | exact at3 | exact at4 | exact at5 | exact at6 | exact at7); exact rfl) | (apply r_allocZ; exact rfl; exact rfl; exact rfl; intro _) | (apply r_boxA; exact rfl; exact rfl; exact rfl; exact rfl; intro _)))
  refine r_call0 trivial rfl rfl rfl (fun w hk _ => c_one w _ _ a b (hvF.mono hk) (huF.mono hk) hl hl') fun w v w' _ _ _ hR => ?_
  obtain ⟨b', rfl, hb⟩ := hR
  cases b' <;> (repeat' (first | refine JC.seq ?_ | refine JC.ops ?_ | refine JO.nil ?_ | refine JX.thenN ?_ | (apply r_move; exact rfl; exact rfl; exact rfl) | (apply r_fieldAddr; exact rfl; exact rfl; exact rfl) | (apply r_assign; exact rfl; exact rfl; exact rfl) | (apply r_load; exact rfl; exact rfl; exact rfl; exact rfl; (first | exact at0 | exact at1 | exact at2 | exact at3 | exact at4 | exact at5 | exact at6 | exact at7); exact rfl) | (apply r_loadN; exact rfl; exact rfl; exact rfl; exact rfl; (first | exact at0 | exact at1 | exact at2 | exact at3 | exact at4 | exact at5 | exact at6 | exact at7); exact rfl) | (apply r_pickT; exact rfl; exact rfl; exact rfl; exact rfl) | (apply r_pickF; exact rfl; exact rfl; exact rfl; exact rfl) | (apply r_not; exact rfl; exact rfl; exact rfl) | (apply r_neq; exact rfl; exact rfl; exact rfl; exact rfl; all_goals intro hc; all_goals try (exfalso; omega)) | (apply r_buildL; exact rfl; exact rfl; exact rfl; exact rfl; exact rfl) | (apply r_storeN; exact rfl; (first | exact trivial | exact ⟨rfl, rfl⟩); exact rfl; exact rfl; (first | exact at0 | exact at1 | exact at2 | exact at3 | exact at4 | exact at5 | exact at6 | exact at7); exact rfl; exact rfl; exact rfl) | refine JX.thenR ?_ | refine JC.skip ?_ | refine JC.ret ?_ | refine JC.condT rfl ?_ | refine JC.condF rfl ?_ | (apply r_skip; exact rfl; exact rfl; (first | (intro h; cases h; done) | (intro _; rfl)))))
  all_goals first
    | exact JX.retCT 0 rfl rfl rfl rfl (fun a w' st => ⟨st.kp, rfl⟩)
    | exact absurd ⟨hb.1 rfl, by omega⟩ h

set_option maxHeartbeats 2000000 in
theorem c_refSolveF (w : World) (v u : Value) (a b : FM) (h : ¬ (OneF a b ∧ a.R = b.R)) (ha : IsF w v a) (hb : IsF w u b) (hl : a.E.length < 1000000000) (hl' : b.E.length < 1000000000) :
    Calls Try.prog 25 #[v, u] w (Ret fun v w' => Kp [] w w' ∧ v = .tuple #[zeroV, .bool false]) := by
  have hvF := ha
  have huF := hb
  obtain ⟨E, rfl, hE⟩ := ha
  obtain ⟨E', rfl, hE'⟩ := hb
  unfold fmV
  refine calls_of_S [⟨8, 2, [], []⟩, ⟨9, 2, [], []⟩, ⟨15, 1, [], []⟩, ⟨20, 2, [], []⟩] [] (by simp) [] Try.func25 rfl mixed (by kernel_rfl) Try.ntmps25 Try.results25 rfl ⟨by simp, by simp⟩ (by simp) ?_
  simp only [toS, textOps, toSOp, kindAt, kindOf, odAt, sopsAt, ordOf, zipF]
  (repeat' (first | refine JC.seq ?_ | refine JC.ops ?_ | refine JO.nil ?_ | refine JX.thenN ?_ | (apply r_assign; exact rfl; exact rfl; exact rfl) | (apply r_loadN; exact rfl; exact rfl; exact rfl; exact rfl; (first | exact at0 | exact at1 | exact at2 | exact at3 | exact at4 | exact at5 | exact at6 | exact at7); exact rfl) | (apply r_allocZ; exact rfl; exact rfl; exact rfl; intro _) | (apply r_boxA; exact rfl; exact rfl; exact rfl; exact rfl; intro _)))
  refine r_call0 trivial rfl rfl rfl (fun w hk _ => c_refone w _ _ a b (hvF.mono hk) (huF.mono hk) hl hl') fun w v w' _ _ _ hR => ?_
  obtain ⟨b', rfl, hb⟩ := hR
  cases b' <;> (repeat' (first | refine JC.seq ?_ | refine JC.ops ?_ | refine JO.nil ?_ | refine JX.thenN ?_ | (apply r_move; exact rfl; exact rfl; exact rfl) | (apply r_fieldAddr; exact rfl; exact rfl; exact rfl) | (apply r_assign; exact rfl; exact rfl; exact rfl) | (apply r_load; exact rfl; exact rfl; exact rfl; exact rfl; (first | exact at0 | exact at1 | exact at2 | exact at3 | exact at4 | exact at5 | exact at6 | exact at7); exact rfl) | (apply r_pickT; exact rfl; exact rfl; exact rfl; exact rfl) | (apply r_pickF; exact rfl; exact rfl; exact rfl; exact rfl) | (apply r_not; exact rfl; exact rfl; exact rfl) | (apply r_neq; exact rfl; exact rfl; exact rfl; exact rfl; all_goals intro hc; all_goals try (exfalso; omega)) | (apply r_buildL; exact rfl; exact rfl; exact rfl; exact rfl; exact rfl) | (apply r_storeN; exact rfl; (first | exact trivial | exact ⟨rfl, rfl⟩); exact rfl; exact rfl; (first | exact at0 | exact at1 | exact at2 | exact at3 | exact at4 | exact at5 | exact at6 | exact at7); exact rfl; exact rfl; exact rfl) | refine JX.thenR ?_ | refine JC.skip ?_ | refine JC.ret ?_ | refine JC.condT rfl ?_ | refine JC.condF rfl ?_ | (apply r_skip; exact rfl; exact rfl; (first | (intro h; cases h; done) | (intro _; rfl)))))
  all_goals first
    | exact JX.retCT 0 rfl rfl rfl rfl (fun a w' st => ⟨st.kp, rfl⟩)
    | exact absurd ⟨hb.1 rfl, by omega⟩ h

end Go.Proofs.Ytdoogoglfbohaaa
