/- Walks of field: the matrix that changes nothing. -/
import Derived.Test.YtdoogoglfbohaaaFld6
namespace Go.Proofs.Ytdoogoglfbohaaa
open Go Go.RowKit
set_option linter.unusedSimpArgs false
set_option linter.unusedVariables false
set_option linter.unusedSectionVars false

def oneM (p n : Nat) : NM := ⟨p, n, n, tab2 n n fun i j => if i = j then 1 else 0⟩
def oS (n k : Nat) : List Nat := tab2 n n fun i j => if i = j ∧ i < k then 1 else 0

theorem oS_zero (n : Nat) : oS n 0 = tab (n * n) fun _ => 0 := by
  unfold oS tab2
  exact tab_congr fun t _ => by simp
theorem oS_set {n k : Nat} (hk : k < n) : (oS n k).set (k * n + k) 1 = oS n (k + 1) := by
  unfold oS
  rw [tab2_set hk]
  refine tab2_congr fun a b _ _ => ?_
  by_cases h : a = k ∧ b = k
  · obtain ⟨rfl, rfl⟩ := h; simp
  · have e : (a = b ∧ a < k + 1) = (a = b ∧ a < k) := by simp; omega
    simp only [h, if_false, e]
theorem oS_end {p n k : Nat} (hk : n ≤ k) : oS n k = (oneM p n).e := by
  unfold oS
  show tab2 n n _ = tab2 n n fun i j => if i = j then 1 else 0
  refine tab2_congr fun a b ha _ => ?_
  have e : (a = b ∧ a < k) = (a = b) := by simp; omega
  simp only [e]
theorem Rt.one {p n : Nat} (hp : Pr p) (hn : n ≤ 400) : Rt (oneM p n) := ⟨hp, hn, hn, by simp [oneM], tab2_lt (r := n) (c := n) (p := p) (g := fun i j => if i = j then 1 else 0) fun i j _ _ => by
  have := hp.1
  show (if i = j then 1 else 0) < p
  split <;> omega⟩

set_option maxHeartbeats 2000000 in
theorem c_One (w : World) (p n : Nat) (hp : Pr p) (hn : n ≤ 400) :
    Calls Try.prog 21 #[.int .i64 p, .int .i64 n] w (Ret fun v w' => Kp [] w w' ∧ GivesM (oneM p n) w v w') := by
  have hrc := rc_le hn hn
  refine calls_of_S [] [] (by simp) [] Try.func21 rfl mixed (by kernel_rfl) Try.ntmps21 Try.results21 rfl ⟨by simp, by simp⟩ (by simp) ?_
  simp only [toS, textOps, toSOp, kindAt, kindOf, odAt, sopsAt, ordOf, zipF]
  (repeat' (first | refine JC.seq ?_ | refine JC.ops ?_ | refine JO.nil ?_ | refine JX.thenN ?_ | (apply r_move; exact rfl; exact rfl; exact rfl) | (apply r_allocZ; exact rfl; exact rfl; exact rfl; intro _)))
  rename_i b4
  refine r_callA (A := [_]) (B := []) rfl trivial rfl rfl rfl (fun w hk _ => c_zero p n n hp hn hn w) fun w v w' _ _ _ hR => ?_
  obtain ⟨N, Eo, hN, rfl, hO⟩ := hR
  obtain ⟨Ao, co, rfl⟩ := hO.form
  refine ⟨N, hN, ?_⟩
  (repeat' (first | refine JC.seq ?_ | refine JC.ops ?_ | refine JO.nil ?_ | refine JX.thenN ?_ | (apply r_move; exact rfl; exact rfl; exact rfl) | (apply r_fieldAddr; exact rfl; exact rfl; exact rfl) | (apply r_load; exact rfl; exact rfl; exact rfl; exact rfl; (first | exact at0 | exact at1 | exact at2 | exact at3 | exact at4 | exact at5 | exact at6 | exact at7); exact rfl) | (apply r_allocZ; exact rfl; exact rfl; exact rfl; intro _) | (apply r_storeN; exact rfl; (first | exact trivial | exact ⟨rfl, rfl⟩); exact rfl; exact rfl; (first | exact at0 | exact at1 | exact at2 | exact at3 | exact at4 | exact at5 | exact at6 | exact at7); exact rfl; exact rfl; exact rfl) | refine JC.block ?_))
  rename_i b5
  refine JC.loopH (ι := Nat × SHeap) ⟨fun z => [(13, nv z.1), (12, nv n), (0, nv p), (1, nv n), (5, .pointer (some ⟨b5, 0, none⟩)), (4, .pointer (some ⟨b4, 0, none⟩))],
    fun z => [(b5, .cells #[nv p, nv n, nv n, .slice Ao (n * n) co] 27), (b4, .cells #[iv 0, iv 0, iv 0, .slice none 0 0] 27)] ++ (z.2 ++ []),
    fun z => z.1 ≤ n ∧ OwnN z.2 (.slice Ao (n * n) co) (n * n) (oS n z.1), fun z => n - z.1⟩ (0, N) ⟨by omega, by rw [oS_zero]; exact hO⟩ (by repeat first | exact trivial | refine ⟨rfl, ?_⟩) (by (first | exact HSub.refl _ | (repeat' first | exact HSub.nil _ | exact HSub.refl _ | refine HSub.at 0 rfl ?_ | refine HSub.at 1 rfl ?_ | refine HSub.at 2 rfl ?_ | refine HSub.at 3 rfl ?_ | refine HSub.at 4 rfl ?_ | refine HSub.at 5 rfl ?_ | refine HSub.at 6 rfl ?_ | refine HSub.at 7 rfl ?_))) (fun k hk => ?_)
  obtain ⟨k, N⟩ := k
  obtain ⟨hkn, hO⟩ := hk
  dsimp only at hkn hO ⊢
  by_cases hk : k < n
  · have hlt := idx_lt hk hk
    have hkk : k * n ≤ 160000 := Nat.mul_le_mul (show k ≤ 400 by omega) hn
    (repeat' (first | refine JC.seq ?_ | refine JC.ops ?_ | refine JO.nil ?_ | refine JX.thenN ?_ | (apply r_move; exact rfl; exact rfl; exact rfl) | (apply r_fieldAddr; exact rfl; exact rfl; exact rfl) | (apply r_assign; exact rfl; exact rfl; exact rfl) | (apply r_load; exact rfl; exact rfl; exact rfl; exact rfl; (first | exact at0 | exact at1 | exact at2 | exact at3 | exact at4 | exact at5 | exact at6 | exact at7); exact rfl) | (apply r_idxN; exact rfl; exact rfl; exact rfl; exact rfl; (first | assumption | exact WN.rd (by assumption) rfl [] | exact OwnN.rd (by assumption)); (first | assumption | omega)) | (apply r_addN; exact rfl; exact rfl; exact rfl; exact rfl; omega) | (apply r_mulN; exact rfl; exact rfl; exact rfl; exact rfl; (first | assumption | omega)) | (apply r_lss; exact rfl; exact rfl; exact rfl; exact rfl; all_goals intro hc; all_goals try (exfalso; omega)) | refine JC.skip ?_ | refine JC.condT rfl ?_ | refine JC.block ?_))
    refine r_stN (A := [_, _]) (u := 1) hO rfl rfl (by first | trivial | exact ⟨rfl, rfl⟩) rfl rfl hlt (fun N' hO' => ?_)
    rw [oS_set hk] at hO'
    (repeat' (first | refine JC.ops ?_ | refine JO.nil ?_ | refine JX.thenN ?_ | (apply r_move; exact rfl; exact rfl; exact rfl) | (apply r_add1; exact rfl; exact rfl; exact rfl; exact rfl; omega) | refine JX.blockN ?_))
    exact JX.roundH (k + 1, N') ⟨by dsimp only; omega, hO'⟩ (by dsimp only; omega) (by repeat first | exact trivial | refine ⟨rfl, ?_⟩) (by (first | exact HSub.refl _ | (repeat' first | exact HSub.nil _ | exact HSub.refl _ | refine HSub.at 0 rfl ?_ | refine HSub.at 1 rfl ?_ | refine HSub.at 2 rfl ?_ | refine HSub.at 3 rfl ?_ | refine HSub.at 4 rfl ?_ | refine HSub.at 5 rfl ?_ | refine HSub.at 6 rfl ?_ | refine HSub.at 7 rfl ?_)))
  · (repeat' (first | refine JC.seq ?_ | refine JC.ops ?_ | refine JO.nil ?_ | refine JX.thenN ?_ | (apply r_loadN; exact rfl; exact rfl; exact rfl; exact rfl; (first | exact at0 | exact at1 | exact at2 | exact at3 | exact at4 | exact at5 | exact at6 | exact at7); exact rfl) | (apply r_lss; exact rfl; exact rfl; exact rfl; exact rfl; all_goals intro hc; all_goals try (exfalso; omega)) | (apply r_storeN; exact rfl; (first | exact trivial | exact ⟨rfl, rfl⟩); exact rfl; exact rfl; (first | exact at0 | exact at1 | exact at2 | exact at3 | exact at4 | exact at5 | exact at6 | exact at7); exact rfl; exact rfl; exact rfl) | refine JX.thenE ?_ | refine JC.exit ?_ | refine JC.ret ?_ | refine JC.condF rfl ?_ | refine JX.blockE ?_))
    rw [oS_end (p := p) (by omega)] at hO
    exact JX.retC 1 rfl rfl rfl (fun a w' st => ⟨st.kp, N, st.newOf rfl (by (repeat' first | exact HSub.nil _ | exact HSub.hd | exact HSub.in0 | exact HSub.refl _ | refine HSub.skip ?_ | refine HSub.skipN ?_)), OwnM.mk' hO⟩)

set_option maxHeartbeats 2000000 in
theorem c_refOne (w : World) (p n : Nat) (hp : Pr p) (hn : n ≤ 400) :
    Calls Try.prog 55 #[.int .i64 p, .int .i64 n] w (Ret fun v w' => Kp [] w w' ∧ GivesM (oneM p n) w v w') := by
  have hrc := rc_le hn hn
  refine calls_of_S [] [] (by simp) [] Try.func55 rfl mixed (by kernel_rfl) Try.ntmps55 Try.results55 rfl ⟨by simp, by simp⟩ (by simp) ?_
  simp only [toS, textOps, toSOp, kindAt, kindOf, odAt, sopsAt, ordOf, zipF]
  (repeat' (first | refine JC.seq ?_ | refine JC.ops ?_ | refine JO.nil ?_ | refine JX.thenN ?_ | (apply r_move; exact rfl; exact rfl; exact rfl) | (apply r_allocZ; exact rfl; exact rfl; exact rfl; intro _)))
  rename_i b4
  refine r_callA (A := [_]) (B := []) rfl trivial rfl rfl rfl (fun w hk _ => c_refZero p n n hp hn hn w) fun w v w' _ _ _ hR => ?_
  obtain ⟨N, Eo, hN, rfl, hO⟩ := hR
  obtain ⟨Ao, co, rfl⟩ := hO.form
  refine ⟨N, hN, ?_⟩
  (repeat' (first | refine JC.seq ?_ | refine JC.ops ?_ | refine JO.nil ?_ | refine JX.thenN ?_ | (apply r_assign; exact rfl; exact rfl; exact rfl) | (apply r_allocZ; exact rfl; exact rfl; exact rfl; intro _) | (apply r_storeN; exact rfl; (first | exact trivial | exact ⟨rfl, rfl⟩); exact rfl; exact rfl; (first | exact at0 | exact at1 | exact at2 | exact at3 | exact at4 | exact at5 | exact at6 | exact at7); exact rfl; exact rfl; exact rfl) | refine JC.block ?_))
  rename_i b5
  refine JC.loopH (ι := Nat × SHeap) ⟨fun z => [(6, nv z.1), (0, nv p), (1, nv n), (5, .pointer (some ⟨b5, 0, none⟩)), (4, .pointer (some ⟨b4, 0, none⟩))],
    fun z => [(b5, .cells #[nv p, nv n, nv n, .slice Ao (n * n) co] 27), (b4, .cells #[iv 0, iv 0, iv 0, .slice none 0 0] 27)] ++ (z.2 ++ []),
    fun z => z.1 ≤ n ∧ OwnN z.2 (.slice Ao (n * n) co) (n * n) (oS n z.1), fun z => n - z.1⟩ (0, N) ⟨by omega, by rw [oS_zero]; exact hO⟩ (by repeat first | exact trivial | refine ⟨rfl, ?_⟩) (by (first | exact HSub.refl _ | (repeat' first | exact HSub.nil _ | exact HSub.refl _ | refine HSub.at 0 rfl ?_ | refine HSub.at 1 rfl ?_ | refine HSub.at 2 rfl ?_ | refine HSub.at 3 rfl ?_ | refine HSub.at 4 rfl ?_ | refine HSub.at 5 rfl ?_ | refine HSub.at 6 rfl ?_ | refine HSub.at 7 rfl ?_))) (fun k hk => ?_)
  obtain ⟨k, N⟩ := k
  obtain ⟨hkn, hO⟩ := hk
  dsimp only at hkn hO ⊢
  by_cases hk : k < n
  · have hlt := idx_lt hk hk
    have hkk : k * n ≤ 160000 := Nat.mul_le_mul (show k ≤ 400 by omega) hn
    (repeat' (first | refine JC.seq ?_ | refine JC.ops ?_ | refine JO.nil ?_ | refine JX.thenN ?_ | (apply r_move; exact rfl; exact rfl; exact rfl) | (apply r_fieldAddr; exact rfl; exact rfl; exact rfl) | (apply r_load; exact rfl; exact rfl; exact rfl; exact rfl; (first | exact at0 | exact at1 | exact at2 | exact at3 | exact at4 | exact at5 | exact at6 | exact at7); exact rfl) | (apply r_idxN; exact rfl; exact rfl; exact rfl; exact rfl; (first | assumption | exact WN.rd (by assumption) rfl [] | exact OwnN.rd (by assumption)); (first | assumption | omega)) | (apply r_addN; exact rfl; exact rfl; exact rfl; exact rfl; omega) | (apply r_mulN; exact rfl; exact rfl; exact rfl; exact rfl; (first | assumption | omega)) | (apply r_lss; exact rfl; exact rfl; exact rfl; exact rfl; all_goals intro hc; all_goals try (exfalso; omega)) | refine JC.skip ?_ | refine JC.condT rfl ?_ | refine JC.block ?_))
    refine r_stN (A := [_, _]) (u := 1) hO rfl rfl (by first | trivial | exact ⟨rfl, rfl⟩) rfl rfl hlt (fun N' hO' => ?_)
    rw [oS_set hk] at hO'
    (repeat' (first | refine JC.ops ?_ | refine JO.nil ?_ | refine JX.thenN ?_ | (apply r_move; exact rfl; exact rfl; exact rfl) | (apply r_assign; exact rfl; exact rfl; exact rfl) | (apply r_add1; exact rfl; exact rfl; exact rfl; exact rfl; omega) | refine JX.blockN ?_))
    exact JX.roundH (k + 1, N') ⟨by dsimp only; omega, hO'⟩ (by dsimp only; omega) (by repeat first | exact trivial | refine ⟨rfl, ?_⟩) (by (first | exact HSub.refl _ | (repeat' first | exact HSub.nil _ | exact HSub.refl _ | refine HSub.at 0 rfl ?_ | refine HSub.at 1 rfl ?_ | refine HSub.at 2 rfl ?_ | refine HSub.at 3 rfl ?_ | refine HSub.at 4 rfl ?_ | refine HSub.at 5 rfl ?_ | refine HSub.at 6 rfl ?_ | refine HSub.at 7 rfl ?_)))
  · (repeat' (first | refine JC.seq ?_ | refine JC.ops ?_ | refine JO.nil ?_ | refine JX.thenN ?_ | (apply r_move; exact rfl; exact rfl; exact rfl) | (apply r_fieldAddr; exact rfl; exact rfl; exact rfl) | (apply r_load; exact rfl; exact rfl; exact rfl; exact rfl; (first | exact at0 | exact at1 | exact at2 | exact at3 | exact at4 | exact at5 | exact at6 | exact at7); exact rfl) | (apply r_loadN; exact rfl; exact rfl; exact rfl; exact rfl; (first | exact at0 | exact at1 | exact at2 | exact at3 | exact at4 | exact at5 | exact at6 | exact at7); exact rfl) | (apply r_lss; exact rfl; exact rfl; exact rfl; exact rfl; all_goals intro hc; all_goals try (exfalso; omega)) | (apply r_storeN; exact rfl; (first | exact trivial | exact ⟨rfl, rfl⟩); exact rfl; exact rfl; (first | exact at0 | exact at1 | exact at2 | exact at3 | exact at4 | exact at5 | exact at6 | exact at7); exact rfl; exact rfl; exact rfl) | refine JX.thenE ?_ | refine JC.exit ?_ | refine JC.ret ?_ | refine JC.condF rfl ?_ | refine JX.blockE ?_))
    rw [oS_end (p := p) (by omega)] at hO
    exact JX.retC 1 rfl rfl rfl (fun a w' st => ⟨st.kp, N, st.newOf rfl (by (repeat' first | exact HSub.nil _ | exact HSub.hd | exact HSub.in0 | exact HSub.refl _ | refine HSub.skip ?_ | refine HSub.skipN ?_)), OwnM.mk' hO⟩)

end Go.Proofs.Ytdoogoglfbohaaa
