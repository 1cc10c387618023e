/- Walks of field: kernels. -/
import Derived.Test.YtdoogoglfbohaaaFldW6
namespace Go.Proofs.Ytdoogoglfbohaaa
open Go Go.RowKit
set_option linter.unusedSimpArgs false
set_option linter.unusedVariables false
set_option linter.unusedSectionVars false

theorem nodup_inc {l : List Nat} (h : ∀ i i', i < i' → i' < l.length → l.getD i 0 < l.getD i' 0) : l.Nodup := by
  refine List.pairwise_iff_getElem.2 fun i j hi hj hij => ?_
  have := h i j hij hj
  simp only [List.getD, List.getElem?_eq_getElem hi, List.getElem?_eq_getElem hj, Option.getD_some] at this
  omega

/-- How many numbers below j are not in the list. -/
def cnt (l : List Nat) : Nat → Nat
  | 0 => 0
  | j + 1 => if j ∈ l then cnt l j else cnt l j + 1

theorem countP_succ (j : Nat) : ∀ (l : List Nat), l.countP (fun x => decide (x < j + 1)) = l.countP (fun x => decide (x < j)) + l.count j
  | [] => rfl
  | x :: l => by
    simp only [List.countP_cons, List.count_cons, countP_succ j l]
    by_cases h1 : x < j
    · have : ¬ x = j := by omega
      simp [h1, this, show x < j + 1 by omega]; omega
    · by_cases h2 : x = j
      · subst h2; simp; omega
      · have : ¬ x < j + 1 := by omega
        simp [h1, h2, this]
theorem cnt_count {l : List Nat} (hl : l.Nodup) : ∀ j, cnt l j + l.countP (fun x => decide (x < j)) = j
  | 0 => by simp [cnt]
  | j + 1 => by
    have ih := cnt_count hl j
    rw [countP_succ, cnt]
    split
    · rename_i h
      rw [hl.count, if_pos h]; omega
    · rename_i h
      rw [List.count_eq_zero_of_not_mem h]; omega
theorem cnt_end {l : List Nat} (hl : l.Nodup) {c : Nat} (h : ∀ x ∈ l, x < c) : cnt l c = c - l.length := by
  have h1 := cnt_count hl c
  have h2 : l.countP (fun x => decide (x < c)) = l.length := List.countP_eq_length.2 fun x hx => decide_eq_true (h x hx)
  omega
theorem cnt_mono {l : List Nat} {j : Nat} : ∀ d, cnt l j ≤ cnt l (j + d)
  | 0 => Nat.le_refl _
  | d + 1 => by
    have := cnt_mono (l := l) (j := j) d
    rw [← Nat.add_assoc, cnt]
    split <;> omega
theorem cnt_lt {l : List Nat} (hl : l.Nodup) {c j : Nat} (h : ∀ x ∈ l, x < c) (hj : j < c) (hn : j ∉ l) : cnt l j < c - l.length := by
  have h1 := cnt_mono (l := l) (j := j + 1) (c - (j + 1))
  rw [show j + 1 + (c - (j + 1)) = c by omega, cnt_end hl h, cnt, if_neg hn] at h1
  omega

/-- One column of the kernel, while it is made: n pivots are done. -/
def kcol (p c : Nat) (e l : List Nat) (j q : Nat) (G : Nat → Nat → Nat) : Nat → Nat → Nat → Nat
  | 0 => fun a b => if a = j ∧ b = q then 1 else G a b
  | n + 1 => fun a b => if a = l.getD n 0 ∧ b = q then (p - ent c e n j) % p else kcol p c e l j q G n a b
def kerG (p c : Nat) (e l : List Nat) : Nat → Nat → Nat → Nat
  | 0 => fun _ _ => 0
  | j + 1 => if j ∈ l then kerG p c e l j else kcol p c e l j (cnt l j) (kerG p c e l j) l.length
def kerM (m : NM) : NM := ⟨m.p, m.c, m.c - (pivM m).length, tab2 m.c (m.c - (pivM m).length) (kerG m.p m.c (echM m).e (pivM m) m.c)⟩

/-- What is known of the pivots. -/
structure Pvs (m : NM) : Prop where
  r : (pivM m).length ≤ m.r
  c : (pivM m).length ≤ m.c
  lt : ∀ i, i < (pivM m).length → (pivM m).getD i 0 < m.c
  nd : (pivM m).Nodup
  mem : ∀ x ∈ pivM m, x < m.c
  els : (echM m).e.length = m.r * m.c
  ent : ∀ i j, ent m.c (echM m).e i j < m.p

theorem Pvs.of {m : NM} (hm : Big m) : Pvs m := by
  haveI := hm.pr.nz
  have h := redTo_ok hm.pr hm.els m.c (Nat.le_refl _)
  have hpos : 0 < m.p := by have := hm.pr.1; omega
  refine ⟨h.red.kr, h.red.kc, h.red.lt, nodup_inc h.red.inc, fun x hx => ?_, h.els.len, h.els.ent hpos⟩
  obtain ⟨i, hi, rfl⟩ := List.mem_iff_getElem.1 hx
  have := h.red.lt i hi
  unfold pivM at hi ⊢
  simpa only [List.getD, List.getElem?_eq_getElem hi, Option.getD_some] using this

set_option maxHeartbeats 4000000 in
theorem c_Kernel (w : World) (v : Value) (m : NM) (hm : Rt m) (hv : IsM w v m) :
    Calls Try.prog 27 #[v] w (Ret fun v w' => Kp [] w w' ∧ GivesM (kerM m) w v w') := by
  have hv0 := hv
  obtain ⟨E, rfl, hE⟩ := hv
  obtain ⟨hPr, hPc, hPlt, hPnd, hPmem, hPels, hPent⟩ := Pvs.of hm.big
  have hbr := hm.r
  have hbc := hm.c
  have hp := hm.pr
  have hp2 := hp.1
  have hp9 := hp.2.1
  generalize hl : pivM m = l at *
  generalize he : (echM m).e = e at *
  refine calls_of_S [⟨14, 2, [], []⟩] [] (by simp) [] Try.func27 rfl mixed (by kernel_rfl) Try.ntmps27 Try.results27 rfl ⟨by simp, by simp⟩ (by simp) ?_
  simp only [toS, textOps, toSOp, kindAt, kindOf, odAt, sopsAt, ordOf, zipF]
  (repeat' (first | refine JC.seq ?_ | refine JC.ops ?_ | refine JO.nil ?_ | refine JX.thenN ?_ | (apply r_loadN; exact rfl; exact rfl; exact rfl; exact rfl; (first | exact at0 | exact at1 | exact at2 | exact at3 | exact at4 | exact at5 | exact at6 | exact at7); exact rfl) | (apply r_allocZ; exact rfl; exact rfl; exact rfl; intro _) | (apply r_boxA; exact rfl; exact rfl; exact rfl; exact rfl; intro _)))
  rename_i b1 b2
  refine r_callA (A := [_, _]) (B := []) rfl trivial rfl rfl rfl (fun w hk _ => c_Echelon w _ m hm (hv0.mono hk)) fun w v w' _ _ _ hR => ?_
  obtain ⟨N, N2, u, x, rfl, hN, ⟨Eo, rfl, hOe⟩, hO2⟩ := hR
  rw [hl] at hO2
  rw [he, hPels] at hOe
  obtain ⟨Ae, ce, rfl⟩ := hOe.form
  refine ⟨_, hN, ?_⟩
  rw [List.append_assoc]
  (repeat' (first | refine JC.seq ?_ | refine JC.ops ?_ | refine JO.nil ?_ | refine JX.thenN ?_ | (apply r_move; exact rfl; exact rfl; exact rfl) | (apply r_fieldAddr; exact rfl; exact rfl; exact rfl) | (apply r_assign; exact rfl; exact rfl; exact rfl) | (apply r_load; exact rfl; exact rfl; exact rfl; exact rfl; (first | exact at0 | exact at1 | exact at2 | exact at3 | exact at4 | exact at5 | exact at6 | exact at7); exact rfl) | (apply r_lenN; exact rfl; exact rfl; exact rfl; (first | assumption | exact WN.rd (by assumption) rfl [] | exact OwnN.rd (by assumption))) | (apply r_subN; exact rfl; exact rfl; exact rfl; exact rfl; omega) | (apply r_extract; exact rfl; exact rfl; exact rfl; exact rfl) | (apply r_eql; exact rfl; exact rfl; exact rfl; exact rfl; all_goals intro hc; all_goals try (exfalso; omega)) | (apply r_allocZ; exact rfl; exact rfl; exact rfl; intro _) | (apply r_buildL; exact rfl; exact rfl; exact rfl; exact rfl; exact rfl) | (apply r_storeN; exact rfl; (first | exact trivial | exact ⟨rfl, rfl⟩); exact rfl; exact rfl; (first | exact at0 | exact at1 | exact at2 | exact at3 | exact at4 | exact at5 | exact at6 | exact at7); exact rfl; exact rfl; exact rfl) | refine JX.thenR ?_ | refine JC.skip ?_ | refine JC.ret ?_ | refine JC.condT rfl ?_ | refine JC.condF rfl ?_))
  · exfalso
    have : (m.p : Int) = 0 := hc
    omega
  rename_i b3
  refine r_callA (A := [_, _, _]) rfl trivial rfl rfl rfl (fun w hk _ => c_zero m.p m.c (m.c - l.length) hm.pr hm.c (by omega) w) fun w v w' _ _ _ hR => ?_
  obtain ⟨N5, E5, hN5, rfl, hO5⟩ := hR
  obtain ⟨A5, c5, rfl⟩ := hO5.form
  refine ⟨N5, hN5, ?_⟩
  (repeat' (first | refine JC.seq ?_ | refine JC.ops ?_ | refine JO.nil ?_ | refine JX.thenN ?_ | (apply r_move; exact rfl; exact rfl; exact rfl) | (apply r_fieldAddr; exact rfl; exact rfl; exact rfl) | (apply r_assign; exact rfl; exact rfl; exact rfl) | (apply r_load; exact rfl; exact rfl; exact rfl; exact rfl; (first | exact at0 | exact at1 | exact at2 | exact at3 | exact at4 | exact at5 | exact at6 | exact at7); exact rfl) | (apply r_allocZ; exact rfl; exact rfl; exact rfl; intro _) | (apply r_storeN; exact rfl; (first | exact trivial | exact ⟨rfl, rfl⟩); exact rfl; exact rfl; (first | exact at0 | exact at1 | exact at2 | exact at3 | exact at4 | exact at5 | exact at6 | exact at7); exact rfl; exact rfl; exact rfl) | refine JC.block ?_))
  rename_i b5
  refine JC.loopH (ι := Nat × SHeap) ⟨fun z => [(31, nv z.1), (30, nv m.c), (6, nv (cnt l z.1)), (4, x), (5, .pointer (some ⟨b5, 0, none⟩)), (3, .pointer (some ⟨b3, 0, none⟩)), (2, .pointer (some ⟨b2, 0, none⟩)), (1, .pointer (some ⟨b1, 0, none⟩))],
    fun z => [(b5, .cells #[nv m.p, nv m.c, nv (m.c - l.length), .slice A5 (m.c * (m.c - l.length)) c5] 27), (b3, .cells #[nv m.p, nv m.r, nv m.c, .slice Ae (m.r * m.c) ce] 27), (b2, .cells #[iv 0, iv 0, iv 0, .slice none 0 0] 27), (b1, .cells #[nv m.p, nv m.r, nv m.c, E] 27)] ++ (z.2 ++ (N ++ (N2 ++ []))),
    fun z => z.1 ≤ m.c ∧ OwnN z.2 (.slice A5 (m.c * (m.c - l.length)) c5) (m.c * (m.c - l.length)) (tab2 m.c (m.c - l.length) (kerG m.p m.c e l z.1)), fun z => m.c - z.1⟩ (0, N5) ⟨by dsimp only; omega, hO5⟩ (by repeat first | exact trivial | refine ⟨rfl, ?_⟩) (by (first | exact HSub.refl _ | (repeat' first | exact HSub.nil _ | exact HSub.refl _ | refine HSub.at 0 rfl ?_ | refine HSub.at 1 rfl ?_ | refine HSub.at 2 rfl ?_ | refine HSub.at 3 rfl ?_ | refine HSub.at 4 rfl ?_ | refine HSub.at 5 rfl ?_ | refine HSub.at 6 rfl ?_ | refine HSub.at 7 rfl ?_))) (fun z hz => ?_)
  clear hO5
  obtain ⟨j, N5⟩ := z
  obtain ⟨hj, hO⟩ := hz
  dsimp only at hj hO ⊢
  have hcc := cnt_mono (l := l) (j := j) (m.c - j)
  rw [show j + (m.c - j) = m.c by omega, cnt_end hPnd hPmem] at hcc
  by_cases hjc : j < m.c
  · (repeat' (first | refine JC.seq ?_ | refine JC.ops ?_ | refine JO.nil ?_ | refine JX.thenN ?_ | (apply r_move; exact rfl; exact rfl; exact rfl) | (apply r_assign; exact rfl; exact rfl; exact rfl) | (apply r_lss; exact rfl; exact rfl; exact rfl; exact rfl; all_goals intro hc; all_goals try (exfalso; omega)) | refine JC.skip ?_ | refine JC.condT rfl ?_ | refine JC.block ?_))
    refine r_call0 trivial rfl rfl rfl (fun w hk hs => c_Contains w _ _ j l (hO2.rd.at hk hs (by (repeat' first | exact HSub.nil _ | exact HSub.hd | exact HSub.in0 | exact HSub.refl _ | refine HSub.skip ?_ | refine HSub.skipN ?_))) (by omega)) fun w v w' _ _ _ hR => ?_
    subst hR
    by_cases hjl : j ∈ l
    · rw [decide_eq_true hjl]
      (repeat' (first | refine JC.ops ?_ | refine JO.nil ?_ | refine JX.thenN ?_ | (apply r_move; exact rfl; exact rfl; exact rfl) | (apply r_add1; exact rfl; exact rfl; exact rfl; exact rfl; omega) | refine JX.thenE ?_ | refine JC.exit ?_ | refine JC.condT rfl ?_ | refine JX.blockE ?_))
      exact JX.roundH (j + 1, N5) ⟨by dsimp only; omega, by dsimp only [kerG]; rw [if_pos hjl]; exact hO⟩ (by dsimp only; omega) (by dsimp only [cnt]; rw [if_pos hjl]; exact (by repeat first | exact trivial | refine ⟨rfl, ?_⟩)) (by (first | exact HSub.refl _ | (repeat' first | exact HSub.nil _ | exact HSub.refl _ | refine HSub.at 0 rfl ?_ | refine HSub.at 1 rfl ?_ | refine HSub.at 2 rfl ?_ | refine HSub.at 3 rfl ?_ | refine HSub.at 4 rfl ?_ | refine HSub.at 5 rfl ?_ | refine HSub.at 6 rfl ?_ | refine HSub.at 7 rfl ?_)))
    · rw [decide_eq_false hjl]
      have hcl := cnt_lt hPnd hPmem hjc hjl
      have hidx := idx_lt hjc hcl
      have hb1 : j * (m.c - l.length) ≤ 160000 := Nat.mul_le_mul (show j ≤ 400 by omega) (show m.c - l.length ≤ 400 by omega)
      (repeat' (first | refine JC.seq ?_ | refine JC.ops ?_ | refine JO.nil ?_ | refine JX.thenN ?_ | (apply r_move; exact rfl; exact rfl; exact rfl) | (apply r_fieldAddr; exact rfl; exact rfl; exact rfl) | (apply r_load; exact rfl; exact rfl; exact rfl; exact rfl; (first | exact at0 | exact at1 | exact at2 | exact at3 | exact at4 | exact at5 | exact at6 | exact at7); exact rfl) | (apply r_idxN; exact rfl; exact rfl; exact rfl; exact rfl; (first | assumption | exact WN.rd (by assumption) rfl [] | exact OwnN.rd (by assumption)); (first | assumption | omega)) | (apply r_addN; exact rfl; exact rfl; exact rfl; exact rfl; omega) | (apply r_mulN; exact rfl; exact rfl; exact rfl; exact rfl; (first | assumption | omega)) | refine JC.skip ?_ | refine JC.condF rfl ?_))
      refine r_stN (A := [_, _, _, _]) (u := 1) hO rfl rfl (by first | trivial | exact ⟨rfl, rfl⟩) rfl rfl hidx (fun N' hO' => ?_)
      rw [tab2_set hcl] at hO'
      (repeat' (first | refine JC.seq ?_ | refine JC.ops ?_ | refine JO.nil ?_ | refine JX.thenN ?_ | (apply r_move; exact rfl; exact rfl; exact rfl) | (apply r_lenN; exact rfl; exact rfl; exact rfl; (first | assumption | exact WN.rd (by assumption) rfl [] | exact OwnN.rd (by assumption))) | refine JC.block ?_))
      refine JC.loopH (ι := Nat × SHeap) ⟨fun z => [(48, nv z.1), (47, nv l.length), (46, x), (31, nv j), (7, nv j), (30, nv m.c), (6, nv (cnt l j)), (4, x), (5, .pointer (some ⟨b5, 0, none⟩)), (3, .pointer (some ⟨b3, 0, none⟩)), (2, .pointer (some ⟨b2, 0, none⟩)), (1, .pointer (some ⟨b1, 0, none⟩))],
        fun z => [(b5, .cells #[nv m.p, nv m.c, nv (m.c - l.length), .slice A5 (m.c * (m.c - l.length)) c5] 27), (b3, .cells #[nv m.p, nv m.r, nv m.c, .slice Ae (m.r * m.c) ce] 27), (b2, .cells #[iv 0, iv 0, iv 0, .slice none 0 0] 27), (b1, .cells #[nv m.p, nv m.r, nv m.c, E] 27)] ++ (z.2 ++ (N ++ (N2 ++ []))),
        fun z => z.1 ≤ l.length ∧ OwnN z.2 (.slice A5 (m.c * (m.c - l.length)) c5) (m.c * (m.c - l.length)) (tab2 m.c (m.c - l.length) (kcol m.p m.c e l j (cnt l j) (kerG m.p m.c e l j) z.1)), fun z => l.length - z.1⟩ (0, N') ⟨by dsimp only; omega, hO'⟩ (by repeat first | exact trivial | refine ⟨rfl, ?_⟩) (by (first | exact HSub.refl _ | (repeat' first | exact HSub.nil _ | exact HSub.refl _ | refine HSub.at 0 rfl ?_ | refine HSub.at 1 rfl ?_ | refine HSub.at 2 rfl ?_ | refine HSub.at 3 rfl ?_ | refine HSub.at 4 rfl ?_ | refine HSub.at 5 rfl ?_ | refine HSub.at 6 rfl ?_ | refine HSub.at 7 rfl ?_))) (fun z hz => ?_)
      clear hO hO'
      obtain ⟨i, N5⟩ := z
      obtain ⟨hi, hO⟩ := hz
      dsimp only at hi hO ⊢
      by_cases hil : i < l.length
      · have hlt := hPlt i hil
        have hidx2 := idx_lt hlt hcl
        have hb2 : l.getD i 0 * (m.c - l.length) ≤ 160000 := Nat.mul_le_mul (show l.getD i 0 ≤ 400 by omega) (show m.c - l.length ≤ 400 by omega)
        have hb3 : i * m.c ≤ 160000 := Nat.mul_le_mul (show i ≤ 400 by omega) hbc
        have hidx3 := idx_lt (show i < m.r by omega) hjc
        have hee : e.getD (i * m.c + j) 0 < m.p := hPent i j
        (repeat' (first | refine JC.seq ?_ | refine JC.ops ?_ | refine JC.opsD ?_ | refine JO.nil ?_ | refine JX.thenN ?_ | (apply r_move; exact rfl; exact rfl; exact rfl) | (apply r_fieldAddr; exact rfl; exact rfl; exact rfl) | (apply r_assign; exact rfl; exact rfl; exact rfl) | (apply r_load; exact rfl; exact rfl; exact rfl; exact rfl; (first | exact at0 | exact at1 | exact at2 | exact at3 | exact at4 | exact at5 | exact at6 | exact at7); exact rfl) | (apply r_idxN; exact rfl; exact rfl; exact rfl; exact rfl; (first | assumption | exact WN.rd (by assumption) rfl [] | exact OwnN.rd (by assumption)); (first | assumption | omega)) | (apply r_ldN; exact rfl; exact rfl; exact rfl; exact rfl; (first | assumption | exact WN.rd (by assumption) rfl [] | exact OwnN.rd (by assumption)); (repeat' first | exact HSub.nil _ | exact HSub.hd | exact HSub.in0 | exact HSub.refl _ | refine HSub.skip ?_ | refine HSub.skipN ?_); (first | assumption | omega)) | (apply r_addN; exact rfl; exact rfl; exact rfl; exact rfl; omega) | (apply r_mulN; exact rfl; exact rfl; exact rfl; exact rfl; (first | assumption | omega)) | (apply r_modN; exact rfl; exact rfl; exact rfl; exact rfl; omega) | (apply r_subN; exact rfl; exact rfl; exact rfl; exact rfl; omega) | (apply r_lss; exact rfl; exact rfl; exact rfl; exact rfl; all_goals intro hc; all_goals try (exfalso; omega)) | refine JC.skip ?_ | refine JC.condT rfl ?_ | refine JC.block ?_))
        refine r_stN (A := [_, _, _, _]) hO rfl rfl (by first | trivial | exact ⟨rfl, rfl⟩) rfl rfl hidx2 (fun N' hO' => ?_)
        rw [tab2_set hcl] at hO'
        (repeat' (first | refine JC.ops ?_ | refine JO.nil ?_ | refine JX.thenN ?_ | (apply r_move; exact rfl; exact rfl; exact rfl) | (apply r_add1; exact rfl; exact rfl; exact rfl; exact rfl; omega) | refine JX.blockN ?_))
        exact JX.roundH (i + 1, N') ⟨by dsimp only; omega, hO'⟩ (by dsimp only; omega) (by repeat first | exact trivial | refine ⟨rfl, ?_⟩) (by (first | exact HSub.refl _ | (repeat' first | exact HSub.nil _ | exact HSub.refl _ | refine HSub.at 0 rfl ?_ | refine HSub.at 1 rfl ?_ | refine HSub.at 2 rfl ?_ | refine HSub.at 3 rfl ?_ | refine HSub.at 4 rfl ?_ | refine HSub.at 5 rfl ?_ | refine HSub.at 6 rfl ?_ | refine HSub.at 7 rfl ?_)))
      · have : i = l.length := by omega
        subst this
        (repeat' (first | refine JC.seq ?_ | refine JC.ops ?_ | refine JO.nil ?_ | refine JX.thenN ?_ | (apply r_move; exact rfl; exact rfl; exact rfl) | (apply r_assign; exact rfl; exact rfl; exact rfl) | (apply r_add1; exact rfl; exact rfl; exact rfl; exact rfl; omega) | (apply r_lss; exact rfl; exact rfl; exact rfl; exact rfl; all_goals intro hc; all_goals try (exfalso; omega)) | refine JX.thenE ?_ | refine JC.exit ?_ | refine JC.condF rfl ?_ | refine JX.blockN ?_ | refine JX.blockE ?_))
        exact JX.roundH (j + 1, N5) ⟨by dsimp only; omega, by dsimp only [kerG]; rw [if_neg hjl]; exact hO⟩ (by dsimp only; omega) (by dsimp only [cnt]; rw [if_neg hjl]; exact (by repeat first | exact trivial | refine ⟨rfl, ?_⟩)) (by (first | exact HSub.refl _ | (repeat' first | exact HSub.nil _ | exact HSub.refl _ | refine HSub.at 0 rfl ?_ | refine HSub.at 1 rfl ?_ | refine HSub.at 2 rfl ?_ | refine HSub.at 3 rfl ?_ | refine HSub.at 4 rfl ?_ | refine HSub.at 5 rfl ?_ | refine HSub.at 6 rfl ?_ | refine HSub.at 7 rfl ?_)))
  · have : j = m.c := by omega
    subst this
    (repeat' (first | refine JC.seq ?_ | refine JC.ops ?_ | refine JO.nil ?_ | refine JX.thenN ?_ | (apply r_loadN; exact rfl; exact rfl; exact rfl; exact rfl; (first | exact at0 | exact at1 | exact at2 | exact at3 | exact at4 | exact at5 | exact at6 | exact at7); exact rfl) | (apply r_lss; exact rfl; exact rfl; exact rfl; exact rfl; all_goals intro hc; all_goals try (exfalso; omega)) | (apply r_storeN; exact rfl; (first | exact trivial | exact ⟨rfl, rfl⟩); exact rfl; exact rfl; (first | exact at0 | exact at1 | exact at2 | exact at3 | exact at4 | exact at5 | exact at6 | exact at7); exact rfl; exact rfl; exact rfl) | refine JX.thenE ?_ | refine JC.exit ?_ | refine JC.ret ?_ | refine JC.condF rfl ?_ | refine JX.blockE ?_))
    refine JX.retC 2 rfl rfl rfl (fun a w' st => ⟨st.kp, N5, st.newOf rfl (by (repeat' first | exact HSub.nil _ | exact HSub.hd | exact HSub.in0 | exact HSub.refl _ | refine HSub.skip ?_ | refine HSub.skipN ?_)), ?_⟩)
    unfold kerM
    rw [hl, he]
    exact OwnM.mk' hO

end Go.Proofs.Ytdoogoglfbohaaa
