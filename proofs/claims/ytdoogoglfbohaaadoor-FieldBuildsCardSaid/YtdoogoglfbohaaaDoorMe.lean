import Derived.Test.YtdoogoglfbohaaaDoorMd
import Derived.Test.YtdoogoglfbohaaaDoorMc
import Derived.Laws.Bits64b
import Derived.Laws.Strings
import Derived.Laws.Strings2
import Derived.Laws.Strings3
import Derived.Laws.Concat
import Derived.Laws.Slices
import Derived.Laws.IdiomStrings
namespace Go.Proofs.YtdoogoglfbohaaaDoor
open Go Go.RowKit
set_option linter.unusedSimpArgs false
set_option linter.unusedVariables false
set_option linter.unusedSectionVars false

theorem nodup_inc {l : List Nat} (h : ∀ i i', i < i' → i' < l.length → l.getD i 0 < l.getD i' 0) : l.Nodup := by
  refine List.pairwise_iff_getElem.2 fun i j hi hj hij => ?_
  have := h i j hij hj
  simp only [List.getD, List.getElem?_eq_getElem hi, List.getElem?_eq_getElem hj, Option.getD_some] at this
  omega

def cnt (l : List Nat) : Nat → Nat
  | 0 => 0
  | j + 1 => if j ∈ l then cnt l j else cnt l j + 1

theorem countP_succ (j : Nat) : ∀ (l : List Nat), l.countP (fun x => decide (x < j + 1)) = l.countP (fun x => decide (x < j)) + l.count j
  | [] => rfl
  | x :: l => by
    simp only [List.countP_cons, List.count_cons, countP_succ j l]
    by_cases h1 : x < j
    · have : ¬ x = j := by omega
      simp [h1, this, show x < j + 1 by omega]; omega
    · by_cases h2 : x = j
      · subst h2; simp; omega
      · have : ¬ x < j + 1 := by omega
        simp [h1, h2, this]
theorem cnt_count {l : List Nat} (hl : l.Nodup) : ∀ j, cnt l j + l.countP (fun x => decide (x < j)) = j
  | 0 => by simp [cnt]
  | j + 1 => by
    have ih := cnt_count hl j
    rw [countP_succ, cnt]
    split
    · rename_i h
      rw [hl.count, if_pos h]; omega
    · rename_i h
      rw [List.count_eq_zero_of_not_mem h]; omega
theorem cnt_end {l : List Nat} (hl : l.Nodup) {c : Nat} (h : ∀ x ∈ l, x < c) : cnt l c = c - l.length := by
  have h1 := cnt_count hl c
  have h2 : l.countP (fun x => decide (x < c)) = l.length := List.countP_eq_length.2 fun x hx => decide_eq_true (h x hx)
  omega
theorem cnt_mono {l : List Nat} {j : Nat} : ∀ d, cnt l j ≤ cnt l (j + d)
  | 0 => Nat.le_refl _
  | d + 1 => by
    have := cnt_mono (l := l) (j := j) d
    rw [← Nat.add_assoc, cnt]
    split <;> omega
theorem cnt_lt {l : List Nat} (hl : l.Nodup) {c j : Nat} (h : ∀ x ∈ l, x < c) (hj : j < c) (hn : j ∉ l) : cnt l j < c - l.length := by
  have h1 := cnt_mono (l := l) (j := j + 1) (c - (j + 1))
  rw [show j + 1 + (c - (j + 1)) = c by omega, cnt_end hl h, cnt, if_neg hn] at h1
  omega

def kcol (p c : Nat) (e l : List Nat) (j q : Nat) (G : Nat → Nat → Nat) : Nat → Nat → Nat → Nat
  | 0 => fun a b => if a = j ∧ b = q then 1 else G a b
  | n + 1 => fun a b => if a = l.getD n 0 ∧ b = q then (p - ent c e n j) % p else kcol p c e l j q G n a b
def kerG (p c : Nat) (e l : List Nat) : Nat → Nat → Nat → Nat
  | 0 => fun _ _ => 0
  | j + 1 => if j ∈ l then kerG p c e l j else kcol p c e l j (cnt l j) (kerG p c e l j) l.length
def kerM (m : NM) : NM := ⟨m.p, m.c, m.c - (pivM m).length, tab2 m.c (m.c - (pivM m).length) (kerG m.p m.c (echM m).e (pivM m) m.c)⟩

structure Pvs (m : NM) : Prop where
  r : (pivM m).length ≤ m.r
  c : (pivM m).length ≤ m.c
  lt : ∀ i, i < (pivM m).length → (pivM m).getD i 0 < m.c
  nd : (pivM m).Nodup
  mem : ∀ x ∈ pivM m, x < m.c
  els : (echM m).e.length = m.r * m.c
  ent : ∀ i j, ent m.c (echM m).e i j < m.p

theorem Pvs.of {m : NM} (hm : Big m) : Pvs m := by
  haveI := hm.pr.nz
  have h := redTo_ok hm.pr hm.els m.c (Nat.le_refl _)
  have hpos : 0 < m.p := by have := hm.pr.1; omega
  refine ⟨h.red.kr, h.red.kc, h.red.lt, nodup_inc h.red.inc, fun x hx => ?_, h.els.len, h.els.ent hpos⟩
  obtain ⟨i, hi, rfl⟩ := List.mem_iff_getElem.1 hx
  have := h.red.lt i hi
  unfold pivM at hi ⊢
  simpa only [List.getD, List.getElem?_eq_getElem hi, Option.getD_some] using this

set_option maxHeartbeats 4000000 in
theorem c_Kernel (w : World) (v : Value) (m : NM) (hm : Rt m) (hv : fdIsM w v m) :
    Calls Tryd.prog 24 #[v] w (Ret fun v w' => Kp [] w w' ∧ fdGivesM (kerM m) w v w') := by
  have hv0 := hv
  obtain ⟨E, rfl, hE⟩ := hv
  obtain ⟨hPr, hPc, hPlt, hPnd, hPmem, hPels, hPent⟩ := Pvs.of hm.big
  have hbr := hm.r
  have hbc := hm.c
  have hp := hm.pr
  have hp2 := hp.1
  have hp9 := hp.2.1
  generalize hl : pivM m = l at *
  generalize he : (echM m).e = e at *
  refine calls_of_S [⟨14, 2, [], []⟩] [] (by simp) [] Tryd.func24 rfl mixed (by kernel_rfl) Tryd.ntmps24 Tryd.results24 rfl ⟨by simp, by simp⟩ (by simp) ?_
  simp only [toS, textOps, toSOp, kindAt, kindOf, odAt, sopsAt, ordOf, zipF]
  (repeat' (first | refine JC.seq ?_ | refine JC.ops ?_ | refine JO.nil ?_ | refine JX.thenN ?_ | (apply r_loadN; (iterate 4 exact rfl); (first | exact at0 | exact at1 | exact at2 | exact at3 | exact at4 | exact at5 | exact at6 | exact at7); exact rfl) | (apply r_allocZ; (iterate 3 exact rfl); intro _) | (apply r_boxA; (iterate 4 exact rfl); intro _)))
  rename_i b1 b2
  refine r_callA (A := [_, _]) (B := []) rfl trivial rfl rfl rfl (fun w hk _ => c_Echelon w _ m hm (hv0.mono hk)) fun w v w' _ _ _ hR => ?_
  obtain ⟨N, N2, u, x, rfl, hN, ⟨Eo, rfl, hOe⟩, hO2⟩ := hR
  rw [hl] at hO2
  rw [he, hPels] at hOe
  obtain ⟨Ae, ce, rfl⟩ := hOe.form
  refine ⟨_, hN, ?_⟩
  rw [List.append_assoc]
  (repeat' (first | refine JC.seq ?_ | refine JC.ops ?_ | refine JO.nil ?_ | refine JX.thenN ?_ | (apply r_move; (iterate 3 exact rfl)) | (apply r_fieldAddr; (iterate 3 exact rfl)) | (apply r_assign; (iterate 3 exact rfl)) | (apply r_load; (iterate 4 exact rfl); (first | exact at0 | exact at1 | exact at2 | exact at3 | exact at4 | exact at5 | exact at6 | exact at7); exact rfl) | (apply r_lenN; (iterate 3 exact rfl); (first | assumption | exact WN.rd (by assumption) rfl [] | exact OwnN.rd (by assumption))) | (apply r_subN; (iterate 4 exact rfl); omega) | (apply r_extract; (iterate 4 exact rfl)) | (apply r_eql; (iterate 4 exact rfl); all_goals intro hc; all_goals try (exfalso; omega)) | (apply r_allocZ; (iterate 3 exact rfl); intro _) | (apply r_buildL; (iterate 5 exact rfl)) | (apply r_storeN; exact rfl; (first | exact trivial | exact ⟨rfl, rfl⟩); exact rfl; exact rfl; (first | exact at0 | exact at1 | exact at2 | exact at3 | exact at4 | exact at5 | exact at6 | exact at7); (iterate 3 exact rfl)) | refine JX.thenR ?_ | refine JC.skip ?_ | refine JC.ret ?_ | refine JC.condT rfl ?_ | refine JC.condF rfl ?_))
  · exfalso
    have : (m.p : Int) = 0 := hc
    omega
  rename_i b3
  refine r_callA (A := [_, _, _]) rfl trivial rfl rfl rfl (fun w hk _ => c_zero m.p m.c (m.c - l.length) hm.pr hm.c (by omega) w) fun w v w' _ _ _ hR => ?_
  obtain ⟨N5, E5, hN5, rfl, hO5⟩ := hR
  obtain ⟨A5, c5, rfl⟩ := hO5.form
  refine ⟨N5, hN5, ?_⟩
  (repeat' (first | refine JC.seq ?_ | refine JC.ops ?_ | refine JO.nil ?_ | refine JX.thenN ?_ | (apply r_move; (iterate 3 exact rfl)) | (apply r_fieldAddr; (iterate 3 exact rfl)) | (apply r_assign; (iterate 3 exact rfl)) | (apply r_load; (iterate 4 exact rfl); (first | exact at0 | exact at1 | exact at2 | exact at3 | exact at4 | exact at5 | exact at6 | exact at7); exact rfl) | (apply r_allocZ; (iterate 3 exact rfl); intro _) | (apply r_storeN; exact rfl; (first | exact trivial | exact ⟨rfl, rfl⟩); exact rfl; exact rfl; (first | exact at0 | exact at1 | exact at2 | exact at3 | exact at4 | exact at5 | exact at6 | exact at7); (iterate 3 exact rfl)) | refine JC.block ?_))
  rename_i b5
  refine JC.loopH (ι := Nat × SHeap) ⟨fun z => [(31, nv z.1), (30, nv m.c), (6, nv (cnt l z.1)), (4, x), (5, .pointer (some ⟨b5, 0, none⟩)), (3, .pointer (some ⟨b3, 0, none⟩)), (2, .pointer (some ⟨b2, 0, none⟩)), (1, .pointer (some ⟨b1, 0, none⟩))],
    fun z => [(b5, .cells #[nv m.p, nv m.c, nv (m.c - l.length), .slice A5 (m.c * (m.c - l.length)) c5] 30), (b3, .cells #[nv m.p, nv m.r, nv m.c, .slice Ae (m.r * m.c) ce] 30), (b2, .cells #[iv 0, iv 0, iv 0, .slice none 0 0] 30), (b1, .cells #[nv m.p, nv m.r, nv m.c, E] 30)] ++ (z.2 ++ (N ++ (N2 ++ []))),
    fun z => z.1 ≤ m.c ∧ OwnN z.2 (.slice A5 (m.c * (m.c - l.length)) c5) (m.c * (m.c - l.length)) (tab2 m.c (m.c - l.length) (kerG m.p m.c e l z.1)), fun z => m.c - z.1⟩ (0, N5) ⟨by dsimp only; omega, hO5⟩ (by repeat first | exact trivial | refine ⟨rfl, ?_⟩) (by (first | exact HSub.refl _ | (repeat' first | exact HSub.nil _ | exact HSub.refl _ | refine HSub.at 0 rfl ?_ | refine HSub.at 1 rfl ?_ | refine HSub.at 2 rfl ?_ | refine HSub.at 3 rfl ?_ | refine HSub.at 4 rfl ?_ | refine HSub.at 5 rfl ?_ | refine HSub.at 6 rfl ?_ | refine HSub.at 7 rfl ?_))) (fun z hz => ?_)
  clear hO5
  obtain ⟨j, N5⟩ := z
  obtain ⟨hj, hO⟩ := hz
  dsimp only at hj hO ⊢
  have hcc := cnt_mono (l := l) (j := j) (m.c - j)
  rw [show j + (m.c - j) = m.c by omega, cnt_end hPnd hPmem] at hcc
  by_cases hjc : j < m.c
  · (repeat' (first | refine JC.seq ?_ | refine JC.ops ?_ | refine JO.nil ?_ | refine JX.thenN ?_ | (apply r_move; (iterate 3 exact rfl)) | (apply r_assign; (iterate 3 exact rfl)) | (apply r_lss; (iterate 4 exact rfl); all_goals intro hc; all_goals try (exfalso; omega)) | refine JC.skip ?_ | refine JC.condT rfl ?_ | refine JC.block ?_))
    refine r_call0 trivial rfl rfl rfl (fun w hk hs => c_Contains w _ _ j l (hO2.rd.at hk hs (by (repeat' first | exact HSub.nil _ | exact HSub.hd | exact HSub.in0 | exact HSub.refl _ | refine HSub.skip ?_ | refine HSub.skipN ?_))) (by omega)) fun w v w' _ _ _ hR => ?_
    subst hR
    by_cases hjl : j ∈ l
    · rw [decide_eq_true hjl]
      (repeat' (first | refine JC.ops ?_ | refine JO.nil ?_ | refine JX.thenN ?_ | (apply r_move; (iterate 3 exact rfl)) | (apply r_add1; (iterate 4 exact rfl); omega) | refine JX.thenE ?_ | refine JC.exit ?_ | refine JC.condT rfl ?_ | refine JX.blockE ?_))
      exact JX.roundH (j + 1, N5) ⟨by dsimp only; omega, by dsimp only [kerG]; rw [if_pos hjl]; exact hO⟩ (by dsimp only; omega) (by dsimp only [cnt]; rw [if_pos hjl]; exact (by repeat first | exact trivial | refine ⟨rfl, ?_⟩)) (by (first | exact HSub.refl _ | (repeat' first | exact HSub.nil _ | exact HSub.refl _ | refine HSub.at 0 rfl ?_ | refine HSub.at 1 rfl ?_ | refine HSub.at 2 rfl ?_ | refine HSub.at 3 rfl ?_ | refine HSub.at 4 rfl ?_ | refine HSub.at 5 rfl ?_ | refine HSub.at 6 rfl ?_ | refine HSub.at 7 rfl ?_)))
    · rw [decide_eq_false hjl]
      have hcl := cnt_lt hPnd hPmem hjc hjl
      have hidx := fdidx_lt hjc hcl
      have hb1 : j * (m.c - l.length) ≤ 160000 := Nat.mul_le_mul (show j ≤ 400 by omega) (show m.c - l.length ≤ 400 by omega)
      (repeat' (first | refine JC.seq ?_ | refine JC.ops ?_ | refine JO.nil ?_ | refine JX.thenN ?_ | (apply r_move; (iterate 3 exact rfl)) | (apply r_fieldAddr; (iterate 3 exact rfl)) | (apply r_load; (iterate 4 exact rfl); (first | exact at0 | exact at1 | exact at2 | exact at3 | exact at4 | exact at5 | exact at6 | exact at7); exact rfl) | (apply r_idxN; (iterate 4 exact rfl); (first | assumption | exact WN.rd (by assumption) rfl [] | exact OwnN.rd (by assumption)); (first | assumption | omega)) | (apply r_addN; (iterate 4 exact rfl); omega) | (apply r_mulN; (iterate 4 exact rfl); (first | assumption | omega)) | refine JC.skip ?_ | refine JC.condF rfl ?_))
      refine r_stN (A := [_, _, _, _]) (u := 1) hO rfl rfl (by first | trivial | exact ⟨rfl, rfl⟩) rfl rfl hidx (fun N' hO' => ?_)
      rw [tab2_set hcl] at hO'
      (repeat' (first | refine JC.seq ?_ | refine JC.ops ?_ | refine JO.nil ?_ | refine JX.thenN ?_ | (apply r_move; (iterate 3 exact rfl)) | (apply r_lenN; (iterate 3 exact rfl); (first | assumption | exact WN.rd (by assumption) rfl [] | exact OwnN.rd (by assumption))) | refine JC.block ?_))
      refine JC.loopH (ι := Nat × SHeap) ⟨fun z => [(48, nv z.1), (47, nv l.length), (46, x), (31, nv j), (7, nv j), (30, nv m.c), (6, nv (cnt l j)), (4, x), (5, .pointer (some ⟨b5, 0, none⟩)), (3, .pointer (some ⟨b3, 0, none⟩)), (2, .pointer (some ⟨b2, 0, none⟩)), (1, .pointer (some ⟨b1, 0, none⟩))],
        fun z => [(b5, .cells #[nv m.p, nv m.c, nv (m.c - l.length), .slice A5 (m.c * (m.c - l.length)) c5] 30), (b3, .cells #[nv m.p, nv m.r, nv m.c, .slice Ae (m.r * m.c) ce] 30), (b2, .cells #[iv 0, iv 0, iv 0, .slice none 0 0] 30), (b1, .cells #[nv m.p, nv m.r, nv m.c, E] 30)] ++ (z.2 ++ (N ++ (N2 ++ []))),
        fun z => z.1 ≤ l.length ∧ OwnN z.2 (.slice A5 (m.c * (m.c - l.length)) c5) (m.c * (m.c - l.length)) (tab2 m.c (m.c - l.length) (kcol m.p m.c e l j (cnt l j) (kerG m.p m.c e l j) z.1)), fun z => l.length - z.1⟩ (0, N') ⟨by dsimp only; omega, hO'⟩ (by repeat first | exact trivial | refine ⟨rfl, ?_⟩) (by (first | exact HSub.refl _ | (repeat' first | exact HSub.nil _ | exact HSub.refl _ | refine HSub.at 0 rfl ?_ | refine HSub.at 1 rfl ?_ | refine HSub.at 2 rfl ?_ | refine HSub.at 3 rfl ?_ | refine HSub.at 4 rfl ?_ | refine HSub.at 5 rfl ?_ | refine HSub.at 6 rfl ?_ | refine HSub.at 7 rfl ?_))) (fun z hz => ?_)
      clear hO hO'
      obtain ⟨i, N5⟩ := z
      obtain ⟨hi, hO⟩ := hz
      dsimp only at hi hO ⊢
      by_cases hil : i < l.length
      · have hlt := hPlt i hil
        have hidx2 := fdidx_lt hlt hcl
        have hb2 : l.getD i 0 * (m.c - l.length) ≤ 160000 := Nat.mul_le_mul (show l.getD i 0 ≤ 400 by omega) (show m.c - l.length ≤ 400 by omega)
        have hb3 : i * m.c ≤ 160000 := Nat.mul_le_mul (show i ≤ 400 by omega) hbc
        have hidx3 := fdidx_lt (show i < m.r by omega) hjc
        have hee : e.getD (i * m.c + j) 0 < m.p := hPent i j
        (repeat' (first | refine JC.seq ?_ | refine JC.ops ?_ | refine JC.opsD ?_ | refine JO.nil ?_ | refine JX.thenN ?_ | (apply r_move; (iterate 3 exact rfl)) | (apply r_fieldAddr; (iterate 3 exact rfl)) | (apply r_assign; (iterate 3 exact rfl)) | (apply r_load; (iterate 4 exact rfl); (first | exact at0 | exact at1 | exact at2 | exact at3 | exact at4 | exact at5 | exact at6 | exact at7); exact rfl) | (apply r_idxN; (iterate 4 exact rfl); (first | assumption | exact WN.rd (by assumption) rfl [] | exact OwnN.rd (by assumption)); (first | assumption | omega)) | (apply r_ldN; (iterate 4 exact rfl); (first | assumption | exact WN.rd (by assumption) rfl [] | exact OwnN.rd (by assumption)); (repeat' first | exact HSub.nil _ | exact HSub.hd | exact HSub.in0 | exact HSub.refl _ | refine HSub.skip ?_ | refine HSub.skipN ?_); (first | assumption | omega)) | (apply r_addN; (iterate 4 exact rfl); omega) | (apply r_mulN; (iterate 4 exact rfl); (first | assumption | omega)) | (apply r_modN; (iterate 4 exact rfl); omega) | (apply r_subN; (iterate 4 exact rfl); omega) | (apply r_lss; (iterate 4 exact rfl); all_goals intro hc; all_goals try (exfalso; omega)) | refine JC.skip ?_ | refine JC.condT rfl ?_ | refine JC.block ?_))
        refine r_stN (A := [_, _, _, _]) hO rfl rfl (by first | trivial | exact ⟨rfl, rfl⟩) rfl rfl hidx2 (fun N' hO' => ?_)
        rw [tab2_set hcl] at hO'
        (repeat' (first | refine JC.ops ?_ | refine JO.nil ?_ | refine JX.thenN ?_ | (apply r_move; (iterate 3 exact rfl)) | (apply r_add1; (iterate 4 exact rfl); omega) | refine JX.blockN ?_))
        exact JX.roundH (i + 1, N') ⟨by dsimp only; omega, hO'⟩ (by dsimp only; omega) (by repeat first | exact trivial | refine ⟨rfl, ?_⟩) (by (first | exact HSub.refl _ | (repeat' first | exact HSub.nil _ | exact HSub.refl _ | refine HSub.at 0 rfl ?_ | refine HSub.at 1 rfl ?_ | refine HSub.at 2 rfl ?_ | refine HSub.at 3 rfl ?_ | refine HSub.at 4 rfl ?_ | refine HSub.at 5 rfl ?_ | refine HSub.at 6 rfl ?_ | refine HSub.at 7 rfl ?_)))
      · have : i = l.length := by omega
        subst this
        (repeat' (first | refine JC.seq ?_ | refine JC.ops ?_ | refine JO.nil ?_ | refine JX.thenN ?_ | (apply r_move; (iterate 3 exact rfl)) | (apply r_assign; (iterate 3 exact rfl)) | (apply r_add1; (iterate 4 exact rfl); omega) | (apply r_lss; (iterate 4 exact rfl); all_goals intro hc; all_goals try (exfalso; omega)) | refine JX.thenE ?_ | refine JC.exit ?_ | refine JC.condF rfl ?_ | refine JX.blockN ?_ | refine JX.blockE ?_))
        exact JX.roundH (j + 1, N5) ⟨by dsimp only; omega, by dsimp only [kerG]; rw [if_neg hjl]; exact hO⟩ (by dsimp only; omega) (by dsimp only [cnt]; rw [if_neg hjl]; exact (by repeat first | exact trivial | refine ⟨rfl, ?_⟩)) (by (first | exact HSub.refl _ | (repeat' first | exact HSub.nil _ | exact HSub.refl _ | refine HSub.at 0 rfl ?_ | refine HSub.at 1 rfl ?_ | refine HSub.at 2 rfl ?_ | refine HSub.at 3 rfl ?_ | refine HSub.at 4 rfl ?_ | refine HSub.at 5 rfl ?_ | refine HSub.at 6 rfl ?_ | refine HSub.at 7 rfl ?_)))
  · have : j = m.c := by omega
    subst this
    (repeat' (first | refine JC.seq ?_ | refine JC.ops ?_ | refine JO.nil ?_ | refine JX.thenN ?_ | (apply r_loadN; (iterate 4 exact rfl); (first | exact at0 | exact at1 | exact at2 | exact at3 | exact at4 | exact at5 | exact at6 | exact at7); exact rfl) | (apply r_lss; (iterate 4 exact rfl); all_goals intro hc; all_goals try (exfalso; omega)) | (apply r_storeN; exact rfl; (first | exact trivial | exact ⟨rfl, rfl⟩); exact rfl; exact rfl; (first | exact at0 | exact at1 | exact at2 | exact at3 | exact at4 | exact at5 | exact at6 | exact at7); (iterate 3 exact rfl)) | refine JX.thenE ?_ | refine JC.exit ?_ | refine JC.ret ?_ | refine JC.condF rfl ?_ | refine JX.blockE ?_))
    refine JX.retC 2 rfl rfl rfl (fun a w' st => ⟨st.kp, N5, st.newOf rfl (by (repeat' first | exact HSub.nil _ | exact HSub.hd | exact HSub.in0 | exact HSub.refl _ | refine HSub.skip ?_ | refine HSub.skipN ?_)), ?_⟩)
    unfold kerM
    rw [hl, he]
    exact fdOwnM.mk' hO



def solG (c c1 : Nat) (e l : List Nat) : Nat → Nat → Nat → Nat
  | 0 => fun _ _ => 0
  | n + 1 => fun a b => if a = l.getD n 0 then ent c e n (c1 + b) else solG c c1 e l n a b
def solM (m n : NM) : Option NM :=
  if ∀ x ∈ pivM (joinM m n), x < m.c then some ⟨m.p, m.c, n.c, tab2 m.c n.c (solG (m.c + n.c) m.c (echM (joinM m n)).e (pivM (joinM m n)) (pivM (joinM m n)).length)⟩ else none

def fdGivesO (o : Option NM) (w : World) (v : Value) (w' : World) : Prop := match o with
  | some x => fdGivesMB x w v w'
  | none => v = .tuple #[zeroV, .bool false]

theorem Big.join {m n : NM} (h : Rt m) (h' : Rt n) (hp : m.p = n.p) : Big (joinM m n) := by
  have h1 := h.r
  have h2 := h.c
  have h3 := h'.c
  exact ⟨h.pr, h1, by show m.c + n.c ≤ 800; omega, by simp [joinM], tab2_lt (r := m.r) (c := m.c + n.c) (p := m.p) (g := fun i j => if j < m.c then Go.Proofs.YtdoogoglfbohaaaDoor.ent m.c m.e i j else Go.Proofs.YtdoogoglfbohaaaDoor.ent n.c n.e i (j - m.c)) fun i j _ _ => by
    show (if j < m.c then _ else _) < m.p
    split
    · exact h.ent _ _
    · rw [hp]; exact h'.ent _ _⟩

theorem seg_tab2 {r c x : Nat} {ys : List Nat} {G : Nat → Nat → Nat} (hx : x < r) (hy : c ≤ ys.length) : segSet (x * c) c ys (tab2 r c G) = tab2 r c fun a b => if a = x then ys.getD b 0 else G a b := by
  have hle := row_le (c := c) hx
  rw [Nat.add_mul, Nat.one_mul] at hle
  have hl : (tab2 r c G).length = r * c := tab2_len _ _ _
  refine ext_getD (d := 0) (by rw [segSet_len hy (by omega), tab2_len, tab2_len]) fun i hi => ?_
  rw [segSet_len hy (by omega), hl] at hi
  rw [segSet_getD hy (by omega)]
  obtain ⟨h1, h2, h3⟩ := idx_split hi
  have e1 : (tab2 r c fun a b => if a = x then ys.getD b 0 else G a b).getD i 0 = if i / c = x then ys.getD (i % c) 0 else G (i / c) (i % c) := by
    unfold tab2; rw [tab_getD hi]
  have e2 : (tab2 r c G).getD i 0 = G (i / c) (i % c) := by unfold tab2; rw [tab_getD hi]
  rw [e1, e2]
  by_cases h : i / c = x
  · rw [h] at h3
    rw [if_pos h, if_pos (by omega)]
    congr 1
    omega
  · rw [if_neg h, if_neg]
    intro h4
    apply h
    have h5 : i = x * c + (i - x * c) := by omega
    rw [h5, idx_div (by omega)]

set_option maxHeartbeats 4000000 in
theorem c_Solve (w : World) (v u : Value) (m n : NM) (hm : Rt m) (hn : Rt n) (hp : m.p = n.p) (hr : m.r = n.r) (hv : fdIsM w v m) (hu : fdIsM w u n) :
    Calls Tryd.prog 25 #[v, u] w (Ret fun v w' => Kp [] w w' ∧ fdGivesO (solM m n) w v w') := by
  have hv0 := hv
  have hu0 := hu
  obtain ⟨E, rfl, hE⟩ := hv
  obtain ⟨E', rfl, hE'⟩ := hu
  have hB := Big.join hm hn hp
  obtain ⟨hPr, hPc, hPlt, hPnd, hPmem, hPels, hPent⟩ := Pvs.of hB
  have hbr := hm.r
  have hbc := hm.c
  have hbc' := hn.c
  have hjr : (joinM m n).r = m.r := rfl
  have hjc : (joinM m n).c = m.c + n.c := rfl
  have hjp : (joinM m n).p = m.p := rfl
  rw [hjr] at hPr
  rw [hjc] at hPc hPlt hPmem
  rw [hjr, hjc] at hPels
  rw [hjp, hjc] at hPent
  refine calls_of_S [] [] (by simp) [] Tryd.func25 rfl mixed (by kernel_rfl) Tryd.ntmps25 Tryd.results25 rfl ⟨by simp, by simp⟩ (by simp) ?_
  simp only [toS, textOps, toSOp, kindAt, kindOf, odAt, sopsAt, ordOf, zipF]
  (repeat' (first | refine JC.seq ?_ | refine JC.ops ?_ | refine JO.nil ?_ | refine JX.thenN ?_ | (apply r_assign; (iterate 3 exact rfl)) | (apply r_loadN; (iterate 4 exact rfl); (first | exact at0 | exact at1 | exact at2 | exact at3 | exact at4 | exact at5 | exact at6 | exact at7); exact rfl) | (apply r_allocZ; (iterate 3 exact rfl); intro _) | (apply r_boxA; (iterate 4 exact rfl); intro _)))
  rename_i b2 b3 b4
  refine r_call0 trivial rfl rfl rfl (fun w hk _ => c_one w _ _ m.fm n.fm (hv0.f.mono hk) (hu0.f.mono hk) hm.flen hn.flen) fun w v w' _ _ _ hR => ?_
  obtain ⟨b', rfl, hb⟩ := hR
  obtain rfl := hb.2 (oneF_of hm hn hp)
  (repeat' (first | refine JC.seq ?_ | refine JC.ops ?_ | refine JO.nil ?_ | refine JX.thenN ?_ | (apply r_move; (iterate 3 exact rfl)) | (apply r_fieldAddr; (iterate 3 exact rfl)) | (apply r_load; (iterate 4 exact rfl); (first | exact at0 | exact at1 | exact at2 | exact at3 | exact at4 | exact at5 | exact at6 | exact at7); exact rfl) | (apply r_loadN; (iterate 4 exact rfl); (first | exact at0 | exact at1 | exact at2 | exact at3 | exact at4 | exact at5 | exact at6 | exact at7); exact rfl) | (apply r_pickF; (iterate 4 exact rfl)) | (apply r_not; (iterate 3 exact rfl)) | (apply r_neq; (iterate 4 exact rfl); all_goals intro hc; all_goals try (exfalso; omega)) | refine JC.skip ?_ | refine JC.condF rfl ?_))
  refine r_callA (A := [_, _, _]) (B := []) rfl trivial rfl rfl rfl (fun w hk _ => c_join w _ _ m n hm hn hr (fdIsM.mono hv0 hk) (fdIsM.mono hu0 hk)) fun w v w' _ _ _ hR => ?_
  obtain ⟨Nj, hNj, Ej, rfl, hOj⟩ := hR
  obtain ⟨Aj, cj, rfl⟩ := hOj.form
  refine ⟨Nj, hNj, ?_⟩
  skip
  refine r_callA (A := [_, _, _]) rfl trivial rfl rfl rfl (fun w hk hs => fdc_reduce w _ (joinM m n) hB ⟨_, rfl, hOj.rd.at hk hs (by (repeat' first | exact HSub.nil _ | exact HSub.hd | exact HSub.in0 | exact HSub.refl _ | refine HSub.skip ?_ | refine HSub.skipN ?_))⟩) fun w v w' _ _ _ hR => ?_
  obtain ⟨N, N2, u, x, rfl, hN, ⟨Eo, rfl, hOe⟩, hO2⟩ := hR
  rw [hPels] at hOe
  obtain ⟨Ae, ce, rfl⟩ := hOe.form
  refine ⟨_, hN, ?_⟩
  rw [List.append_assoc]
  (repeat' (first | refine JC.seq ?_ | refine JC.ops ?_ | refine JO.nil ?_ | refine JX.thenN ?_ | (apply r_move; (iterate 3 exact rfl)) | (apply r_fieldAddr; (iterate 3 exact rfl)) | (apply r_assign; (iterate 3 exact rfl)) | (apply r_load; (iterate 4 exact rfl); (first | exact at0 | exact at1 | exact at2 | exact at3 | exact at4 | exact at5 | exact at6 | exact at7); exact rfl) | (apply r_extract; (iterate 4 exact rfl)) | (apply r_allocZ; (iterate 3 exact rfl); intro _) | (apply r_storeN; exact rfl; (first | exact trivial | exact ⟨rfl, rfl⟩); exact rfl; exact rfl; (first | exact at0 | exact at1 | exact at2 | exact at3 | exact at4 | exact at5 | exact at6 | exact at7); (iterate 3 exact rfl))))
  rename_i b6
  refine r_callA (A := [_, _, _, _]) rfl trivial rfl rfl rfl (fun w hk _ => c_zero m.p m.c n.c hm.pr hm.c hn.c w) fun w v w' _ _ _ hR => ?_
  obtain ⟨N8, E8, hN8, rfl, hO8⟩ := hR
  obtain ⟨A8, c8, rfl⟩ := hO8.form
  refine ⟨N8, hN8, ?_⟩
  (repeat' (first | refine JC.seq ?_ | refine JC.ops ?_ | refine JO.nil ?_ | refine JX.thenN ?_ | (apply r_move; (iterate 3 exact rfl)) | (apply r_lenN; (iterate 3 exact rfl); (first | assumption | exact WN.rd (by assumption) rfl [] | exact OwnN.rd (by assumption))) | (apply r_allocZ; (iterate 3 exact rfl); intro _) | (apply r_storeN; exact rfl; (first | exact trivial | exact ⟨rfl, rfl⟩); exact rfl; exact rfl; (first | exact at0 | exact at1 | exact at2 | exact at3 | exact at4 | exact at5 | exact at6 | exact at7); (iterate 3 exact rfl)) | refine JC.block ?_))
  rename_i b8
  refine JC.loopH (ι := Nat × SHeap) ⟨fun z => [(39, nv z.1), (38, nv (pivM (joinM m n)).length), (37, x), (7, x), (8, .pointer (some ⟨b8, 0, none⟩)), (6, .pointer (some ⟨b6, 0, none⟩)), (4, .pointer (some ⟨b4, 0, none⟩)), (3, .pointer (some ⟨b3, 0, none⟩)), (2, .pointer (some ⟨b2, 0, none⟩))],
    fun z => [(b8, .cells #[nv m.p, nv m.c, nv n.c, .slice A8 (m.c * n.c) c8] 30), (b6, .cells #[nv m.p, nv m.r, nv (m.c + n.c), .slice Ae (m.r * (m.c + n.c)) ce] 30), (b4, .cells #[iv 0, iv 0, iv 0, .slice none 0 0] 30), (b3, .cells #[nv n.p, nv n.r, nv n.c, E'] 30), (b2, .cells #[nv m.p, nv m.r, nv m.c, E] 30)] ++ (z.2 ++ (N ++ (N2 ++ (Nj ++ [])))),
    fun z => z.1 ≤ (pivM (joinM m n)).length ∧ OwnN z.2 (.slice A8 (m.c * n.c) c8) (m.c * n.c) (tab2 m.c n.c (solG (m.c + n.c) m.c (echM (joinM m n)).e (pivM (joinM m n)) z.1)) ∧ ∀ t, t < z.1 → (pivM (joinM m n)).getD t 0 < m.c, fun z => (pivM (joinM m n)).length - z.1⟩ (0, N8) ⟨by dsimp only; omega, hO8, fun t h => by dsimp only at h; omega⟩ (by repeat first | exact trivial | refine ⟨rfl, ?_⟩) (by (first | exact HSub.refl _ | (repeat' first | exact HSub.nil _ | exact HSub.refl _ | refine HSub.at 0 rfl ?_ | refine HSub.at 1 rfl ?_ | refine HSub.at 2 rfl ?_ | refine HSub.at 3 rfl ?_ | refine HSub.at 4 rfl ?_ | refine HSub.at 5 rfl ?_ | refine HSub.at 6 rfl ?_ | refine HSub.at 7 rfl ?_))) (fun z hz => ?_)
  clear hO8
  obtain ⟨i, N8⟩ := z
  obtain ⟨hi, hO, hall⟩ := hz
  dsimp only at hi hO hall ⊢
  by_cases hil : i < (pivM (joinM m n)).length
  · by_cases hlt : (pivM (joinM m n)).getD i 0 < m.c
    · have hb1 : i * (m.c + n.c) ≤ 320000 := Nat.mul_le_mul (show i ≤ 400 by omega) (show m.c + n.c ≤ 800 by omega)
      have hb2 : (pivM (joinM m n)).getD i 0 * n.c ≤ 160000 := Nat.mul_le_mul (show (pivM (joinM m n)).getD i 0 ≤ 400 by omega) hbc'
      have hb3 : ((pivM (joinM m n)).getD i 0 + 1) * n.c ≤ 160400 := by rw [Nat.add_mul]; omega
      have hrow := row_le (c := m.c + n.c) (show i < m.r by omega)
      rw [Nat.add_mul, Nat.one_mul] at hrow
      (repeat' (first | refine JC.seq ?_ | refine JC.ops ?_ | refine JO.nil ?_ | refine JX.thenN ?_ | (apply r_move; (iterate 3 exact rfl)) | (apply r_fieldAddr; (iterate 3 exact rfl)) | (apply r_assign; (iterate 3 exact rfl)) | (apply r_load; (iterate 4 exact rfl); (first | exact at0 | exact at1 | exact at2 | exact at3 | exact at4 | exact at5 | exact at6 | exact at7); exact rfl) | (apply r_idxN; (iterate 4 exact rfl); (first | assumption | exact WN.rd (by assumption) rfl [] | exact OwnN.rd (by assumption)); (first | assumption | omega)) | (apply r_ldN; (iterate 4 exact rfl); (first | assumption | exact WN.rd (by assumption) rfl [] | exact OwnN.rd (by assumption)); (repeat' first | exact HSub.nil _ | exact HSub.hd | exact HSub.in0 | exact HSub.refl _ | refine HSub.skip ?_ | refine HSub.skipN ?_); (first | assumption | omega)) | (apply r_lss; (iterate 4 exact rfl); all_goals intro hc; all_goals try (exfalso; omega)) | (apply r_geq; (iterate 4 exact rfl); all_goals intro hc; all_goals try (exfalso; omega)) | refine JC.skip ?_ | refine JC.condT rfl ?_ | refine JC.condF rfl ?_ | refine JC.block ?_))
      refine JC.opsDs [(b8, .cells #[nv m.p, nv m.c, nv n.c, .slice A8 (m.c * n.c) c8] 30), (b6, .cells #[nv m.p, nv m.r, nv (m.c + n.c), .slice Ae (m.r * (m.c + n.c)) ce] 30), (b3, .cells #[nv n.p, nv n.r, nv n.c, E'] 30), (b2, .cells #[nv m.p, nv m.r, nv m.c, E] 30)] (by (first | exact HSub.refl _ | (repeat' first | exact HSub.nil _ | exact HSub.refl _ | refine HSub.at 0 rfl ?_ | refine HSub.at 1 rfl ?_ | refine HSub.at 2 rfl ?_ | refine HSub.at 3 rfl ?_ | refine HSub.at 4 rfl ?_ | refine HSub.at 5 rfl ?_ | refine HSub.at 6 rfl ?_ | refine HSub.at 7 rfl ?_))) ?_
      (repeat' (first | (apply r_move; (iterate 3 exact rfl)) | (apply r_fieldAddr; (iterate 3 exact rfl)) | (apply r_load; (iterate 4 exact rfl); (first | exact at0 | exact at1 | exact at2 | exact at3 | exact at4 | exact at5 | exact at6 | exact at7); exact rfl) | (apply r_add1; (iterate 4 exact rfl); omega) | (apply r_mulN; (iterate 4 exact rfl); (first | assumption | omega))))
      refine r_rowN rfl rfl rfl hO.rd rfl rfl (row_le hlt) (fun vd hvd hat => ?_)
      (repeat' (first | (apply r_move; (iterate 3 exact rfl)) | (apply r_fieldAddr; (iterate 3 exact rfl)) | (apply r_load; (iterate 4 exact rfl); (first | exact at0 | exact at1 | exact at2 | exact at3 | exact at4 | exact at5 | exact at6 | exact at7); exact rfl) | (apply r_addN; (iterate 4 exact rfl); omega) | (apply r_mulN; (iterate 4 exact rfl); (first | assumption | omega))))
      refine r_sliceN (l := i * (m.c + n.c) + m.c) (h' := m.r * (m.c + n.c)) (vl := some (nv (i * (m.c + n.c) + m.c))) (vh := none) rfl rfl rfl hOe.rd rfl rfl (.inl rfl) rfl rfl (.inr ⟨rfl, rfl⟩) (by omega) (Nat.le_refl _) (fun vs hvs _ => ?_)
      skip
      refine r_copyNL (A := [_, _, _, _, _]) hO hvd hat (by have := row_le (c := n.c) hlt; rw [Nat.add_mul, Nat.one_mul] at this; omega) hvs (by omega) (by (repeat' first | exact HSub.nil _ | exact HSub.hd | exact HSub.in0 | exact HSub.refl _ | refine HSub.skip ?_ | refine HSub.skipN ?_)) rfl (by (first | exact HSub.refl _ | (repeat' first | exact HSub.nil _ | exact HSub.refl _ | refine HSub.at 0 rfl ?_ | refine HSub.at 1 rfl ?_ | refine HSub.at 2 rfl ?_ | refine HSub.at 3 rfl ?_ | refine HSub.at 4 rfl ?_ | refine HSub.at 5 rfl ?_ | refine HSub.at 6 rfl ?_ | refine HSub.at 7 rfl ?_))) rfl rfl rfl rfl (fun u N' hO' => ?_)
      rw [seg_tab2 hlt (by simp [hPels]; omega)] at hO'
      have e : (tab2 m.c n.c fun a b => if a = (pivM (joinM m n)).getD i 0 then (((echM (joinM m n)).e.drop (i * (m.c + n.c) + m.c)).take (m.r * (m.c + n.c) - (i * (m.c + n.c) + m.c))).getD b 0 else solG (m.c + n.c) m.c (echM (joinM m n)).e (pivM (joinM m n)) i a b) = tab2 m.c n.c (solG (m.c + n.c) m.c (echM (joinM m n)).e (pivM (joinM m n)) (i + 1)) := by
        refine tab2_congr fun a b _ hb => ?_
        show _ = if a = (pivM (joinM m n)).getD i 0 then ent (m.c + n.c) (echM (joinM m n)).e i (m.c + b) else _
        split
        · simp only [ent, List.getD, List.getElem?_take, List.getElem?_drop]
          rw [if_pos (by omega), Nat.add_assoc]
        · rfl
      rw [e] at hO'
      (repeat' (first | refine JC.ops ?_ | refine JO.nil ?_ | refine JX.thenN ?_ | (apply r_move; (iterate 3 exact rfl)) | (apply r_add1; (iterate 4 exact rfl); omega) | refine JX.blockN ?_))
      exact JX.roundH (i + 1, N') ⟨by dsimp only; omega, hO', fun t ht => by
        dsimp only at ht
        by_cases h : t = i
        · subst h; exact hlt
        · exact hall t (by omega)⟩ (by dsimp only; omega) (by repeat first | exact trivial | refine ⟨rfl, ?_⟩) (by (first | exact HSub.refl _ | (repeat' first | exact HSub.nil _ | exact HSub.refl _ | refine HSub.at 0 rfl ?_ | refine HSub.at 1 rfl ?_ | refine HSub.at 2 rfl ?_ | refine HSub.at 3 rfl ?_ | refine HSub.at 4 rfl ?_ | refine HSub.at 5 rfl ?_ | refine HSub.at 6 rfl ?_ | refine HSub.at 7 rfl ?_)))
    · (repeat' (first | refine JC.seq ?_ | refine JC.ops ?_ | refine JO.nil ?_ | refine JX.thenN ?_ | (apply r_move; (iterate 3 exact rfl)) | (apply r_fieldAddr; (iterate 3 exact rfl)) | (apply r_assign; (iterate 3 exact rfl)) | (apply r_load; (iterate 4 exact rfl); (first | exact at0 | exact at1 | exact at2 | exact at3 | exact at4 | exact at5 | exact at6 | exact at7); exact rfl) | (apply r_idxN; (iterate 4 exact rfl); (first | assumption | exact WN.rd (by assumption) rfl [] | exact OwnN.rd (by assumption)); (first | assumption | omega)) | (apply r_ldN; (iterate 4 exact rfl); (first | assumption | exact WN.rd (by assumption) rfl [] | exact OwnN.rd (by assumption)); (repeat' first | exact HSub.nil _ | exact HSub.hd | exact HSub.in0 | exact HSub.refl _ | refine HSub.skip ?_ | refine HSub.skipN ?_); (first | assumption | omega)) | (apply r_lss; (iterate 4 exact rfl); all_goals intro hc; all_goals try (exfalso; omega)) | (apply r_geq; (iterate 4 exact rfl); all_goals intro hc; all_goals try (exfalso; omega)) | (apply r_buildL; (iterate 5 exact rfl)) | (apply r_storeN; exact rfl; (first | exact trivial | exact ⟨rfl, rfl⟩); exact rfl; exact rfl; (first | exact at0 | exact at1 | exact at2 | exact at3 | exact at4 | exact at5 | exact at6 | exact at7); (iterate 3 exact rfl)) | refine JX.thenR ?_ | refine JC.skip ?_ | refine JC.ret ?_ | refine JC.condT rfl ?_ | refine JC.block ?_ | refine JX.blockR ?_))
      refine JX.retCT 2 rfl rfl rfl rfl (fun a w' st => ⟨st.kp, ?_⟩)
      unfold solM
      rw [if_neg (fun h => hlt (h _ (mem_getD hil)))]
      rfl
  · (repeat' (first | refine JC.seq ?_ | refine JC.ops ?_ | refine JO.nil ?_ | refine JX.thenN ?_ | (apply r_assign; (iterate 3 exact rfl)) | (apply r_loadN; (iterate 4 exact rfl); (first | exact at0 | exact at1 | exact at2 | exact at3 | exact at4 | exact at5 | exact at6 | exact at7); exact rfl) | (apply r_lss; (iterate 4 exact rfl); all_goals intro hc; all_goals try (exfalso; omega)) | (apply r_storeN; exact rfl; (first | exact trivial | exact ⟨rfl, rfl⟩); exact rfl; exact rfl; (first | exact at0 | exact at1 | exact at2 | exact at3 | exact at4 | exact at5 | exact at6 | exact at7); (iterate 3 exact rfl)) | refine JX.thenE ?_ | refine JC.exit ?_ | refine JC.ret ?_ | refine JC.condF rfl ?_ | refine JX.blockE ?_))
    refine JX.retCT 2 rfl rfl rfl rfl (fun a w' st => ⟨st.kp, ?_⟩)
    have hii : i = (pivM (joinM m n)).length := by omega
    subst hii
    unfold solM
    rw [if_pos (fun y hy => by
      obtain ⟨t, ht, rfl⟩ := List.mem_iff_getElem.1 hy
      have := hall t ht
      simpa only [List.getD, List.getElem?_eq_getElem ht, Option.getD_some] using this)]
    exact ⟨N8, _, rfl, st.newOf rfl (by (repeat' first | exact HSub.nil _ | exact HSub.hd | exact HSub.in0 | exact HSub.refl _ | refine HSub.skip ?_ | refine HSub.skipN ?_)), fdOwnM.mk' hO⟩



def invM (m : NM) : Option NM := if m.r = m.c ∧ (pivM m).length = m.r then solM m (oneM m.p m.r) else none

theorem fdGivesO.none {w w' : World} : fdGivesO none w (.tuple #[zeroV, .bool false]) w' := rfl

set_option maxHeartbeats 4000000 in
theorem fdc_Inverse (w : World) (v : Value) (m : NM) (hm : Rt m) (hv : fdIsM w v m) :
    Calls Tryd.prog 26 #[v] w (Ret fun v w' => Kp [] w w' ∧ fdGivesO (invM m) w v w') := by
  have hv0 := hv
  obtain ⟨E, rfl, hE⟩ := hv
  have hPr := piv_le hm.big
  have hflen := hm.flen
  refine calls_of_S [⟨1, 0, [0, 1, 2, 3, 4, 5, 6, 7, 8, 9, 10, 11, 13, 14, 12, 15, 16], []⟩, ⟨3, 2, [], []⟩] [] (by simp) [] Tryd.func26 rfl mixed (by kernel_rfl) Tryd.ntmps26 Tryd.results26 rfl ⟨by simp, by simp⟩ (by simp) ?_
  simp only [toS, textOps, toSOp, kindAt, kindOf, odAt, sopsAt, ordOf, zipF]
  (repeat' (first | refine JC.seq ?_ | refine JC.ops ?_ | refine JC.opsD ?_ | refine JO.nil ?_ | refine JX.thenN ?_ | (apply r_assign; (iterate 3 exact rfl)) | (apply r_loadN; (iterate 4 exact rfl); (first | exact at0 | exact at1 | exact at2 | exact at3 | exact at4 | exact at5 | exact at6 | exact at7); exact rfl) | (apply r_allocZ; (iterate 3 exact rfl); intro _) | (apply r_boxA; (iterate 4 exact rfl); intro _)))
  refine r_call0 trivial rfl rfl rfl (fun w hk _ => fdc_Right w _ m.fm (hv0.f.mono hk) (by omega)) fun w v w' _ _ _ hR => ?_
  obtain ⟨b', rfl, hb⟩ := hR
  obtain rfl := hb.2 hm.rf
  by_cases hrc : m.r = m.c
  · by_cases hk : (pivM m).length = m.r
    · have hinv : invM m = solM m (oneM m.p m.r) := by unfold invM; rw [if_pos ⟨hrc, hk⟩]
      rw [hinv]
      (repeat' (first | (apply r_move; (iterate 3 exact rfl)) | (apply r_fieldAddr; (iterate 3 exact rfl)) | (apply r_load; (iterate 4 exact rfl); (first | exact at0 | exact at1 | exact at2 | exact at3 | exact at4 | exact at5 | exact at6 | exact at7); exact rfl) | (apply r_loadN; (iterate 4 exact rfl); (first | exact at0 | exact at1 | exact at2 | exact at3 | exact at4 | exact at5 | exact at6 | exact at7); exact rfl) | (apply r_pickF; (iterate 4 exact rfl)) | (apply r_not; (iterate 3 exact rfl)) | (apply r_neq; (iterate 4 exact rfl); all_goals intro hc; all_goals try (exfalso; omega))))
      refine r_call0 trivial rfl rfl rfl (fun w hk _ => c_Rank w _ m.fm (hv0.f.mono hk) hflen) fun w v w' _ _ _ hR => ?_
      subst hR
      rw [rankF_fm hm]
      (repeat' (first | refine JC.seq ?_ | refine JC.opsD ?_ | refine JO.nil ?_ | refine JX.thenN ?_ | (apply r_fieldAddr; (iterate 3 exact rfl)) | (apply r_load; (iterate 4 exact rfl); (first | exact at0 | exact at1 | exact at2 | exact at3 | exact at4 | exact at5 | exact at6 | exact at7); exact rfl) | (apply r_loadN; (iterate 4 exact rfl); (first | exact at0 | exact at1 | exact at2 | exact at3 | exact at4 | exact at5 | exact at6 | exact at7); exact rfl) | (apply r_pickF; (iterate 4 exact rfl)) | (apply r_lss; (iterate 4 exact rfl); all_goals intro hc; all_goals try (exfalso; omega)) | refine JC.skip ?_ | refine JC.condF rfl ?_))
      refine r_callA (A := [_, _]) (B := []) rfl trivial rfl rfl rfl (fun w hk _ => fdc_One w m.p m.r hm.pr hm.r) fun w v w' _ _ _ hR => ?_
      obtain ⟨N1, hN1, E1, rfl, hO1⟩ := hR
      obtain ⟨A1, c1, rfl⟩ := hO1.form
      refine ⟨N1, hN1, ?_⟩
      skip
      refine r_callA (A := [_, _]) rfl trivial rfl rfl rfl (fun w hk hs => c_Solve w _ _ m (oneM m.p m.r) hm (Rt.one hm.pr hm.r) rfl rfl (hv0.mono hk) ⟨_, rfl, hO1.rd.at hk hs (by (repeat' first | exact HSub.nil _ | exact HSub.hd | exact HSub.in0 | exact HSub.refl _ | refine HSub.skip ?_ | refine HSub.skipN ?_))⟩) fun w v w' _ _ _ hR => ?_
      generalize hs : solM m (oneM m.p m.r) = o at hR ⊢
      cases o with
      | none =>
        have hR : v = .tuple #[zeroV, .bool false] := hR
        subst hR
        unfold zeroV
        refine ⟨[], New.nil _ _, ?_⟩
        (repeat' (first | refine JO.nil ?_ | refine JX.thenN ?_ | (apply r_assign; (iterate 3 exact rfl)) | (apply r_extract; (iterate 4 exact rfl)) | (apply r_storeN; exact rfl; (first | exact trivial | exact ⟨rfl, rfl⟩); exact rfl; exact rfl; (first | exact at0 | exact at1 | exact at2 | exact at3 | exact at4 | exact at5 | exact at6 | exact at7); (iterate 3 exact rfl)) | refine JC.ret ?_))
        exact JX.retCT 0 rfl rfl rfl rfl (fun a w' st => ⟨st.kp, fdGivesO.none⟩)
      | some x =>
        obtain ⟨N, u, rfl, hN, E2, rfl, hO2⟩ := hR
        obtain ⟨A2, c2, rfl⟩ := hO2.form
        refine ⟨N, hN, ?_⟩
        (repeat' (first | refine JO.nil ?_ | refine JX.thenN ?_ | (apply r_assign; (iterate 3 exact rfl)) | (apply r_extract; (iterate 4 exact rfl)) | (apply r_storeN; exact rfl; (first | exact trivial | exact ⟨rfl, rfl⟩); exact rfl; exact rfl; (first | exact at0 | exact at1 | exact at2 | exact at3 | exact at4 | exact at5 | exact at6 | exact at7); (iterate 3 exact rfl)) | refine JC.ret ?_))
        exact JX.retCT 0 rfl rfl rfl rfl (fun a w' st => ⟨st.kp, N, _, rfl, st.newOf rfl (by (repeat' first | exact HSub.nil _ | exact HSub.hd | exact HSub.in0 | exact HSub.refl _ | refine HSub.skip ?_ | refine HSub.skipN ?_)), _, rfl, hO2⟩)
    · have hinv : invM m = none := by unfold invM; rw [if_neg (fun h => hk h.2)]
      rw [hinv]
      (repeat' (first | (apply r_move; (iterate 3 exact rfl)) | (apply r_fieldAddr; (iterate 3 exact rfl)) | (apply r_load; (iterate 4 exact rfl); (first | exact at0 | exact at1 | exact at2 | exact at3 | exact at4 | exact at5 | exact at6 | exact at7); exact rfl) | (apply r_loadN; (iterate 4 exact rfl); (first | exact at0 | exact at1 | exact at2 | exact at3 | exact at4 | exact at5 | exact at6 | exact at7); exact rfl) | (apply r_pickF; (iterate 4 exact rfl)) | (apply r_not; (iterate 3 exact rfl)) | (apply r_neq; (iterate 4 exact rfl); all_goals intro hc; all_goals try (exfalso; omega))))
      refine r_call0 trivial rfl rfl rfl (fun w hk _ => c_Rank w _ m.fm (hv0.f.mono hk) hflen) fun w v w' _ _ _ hR => ?_
      subst hR
      rw [rankF_fm hm]
      (repeat' (first | refine JC.seq ?_ | refine JC.ops ?_ | refine JO.nil ?_ | refine JX.thenN ?_ | (apply r_assign; (iterate 3 exact rfl)) | (apply r_pickF; (iterate 4 exact rfl)) | (apply r_lss; (iterate 4 exact rfl); all_goals intro hc; all_goals try (exfalso; omega)) | (apply r_buildL; (iterate 5 exact rfl)) | (apply r_storeN; exact rfl; (first | exact trivial | exact ⟨rfl, rfl⟩); exact rfl; exact rfl; (first | exact at0 | exact at1 | exact at2 | exact at3 | exact at4 | exact at5 | exact at6 | exact at7); (iterate 3 exact rfl)) | refine JX.thenR ?_ | refine JC.ret ?_ | refine JC.condT rfl ?_))
      exact JX.retCT 0 rfl rfl rfl rfl (fun a w' st => ⟨st.kp, fdGivesO.none⟩)
  · have hinv : invM m = none := by unfold invM; rw [if_neg (fun h => hrc h.1)]
    rw [hinv]
    (repeat' (first | refine JC.seq ?_ | refine JC.ops ?_ | refine JO.nil ?_ | refine JX.thenN ?_ | (apply r_move; (iterate 3 exact rfl)) | (apply r_fieldAddr; (iterate 3 exact rfl)) | (apply r_assign; (iterate 3 exact rfl)) | (apply r_load; (iterate 4 exact rfl); (first | exact at0 | exact at1 | exact at2 | exact at3 | exact at4 | exact at5 | exact at6 | exact at7); exact rfl) | (apply r_pickT; (iterate 4 exact rfl)) | (apply r_pickF; (iterate 4 exact rfl)) | (apply r_not; (iterate 3 exact rfl)) | (apply r_neq; (iterate 4 exact rfl); all_goals intro hc; all_goals try (exfalso; omega)) | (apply r_buildL; (iterate 5 exact rfl)) | (apply r_storeN; exact rfl; (first | exact trivial | exact ⟨rfl, rfl⟩); exact rfl; exact rfl; (first | exact at0 | exact at1 | exact at2 | exact at3 | exact at4 | exact at5 | exact at6 | exact at7); (iterate 3 exact rfl)) | refine JX.thenR ?_ | refine JC.ret ?_ | refine JC.condT rfl ?_ | (apply r_skip; exact rfl; exact rfl; (first | (intro h; cases h; done) | (intro _; rfl)))))
    exact JX.retCT 0 rfl rfl rfl rfl (fun a w' st => ⟨st.kp, fdGivesO.none⟩)

theorem IsF.zeroV (w : World) : IsF w zeroV zeroF := ⟨_, rfl, by
  refine ⟨rfl, none, 0, rfl, Nat.le_refl _, fun h => ?_⟩
  exact absurd h (Nat.lt_irrefl _)⟩

section
variable {P : Program} {ops : Array Oper}

end

section
variable {c : Cx} {Q : Exit → Act → World → Prop} {F : SFrame} {H : SHeap}

end


abbrev uv (n : Nat) : Value := .int .u64 (n : Int)

theorem u64_in {n : Nat} (h : n < 18446744073709551616) : IntKind.u64.wrap (n : Int) = (n : Int) := by rw [IntKind.wrap_u64]; omega

section
variable {c : Cx} {Q : Exit → Act → World → Prop} {m : Mode} {F : SFrame} {H : SHeap} {r : List SOp} {g : Option (Option Tmp × Bool)} {ns : Bool} {d : Tmp} {ty t t' : TypeId} {x y : Operand} {i j : Nat}

theorem r_addU (hd : dstOk c.n (some d) = true) (hg : guardF F g = some true) (hx : ev F x = some (uv i)) (hy : ev F y = some (uv j)) (hb : i + j < 18446744073709551616)
    (h : JO c Q m r ((d, uv (i + j)) :: F) H) : JO c Q m (⟨some d, .binOp .add t x y t', ty, g, .mov, ns⟩ :: r) F H :=
  r_arith hd hg hx hy (fun w => by
    rw [binOp_add]
    simp only [Op.intArith, show (i : Int) + (j : Int) = ((i + j : Nat) : Int) by omega, u64_in hb, Sem.run_pure]) h
theorem r_subU (hd : dstOk c.n (some d) = true) (hg : guardF F g = some true) (hx : ev F x = some (uv i)) (hy : ev F y = some (uv j)) (hb : i < 18446744073709551616 ∧ j < 18446744073709551616)
    (h : JO c Q m r ((d, uv ((i + (18446744073709551616 - j)) % 18446744073709551616)) :: F) H) : JO c Q m (⟨some d, .binOp .sub t x y t', ty, g, .mov, ns⟩ :: r) F H :=
  r_arith hd hg hx hy (fun w => by
    rw [binOp_sub]
    simp only [Op.intArith, Sem.run_pure, IntKind.wrap_u64]
    rw [show ((i : Int) - (j : Int)) % 18446744073709551616 = (((i + (18446744073709551616 - j)) % 18446744073709551616 : Nat) : Int) by omega]) h
theorem r_mulU (hd : dstOk c.n (some d) = true) (hg : guardF F g = some true) (hx : ev F x = some (uv i)) (hy : ev F y = some (uv j)) (hb : i * j < 18446744073709551616)
    (h : JO c Q m r ((d, uv (i * j)) :: F) H) : JO c Q m (⟨some d, .binOp .mul t x y t', ty, g, .mov, ns⟩ :: r) F H :=
  r_arith hd hg hx hy (fun w => by
    rw [binOp_mul]
    simp only [Op.intArith, show (i : Int) * (j : Int) = ((i * j : Nat) : Int) by simp, u64_in hb, Sem.run_pure]) h
theorem r_quoU (hd : dstOk c.n (some d) = true) (hg : guardF F g = some true) (hx : ev F x = some (uv i)) (hy : ev F y = some (uv j)) (hb : 0 < j ∧ i < 18446744073709551616)
    (h : JO c Q m r ((d, uv (i / j)) :: F) H) : JO c Q m (⟨some d, .binOp .quo t x y t', ty, g, .mov, ns⟩ :: r) F H :=
  r_arith hd hg hx hy (fun w => by
    have h0 : ¬ ((j : Int) = 0) := by omega
    have h1 : i / j < 18446744073709551616 := Nat.lt_of_le_of_lt (Nat.div_le_self _ _) hb.2
    rw [binOp_quo]; simp only [Op.intDiv, h0, if_false, ← Int.ofNat_tdiv, u64_in h1, Sem.run_pure]) h
theorem r_remU (hd : dstOk c.n (some d) = true) (hg : guardF F g = some true) (hx : ev F x = some (uv i)) (hy : ev F y = some (uv j)) (hb : 0 < j)
    (h : JO c Q m r ((d, uv (i % j)) :: F) H) : JO c Q m (⟨some d, .binOp .rem t x y t', ty, g, .mov, ns⟩ :: r) F H :=
  r_arith hd hg hx hy (fun w => by
    have h0 : ¬ ((j : Int) = 0) := by omega
    have h1 : (i : Int).tmod j = ((i % j : Nat) : Int) := (Int.ofNat_tmod i j).symm
    rw [binOp_rem]; simp only [Op.intDiv, h0, if_false, Sem.run_pure, h1]) h
theorem r_maskU (hd : dstOk c.n (some d) = true) (hg : guardF F g = some true) (hx : ev F x = some (uv i)) (hy : ev F y = some (.int .u64 4294967295)) (hb : i < 18446744073709551616)
    (h : JO c Q m r ((d, uv (i % 4294967296)) :: F) H) : JO c Q m (⟨some d, .binOp .and t x y t', ty, g, .mov, ns⟩ :: r) F H :=
  r_arith hd hg hx hy (fun w => by
    rw [binOp_and, intBits_and, show (4294967295 : Int) = ((2 ^ 32 - 1 : Nat) : Int) from rfl, bits_and_u64_nat _ _ hb (by decide), Nat.and_two_pow_sub_one_eq_mod]; rfl) h
theorem r_orU (hd : dstOk c.n (some d) = true) (hg : guardF F g = some true) (hx : ev F x = some (uv i)) (hy : ev F y = some (uv j)) (hb : i < 18446744073709551616 ∧ j < 18446744073709551616)
    (h : JO c Q m r ((d, uv (i ||| j)) :: F) H) : JO c Q m (⟨some d, .binOp .or t x y t', ty, g, .mov, ns⟩ :: r) F H :=
  r_arith hd hg hx hy (fun w => by rw [binOp_or, intBits_or, bits_or_u64_nat _ _ hb.1 hb.2]; rfl) h
theorem r_shlU {k : IntKind} (hd : dstOk c.n (some d) = true) (hg : guardF F g = some true) (hx : ev F x = some (uv i)) (hy : ev F y = some (.int k j)) (hj : j ≤ 64)
    (h : JO c Q m r ((d, uv (i * 2 ^ j % 18446744073709551616)) :: F) H) : JO c Q m (⟨some d, .binOp .shl t x y t', ty, g, .mov, ns⟩ :: r) F H :=
  r_mov hd hg (fun a w fr => by
    have h1 : ¬ ((j : Int) < 0) := by omega
    have h2 : min j 64 = j := by omega
    have h3 : IntKind.u64.wrap ((i : Int) * 2 ^ j) = ((i * 2 ^ j % 18446744073709551616 : Nat) : Int) := by
      rw [IntKind.wrap_u64, show (i : Int) * 2 ^ j = ((i * 2 ^ j : Nat) : Int) by simp]
      generalize i * 2 ^ j = z
      omega
    simp only [execOp, fr.ev hx, fr.ev hy, eqGuard_shl, binOp_shl, Op.shift, h1, if_false, Int.toNat_natCast]
    simp [IntKind.bits, h2, h3, uv]) h
theorem r_shrU {k : IntKind} (hd : dstOk c.n (some d) = true) (hg : guardF F g = some true) (hx : ev F x = some (uv i)) (hy : ev F y = some (.int k j)) (hj : j ≤ 64)
    (h : JO c Q m r ((d, uv (i / 2 ^ j)) :: F) H) : JO c Q m (⟨some d, .binOp .shr t x y t', ty, g, .mov, ns⟩ :: r) F H :=
  r_mov hd hg (fun a w fr => by
    have h1 : ¬ ((j : Int) < 0) := by omega
    have h2 : min j 64 = j := by omega
    simp only [execOp, fr.ev hx, fr.ev hy, eqGuard_shr, binOp_shr, Op.shift, h1, if_false, Int.toNat_natCast]
    have h3 : ((i : Int).fdiv (2 ^ j)) = ((i / 2 ^ j : Nat) : Int) := by
      rw [Int.fdiv_eq_ediv_of_nonneg _ (by exact_mod_cast Nat.zero_le (2 ^ j))]; norm_cast
    simp [IntKind.bits, h2, h3, uv]) h
end

class TI (P : Program) (t : TypeId) (k : outParam IntKind) : Prop where
  und : P.underlying t = some (.int k)
theorem TI.kind {P : Program} {t : TypeId} {k : IntKind} [h : TI P t k] : P.intKind t = k := by
  unfold Program.intKind
  rw [h.und]

section
variable {c : Cx} {Q : Exit → Act → World → Prop} {m : Mode} {F : SFrame} {H : SHeap} {r : List SOp} {g : Option (Option Tmp × Bool)} {ns : Bool} {d : Tmp} {ty t t' : TypeId} {x y : Operand}

theorem r_convK {k k' : IntKind} {i : Int} (j : Int) [TI c.P t k] [TI c.P t' k'] (hd : dstOk c.n (some d) = true) (hg : guardF F g = some true) (hx : ev F x = some (.int k i)) (hj : k'.wrap i = j)
    (h : JO c Q m r ((d, .int k' j) :: F) H) : JO c Q m (⟨some d, .convert t t' x, ty, g, .mov, ns⟩ :: r) F H :=
  r_mov hd hg (fun a w fr => by
    have h1 := run_convert_int w t t' k i (by rw [TI.und (P := c.P) (t := t)]; rfl) (by rw [TI.kind (k := k')]; exact TI.und)
    rw [TI.kind (k := k'), hj] at h1
    simp only [execOp, fr.ev hx, Sem.run_bind, h1, Result.andThen_ok, Sem.run_pure]) h
end

section
variable {c : Cx} {Q : Exit → Act → World → Prop} {m : Mode} {F : SFrame} {H : SHeap} {r : List SOp} {g : Option (Option Tmp × Bool)} {ns : Bool} {d : Tmp} {ty t t' : TypeId} {x y : Operand}

theorem r_convN {k : IntKind} {i : Nat} [TI c.P t k] [TI c.P t' .i64] (hd : dstOk c.n (some d) = true) (hg : guardF F g = some true) (hx : ev F x = some (.int k i)) (hb : i < 9223372036854775808)
    (h : JO c Q m r ((d, .int .i64 i) :: F) H) : JO c Q m (⟨some d, .convert t t' x, ty, g, .mov, ns⟩ :: r) F H := r_convK (k' := .i64) i hd hg hx (in64N hb) h
theorem r_eqBS {b : Bool} [TB c.P t] (hd : dstOk c.n (some d) = true) (hg : guardF F g = some true) (hx : ev F x = some (.bool b)) (hy : ev F y = some (.bool b)) (h : JO c Q m r ((d, .bool true) :: F) H) : JO c Q m (⟨some d, .binOp .eql t x y t', ty, g, .mov, ns⟩ :: r) F H :=
  r_eqB hd hg hx hy (by rw [beq_self_eq_true]; exact h)
end

instance : TI Tryd.prog 3 .i64 := ⟨Tryd.underlying3⟩
instance : TI Tryd.prog 5 .u8 := ⟨Tryd.underlying5⟩
instance : TI Tryd.prog 71 .u64 := ⟨Tryd.underlying71⟩


section
variable {c : Cx} {Q : Exit → Act → World → Prop} {m : Mode} {F : SFrame} {H : SHeap} {r : List SOp} {g : Option (Option Tmp × Bool)} {ns : Bool} {d : Tmp} {ty t t' : TypeId} {x y : Operand}
theorem r_field {s : TypeId} {fs : Array Field} {fl : Field} {f : Nat} {vs : Array Value} {v : Value} (hu : c.P.underlying s = some (.struct fs)) (hf : fs[f]? = some fl) (ht : T1 c.P fl.type) (hd : dstOk c.n (some d) = true) (hg : guardF F g = some true) (hx : ev F x = some (.agg vs)) (hv : vs[fl.offset]? = some v)
    (h : JO c Q m r ((d, v) :: F) H) : JO c Q m (⟨some d, .field s x f, ty, g, .mov, ns⟩ :: r) F H :=
  r_mov hd hg (fun a w fr => by
    simp only [execOp, fr.ev hx, Instr.field, Sem.run_bind, run_underlying hu, Result.andThen_ok, hf, asAgg, Sem.run_pure, part, T1.agg, Bool.false_eq_true, if_false, hv]) h

end


theorem tmod_emod (n : Int) {m : Int} (hm : 0 < m) : (n.tmod m + m).tmod m = n % m := by
  have h1 := Int.tmod_lt_of_pos n hm
  have h2 : -m < n.tmod m := by
    have := Int.lt_tmod_of_pos n hm
    omega
  rw [Int.tmod_eq_emod_of_nonneg (by omega), Int.add_emod_right]
  have h3 := Int.mul_tdiv_add_tmod n m
  have h4 : n % m = (m * n.tdiv m + n.tmod m) % m := by rw [h3]
  rw [h4, Int.mul_add_emod_self_left]

def md (n : Int) (m : Nat) : Nat := (n % (m : Int)).toNat
theorem md_eq (n : Int) {m : Nat} (hm : 0 < m) : ((md n m : Nat) : Int) = n % m := by
  have := Int.emod_nonneg n (show (m : Int) ≠ 0 by omega)
  unfold md; omega
theorem md_lt (n : Int) {m : Nat} (hm : 0 < m) : md n m < m := by
  have h1 := md_eq n hm
  have := Int.emod_lt_of_pos n (show (0 : Int) < m by omega)
  omega
theorem md_tmod (n : Int) {m : Nat} (hm : 0 < m) : (n.tmod m + m).tmod m = (md n m : Nat) := by rw [md_eq n hm]; exact tmod_emod n (by omega)
theorem fdtmod_bd (n : Int) {m : Nat} (hm : 0 < m) (hb : m ≤ 1000000000) : -1000000000 < n.tmod m ∧ n.tmod m < 1000000000 := by
  have h1 := Int.tmod_lt_of_pos n (show (0 : Int) < m by omega)
  have h2 := Int.lt_tmod_of_pos n (show (0 : Int) < m by omega)
  omega

set_option maxHeartbeats 2000000 in
theorem c_Mod01 (w : World) (n : Int) (m : Nat) (hm : 0 < m) (hb : m ≤ 1000000000) :
    Calls Tryd.prog 30 #[iv n, nv m] w (Ret fun v w' => Kp [] w w' ∧ v = nv (md n m)) := by
  have h1 := fdtmod_bd n hm hb
  refine calls_of_S [] [] (by simp) [] Tryd.func30 rfl mixed (by kernel_rfl) Tryd.ntmps30 Tryd.results30 rfl ⟨by simp, by simp⟩ (by simp) ?_
  simp only [toS, textOps, toSOp, kindAt, kindOf, odAt, sopsAt, ordOf, zipF]
  (repeat' (first | refine JC.seq ?_ | refine JC.ops ?_ | refine JO.nil ?_ | refine JX.thenN ?_ | (apply r_move; (iterate 3 exact rfl)) | (apply r_assign; (iterate 3 exact rfl)) | (apply r_add; (iterate 4 exact rfl); omega) | (apply r_mod; (iterate 4 exact rfl); omega) | refine JC.ret ?_))
  exact JX.ret1 rfl (fun a w' st => ⟨st.kp, by rw [md_tmod n hm]⟩)

def fdIsS (w : World) (v : Value) (P R C : Nat) (L : List Int) : Prop := P < 256 ∧ R < 256 ∧ C < 256 ∧ ∃ E, v = .agg #[.int .u8 (P : Int), .int .u8 (R : Int), .int .u8 (C : Int), E] ∧ WI w E L.length L
theorem fdIsS.mono {w w' : World} {v : Value} {P R C : Nat} {L : List Int} (h : fdIsS w v P R C L) (hk : Kp [] w w') : fdIsS w' v P R C L := by
  obtain ⟨h1, h2, h3, E, h5, h6⟩ := h
  exact ⟨h1, h2, h3, E, h5, h6.mono hk⟩

def shP (P : Nat) : Nat := ([2, 3, 5, 7, 11, 997] : List Nat).getD (P % 6) 0
theorem shP_pr (P : Nat) : Pr (shP P) := by
  unfold shP
  have h : P % 6 < 6 := Nat.mod_lt _ (by omega)
  generalize P % 6 = k at h
  have : k = 0 ∨ k = 1 ∨ k = 2 ∨ k = 3 ∨ k = 4 ∨ k = 5 := by omega
  rcases this with rfl | rfl | rfl | rfl | rfl | rfl
  · exact (show Pr 2 by decide)
  · exact (show Pr 3 by decide)
  · exact (show Pr 5 by decide)
  · exact (show Pr 7 by decide)
  · exact (show Pr 11 by decide +kernel)
  · exact (show Pr 997 by decide +kernel)

def shE (p n : Nat) (L : List Int) : List Nat := tab n fun k => if L = [] then 0 else md (L.getD ((k + k / L.length) % L.length) 0) p
def shM (L : List Int) (p r c : Nat) : NM := ⟨p, r, c, shE p (r * c) L⟩
theorem Rt.sh {L : List Int} {p r c : Nat} (hp : Pr p) (hr : r ≤ 400) (hc : c ≤ 400) : Rt (shM L p r c) := ⟨hp, hr, hc, by simp [shM, shE], tab_lt (n := r * c) (p := p) (g := fun k => if L = [] then 0 else md (L.getD ((k + k / L.length) % L.length) 0) p) fun i _ => by
  have hpos : 0 < p := by have := hp.1; omega
  show (if L = [] then 0 else _) < p
  split
  · exact hpos
  · exact md_lt _ hpos⟩
def fdshMat (P R C : Nat) (L : List Int) : NM := shM L (shP P) (R % 7) (C % 7)
theorem Rt.shMat (P R C : Nat) (L : List Int) : Rt (fdshMat P R C L) := Rt.sh (shP_pr P) (by have := Nat.mod_lt R (show 0 < 7 by omega); omega) (by have := Nat.mod_lt C (show 0 < 7 by omega); omega)


def fdIsRows (w : World) (v : Value) (xss : List (List Int)) : Prop := ∃ ss : List Value, RdW w 1 v xss.length ss ∧ ∀ i, i < xss.length → WI w (ss.getD i (iv 0)) (xss.getD i []).length (xss.getD i [])

theorem fdIsRows.mono {w w' : World} {v : Value} {xss : List (List Int)} (h : fdIsRows w v xss) (hk : Kp [] w w') : fdIsRows w' v xss := by
  obtain ⟨ss, h1, h2⟩ := h
  exact ⟨ss, h1.mono hk, fun i hi => (h2 i hi).mono hk⟩

def fdofC (xss : List (List Int)) : Nat → Nat
  | 0 => 0
  | k + 1 => max (fdofC xss k) (xss.getD k []).length
theorem fdofC_le (xss : List (List Int)) : ∀ {k i : Nat}, i < k → (xss.getD i []).length ≤ fdofC xss k
  | 0, i, h => by omega
  | k + 1, i, h => by
    rw [fdofC]
    by_cases hi : i = k
    · subst hi; exact Nat.le_max_right _ _
    · exact Nat.le_trans (fdofC_le xss (show i < k by omega)) (Nat.le_max_left _ _)
theorem ofC_lt (xss : List (List Int)) {b : Nat} (hb : 0 < b) (h : ∀ i, (xss.getD i []).length < b) : ∀ k, fdofC xss k < b
  | 0 => hb
  | k + 1 => by rw [fdofC]; have := ofC_lt xss hb h k; have := h k; omega
theorem fdmax_nv (a b : Nat) : (if (a : Int) < (b : Int) then (b : Int) else (a : Int)) = ((max a b : Nat) : Int) := by
  split <;> omega

def fdofE (p : Nat) (xss : List (List Int)) (i j : Nat) : Nat := md ((xss.getD i []).getD j 0) p
def ofM (p : Nat) (xss : List (List Int)) : NM := ⟨p, xss.length, fdofC xss xss.length, tab2 xss.length (fdofC xss xss.length) (fdofE p xss)⟩
theorem Rt.of {p : Nat} {xss : List (List Int)} (hp : Pr p) (hr : xss.length ≤ 400) (hc : fdofC xss xss.length ≤ 400) : Rt (ofM p xss) := ⟨hp, hr, hc, by simp [ofM], tab2_lt (r := xss.length) (c := fdofC xss xss.length) (p := p) (g := fdofE p xss) fun i j _ _ => md_lt _ (by have := hp.1; omega)⟩
def fdofS (p : Nat) (xss : List (List Int)) (i k : Nat) : Nat → Nat → Nat := fun a b => if a < i ∨ (a = i ∧ b < k) then fdofE p xss a b else 0
theorem fdofS_zero (p r c : Nat) (xss : List (List Int)) : tab2 r c (fdofS p xss 0 0) = tab (r * c) fun _ => 0 := by
  unfold tab2 fdofS
  exact tab_congr fun t _ => by simp
theorem fdofS_set {p r c i k : Nat} {xss : List (List Int)} (hk : k < c) : (tab2 r c (fdofS p xss i k)).set (i * c + k) (fdofE p xss i k) = tab2 r c (fdofS p xss i (k + 1)) := by
  rw [tab2_set hk]
  refine tab2_congr fun a b _ _ => ?_
  unfold fdofS
  by_cases h : a = i ∧ b = k
  · obtain ⟨rfl, rfl⟩ := h; simp
  · rw [if_neg h]
    have e : (a < i ∨ a = i ∧ b < k + 1) = (a < i ∨ a = i ∧ b < k) := by simp; omega
    simp only [e]
theorem fdofE_out {p i j : Nat} {xss : List (List Int)} (h : (xss.getD i []).length ≤ j) : fdofE p xss i j = 0 := by
  unfold fdofE md
  have e : (xss.getD i []).getD j 0 = 0 := by rw [List.getD, List.getElem?_eq_none h]; rfl
  rw [e]; simp
theorem fdofS_row {p r c i k : Nat} {xss : List (List Int)} (hk : (xss.getD i []).length ≤ k) : tab2 r c (fdofS p xss i k) = tab2 r c (fdofS p xss (i + 1) 0) := by
  refine tab2_congr fun a b _ _ => ?_
  unfold fdofS
  by_cases h : a = i
  · subst h
    by_cases hb : b < k
    · rw [if_pos (.inr ⟨rfl, hb⟩), if_pos (.inl (by omega))]
    · rw [if_neg (by omega), if_pos (.inl (by omega)), fdofE_out (by omega)]
  · have e : (a < i ∨ a = i ∧ b < k) = (a < i + 1 ∨ a = i + 1 ∧ b < 0) := by simp; omega
    simp only [e]
theorem fdofS_end {p r c i : Nat} {xss : List (List Int)} (hi : r ≤ i) : tab2 r c (fdofS p xss i 0) = tab2 r c (fdofE p xss) := by
  refine tab2_congr fun a b ha _ => ?_
  unfold fdofS; rw [if_pos (.inl (by omega))]

set_option maxHeartbeats 4000000 in
theorem fdc_Of (w : World) (v : Value) (p : Nat) (xss : List (List Int)) (hv : fdIsRows w v xss) (hp : Pr p) (hr : xss.length ≤ 400) (hcc : fdofC xss xss.length ≤ 400) :
    Calls Tryd.prog 9 #[nv p, v] w (Ret fun v w' => Kp [] w w' ∧ fdGivesM (ofM p xss) w v w') := by
  obtain ⟨ss, hss, hrow⟩ := hv
  have hrc := rc_le hr hcc
  have hp2 := hp.1
  have hp9 := hp.2.1
  have hlen : ∀ i, i < xss.length → (xss.getD i []).length ≤ 400 := fun i hi => Nat.le_trans (fdofC_le xss hi) hcc
  have hsl : ss.length = xss.length := by have := hss.1; omega
  refine calls_of_S [⟨16, 2, [], []⟩] [] (by simp) [] Tryd.func9 rfl mixed (by kernel_rfl) Tryd.ntmps9 Tryd.results9 rfl ⟨by simp, by simp⟩ (by simp) ?_
  simp only [toS, textOps, toSOp, kindAt, kindOf, odAt, sopsAt, ordOf, zipF]
  have hR : Rd ⟨Tryd.prog, 66, w, [], by simp⟩ [] 1 v xss.length ss := hss.rd rfl []
  (repeat' (first | refine JC.seq ?_ | refine JC.ops ?_ | refine JO.nil ?_ | refine JX.thenN ?_ | (apply r_move; (iterate 3 exact rfl)) | (apply r_assign; (iterate 3 exact rfl)) | (apply r_allocZ; (iterate 3 exact rfl); intro _)))
  rename_i b4
  refine r_lenR rfl rfl rfl hR ?_
  (repeat' (first | refine JO.nil ?_ | refine JX.thenN ?_ | (apply r_move; (iterate 3 exact rfl)) | refine JC.block ?_))
  refine JC.loopH (ι := Nat) ⟨fun k => [(15, nv k), (14, nv xss.length), (13, v), (5, nv (fdofC xss k)), (0, nv p), (1, v), (4, .pointer (some ⟨b4, 0, none⟩))], fun _ => [(b4, .cells #[iv 0, iv 0, iv 0, .slice none 0 0] 30)],
    fun k => k ≤ xss.length, fun k => xss.length - k⟩ 0 (by dsimp only; omega) (by repeat first | exact trivial | refine ⟨rfl, ?_⟩) (by (first | exact HSub.refl _ | (repeat' first | exact HSub.nil _ | exact HSub.refl _ | refine HSub.at 0 rfl ?_ | refine HSub.at 1 rfl ?_ | refine HSub.at 2 rfl ?_ | refine HSub.at 3 rfl ?_ | refine HSub.at 4 rfl ?_ | refine HSub.at 5 rfl ?_ | refine HSub.at 6 rfl ?_ | refine HSub.at 7 rfl ?_))) (fun k hk => ?_)
  dsimp only at hk ⊢
  by_cases hkk : k < xss.length
  · have hwi := hrow k hkk
    have hl4 := hlen k hkk
    (repeat' (first | refine JC.seq ?_ | refine JC.ops ?_ | refine JO.nil ?_ | refine JX.thenN ?_ | (apply r_lss; (iterate 4 exact rfl); all_goals intro hc; all_goals try (exfalso; omega)) | refine JC.skip ?_ | refine JC.condT rfl ?_ | refine JC.block ?_))
    refine r_idxR1 rfl rfl rfl rfl hR hkk ?_
    refine r_ldR rfl rfl rfl rfl hR (HSub.nil _) (gD_lt (d := iv 0) (by omega)) ?_
    (repeat' (first | refine JC.ops ?_ | refine JO.nil ?_ | refine JX.thenN ?_ | (apply r_move; (iterate 3 exact rfl)) | (apply r_assign; (iterate 3 exact rfl)) | (apply r_lenI; (iterate 3 exact rfl); (first | assumption | exact WI.rd (by assumption) rfl [] | exact OwnI.rd (by assumption))) | (apply r_add1; (iterate 4 exact rfl); omega) | (apply r_max; (iterate 4 exact rfl)) | refine JX.blockN ?_))
    refine JX.roundH (k + 1) (by dsimp only; omega) (by dsimp only; omega) (by dsimp only [fdofC]; unfold nv; rw [← fdmax_nv]; exact (by repeat first | exact trivial | refine ⟨rfl, ?_⟩)) (by (first | exact HSub.refl _ | (repeat' first | exact HSub.nil _ | exact HSub.refl _ | refine HSub.at 0 rfl ?_ | refine HSub.at 1 rfl ?_ | refine HSub.at 2 rfl ?_ | refine HSub.at 3 rfl ?_ | refine HSub.at 4 rfl ?_ | refine HSub.at 5 rfl ?_ | refine HSub.at 6 rfl ?_ | refine HSub.at 7 rfl ?_)))
  · have : k = xss.length := by omega
    subst this
    (repeat' (first | refine JC.seq ?_ | refine JC.ops ?_ | refine JO.nil ?_ | refine JX.thenN ?_ | (apply r_move; (iterate 3 exact rfl)) | (apply r_lss; (iterate 4 exact rfl); all_goals intro hc; all_goals try (exfalso; omega)) | refine JX.thenE ?_ | refine JC.exit ?_ | refine JC.condF rfl ?_ | refine JX.blockE ?_))
    refine r_lenR rfl rfl rfl hR ?_
    (repeat' (first | (apply r_move; (iterate 3 exact rfl))))
    refine r_callA (A := [_]) (B := []) rfl trivial rfl rfl rfl (fun w hk _ => c_zero p xss.length _ hp hr hcc w) fun w v' w' _ _ _ hR' => ?_
    obtain ⟨N, Eo, hN, rfl, hO⟩ := hR'
    obtain ⟨Ao, co, rfl⟩ := hO.form
    refine ⟨N, hN, ?_⟩
    have hdone : ∀ N', OwnN N' (.slice Ao (xss.length * fdofC xss xss.length) co) (xss.length * fdofC xss xss.length) (tab2 xss.length (fdofC xss xss.length) (fdofE p xss)) → fdOwnM N' (.agg #[nv p, nv xss.length, nv (fdofC xss xss.length), .slice Ao (xss.length * fdofC xss xss.length) co]) (ofM p xss) := fun N' h => fdOwnM.mk' h
    (repeat' (first | refine JC.seq ?_ | refine JC.ops ?_ | refine JO.nil ?_ | refine JX.thenN ?_ | (apply r_move; (iterate 3 exact rfl)) | (apply r_fieldAddr; (iterate 3 exact rfl)) | (apply r_load; (iterate 4 exact rfl); (first | exact at0 | exact at1 | exact at2 | exact at3 | exact at4 | exact at5 | exact at6 | exact at7); exact rfl) | (apply r_loadN; (iterate 4 exact rfl); (first | exact at0 | exact at1 | exact at2 | exact at3 | exact at4 | exact at5 | exact at6 | exact at7); exact rfl) | (apply r_len; (iterate 3 exact rfl)) | (apply r_eql; (iterate 4 exact rfl); all_goals intro hc; all_goals try (exfalso; omega)) | (apply r_allocZ; (iterate 3 exact rfl); intro _) | (apply r_storeN; exact rfl; (first | exact trivial | exact ⟨rfl, rfl⟩); exact rfl; exact rfl; (first | exact at0 | exact at1 | exact at2 | exact at3 | exact at4 | exact at5 | exact at6 | exact at7); (iterate 3 exact rfl)) | refine JX.thenR ?_ | refine JC.skip ?_ | refine JC.ret ?_ | refine JC.condT rfl ?_ | refine JC.condF rfl ?_))
    · rename_i b8 h0
      refine JX.retC 1 rfl rfl rfl (fun a w' st => ⟨st.kp, N, st.newOf rfl (by (repeat' first | exact HSub.nil _ | exact HSub.hd | exact HSub.in0 | exact HSub.refl _ | refine HSub.skip ?_ | refine HSub.skipN ?_)), hdone _ ?_⟩)
      have e : tab2 xss.length (fdofC xss xss.length) (fdofE p xss) = tab (xss.length * fdofC xss xss.length) fun _ => 0 := by
        unfold tab2
        exact tab_congr fun i hi => by omega
      rw [e]; exact hO
    · refine r_lenR rfl rfl rfl hR ?_
      (repeat' (first | refine JO.nil ?_ | refine JX.thenN ?_ | (apply r_move; (iterate 3 exact rfl)) | refine JC.block ?_))
      rename_i b8
      refine JC.loopH (ι := Nat × SHeap) ⟨fun z => [(36, nv z.1), (35, nv xss.length), (34, v), (5, nv (fdofC xss xss.length)), (0, nv p), (1, v), (8, .pointer (some ⟨b8, 0, none⟩)), (4, .pointer (some ⟨b4, 0, none⟩))],
        fun z => [(b8, .cells #[nv p, nv xss.length, nv (fdofC xss xss.length), .slice Ao (xss.length * fdofC xss xss.length) co] 30), (b4, .cells #[iv 0, iv 0, iv 0, .slice none 0 0] 30)] ++ (z.2 ++ []),
        fun z => z.1 ≤ xss.length ∧ OwnN z.2 (.slice Ao (xss.length * fdofC xss xss.length) co) (xss.length * fdofC xss xss.length) (tab2 xss.length (fdofC xss xss.length) (fdofS p xss z.1 0)), fun z => xss.length - z.1⟩ (0, N) ⟨by dsimp only; omega, by rw [fdofS_zero]; exact hO⟩ (by repeat first | exact trivial | refine ⟨rfl, ?_⟩) (by (first | exact HSub.refl _ | (repeat' first | exact HSub.nil _ | exact HSub.refl _ | refine HSub.at 0 rfl ?_ | refine HSub.at 1 rfl ?_ | refine HSub.at 2 rfl ?_ | refine HSub.at 3 rfl ?_ | refine HSub.at 4 rfl ?_ | refine HSub.at 5 rfl ?_ | refine HSub.at 6 rfl ?_ | refine HSub.at 7 rfl ?_))) (fun z hz => ?_)
      clear hO
      obtain ⟨i, N⟩ := z
      obtain ⟨hi, hO⟩ := hz
      dsimp only at hi hO ⊢
      by_cases hii : i < xss.length
      · have hwi := hrow i hii
        have hl4 := hlen i hii
        have hlc := fdofC_le xss hii
        (repeat' (first | refine JC.seq ?_ | refine JC.ops ?_ | refine JO.nil ?_ | refine JX.thenN ?_ | (apply r_move; (iterate 3 exact rfl)) | (apply r_lss; (iterate 4 exact rfl); all_goals intro hc; all_goals try (exfalso; omega)) | refine JC.skip ?_ | refine JC.condT rfl ?_ | refine JC.block ?_))
        refine r_idxR1 rfl rfl rfl rfl hR hii ?_
        refine r_ldR rfl rfl rfl rfl hR (HSub.nil _) (gD_lt (d := iv 0) (by omega)) ?_
        (repeat' (first | refine JC.seq ?_ | refine JC.ops ?_ | refine JO.nil ?_ | refine JX.thenN ?_ | (apply r_move; (iterate 3 exact rfl)) | (apply r_assign; (iterate 3 exact rfl)) | (apply r_lenI; (iterate 3 exact rfl); (first | assumption | exact WI.rd (by assumption) rfl [] | exact OwnI.rd (by assumption))) | refine JC.block ?_))
        refine JC.loopH (ι := Nat × SHeap) ⟨fun z => [(43, nv z.1), (42, nv (xss.getD i []).length), (41, ss.getD i (iv 0)), (9, nv i), (36, nv i), (35, nv xss.length), (34, v), (5, nv (fdofC xss xss.length)), (0, nv p), (1, v), (8, .pointer (some ⟨b8, 0, none⟩)), (4, .pointer (some ⟨b4, 0, none⟩))],
          fun z => [(b8, .cells #[nv p, nv xss.length, nv (fdofC xss xss.length), .slice Ao (xss.length * fdofC xss xss.length) co] 30), (b4, .cells #[iv 0, iv 0, iv 0, .slice none 0 0] 30)] ++ (z.2 ++ []),
          fun z => z.1 ≤ (xss.getD i []).length ∧ OwnN z.2 (.slice Ao (xss.length * fdofC xss xss.length) co) (xss.length * fdofC xss xss.length) (tab2 xss.length (fdofC xss xss.length) (fdofS p xss i z.1)), fun z => (xss.getD i []).length - z.1⟩ (0, N) ⟨by dsimp only; omega, hO⟩ (by repeat first | exact trivial | refine ⟨rfl, ?_⟩) (by (first | exact HSub.refl _ | (repeat' first | exact HSub.nil _ | exact HSub.refl _ | refine HSub.at 0 rfl ?_ | refine HSub.at 1 rfl ?_ | refine HSub.at 2 rfl ?_ | refine HSub.at 3 rfl ?_ | refine HSub.at 4 rfl ?_ | refine HSub.at 5 rfl ?_ | refine HSub.at 6 rfl ?_ | refine HSub.at 7 rfl ?_))) (fun z hz => ?_)
        clear hO
        obtain ⟨j, N⟩ := z
        obtain ⟨hj, hO⟩ := hz
        dsimp only at hj hO ⊢
        by_cases hjj : j < (xss.getD i []).length
        · have hjc : j < fdofC xss xss.length := by omega
          have hidx := fdidx_lt hii hjc
          have hb1 : i * fdofC xss xss.length ≤ 160000 := Nat.mul_le_mul (show i ≤ 400 by omega) hcc
          have htb := fdtmod_bd ((xss.getD i []).getD j 0) (m := p) (by omega) (by omega)
          (repeat' (first | refine JC.seq ?_ | refine JC.ops ?_ | refine JC.opsD ?_ | refine JO.nil ?_ | refine JX.thenN ?_ | (apply r_move; (iterate 3 exact rfl)) | (apply r_fieldAddr; (iterate 3 exact rfl)) | (apply r_assign; (iterate 3 exact rfl)) | (apply r_load; (iterate 4 exact rfl); (first | exact at0 | exact at1 | exact at2 | exact at3 | exact at4 | exact at5 | exact at6 | exact at7); exact rfl) | (apply r_idxI; (iterate 4 exact rfl); (first | assumption | exact WI.rd (by assumption) rfl [] | exact OwnI.rd (by assumption)); (first | assumption | omega)) | (apply r_idxN; (iterate 4 exact rfl); (first | assumption | exact WN.rd (by assumption) rfl [] | exact OwnN.rd (by assumption)); (first | assumption | omega)) | (apply r_ldI; (iterate 4 exact rfl); (first | assumption | exact WI.rd (by assumption) rfl [] | exact OwnI.rd (by assumption)); (repeat' first | exact HSub.nil _ | exact HSub.hd | exact HSub.in0 | exact HSub.refl _ | refine HSub.skip ?_ | refine HSub.skipN ?_); (first | assumption | omega)) | (apply r_addN; (iterate 4 exact rfl); omega) | (apply r_mulN; (iterate 4 exact rfl); (first | assumption | omega)) | (apply r_add; (iterate 4 exact rfl); omega) | (apply r_mod; (iterate 4 exact rfl); omega) | (apply r_lss; (iterate 4 exact rfl); all_goals intro hc; all_goals try (exfalso; omega)) | refine JC.skip ?_ | refine JC.condT rfl ?_ | refine JC.block ?_))
          refine r_stN (A := [_, _]) (u := fdofE p xss i j) hO rfl rfl (by first | trivial | exact ⟨rfl, rfl⟩) rfl (congrArg (fun t => some (iv t)) (md_tmod _ (by omega))) hidx (fun N' hO' => ?_)
          rw [fdofS_set hjc] at hO'
          (repeat' (first | refine JC.ops ?_ | refine JO.nil ?_ | refine JX.thenN ?_ | (apply r_move; (iterate 3 exact rfl)) | (apply r_add1; (iterate 4 exact rfl); omega) | refine JX.blockN ?_))
          exact JX.roundH (j + 1, N') ⟨by dsimp only; omega, hO'⟩ (by dsimp only; omega) (by repeat first | exact trivial | refine ⟨rfl, ?_⟩) (by (first | exact HSub.refl _ | (repeat' first | exact HSub.nil _ | exact HSub.refl _ | refine HSub.at 0 rfl ?_ | refine HSub.at 1 rfl ?_ | refine HSub.at 2 rfl ?_ | refine HSub.at 3 rfl ?_ | refine HSub.at 4 rfl ?_ | refine HSub.at 5 rfl ?_ | refine HSub.at 6 rfl ?_ | refine HSub.at 7 rfl ?_)))
        · rw [fdofS_row (show (xss.getD i []).length ≤ j by omega)] at hO
          (repeat' (first | refine JC.seq ?_ | refine JC.ops ?_ | refine JO.nil ?_ | refine JX.thenN ?_ | (apply r_move; (iterate 3 exact rfl)) | (apply r_add1; (iterate 4 exact rfl); omega) | (apply r_lss; (iterate 4 exact rfl); all_goals intro hc; all_goals try (exfalso; omega)) | refine JX.thenE ?_ | refine JC.exit ?_ | refine JC.condF rfl ?_ | refine JX.blockN ?_ | refine JX.blockE ?_))
          exact JX.roundH (i + 1, N) ⟨by dsimp only; omega, hO⟩ (by dsimp only; omega) (by repeat first | exact trivial | refine ⟨rfl, ?_⟩) (by (first | exact HSub.refl _ | (repeat' first | exact HSub.nil _ | exact HSub.refl _ | refine HSub.at 0 rfl ?_ | refine HSub.at 1 rfl ?_ | refine HSub.at 2 rfl ?_ | refine HSub.at 3 rfl ?_ | refine HSub.at 4 rfl ?_ | refine HSub.at 5 rfl ?_ | refine HSub.at 6 rfl ?_ | refine HSub.at 7 rfl ?_)))
      · rw [fdofS_end (show xss.length ≤ i by omega)] at hO
        (repeat' (first | refine JC.seq ?_ | refine JC.ops ?_ | refine JO.nil ?_ | refine JX.thenN ?_ | (apply r_loadN; (iterate 4 exact rfl); (first | exact at0 | exact at1 | exact at2 | exact at3 | exact at4 | exact at5 | exact at6 | exact at7); exact rfl) | (apply r_lss; (iterate 4 exact rfl); all_goals intro hc; all_goals try (exfalso; omega)) | (apply r_storeN; exact rfl; (first | exact trivial | exact ⟨rfl, rfl⟩); exact rfl; exact rfl; (first | exact at0 | exact at1 | exact at2 | exact at3 | exact at4 | exact at5 | exact at6 | exact at7); (iterate 3 exact rfl)) | refine JX.thenE ?_ | refine JC.exit ?_ | refine JC.ret ?_ | refine JC.condF rfl ?_ | refine JX.blockE ?_))
        exact JX.retC 1 rfl rfl rfl (fun a w' st => ⟨st.kp, N, st.newOf rfl (by (repeat' first | exact HSub.nil _ | exact HSub.hd | exact HSub.in0 | exact HSub.refl _ | refine HSub.skip ?_ | refine HSub.skipN ?_)), hdone _ hO⟩)

set_option maxHeartbeats 4000000 in
theorem c_OfF (w : World) (v : Value) (p : Int) (xss : List (List Int)) (hv : fdIsRows w v xss) (hf : ¬ Fits p xss.length (fdofC xss xss.length)) (hr : xss.length < 4611686018427387904) (hb : ∀ i, (xss.getD i []).length < 4611686018427387904) :
    Calls Tryd.prog 9 #[iv p, v] w (Ret fun v w' => Kp [] w w' ∧ v = zeroV) := by
  obtain ⟨ss, hss, hrow⟩ := hv
  have hsl : ss.length = xss.length := by have := hss.1; omega
  have hoc := ofC_lt xss (show 0 < 4611686018427387904 by omega) hb
  refine calls_of_S [⟨16, 2, [], []⟩] [] (by simp) [] Tryd.func9 rfl mixed (by kernel_rfl) Tryd.ntmps9 Tryd.results9 rfl ⟨by simp, by simp⟩ (by simp) ?_
  simp only [toS, textOps, toSOp, kindAt, kindOf, odAt, sopsAt, ordOf, zipF]
  have hR : Rd ⟨Tryd.prog, 66, w, [], by simp⟩ [] 1 v xss.length ss := hss.rd rfl []
  (repeat' (first | refine JC.seq ?_ | refine JC.ops ?_ | refine JO.nil ?_ | refine JX.thenN ?_ | (apply r_move; (iterate 3 exact rfl)) | (apply r_assign; (iterate 3 exact rfl)) | (apply r_allocZ; (iterate 3 exact rfl); intro _)))
  rename_i b4
  refine r_lenR rfl rfl rfl hR ?_
  (repeat' (first | refine JO.nil ?_ | refine JX.thenN ?_ | (apply r_move; (iterate 3 exact rfl)) | refine JC.block ?_))
  refine JC.loopH (ι := Nat) ⟨fun k => [(15, nv k), (14, nv xss.length), (13, v), (5, nv (fdofC xss k)), (0, iv p), (1, v), (4, .pointer (some ⟨b4, 0, none⟩))], fun _ => [(b4, .cells #[iv 0, iv 0, iv 0, .slice none 0 0] 30)],
    fun k => k ≤ xss.length, fun k => xss.length - k⟩ 0 (by dsimp only; omega) (by repeat first | exact trivial | refine ⟨rfl, ?_⟩) (by (first | exact HSub.refl _ | (repeat' first | exact HSub.nil _ | exact HSub.refl _ | refine HSub.at 0 rfl ?_ | refine HSub.at 1 rfl ?_ | refine HSub.at 2 rfl ?_ | refine HSub.at 3 rfl ?_ | refine HSub.at 4 rfl ?_ | refine HSub.at 5 rfl ?_ | refine HSub.at 6 rfl ?_ | refine HSub.at 7 rfl ?_))) (fun k hk => ?_)
  dsimp only at hk ⊢
  by_cases hkk : k < xss.length
  · have hwi := hrow k hkk
    have hl4 := hb k
    (repeat' (first | refine JC.seq ?_ | refine JC.ops ?_ | refine JO.nil ?_ | refine JX.thenN ?_ | (apply r_lss; (iterate 4 exact rfl); all_goals intro hc; all_goals try (exfalso; omega)) | refine JC.skip ?_ | refine JC.condT rfl ?_ | refine JC.block ?_))
    refine r_idxR1 rfl rfl rfl rfl hR hkk ?_
    refine r_ldR rfl rfl rfl rfl hR (HSub.nil _) (gD_lt (d := iv 0) (by omega)) ?_
    (repeat' (first | refine JC.ops ?_ | refine JO.nil ?_ | refine JX.thenN ?_ | (apply r_move; (iterate 3 exact rfl)) | (apply r_assign; (iterate 3 exact rfl)) | (apply r_lenI; (iterate 3 exact rfl); (first | assumption | exact WI.rd (by assumption) rfl [] | exact OwnI.rd (by assumption))) | (apply r_add1; (iterate 4 exact rfl); omega) | (apply r_max; (iterate 4 exact rfl)) | refine JX.blockN ?_))
    refine JX.roundH (k + 1) (by dsimp only; omega) (by dsimp only; omega) (by dsimp only [fdofC]; unfold nv; rw [← fdmax_nv]; exact (by repeat first | exact trivial | refine ⟨rfl, ?_⟩)) (by (first | exact HSub.refl _ | (repeat' first | exact HSub.nil _ | exact HSub.refl _ | refine HSub.at 0 rfl ?_ | refine HSub.at 1 rfl ?_ | refine HSub.at 2 rfl ?_ | refine HSub.at 3 rfl ?_ | refine HSub.at 4 rfl ?_ | refine HSub.at 5 rfl ?_ | refine HSub.at 6 rfl ?_ | refine HSub.at 7 rfl ?_)))
  · have : k = xss.length := by omega
    subst this
    (repeat' (first | refine JC.seq ?_ | refine JC.ops ?_ | refine JO.nil ?_ | refine JX.thenN ?_ | (apply r_move; (iterate 3 exact rfl)) | (apply r_lss; (iterate 4 exact rfl); all_goals intro hc; all_goals try (exfalso; omega)) | refine JX.thenE ?_ | refine JC.exit ?_ | refine JC.condF rfl ?_ | refine JX.blockE ?_))
    refine r_lenR rfl rfl rfl hR ?_
    (repeat' (first | (apply r_move; (iterate 3 exact rfl))))
    refine r_call0 trivial rfl rfl rfl (fun w hk _ => c_zeroF p _ _ hf w) fun w v' w' _ _ _ hR' => ?_
    subst hR'
    unfold zeroV
    (repeat' (first | refine JC.seq ?_ | refine JC.ops ?_ | refine JO.nil ?_ | refine JX.thenN ?_ | (apply r_fieldAddr; (iterate 3 exact rfl)) | (apply r_load; (iterate 4 exact rfl); (first | exact at0 | exact at1 | exact at2 | exact at3 | exact at4 | exact at5 | exact at6 | exact at7); exact rfl) | (apply r_loadN; (iterate 4 exact rfl); (first | exact at0 | exact at1 | exact at2 | exact at3 | exact at4 | exact at5 | exact at6 | exact at7); exact rfl) | (apply r_len; (iterate 3 exact rfl)) | (apply r_eql; (iterate 4 exact rfl); all_goals intro hc; all_goals try (exfalso; omega)) | (apply r_allocZ; (iterate 3 exact rfl); intro _) | (apply r_storeN; exact rfl; (first | exact trivial | exact ⟨rfl, rfl⟩); exact rfl; exact rfl; (first | exact at0 | exact at1 | exact at2 | exact at3 | exact at4 | exact at5 | exact at6 | exact at7); (iterate 3 exact rfl)) | refine JX.thenR ?_ | refine JC.ret ?_ | refine JC.condT rfl ?_))
    exact JX.retC 1 rfl rfl rfl (fun a w' st => ⟨st.kp, rfl⟩)


theorem WI.fdlit {w : World} {b n : Nat} {vs : List Value} (xs : List Int) (hb : w.heap[b]? = some (.cells ⟨vs⟩ 3)) (hv : vs = xs.map iv) (hn : xs.length = n) : WI w (.slice (some ⟨b, 0, none⟩) n n) n xs := by
  subst hv
  refine ⟨by simp [hn], _, _, rfl, Nat.le_refl _, fun _ => ⟨⟨b, 0, rfl⟩, fun j u hu => ?_⟩⟩
  simp only [vAt, Nat.zero_add]
  exact cell_of_blk hb (by simpa using hu)
theorem fdIsRows.lit {w : World} {b n : Nat} {ss : List Value} (xss : List (List Int)) (hb : w.heap[b]? = some (.cells ⟨ss⟩ 23)) (hl : ss.length = n) (hx : xss.length = n) (h : ∀ i, i < n → WI w (ss.getD i (iv 0)) (xss.getD i []).length (xss.getD i [])) : fdIsRows w (.slice (some ⟨b, 0, none⟩) n n) xss := by
  subst hx
  refine ⟨ss, ⟨by omega, _, _, rfl, Nat.le_refl _, fun _ => ⟨⟨b, 0, rfl⟩, fun j u hu => ?_⟩⟩, h⟩
  simp only [vAt, Nat.zero_add]
  exact cell_of_blk hb (by simpa using hu)
theorem fdIsRows.lit1 {w : World} {b : Nat} {s : Value} (xs : List Int) (hb : w.heap[b]? = some (.cells ⟨[s]⟩ 23)) (h : WI w s xs.length xs) : fdIsRows w (.slice (some ⟨b, 0, none⟩) 1 1) [xs] :=
  fdIsRows.lit [xs] hb rfl rfl fun i hi => by
    obtain rfl : i = 0 := by omega
    exact h
theorem fdIsRows.lit2 {w : World} {b : Nat} {s s' : Value} (xs xs' : List Int) (hb : w.heap[b]? = some (.cells ⟨[s, s']⟩ 23)) (h : WI w s xs.length xs) (h' : WI w s' xs'.length xs') : fdIsRows w (.slice (some ⟨b, 0, none⟩) 2 2) [xs, xs'] :=
  fdIsRows.lit [xs, xs'] hb rfl rfl fun i hi => by
    rcases (show i = 0 ∨ i = 1 by omega) with rfl | rfl
    · exact h
    · exact h'
theorem fdIsRows.lit3 {w : World} {b : Nat} {s s' s'' : Value} (xs xs' xs'' : List Int) (hb : w.heap[b]? = some (.cells ⟨[s, s', s'']⟩ 23)) (h : WI w s xs.length xs) (h' : WI w s' xs'.length xs') (h'' : WI w s'' xs''.length xs'') : fdIsRows w (.slice (some ⟨b, 0, none⟩) 3 3) [xs, xs', xs''] :=
  fdIsRows.lit [xs, xs', xs''] hb rfl rfl fun i hi => by
    rcases (show i = 0 ∨ i = 1 ∨ i = 2 by omega) with rfl | rfl | rfl
    · exact h
    · exact h'
    · exact h''

def fdsA : NM := ⟨5, 2, 3, [1, 2, 3, 2, 4, 1]⟩
theorem sA_of : ofM 5 [[1, 2, 3], [2, 4, 1]] = fdsA := by decide
theorem fdsA_rt : Rt fdsA := by decide
theorem sA_ech : echM fdsA = ⟨5, 2, 3, [1, 2, 3, 0, 0, 0]⟩ := by decide
theorem sA_piv : pivM fdsA = [0] := by decide
theorem sA_ker : kerM fdsA = ⟨5, 3, 2, [3, 2, 1, 0, 0, 1]⟩ := by decide
theorem sA_sol : solM fdsA ⟨5, 2, 1, [4, 3]⟩ = some ⟨5, 3, 1, [4, 0, 0]⟩ := by decide
theorem sA_sol' : solM fdsA ⟨5, 2, 1, [4, 4]⟩ = none := by decide
theorem sI_inv : invM ⟨5, 2, 2, [1, 2, 3, 4]⟩ = some ⟨5, 2, 2, [3, 1, 4, 2]⟩ := by decide

set_option maxHeartbeats 2000000 in
theorem fdc_EqualT (w : World) (v u : Value) (m : NM) (hm : Rt m) (hv : fdIsM w v m) (hu : fdIsM w u m) : Calls Tryd.prog 22 #[v, u] w (Ret fun v w' => Kp [] w w' ∧ v = .bool true) :=
  (fdc_Equal w v u m.fm m.fm hv.f hu.f hm.flen hm.flen).mono fun e w' h => by
    cases e with
    | returned v =>
      obtain ⟨hk, b, rfl, hb⟩ := h
      exact ⟨hk, by rw [hb.2 ⟨hm.rf, rfl⟩]⟩
    | panicked _ => exact h
    | outgrown => exact h
theorem c_IntsT (w : World) (v u : Value) (n : Nat) (xs : List Int) (hv : WI w v n xs) (hu : WI w u n xs) (hn : n < 1000000000) : Calls Tryd.prog 27 #[v, u] w (Ret fun v w' => Kp [] w w' ∧ v = .bool true) :=
  (c_Ints w v u n n xs xs hv hu hn hn).mono fun e w' h => by
    cases e with
    | returned v =>
      obtain ⟨hk, b, rfl, hb⟩ := h
      exact ⟨hk, by rw [hb.2 rfl]⟩
    | panicked _ => exact h
    | outgrown => exact h

set_option maxHeartbeats 8000000 in
theorem fdc_sanity (w : World) : Calls Tryd.prog 5 #[] w (Ret fun v w' => Kp [] w w' ∧ v = .bool true) := by
  have h5 : Pr 5 := by decide
  refine calls_of_S [⟨4, 2, [], []⟩, ⟨5, 2, [], []⟩, ⟨7, 1, [], []⟩, ⟨8, 1, [], []⟩] [] (by simp) [] Tryd.func5 rfl mixed (by kernel_rfl) Tryd.ntmps5 Tryd.results5 rfl ⟨by simp, by simp⟩ (by simp) ?_
  simp only [toS, textOps, toSOp, kindAt, kindOf, odAt, sopsAt, ordOf, zipF]
  (repeat' (first | refine JC.seq ?_ | refine JC.ops ?_ | refine JO.nil ?_ | (apply r_assign; (iterate 3 exact rfl))))
  refine JX.thenN ?_
  (repeat' (first | refine JC.seq ?_ | refine JC.ops ?_ | (apply r_build1; (iterate 5 exact rfl); (repeat first | exact trivial | refine ⟨rfl, ?_⟩); decide; decide; intro _)))
  refine r_callA (A := [_, _, _]) (B := []) rfl trivial rfl rfl rfl (fun w hk hs => fdc_Of w _ 5 [[1, 2, 3], [2, 4, 1]] (fdIsRows.lit2 _ _ (fdhs_at hs 0 rfl) (WI.fdlit [1, 2, 3] (fdhs_at hs 2 rfl) rfl rfl) (WI.fdlit [2, 4, 1] (fdhs_at hs 1 rfl) rfl rfl)) h5 (by decide) (by decide)) fun w v w' _ _ _ hR => ?_
  rw [sA_of] at hR
  obtain ⟨N1, hN1, E1, rfl, hO1⟩ := hR
  obtain ⟨A1, c1, rfl⟩ := hO1.form
  refine ⟨N1, hN1, ?_⟩
  (repeat' (first | refine JO.nil ?_ | (apply r_allocZ; (iterate 3 exact rfl); intro _) | (apply r_storeN; exact rfl; (first | exact trivial | exact ⟨rfl, rfl⟩); exact rfl; exact rfl; (first | exact at0 | exact at1 | exact at2 | exact at3 | exact at4 | exact at5 | exact at6 | exact at7); (iterate 3 exact rfl))))
  rename_i b1
  refine JX.part (F' := [(1, .pointer (some ⟨b1, 0, none⟩))]) (H' := [(b1, .cells #[nv fdsA.p, nv fdsA.r, nv fdsA.c, .slice A1 fdsA.e.length c1] 30)] ++ (N1 ++ [])) (by repeat first | exact trivial | refine ⟨rfl, ?_⟩) (by (repeat' first | exact HSub.refl _ | exact HSub.nil _ | refine HSub.at 0 rfl ?_ | refine HSub.at 1 rfl ?_ | refine HSub.at 2 rfl ?_ | refine HSub.at 3 rfl ?_ | refine HSub.at 4 rfl ?_ | refine HSub.at 5 rfl ?_ | refine HSub.at 6 rfl ?_ | refine HSub.at 7 rfl ?_ | refine HSub.at 8 rfl ?_ | refine HSub.at 9 rfl ?_ | refine HSub.at 10 rfl ?_ | refine HSub.at 11 rfl ?_ | refine HSub.at 12 rfl ?_ | refine HSub.at 13 rfl ?_ | refine HSub.at 14 rfl ?_ | refine HSub.at 15 rfl ?_ | refine HSub.at 16 rfl ?_ | refine HSub.at 17 rfl ?_ | refine HSub.at 18 rfl ?_ | refine HSub.at 19 rfl ?_ | refine HSub.segH ?_ | refine HSub.skip ?_ | refine HSub.skipN ?_)) ?_
  refine JX.thenN ?_
  (repeat' (first | refine JC.seq ?_ | refine JC.ops ?_ | (apply r_loadN; (iterate 4 exact rfl); (first | exact at0 | exact at1 | exact at2 | exact at3 | exact at4 | exact at5 | exact at6 | exact at7); exact rfl)))
  refine r_callA (A := [_]) rfl trivial rfl rfl rfl (fun w hk hs => c_Echelon w _ fdsA fdsA_rt ⟨_, rfl, hO1.rd.at hk hs (by (repeat' first | exact HSub.nil _ | exact HSub.hd | exact HSub.in0 | exact HSub.refl _ | refine HSub.skip ?_ | refine HSub.skipN ?_))⟩) fun w v w' _ _ _ hR => ?_
  rw [sA_ech, sA_piv] at hR
  obtain ⟨N2, N3, u, x3, rfl, hN2, ⟨E2, rfl, hO2⟩, hO3⟩ := hR
  obtain ⟨A2, c2, rfl⟩ := hO2.form
  refine ⟨_, hN2, ?_⟩
  rw [List.append_assoc]
  (repeat' (first | refine JO.nil ?_ | (apply r_move; (iterate 3 exact rfl)) | (apply r_assign; (iterate 3 exact rfl)) | (apply r_extract; (iterate 4 exact rfl)) | (apply r_allocZ; (iterate 3 exact rfl); intro _) | (apply r_storeN; exact rfl; (first | exact trivial | exact ⟨rfl, rfl⟩); exact rfl; exact rfl; (first | exact at0 | exact at1 | exact at2 | exact at3 | exact at4 | exact at5 | exact at6 | exact at7); (iterate 3 exact rfl))))
  rename_i b2
  refine JX.part (F' := [(3, x3), (2, .pointer (some ⟨b2, 0, none⟩)), (1, .pointer (some ⟨b1, 0, none⟩))]) (H' := [(b2, .cells #[nv 5, nv 2, nv 3, .slice A2 6 c2] 30), (b1, .cells #[nv fdsA.p, nv fdsA.r, nv fdsA.c, .slice A1 fdsA.e.length c1] 30)] ++ (N2 ++ (N3 ++ (N1 ++ [])))) (by repeat first | exact trivial | refine ⟨rfl, ?_⟩) (by (repeat' first | exact HSub.refl _ | exact HSub.nil _ | refine HSub.at 0 rfl ?_ | refine HSub.at 1 rfl ?_ | refine HSub.at 2 rfl ?_ | refine HSub.at 3 rfl ?_ | refine HSub.at 4 rfl ?_ | refine HSub.at 5 rfl ?_ | refine HSub.at 6 rfl ?_ | refine HSub.at 7 rfl ?_ | refine HSub.at 8 rfl ?_ | refine HSub.at 9 rfl ?_ | refine HSub.at 10 rfl ?_ | refine HSub.at 11 rfl ?_ | refine HSub.at 12 rfl ?_ | refine HSub.at 13 rfl ?_ | refine HSub.at 14 rfl ?_ | refine HSub.at 15 rfl ?_ | refine HSub.at 16 rfl ?_ | refine HSub.at 17 rfl ?_ | refine HSub.at 18 rfl ?_ | refine HSub.at 19 rfl ?_ | refine HSub.segH ?_ | refine HSub.skip ?_ | refine HSub.skipN ?_)) ?_
  refine JX.thenN ?_
  (repeat' (first | refine JC.seq ?_ | refine JC.ops ?_ | (apply r_loadN; (iterate 4 exact rfl); (first | exact at0 | exact at1 | exact at2 | exact at3 | exact at4 | exact at5 | exact at6 | exact at7); exact rfl)))
  refine r_callA (A := [_, _]) rfl trivial rfl rfl rfl (fun w hk hs => c_Kernel w _ fdsA fdsA_rt ⟨_, rfl, hO1.rd.at hk hs (by (repeat' first | exact HSub.nil _ | exact HSub.hd | exact HSub.in0 | exact HSub.refl _ | refine HSub.skip ?_ | refine HSub.skipN ?_))⟩) fun w v w' _ _ _ hR => ?_
  rw [sA_ker] at hR
  obtain ⟨N4, hN4, E4, rfl, hO4⟩ := hR
  obtain ⟨A4, c4, rfl⟩ := hO4.form
  refine ⟨N4, hN4, ?_⟩
  (repeat' (first | refine JO.nil ?_ | (apply r_allocZ; (iterate 3 exact rfl); intro _) | (apply r_storeN; exact rfl; (first | exact trivial | exact ⟨rfl, rfl⟩); exact rfl; exact rfl; (first | exact at0 | exact at1 | exact at2 | exact at3 | exact at4 | exact at5 | exact at6 | exact at7); (iterate 3 exact rfl))))
  rename_i b4
  refine JX.part (F' := [(4, .pointer (some ⟨b4, 0, none⟩)), (3, x3), (2, .pointer (some ⟨b2, 0, none⟩)), (1, .pointer (some ⟨b1, 0, none⟩))]) (H' := [(b4, .cells #[nv 5, nv 3, nv 2, .slice A4 6 c4] 30), (b2, .cells #[nv 5, nv 2, nv 3, .slice A2 6 c2] 30), (b1, .cells #[nv fdsA.p, nv fdsA.r, nv fdsA.c, .slice A1 fdsA.e.length c1] 30)] ++ (N4 ++ (N2 ++ (N3 ++ (N1 ++ []))))) (by repeat first | exact trivial | refine ⟨rfl, ?_⟩) (by (repeat' first | exact HSub.refl _ | exact HSub.nil _ | refine HSub.at 0 rfl ?_ | refine HSub.at 1 rfl ?_ | refine HSub.at 2 rfl ?_ | refine HSub.at 3 rfl ?_ | refine HSub.at 4 rfl ?_ | refine HSub.at 5 rfl ?_ | refine HSub.at 6 rfl ?_ | refine HSub.at 7 rfl ?_ | refine HSub.at 8 rfl ?_ | refine HSub.at 9 rfl ?_ | refine HSub.at 10 rfl ?_ | refine HSub.at 11 rfl ?_ | refine HSub.at 12 rfl ?_ | refine HSub.at 13 rfl ?_ | refine HSub.at 14 rfl ?_ | refine HSub.at 15 rfl ?_ | refine HSub.at 16 rfl ?_ | refine HSub.at 17 rfl ?_ | refine HSub.at 18 rfl ?_ | refine HSub.at 19 rfl ?_ | refine HSub.segH ?_ | refine HSub.skip ?_ | refine HSub.skipN ?_)) ?_
  refine JX.thenN ?_
  (repeat' (first | refine JC.seq ?_ | refine JC.opsD ?_ | (apply r_loadN; (iterate 4 exact rfl); (first | exact at0 | exact at1 | exact at2 | exact at3 | exact at4 | exact at5 | exact at6 | exact at7); exact rfl) | (apply r_build1; (iterate 5 exact rfl); (repeat first | exact trivial | refine ⟨rfl, ?_⟩); decide; decide; intro _)))
  refine r_callA (A := [_, _, _, _, _, _]) rfl trivial rfl rfl rfl (fun w hk hs => fdc_Of w _ 5 [[4], [3]] (fdIsRows.lit2 _ _ (fdhs_at hs 0 rfl) (WI.fdlit [4] (fdhs_at hs 2 rfl) rfl rfl) (WI.fdlit [3] (fdhs_at hs 1 rfl) rfl rfl)) h5 (by decide) (by decide)) fun w v w' _ _ _ hR => ?_
  rw [show ofM 5 [[4], [3]] = ⟨5, 2, 1, [4, 3]⟩ by decide] at hR
  obtain ⟨N5, hN5, E5, rfl, hO5⟩ := hR
  obtain ⟨A5, c5, rfl⟩ := hO5.form
  refine ⟨N5, hN5, ?_⟩
  skip
  refine r_callA (A := [_, _, _, _, _, _]) rfl trivial rfl rfl rfl (fun w hk hs => c_Solve w _ _ fdsA ⟨5, 2, 1, [4, 3]⟩ fdsA_rt (by decide) rfl rfl ⟨_, rfl, hO1.rd.at hk hs (by (repeat' first | exact HSub.nil _ | exact HSub.hd | exact HSub.in0 | exact HSub.refl _ | refine HSub.skip ?_ | refine HSub.skipN ?_))⟩ ⟨_, rfl, hO5.rd.at hk hs (by (repeat' first | exact HSub.nil _ | exact HSub.hd | exact HSub.in0 | exact HSub.refl _ | refine HSub.skip ?_ | refine HSub.skipN ?_))⟩) fun w v w' _ _ _ hR => ?_
  rw [sA_sol] at hR
  obtain ⟨N6, u, rfl, hN6, E6, rfl, hO6⟩ := hR
  obtain ⟨A6, c6, rfl⟩ := hO6.form
  refine ⟨N6, hN6, ?_⟩
  (repeat' (first | refine JO.nil ?_ | (apply r_move; (iterate 3 exact rfl)) | (apply r_assign; (iterate 3 exact rfl)) | (apply r_extract; (iterate 4 exact rfl)) | (apply r_allocZ; (iterate 3 exact rfl); intro _) | (apply r_storeN; exact rfl; (first | exact trivial | exact ⟨rfl, rfl⟩); exact rfl; exact rfl; (first | exact at0 | exact at1 | exact at2 | exact at3 | exact at4 | exact at5 | exact at6 | exact at7); (iterate 3 exact rfl))))
  rename_i b5
  refine JX.part (F' := [(6, .bool true), (5, .pointer (some ⟨b5, 0, none⟩)), (4, .pointer (some ⟨b4, 0, none⟩)), (3, x3), (2, .pointer (some ⟨b2, 0, none⟩)), (1, .pointer (some ⟨b1, 0, none⟩))]) (H' := [(b5, .cells #[nv 5, nv 3, nv 1, .slice A6 3 c6] 30), (b4, .cells #[nv 5, nv 3, nv 2, .slice A4 6 c4] 30), (b2, .cells #[nv 5, nv 2, nv 3, .slice A2 6 c2] 30), (b1, .cells #[nv fdsA.p, nv fdsA.r, nv fdsA.c, .slice A1 fdsA.e.length c1] 30)] ++ (N6 ++ (N4 ++ (N2 ++ (N3 ++ (N1 ++ [])))))) (by repeat first | exact trivial | refine ⟨rfl, ?_⟩) (by (repeat' first | exact HSub.refl _ | exact HSub.nil _ | refine HSub.at 0 rfl ?_ | refine HSub.at 1 rfl ?_ | refine HSub.at 2 rfl ?_ | refine HSub.at 3 rfl ?_ | refine HSub.at 4 rfl ?_ | refine HSub.at 5 rfl ?_ | refine HSub.at 6 rfl ?_ | refine HSub.at 7 rfl ?_ | refine HSub.at 8 rfl ?_ | refine HSub.at 9 rfl ?_ | refine HSub.at 10 rfl ?_ | refine HSub.at 11 rfl ?_ | refine HSub.at 12 rfl ?_ | refine HSub.at 13 rfl ?_ | refine HSub.at 14 rfl ?_ | refine HSub.at 15 rfl ?_ | refine HSub.at 16 rfl ?_ | refine HSub.at 17 rfl ?_ | refine HSub.at 18 rfl ?_ | refine HSub.at 19 rfl ?_ | refine HSub.segH ?_ | refine HSub.skip ?_ | refine HSub.skipN ?_)) ?_
  refine JX.thenN ?_
  (repeat' (first | refine JC.seq ?_ | refine JC.opsD ?_ | (apply r_loadN; (iterate 4 exact rfl); (first | exact at0 | exact at1 | exact at2 | exact at3 | exact at4 | exact at5 | exact at6 | exact at7); exact rfl) | (apply r_build1; (iterate 5 exact rfl); (repeat first | exact trivial | refine ⟨rfl, ?_⟩); decide; decide; intro _)))
  refine r_callA (A := [_, _, _, _, _, _, _]) rfl trivial rfl rfl rfl (fun w hk hs => fdc_Of w _ 5 [[4], [4]] (fdIsRows.lit2 _ _ (fdhs_at hs 0 rfl) (WI.fdlit [4] (fdhs_at hs 2 rfl) rfl rfl) (WI.fdlit [4] (fdhs_at hs 1 rfl) rfl rfl)) h5 (by decide) (by decide)) fun w v w' _ _ _ hR => ?_
  rw [show ofM 5 [[4], [4]] = ⟨5, 2, 1, [4, 4]⟩ by decide] at hR
  obtain ⟨N7, hN7, E7, rfl, hO7⟩ := hR
  obtain ⟨A7, c7, rfl⟩ := hO7.form
  refine ⟨N7, hN7, ?_⟩
  skip
  refine r_call0 trivial rfl rfl rfl (fun w hk hs => c_Solve w _ _ fdsA ⟨5, 2, 1, [4, 4]⟩ fdsA_rt (by decide) rfl rfl ⟨_, rfl, hO1.rd.at hk hs (by (repeat' first | exact HSub.nil _ | exact HSub.hd | exact HSub.in0 | exact HSub.refl _ | refine HSub.skip ?_ | refine HSub.skipN ?_))⟩ ⟨_, rfl, hO7.rd.at hk hs (by (repeat' first | exact HSub.nil _ | exact HSub.hd | exact HSub.in0 | exact HSub.refl _ | refine HSub.skip ?_ | refine HSub.skipN ?_))⟩) fun w v w' _ _ _ hR => ?_
  rw [sA_sol'] at hR
  have hR : v = .tuple #[zeroV, .bool false] := hR
  subst hR
  unfold zeroV
  (repeat' (first | refine JO.nil ?_ | (apply r_move; (iterate 3 exact rfl)) | (apply r_assign; (iterate 3 exact rfl)) | (apply r_extract; (iterate 4 exact rfl)) | (apply r_allocZ; (iterate 3 exact rfl); intro _) | (apply r_storeN; exact rfl; (first | exact trivial | exact ⟨rfl, rfl⟩); exact rfl; exact rfl; (first | exact at0 | exact at1 | exact at2 | exact at3 | exact at4 | exact at5 | exact at6 | exact at7); (iterate 3 exact rfl))))
  refine JX.part (F' := [(8, .bool false), (6, .bool true), (5, .pointer (some ⟨b5, 0, none⟩)), (4, .pointer (some ⟨b4, 0, none⟩)), (3, x3), (2, .pointer (some ⟨b2, 0, none⟩))]) (H' := [(b5, .cells #[nv 5, nv 3, nv 1, .slice A6 3 c6] 30), (b4, .cells #[nv 5, nv 3, nv 2, .slice A4 6 c4] 30), (b2, .cells #[nv 5, nv 2, nv 3, .slice A2 6 c2] 30)] ++ (N6 ++ (N4 ++ (N2 ++ (N3 ++ []))))) (by repeat first | exact trivial | refine ⟨rfl, ?_⟩) (by (repeat' first | exact HSub.refl _ | exact HSub.nil _ | refine HSub.at 0 rfl ?_ | refine HSub.at 1 rfl ?_ | refine HSub.at 2 rfl ?_ | refine HSub.at 3 rfl ?_ | refine HSub.at 4 rfl ?_ | refine HSub.at 5 rfl ?_ | refine HSub.at 6 rfl ?_ | refine HSub.at 7 rfl ?_ | refine HSub.at 8 rfl ?_ | refine HSub.at 9 rfl ?_ | refine HSub.at 10 rfl ?_ | refine HSub.at 11 rfl ?_ | refine HSub.at 12 rfl ?_ | refine HSub.at 13 rfl ?_ | refine HSub.at 14 rfl ?_ | refine HSub.at 15 rfl ?_ | refine HSub.at 16 rfl ?_ | refine HSub.at 17 rfl ?_ | refine HSub.at 18 rfl ?_ | refine HSub.at 19 rfl ?_ | refine HSub.segH ?_ | refine HSub.skip ?_ | refine HSub.skipN ?_)) ?_
  refine JX.thenN ?_
  (repeat' (first | refine JC.seq ?_ | refine JC.ops ?_ | (apply r_build1; (iterate 5 exact rfl); (repeat first | exact trivial | refine ⟨rfl, ?_⟩); decide; decide; intro _)))
  refine r_callA (A := [_, _, _, _, _, _]) rfl trivial rfl rfl rfl (fun w hk hs => fdc_Of w _ 5 [[1, 2], [3, 4]] (fdIsRows.lit2 _ _ (fdhs_at hs 0 rfl) (WI.fdlit [1, 2] (fdhs_at hs 2 rfl) rfl rfl) (WI.fdlit [3, 4] (fdhs_at hs 1 rfl) rfl rfl)) h5 (by decide) (by decide)) fun w v w' _ _ _ hR => ?_
  rw [show ofM 5 [[1, 2], [3, 4]] = ⟨5, 2, 2, [1, 2, 3, 4]⟩ by decide] at hR
  obtain ⟨N8, hN8, E8, rfl, hO8⟩ := hR
  obtain ⟨A8, c8, rfl⟩ := hO8.form
  refine ⟨N8, hN8, ?_⟩
  skip
  refine r_callA (A := [_, _, _, _, _, _]) rfl trivial rfl rfl rfl (fun w hk hs => fdc_Inverse w _ ⟨5, 2, 2, [1, 2, 3, 4]⟩ (by decide) ⟨_, rfl, hO8.rd.at hk hs (by (repeat' first | exact HSub.nil _ | exact HSub.hd | exact HSub.in0 | exact HSub.refl _ | refine HSub.skip ?_ | refine HSub.skipN ?_))⟩) fun w v w' _ _ _ hR => ?_
  rw [sI_inv] at hR
  obtain ⟨N9, u, rfl, hN9, E9, rfl, hO9⟩ := hR
  obtain ⟨A9, c9, rfl⟩ := hO9.form
  refine ⟨N9, hN9, ?_⟩
  (repeat' (first | refine JO.nil ?_ | (apply r_move; (iterate 3 exact rfl)) | (apply r_assign; (iterate 3 exact rfl)) | (apply r_extract; (iterate 4 exact rfl)) | (apply r_allocZ; (iterate 3 exact rfl); intro _) | (apply r_storeN; exact rfl; (first | exact trivial | exact ⟨rfl, rfl⟩); exact rfl; exact rfl; (first | exact at0 | exact at1 | exact at2 | exact at3 | exact at4 | exact at5 | exact at6 | exact at7); (iterate 3 exact rfl))))
  rename_i b9
  refine JX.part (F' := [(10, .bool true), (9, .pointer (some ⟨b9, 0, none⟩)), (8, .bool false), (6, .bool true), (5, .pointer (some ⟨b5, 0, none⟩)), (4, .pointer (some ⟨b4, 0, none⟩)), (3, x3), (2, .pointer (some ⟨b2, 0, none⟩))]) (H' := [(b9, .cells #[nv 5, nv 2, nv 2, .slice A9 4 c9] 30), (b5, .cells #[nv 5, nv 3, nv 1, .slice A6 3 c6] 30), (b4, .cells #[nv 5, nv 3, nv 2, .slice A4 6 c4] 30), (b2, .cells #[nv 5, nv 2, nv 3, .slice A2 6 c2] 30)] ++ (N9 ++ (N6 ++ (N4 ++ (N2 ++ (N3 ++ [])))))) (by repeat first | exact trivial | refine ⟨rfl, ?_⟩) (by (repeat' first | exact HSub.refl _ | exact HSub.nil _ | refine HSub.at 0 rfl ?_ | refine HSub.at 1 rfl ?_ | refine HSub.at 2 rfl ?_ | refine HSub.at 3 rfl ?_ | refine HSub.at 4 rfl ?_ | refine HSub.at 5 rfl ?_ | refine HSub.at 6 rfl ?_ | refine HSub.at 7 rfl ?_ | refine HSub.at 8 rfl ?_ | refine HSub.at 9 rfl ?_ | refine HSub.at 10 rfl ?_ | refine HSub.at 11 rfl ?_ | refine HSub.at 12 rfl ?_ | refine HSub.at 13 rfl ?_ | refine HSub.at 14 rfl ?_ | refine HSub.at 15 rfl ?_ | refine HSub.at 16 rfl ?_ | refine HSub.at 17 rfl ?_ | refine HSub.at 18 rfl ?_ | refine HSub.at 19 rfl ?_ | refine HSub.segH ?_ | refine HSub.skip ?_ | refine HSub.skipN ?_)) ?_
  refine JX.thenN ?_
  (repeat' (first | refine JC.seq ?_ | refine JC.opsD ?_ | (apply r_loadN; (iterate 4 exact rfl); (first | exact at0 | exact at1 | exact at2 | exact at3 | exact at4 | exact at5 | exact at6 | exact at7); exact rfl) | (apply r_build1; (iterate 5 exact rfl); (repeat first | exact trivial | refine ⟨rfl, ?_⟩); decide; decide; intro _)))
  refine r_buildSlice0 rfl rfl rfl (fun b0 => ?_)
  (repeat' (first | (apply r_build1; (iterate 5 exact rfl); (repeat first | exact trivial | refine ⟨rfl, ?_⟩); decide; decide; intro _)))
  refine r_callA (A := [_, _, _, _, _, _, _]) rfl trivial rfl rfl rfl (fun w hk hs => fdc_Of w _ 5 [[1, 2, 3], []] (fdIsRows.lit2 _ _ (fdhs_at hs 0 rfl) (WI.fdlit [1, 2, 3] (fdhs_at hs 2 rfl) rfl rfl) (WI.fdlit [] (fdhs_at hs 1 rfl) rfl rfl)) h5 (by decide) (by decide)) fun w v w' _ _ _ hR => ?_
  rw [show ofM 5 [[1, 2, 3], []] = ⟨5, 2, 3, [1, 2, 3, 0, 0, 0]⟩ by decide] at hR
  obtain ⟨M1, hM1, e1, rfl, hP1⟩ := hR
  obtain ⟨a1, d1, rfl⟩ := hP1.form
  refine ⟨M1, hM1, ?_⟩
  skip
  refine r_call0 trivial rfl rfl rfl (fun w hk hs => fdc_EqualT w _ _ (⟨5, 2, 3, [1, 2, 3, 0, 0, 0]⟩ : NM) (by decide) ⟨_, rfl, hO2.rd.at hk hs (by (repeat' first | exact HSub.nil _ | exact HSub.hd | exact HSub.in0 | exact HSub.refl _ | refine HSub.skip ?_ | refine HSub.skipN ?_))⟩ ⟨_, rfl, hP1.rd.at hk hs (by (repeat' first | exact HSub.nil _ | exact HSub.hd | exact HSub.in0 | exact HSub.refl _ | refine HSub.skip ?_ | refine HSub.skipN ?_))⟩) fun w v w' _ _ _ hR => ?_
  subst hR
  (repeat' (first | (apply r_move; (iterate 3 exact rfl)) | (apply r_build1; (iterate 5 exact rfl); (repeat first | exact trivial | refine ⟨rfl, ?_⟩); decide; decide; intro _)))
  refine r_call0 trivial rfl rfl rfl (fun w hk hs => c_IntsT w _ _ 1 [0] (hO3.rd.at hk hs (by (repeat' first | exact HSub.nil _ | exact HSub.hd | exact HSub.in0 | exact HSub.refl _ | refine HSub.skip ?_ | refine HSub.skipN ?_))).int (WI.fdlit [0] (fdhs_at hs 0 rfl) rfl rfl) (by decide)) fun w v w' _ _ _ hR => ?_
  subst hR
  (repeat' (first | (apply r_move; (iterate 3 exact rfl)) | (apply r_loadN; (iterate 4 exact rfl); (first | exact at0 | exact at1 | exact at2 | exact at3 | exact at4 | exact at5 | exact at6 | exact at7); exact rfl) | (apply r_pickT; (iterate 4 exact rfl)) | (apply r_build1; (iterate 5 exact rfl); (repeat first | exact trivial | refine ⟨rfl, ?_⟩); decide; decide; intro _)))
  refine r_callA (A := [_, _, _, _, _, _, _, _, _, _, _, _]) rfl trivial rfl rfl rfl (fun w hk hs => fdc_Of w _ 5 [[3, 2], [1, 0], [0, 1]] (fdIsRows.lit3 _ _ _ (fdhs_at hs 0 rfl) (WI.fdlit [3, 2] (fdhs_at hs 3 rfl) rfl rfl) (WI.fdlit [1, 0] (fdhs_at hs 2 rfl) rfl rfl) (WI.fdlit [0, 1] (fdhs_at hs 1 rfl) rfl rfl)) h5 (by decide) (by decide)) fun w v w' _ _ _ hR => ?_
  rw [show ofM 5 [[3, 2], [1, 0], [0, 1]] = ⟨5, 3, 2, [3, 2, 1, 0, 0, 1]⟩ by decide] at hR
  obtain ⟨M2, hM2, e2, rfl, hP2⟩ := hR
  obtain ⟨a2, d2, rfl⟩ := hP2.form
  refine ⟨M2, hM2, ?_⟩
  skip
  refine r_call0 trivial rfl rfl rfl (fun w hk hs => fdc_EqualT w _ _ (⟨5, 3, 2, [3, 2, 1, 0, 0, 1]⟩ : NM) (by decide) ⟨_, rfl, hO4.rd.at hk hs (by (repeat' first | exact HSub.nil _ | exact HSub.hd | exact HSub.in0 | exact HSub.refl _ | refine HSub.skip ?_ | refine HSub.skipN ?_))⟩ ⟨_, rfl, hP2.rd.at hk hs (by (repeat' first | exact HSub.nil _ | exact HSub.hd | exact HSub.in0 | exact HSub.refl _ | refine HSub.skip ?_ | refine HSub.skipN ?_))⟩) fun w v w' _ _ _ hR => ?_
  subst hR
  (repeat' (first | refine JO.nil ?_ | (apply r_assign; (iterate 3 exact rfl)) | (apply r_pickT; (iterate 4 exact rfl))))
  refine JX.part (F' := [(11, .bool true), (10, .bool true), (9, .pointer (some ⟨b9, 0, none⟩)), (8, .bool false), (6, .bool true), (5, .pointer (some ⟨b5, 0, none⟩))]) (H' := [(b9, .cells #[nv 5, nv 2, nv 2, .slice A9 4 c9] 30), (b5, .cells #[nv 5, nv 3, nv 1, .slice A6 3 c6] 30)] ++ (N9 ++ (N6 ++ []))) (by repeat first | exact trivial | refine ⟨rfl, ?_⟩) (by (repeat' first | exact HSub.refl _ | exact HSub.nil _ | refine HSub.at 0 rfl ?_ | refine HSub.at 1 rfl ?_ | refine HSub.at 2 rfl ?_ | refine HSub.at 3 rfl ?_ | refine HSub.at 4 rfl ?_ | refine HSub.at 5 rfl ?_ | refine HSub.at 6 rfl ?_ | refine HSub.at 7 rfl ?_ | refine HSub.at 8 rfl ?_ | refine HSub.at 9 rfl ?_ | refine HSub.at 10 rfl ?_ | refine HSub.at 11 rfl ?_ | refine HSub.at 12 rfl ?_ | refine HSub.at 13 rfl ?_ | refine HSub.at 14 rfl ?_ | refine HSub.at 15 rfl ?_ | refine HSub.at 16 rfl ?_ | refine HSub.at 17 rfl ?_ | refine HSub.at 18 rfl ?_ | refine HSub.at 19 rfl ?_ | refine HSub.segH ?_ | refine HSub.skip ?_ | refine HSub.skipN ?_)) ?_
  refine JX.thenN ?_
  (repeat' (first | refine JC.seq ?_ | refine JC.opsD ?_ | (apply r_move; (iterate 3 exact rfl)) | (apply r_loadN; (iterate 4 exact rfl); (first | exact at0 | exact at1 | exact at2 | exact at3 | exact at4 | exact at5 | exact at6 | exact at7); exact rfl) | (apply r_pickT; (iterate 4 exact rfl)) | (apply r_not; (iterate 3 exact rfl)) | (apply r_build1; (iterate 5 exact rfl); (repeat first | exact trivial | refine ⟨rfl, ?_⟩); decide; decide; intro _)))
  refine r_callA (A := [_, _, _, _, _, _]) rfl trivial rfl rfl rfl (fun w hk hs => fdc_Of w _ 5 [[4], [0], [0]] (fdIsRows.lit3 _ _ _ (fdhs_at hs 0 rfl) (WI.fdlit [4] (fdhs_at hs 3 rfl) rfl rfl) (WI.fdlit [0] (fdhs_at hs 2 rfl) rfl rfl) (WI.fdlit [0] (fdhs_at hs 1 rfl) rfl rfl)) h5 (by decide) (by decide)) fun w v w' _ _ _ hR => ?_
  rw [show ofM 5 [[4], [0], [0]] = ⟨5, 3, 1, [4, 0, 0]⟩ by decide] at hR
  obtain ⟨M3, hM3, e3, rfl, hP3⟩ := hR
  obtain ⟨a3, d3, rfl⟩ := hP3.form
  refine ⟨M3, hM3, ?_⟩
  skip
  refine r_call0 trivial rfl rfl rfl (fun w hk hs => fdc_EqualT w _ _ (⟨5, 3, 1, [4, 0, 0]⟩ : NM) (by decide) ⟨_, rfl, hO6.rd.at hk hs (by (repeat' first | exact HSub.nil _ | exact HSub.hd | exact HSub.in0 | exact HSub.refl _ | refine HSub.skip ?_ | refine HSub.skipN ?_))⟩ ⟨_, rfl, hP3.rd.at hk hs (by (repeat' first | exact HSub.nil _ | exact HSub.hd | exact HSub.in0 | exact HSub.refl _ | refine HSub.skip ?_ | refine HSub.skipN ?_))⟩) fun w v w' _ _ _ hR => ?_
  subst hR
  (repeat' (first | (apply r_move; (iterate 3 exact rfl)) | (apply r_loadN; (iterate 4 exact rfl); (first | exact at0 | exact at1 | exact at2 | exact at3 | exact at4 | exact at5 | exact at6 | exact at7); exact rfl) | (apply r_pickT; (iterate 4 exact rfl)) | (apply r_build1; (iterate 5 exact rfl); (repeat first | exact trivial | refine ⟨rfl, ?_⟩); decide; decide; intro _)))
  refine r_callA (A := [_, _, _, _, _, _, _, _, _]) rfl trivial rfl rfl rfl (fun w hk hs => fdc_Of w _ 5 [[3, 1], [4, 2]] (fdIsRows.lit2 _ _ (fdhs_at hs 0 rfl) (WI.fdlit [3, 1] (fdhs_at hs 2 rfl) rfl rfl) (WI.fdlit [4, 2] (fdhs_at hs 1 rfl) rfl rfl)) h5 (by decide) (by decide)) fun w v w' _ _ _ hR => ?_
  rw [show ofM 5 [[3, 1], [4, 2]] = ⟨5, 2, 2, [3, 1, 4, 2]⟩ by decide] at hR
  obtain ⟨M4, hM4, e4, rfl, hP4⟩ := hR
  obtain ⟨a4, d4, rfl⟩ := hP4.form
  refine ⟨M4, hM4, ?_⟩
  skip
  refine r_call0 trivial rfl rfl rfl (fun w hk hs => fdc_EqualT w _ _ (⟨5, 2, 2, [3, 1, 4, 2]⟩ : NM) (by decide) ⟨_, rfl, hO9.rd.at hk hs (by (repeat' first | exact HSub.nil _ | exact HSub.hd | exact HSub.in0 | exact HSub.refl _ | refine HSub.skip ?_ | refine HSub.skipN ?_))⟩ ⟨_, rfl, hP4.rd.at hk hs (by (repeat' first | exact HSub.nil _ | exact HSub.hd | exact HSub.in0 | exact HSub.refl _ | refine HSub.skip ?_ | refine HSub.skipN ?_))⟩) fun w v w' _ _ _ hR => ?_
  subst hR
  (repeat' (first | (apply r_move; (iterate 3 exact rfl)) | (apply r_pickT; (iterate 4 exact rfl)) | (apply r_build1; (iterate 5 exact rfl); (repeat first | exact trivial | refine ⟨rfl, ?_⟩); decide; decide; intro _)))
  refine r_call0 trivial rfl rfl rfl (fun w hk hs => c_OfF w _ 4 [[1]] (fdIsRows.lit1 _ (fdhs_at hs 0 rfl) (WI.fdlit [1] (fdhs_at hs 1 rfl) rfl rfl)) (by
    rintro ⟨p', _, _, h, _, _, hp, _⟩
    have : p' = 4 := by omega
    subst this
    exact absurd hp (by decide)) (by decide) (fun i => by
      rcases i with _ | i
      · decide
      · simp)) fun w v w' _ _ _ hR => ?_
  subst hR
  unfold zeroV
  skip
  refine r_field Tryd.underlying30 rfl (show T1 Tryd.prog 3 from inferInstance) rfl rfl rfl rfl ?_
  (repeat' (first | refine JO.nil ?_ | refine JX.thenN ?_ | (apply r_assign; (iterate 3 exact rfl)) | (apply r_pickT; (iterate 4 exact rfl)) | (apply r_eql; (iterate 4 exact rfl); all_goals intro hc; all_goals try (exfalso; omega)) | refine JC.ret ?_))
  exact JX.ret1 rfl (fun a w' st => ⟨st.kp, rfl⟩)


theorem Ret.mono {P : Program} {f : FuncId} {args : Array Value} {w : World} {R R' : Value → World → Prop} (h : Calls P f args w (Ret R)) (hR : ∀ v w', R v w' → R' v w') : Calls P f args w (Ret R') :=
  h.mono fun e w' he => by
    cases e with
    | returned v => exact hR v w' he
    | panicked _ => exact he
    | outgrown => exact he

def oF : Option NM → FM
  | some m => m.fm
  | none => zeroF
def lift2 (f : NM → NM → Option NM) (a b : FM) : Option NM := match toN a, toN b with
  | some m, some n => f m n
  | _, _ => none
theorem lift2_fm {f : NM → NM → Option NM} {m n : NM} (hm : Rt m) (hn : Rt n) : lift2 f m.fm n.fm = f m n := by unfold lift2; rw [toN_fm hm, toN_fm hn]
theorem lift2_n1 {f : NM → NM → Option NM} {a b : FM} (h : ¬ RF a) : lift2 f a b = none := by unfold lift2; rw [toN_nrf h]
theorem lift2_n2 {f : NM → NM → Option NM} {a b : FM} (h : ¬ RF b) : lift2 f a b = none := by
  unfold lift2; rw [toN_nrf h]
  cases toN a <;> rfl

def GivesOF (o : Option NM) (w : World) (v : Value) (w' : World) : Prop := ∃ N u, v = .tuple #[u, .bool o.isSome] ∧ New N w w' ∧ OwnF N u (oF o)
theorem GivesOF.some {m : NM} {w w' : World} {v : Value} (h : fdGivesMB m w v w') : GivesOF (some m) w v w' := by
  obtain ⟨N, u, rfl, hN, hO⟩ := h
  exact ⟨N, u, rfl, hN, hO.int⟩
theorem GivesOF.none {w w' : World} {v : Value} (h : v = .tuple #[zeroV, .bool false]) : GivesOF none w v w' := ⟨[], zeroV, h, New.nil _ _, OwnF.zero⟩
theorem fdGivesO.of {o : Option NM} {w w' : World} {v : Value} (h : fdGivesO o w v w') : GivesOF o w v w' := by
  cases o with
  | some m => exact GivesOF.some h
  | none => exact GivesOF.none h
theorem fdGivesM.of {m : NM} {w w' : World} {v : Value} (h : fdGivesM m w v w') : GivesF m.fm w v w' := by
  obtain ⟨N, hN, hO⟩ := h
  exact ⟨N, hN, hO.int⟩
theorem GivesF.zero {w w' : World} {v : Value} (h : v = zeroV) : GivesF zeroF w v w' := ⟨[], New.nil _ _, by rw [h]; exact OwnF.zero⟩

def addO (m n : NM) : Option NM := if m.p = n.p ∧ m.r = n.r ∧ m.c = n.c then some (addM m n) else none
def mulO (m n : NM) : Option NM := if m.p = n.p ∧ m.c = n.r then some (mulM m n) else none
theorem oneF_fm {m n : NM} : OneF m.fm n.fm → m.p = n.p := fun h => by
  have : (m.p : Int) = n.p := h.2.2
  omega
theorem fmR {m n : NM} (h : m.fm.R = n.fm.R) : m.r = n.r := by
  have : (m.r : Int) = n.r := h
  omega
theorem fmC {m n : NM} (h : m.fm.C = n.fm.C) : m.c = n.c := by
  have : (m.c : Int) = n.c := h
  omega
theorem fmCR {m n : NM} (h : m.fm.C = n.fm.R) : m.c = n.r := by
  have : (m.c : Int) = n.r := h
  omega
section
variable (w : World) (v u : Value) (a b : FM) (ha : IsF w v a) (hb : IsF w u b) (hl : a.E.length < 1000000000) (hl' : b.E.length < 1000000000)
include ha hb hl hl'

theorem c_AddG : Calls Tryd.prog 20 #[v, u] w (Ret fun v w' => Kp [] w w' ∧ GivesOF (lift2 addO a b) w v w') := by
  by_cases h : RF a ∧ RF b
  · obtain ⟨⟨m, hm, rfl⟩, ⟨n, hn, rfl⟩⟩ := h
    rw [lift2_fm hm hn]
    unfold addO
    split
    · rename_i h
      exact Ret.mono (fdc_Add w v u m n hm hn h.1 h.2.1 h.2.2 ha.nat hb.nat) fun v w' h => ⟨h.1, GivesOF.some h.2⟩
    · rename_i h
      exact Ret.mono (c_AddF w v u _ _ (fun q => h ⟨oneF_fm q.1, fmR q.2.1, fmC q.2.2⟩) ha hb hl hl') fun v w' h => ⟨h.1, GivesOF.none h.2⟩
  · have e : lift2 addO a b = none := by
      by_cases h1 : RF a
      · exact lift2_n2 fun h2 => h ⟨h1, h2⟩
      · exact lift2_n1 h1
    rw [e]
    exact Ret.mono (c_AddF w v u _ _ (fun q => h ⟨q.1.1, q.1.2.1⟩) ha hb hl hl') fun v w' h => ⟨h.1, GivesOF.none h.2⟩

theorem c_MulG : Calls Tryd.prog 19 #[v, u] w (Ret fun v w' => Kp [] w w' ∧ GivesOF (lift2 mulO a b) w v w') := by
  by_cases h : RF a ∧ RF b
  · obtain ⟨⟨m, hm, rfl⟩, ⟨n, hn, rfl⟩⟩ := h
    rw [lift2_fm hm hn]
    unfold mulO
    split
    · rename_i h
      exact Ret.mono (fdc_Mul w v u m n hm hn h.1 h.2 ha.nat hb.nat) fun v w' h => ⟨h.1, GivesOF.some h.2⟩
    · rename_i h
      exact Ret.mono (c_MulF w v u _ _ (fun q => h ⟨oneF_fm q.1, fmCR q.2⟩) ha hb hl hl') fun v w' h => ⟨h.1, GivesOF.none h.2⟩
  · have e : lift2 mulO a b = none := by
      by_cases h1 : RF a
      · exact lift2_n2 fun h2 => h ⟨h1, h2⟩
      · exact lift2_n1 h1
    rw [e]
    exact Ret.mono (c_MulF w v u _ _ (fun q => h ⟨q.1.1, q.1.2.1⟩) ha hb hl hl') fun v w' h => ⟨h.1, GivesOF.none h.2⟩

theorem c_SameT (h : a = b) : Calls Tryd.prog 8 #[v, u] w (Ret fun v w' => Kp [] w w' ∧ v = .bool true) :=
  Ret.mono (c_Same w v u a b ha hb hl hl') fun v w' q => by
    obtain ⟨hk, x, rfl, hx⟩ := q
    exact ⟨hk, by rw [hx.2 h]⟩
end

section
variable (w : World) (v : Value) (a : FM) (ha : IsF w v a) (hl : a.E.length < 1000000000)
include ha hl

end

section
variable {c : Cx} {Q : Exit → Act → World → Prop} {m : Mode} {F : SFrame} {H : SHeap} {r : List SOp} {g : Option (Option Tmp × Bool)} {ns : Bool} {d : Tmp} {ty t t' : TypeId} {x y : Operand}
end


abbrev yv (n : Nat) : Value := .int .u8 (n : Int)

def WU (w : World) (v : Value) (n : Nat) (xs : List Nat) : Prop := RdW w 1 v n (xs.map uv)
def RdU (c : Cx) (N : SHeap) (v : Value) (n : Nat) (xs : List Nat) : Prop := Rd c N 1 v n (xs.map uv)
def OwnU (N : SHeap) (v : Value) (n : Nat) (xs : List Nat) : Prop := OwnRow 71 1 N v n (xs.map uv)
theorem WU.len {w : World} {v : Value} {n : Nat} {xs : List Nat} (h : WU w v n xs) : xs.length = n := by simpa using h.1
theorem RdU.len {c : Cx} {N : SHeap} {v : Value} {n : Nat} {xs : List Nat} (h : RdU c N v n xs) : xs.length = n := by simpa using h.1
theorem OwnU.len {N : SHeap} {v : Value} {n : Nat} {xs : List Nat} (h : OwnU N v n xs) : xs.length = n := by simpa using h.1
theorem WU.mono {w w' : World} {v : Value} {n : Nat} {xs : List Nat} (h : WU w v n xs) (hk : Kp [] w w') : WU w' v n xs := RdW.mono h hk
theorem WU.rd {c : Cx} {v : Value} {n : Nat} {xs : List Nat} (h : WU c.w0 v n xs) (hM : c.M = []) (N : SHeap) : RdU c N v n xs := RdW.rd h hM N
theorem RdU.at {c : Cx} {N H : SHeap} {w : World} {v : Value} {n : Nat} {xs : List Nat} (h : RdU c N v n xs) (hk : Kp c.M c.w0 w) (hs : Hsat H w) (hN : HSub N H) : WU w v n xs := Rd.at h hk hs hN
theorem OwnU.rd {c : Cx} {N : SHeap} {v : Value} {n : Nat} {xs : List Nat} (h : OwnU N v n xs) : RdU c N v n xs := OwnRow.rd h
theorem OwnU.new {N : SHeap} {v : Value} {n : Nat} {xs : List Nat} {w w' : World} (h : OwnU N v n xs) (hn : New N w w') : WU w' v n xs := New.rd (c := ⟨Tryd.prog, 0, w, [], by simp⟩) h hn
theorem OwnU.form {N : SHeap} {v : Value} {n : Nat} {xs : List Nat} (h : OwnU N v n xs) : ∃ A cap, v = .slice A n cap := by
  obtain ⟨_, ⟨rfl, rfl, rfl⟩ | ⟨b, cap, cur, rfl, _⟩⟩ := h
  · exact ⟨_, _, rfl⟩
  · exact ⟨_, _, rfl⟩
theorem WU.form {w : World} {v : Value} {n : Nat} {xs : List Nat} (h : WU w v n xs) : ∃ A cap, v = .slice A n cap := by
  obtain ⟨_, A, cap, rfl, _⟩ := h
  exact ⟨_, _, rfl⟩
theorem OwnU.nil : OwnU [] (.slice none 0 0) 0 [] := OwnRow.nil _ 1
section
variable {c : Cx} {Q : Exit → Act → World → Prop} {m : Mode} {F : SFrame} {H : SHeap} {r : List SOp} {g : Option (Option Tmp × Bool)} {ns : Bool} {d : Tmp} {ty t t' : TypeId} {x y : Operand} {N : SHeap} {n : Nat} {v : Value}
theorem r_lenU {e : TypeId} {xs : List Nat} [TSl c.P t e] (hd : dstOk c.n (some d) = true) (hg : guardF F g = some true) (hx : ev F x = some v) (hv : RdU c N v n xs)
    (h : JO c Q m r ((d, .int .i64 n) :: F) H) : JO c Q m (⟨some d, .call ⟨.builtin .len, #[x], #[t]⟩, ty, g, .mov, ns⟩ :: r) F H := r_lenR hd hg hx hv h
theorem r_idxU {e : TypeId} {xs : List Nat} {j : Nat} {k : IntKind} [TSl c.P t e] [TSz c.P e 1] (hd : dstOk c.n (some d) = true) (hg : guardF F g = some true) (hx : ev F x = some v) (hy : ev F y = some (.int k j)) (hv : RdU c N v n xs) (hj : j < n)
    (h : JO c Q m r ((d, .pointer (some (vAt v j))) :: F) H) : JO c Q m (⟨some d, .indexAddr t x y, ty, g, .mov, ns⟩ :: r) F H := r_idxR1 hd hg hx hy hv hj h
theorem r_ldU {xs : List Nat} {i : Nat} [T1 c.P t] (hd : dstOk c.n (some d) = true) (hg : guardF F g = some true) (hx : ev F x = some (.pointer (some (vAt v i)))) (hl : m.live = true) (hv : RdU c N v n xs) (hN : HSub N (m.src H)) (hi : i < n)
    (h : JO c Q m r ((d, uv (xs.getD i 0)) :: F) H) : JO c Q m (⟨some d, .load t x, ty, g, .ld, ns⟩ :: r) F H :=
  r_ldR hd hg hx hl hv hN (by rw [List.getElem?_map, gD_lt (d := 0) (by have := hv.len; omega)]; rfl) h
theorem r_stU {A B : SHeap} {i u : Nat} {xs : List Nat} [T1 c.P t] (hO : OwnU N v n xs) (hH : H = A ++ (N ++ B)) (hg : guardF F g = some true) (hm : m.mayStore ns r) (hx : ev F x = some (.pointer (some (vAt v i)))) (hy : ev F y = some (uv u))
    (hi : i < n) (h : ∀ N', OwnU N' v n (xs.set i u) → JO c Q m.spent r F (A ++ (N' ++ B))) : JO c Q m (⟨none, .store t x y, ty, g, .seq, ns⟩ :: r) F H :=
  r_stO hO hH hg hm hx hy rfl rfl (by omega) (fun N' h' => h N' (by unfold OwnU; rw [List.map_set]; exact h'))
theorem own_zerosU (b n : Nat) (hn : n ≤ maxLen) : OwnU [(b, .cells (zerosOf #[(.int .u64 0)] (n * 1)) 71)] (.slice (some ⟨b, 0, none⟩) n n) n (tab n fun _ => 0) := by
  have h := OwnRow.mk' (e := 71) (sz := 1) (n := n) (b := b) (cs := zerosOf #[(.int .u64 0)] (n * 1)) (by rw [zeros1]; simp) hn
  rw [zeros1] at h ⊢
  have e : (Array.replicate (n * 1) (.int .u64 0)).toList = (tab n fun _ => 0).map uv := by
    apply List.ext_getElem?
    intro i
    simp only [Array.toList_replicate, List.getElem?_map, List.getElem?_replicate, Nat.mul_one]
    by_cases hi : i < n
    · rw [if_pos hi, tab_get hi]; rfl
    · rw [if_neg hi, List.getElem?_eq_none (by simp; omega)]; rfl
  rw [e] at h
  exact h
theorem r_appendU {A B N2 : SHeap} {v2 : Value} {k : Nat} {xs ys : List Nat} [TSl c.P t 71] [TE c.P 71 1 8 #[(.int .u64 0)]] (hO : OwnU N v n xs) (h2 : RdU c N2 v2 k ys) (hN2 : HSub N2 H) (hH : H = A ++ (N ++ B)) (hm : m.mayStore ns r) (hd : dstOk c.n (some d) = true) (hg : guardF F g = some true) (hx : ev F x = some v) (hy : ev F y = some v2)
    (hb : n + k ≤ 10000000000000) (h : ∀ v' N', OwnU N' v' (n + k) (xs ++ ys) → JO c Q m.spent r ((d, v') :: F) (A ++ (N' ++ B))) :
    JO c Q m (⟨some d, .call ⟨.builtin .append, #[x, y], #[t, t]⟩, ty, g, .seq, ns⟩ :: r) F H :=
  r_appendA (e := 71) (sz := 1) (bytes := 8) (zc := #[(.int .u64 0)]) (xs := xs.map uv) (news := ys.map uv) (n := n) (mm := k) rfl hO h2 hN2 hH hm hd hg hx hy (fun u hu => by obtain ⟨a, _, rfl⟩ := List.mem_map.1 hu; rfl) (by simp only [maxLen]; omega) (by omega) (fun v' N' h' => h v' N' (by unfold OwnU; rw [List.map_append]; exact h'))
end

theorem own_litU (b n : Nat) (xs : List Nat) (vs : List Value) (hv : vs = xs.map uv) (hn : xs.length = n) (h : n ≤ 1000) : OwnU [(b, .cells ⟨vs⟩ 71)] (.slice (some ⟨b, 0, none⟩) n n) n xs := by
  subst hv
  have := OwnRow.mk' (e := 71) (sz := 1) (n := n) (b := b) (cs := ⟨xs.map uv⟩) (by simp [hn]) (by simp only [maxLen]; omega)
  exact this
def rowCU (xs : List Nat) (rest : List Value) : Array Value := ⟨xs.map uv ++ rest⟩
theorem rowCU_size (xs : List Nat) (rest : List Value) : (rowCU xs rest).size = xs.length + rest.length := by simp [rowCU]
theorem OwnU.named {N : SHeap} {v : Value} {n : Nat} {xs : List Nat} (h : OwnU N v n xs) (hn : 0 < n) : ∃ b cap rest, v = .slice (some ⟨b, 0, none⟩) n cap ∧ N = [(b, .cells (rowCU xs rest) 71 (0, 0))] ∧ n ≤ cap ∧ rest.length = cap - n ∧ cap ≤ maxLen := by
  obtain ⟨hl, ⟨rfl, rfl, rfl⟩ | ⟨b, cap, cur, rfl, rfl, h2, h3, h4, h5⟩⟩ := h
  · omega
  · refine ⟨b, cap, cur.toList.drop n, rfl, ?_, h2, by simp [h4], h3⟩
    have : cur = rowCU xs (cur.toList.drop n) := by
      apply Array.ext'
      show cur.toList = xs.map uv ++ cur.toList.drop n
      rw [Nat.mul_one] at h5
      rw [← h5, List.take_append_drop]
    rw [← this]
theorem OwnU.ofNamed {b cap n : Nat} {xs : List Nat} {rest : List Value} (hl : xs.length = n) (hn : n ≤ cap) (hr : rest.length = cap - n) (hc : cap ≤ maxLen) : OwnU [(b, .cells (rowCU xs rest) 71 (0, 0))] (.slice (some ⟨b, 0, none⟩) n cap) n xs := by
  refine ⟨by simp [hl], .inr ⟨b, cap, _, rfl, rfl, hn, hc, by rw [rowCU_size]; omega, ?_⟩⟩
  show (xs.map uv ++ rest).take (n * 1) = xs.map uv
  rw [Nat.mul_one, List.take_append_of_le_length (by simp [hl])]
  exact List.take_of_length_le (by simp [hl])

def WY (w : World) (v : Value) (n : Nat) (xs : List Nat) : Prop := RdW w 1 v n (xs.map yv)
def RdY (c : Cx) (N : SHeap) (v : Value) (n : Nat) (xs : List Nat) : Prop := Rd c N 1 v n (xs.map yv)
def OwnY (N : SHeap) (v : Value) (n : Nat) (xs : List Nat) : Prop := OwnRow 5 1 N v n (xs.map yv)
theorem WY.len {w : World} {v : Value} {n : Nat} {xs : List Nat} (h : WY w v n xs) : xs.length = n := by simpa using h.1
theorem RdY.len {c : Cx} {N : SHeap} {v : Value} {n : Nat} {xs : List Nat} (h : RdY c N v n xs) : xs.length = n := by simpa using h.1
theorem OwnY.len {N : SHeap} {v : Value} {n : Nat} {xs : List Nat} (h : OwnY N v n xs) : xs.length = n := by simpa using h.1
theorem WY.mono {w w' : World} {v : Value} {n : Nat} {xs : List Nat} (h : WY w v n xs) (hk : Kp [] w w') : WY w' v n xs := RdW.mono h hk
theorem WY.rd {c : Cx} {v : Value} {n : Nat} {xs : List Nat} (h : WY c.w0 v n xs) (hM : c.M = []) (N : SHeap) : RdY c N v n xs := RdW.rd h hM N
theorem RdY.at {c : Cx} {N H : SHeap} {w : World} {v : Value} {n : Nat} {xs : List Nat} (h : RdY c N v n xs) (hk : Kp c.M c.w0 w) (hs : Hsat H w) (hN : HSub N H) : WY w v n xs := Rd.at h hk hs hN
theorem OwnY.rd {c : Cx} {N : SHeap} {v : Value} {n : Nat} {xs : List Nat} (h : OwnY N v n xs) : RdY c N v n xs := OwnRow.rd h
theorem OwnY.new {N : SHeap} {v : Value} {n : Nat} {xs : List Nat} {w w' : World} (h : OwnY N v n xs) (hn : New N w w') : WY w' v n xs := New.rd (c := ⟨Tryd.prog, 0, w, [], by simp⟩) h hn
theorem OwnY.form {N : SHeap} {v : Value} {n : Nat} {xs : List Nat} (h : OwnY N v n xs) : ∃ A cap, v = .slice A n cap := by
  obtain ⟨_, ⟨rfl, rfl, rfl⟩ | ⟨b, cap, cur, rfl, _⟩⟩ := h
  · exact ⟨_, _, rfl⟩
  · exact ⟨_, _, rfl⟩
theorem WY.form {w : World} {v : Value} {n : Nat} {xs : List Nat} (h : WY w v n xs) : ∃ A cap, v = .slice A n cap := by
  obtain ⟨_, A, cap, rfl, _⟩ := h
  exact ⟨_, _, rfl⟩
theorem OwnY.nil : OwnY [] (.slice none 0 0) 0 [] := OwnRow.nil _ 1
section
variable {c : Cx} {Q : Exit → Act → World → Prop} {m : Mode} {F : SFrame} {H : SHeap} {r : List SOp} {g : Option (Option Tmp × Bool)} {ns : Bool} {d : Tmp} {ty t t' : TypeId} {x y : Operand} {N : SHeap} {n : Nat} {v : Value}
theorem r_appendY {A B N2 : SHeap} {v2 : Value} {k : Nat} {xs ys : List Nat} [TSl c.P t 5] [TE c.P 5 1 1 #[(.int .u8 0)]] (hO : OwnY N v n xs) (h2 : RdY c N2 v2 k ys) (hN2 : HSub N2 H) (hH : H = A ++ (N ++ B)) (hm : m.mayStore ns r) (hd : dstOk c.n (some d) = true) (hg : guardF F g = some true) (hx : ev F x = some v) (hy : ev F y = some v2)
    (hb : n + k ≤ 10000000000000) (h : ∀ v' N', OwnY N' v' (n + k) (xs ++ ys) → JO c Q m.spent r ((d, v') :: F) (A ++ (N' ++ B))) :
    JO c Q m (⟨some d, .call ⟨.builtin .append, #[x, y], #[t, t]⟩, ty, g, .seq, ns⟩ :: r) F H :=
  r_appendA (e := 5) (sz := 1) (bytes := 1) (zc := #[(.int .u8 0)]) (xs := xs.map yv) (news := ys.map yv) (n := n) (mm := k) rfl hO h2 hN2 hH hm hd hg hx hy (fun u hu => by obtain ⟨a, _, rfl⟩ := List.mem_map.1 hu; rfl) (by simp only [maxLen]; omega) (by omega) (fun v' N' h' => h v' N' (by unfold OwnY; rw [List.map_append]; exact h'))
end

theorem own_litY (b n : Nat) (xs : List Nat) (vs : List Value) (hv : vs = xs.map yv) (hn : xs.length = n) (h : n ≤ 1000) : OwnY [(b, .cells ⟨vs⟩ 5)] (.slice (some ⟨b, 0, none⟩) n n) n xs := by
  subst hv
  have := OwnRow.mk' (e := 5) (sz := 1) (n := n) (b := b) (cs := ⟨xs.map yv⟩) (by simp [hn]) (by simp only [maxLen]; omega)
  exact this
def rowCY (xs : List Nat) (rest : List Value) : Array Value := ⟨xs.map yv ++ rest⟩
theorem rowCY_size (xs : List Nat) (rest : List Value) : (rowCY xs rest).size = xs.length + rest.length := by simp [rowCY]
theorem OwnY.named {N : SHeap} {v : Value} {n : Nat} {xs : List Nat} (h : OwnY N v n xs) (hn : 0 < n) : ∃ b cap rest, v = .slice (some ⟨b, 0, none⟩) n cap ∧ N = [(b, .cells (rowCY xs rest) 5 (0, 0))] ∧ n ≤ cap ∧ rest.length = cap - n ∧ cap ≤ maxLen := by
  obtain ⟨hl, ⟨rfl, rfl, rfl⟩ | ⟨b, cap, cur, rfl, rfl, h2, h3, h4, h5⟩⟩ := h
  · omega
  · refine ⟨b, cap, cur.toList.drop n, rfl, ?_, h2, by simp [h4], h3⟩
    have : cur = rowCY xs (cur.toList.drop n) := by
      apply Array.ext'
      show cur.toList = xs.map yv ++ cur.toList.drop n
      rw [Nat.mul_one] at h5
      rw [← h5, List.take_append_drop]
    rw [← this]
theorem OwnY.ofNamed {b cap n : Nat} {xs : List Nat} {rest : List Value} (hl : xs.length = n) (hn : n ≤ cap) (hr : rest.length = cap - n) (hc : cap ≤ maxLen) : OwnY [(b, .cells (rowCY xs rest) 5 (0, 0))] (.slice (some ⟨b, 0, none⟩) n cap) n xs := by
  refine ⟨by simp [hl], .inr ⟨b, cap, _, rfl, rfl, hn, hc, by rw [rowCY_size]; omega, ?_⟩⟩
  show (xs.map yv ++ rest).take (n * 1) = xs.map yv
  rw [Nat.mul_one, List.take_append_of_le_length (by simp [hl])]
  exact List.take_of_length_le (by simp [hl])


abbrev sv (l : List UInt8) : Value := .string ⟨l.toArray⟩
def bts (l : List UInt8) : List Nat := l.map UInt8.toNat
theorem bts_len (l : List UInt8) : (bts l).length = l.length := by simp [bts]
theorem bts_lt {l : List UInt8} {i : Nat} : (bts l).getD i 0 < 256 := by
  simp only [bts, List.getD, List.getElem?_map]
  cases l[i]? with
  | none => decide
  | some b => exact UInt8.toNat_lt b
theorem bts_inj {a b : List UInt8} (h : bts a = bts b) : a = b := by
  unfold bts at h
  exact (List.map_inj_right (fun x y e => UInt8.toNat.inj e)).1 h

class TStr (P : Program) (t : TypeId) : Prop where
  und : P.underlying t = some .string

theorem size_sv (l : List UInt8) : (ByteArray.mk l.toArray).size = l.length := by simp [ByteArray.size]
theorem toList_sv (l : List UInt8) : (ByteArray.mk l.toArray).toList = l := by
  simp

section
variable {c : Cx} {Q : Exit → Act → World → Prop} {m : Mode} {F : SFrame} {H : SHeap} {r : List SOp} {g : Option (Option Tmp × Bool)} {ns : Bool} {d : Tmp} {ty t t' : TypeId} {x y : Operand} {l l' : List UInt8}

theorem r_lenS [TStr c.P t] (hd : dstOk c.n (some d) = true) (hg : guardF F g = some true) (hx : ev F x = some (sv l))
    (h : JO c Q m r ((d, .int .i64 l.length) :: F) H) : JO c Q m (⟨some d, .call ⟨.builtin .len, #[x], #[t]⟩, ty, g, .mov, ns⟩ :: r) F H :=
  r_mov hd hg (fun a w fr => by
    simp [execOp, resolve, invoke, builtin, fr.ev hx, run_len_string w t ty _ (TStr.und (P := c.P)), goInt, size_sv]) h

theorem r_idxS {k : IntKind} {j : Nat} [TStr c.P t] (hd : dstOk c.n (some d) = true) (hg : guardF F g = some true) (hx : ev F x = some (sv l)) (hy : ev F y = some (.int k j)) (hj : j < l.length)
    (h : JO c Q m r ((d, yv ((bts l).getD j 0)) :: F) H) : JO c Q m (⟨some d, .index t x y, ty, g, .mov, ns⟩ :: r) F H :=
  r_mov hd hg (fun a w fr => by
    have h1 : (0 : Int) ≤ j ∧ (j : Int) < (ByteArray.mk l.toArray).size := by rw [size_sv]; omega
    have h2 : (bts l).getD j 0 = l[j].toNat := by simp [bts, List.getD, hj]
    simp only [execOp, fr.ev hx, fr.ev hy, Sem.run_bind, run_index_string w t _ k j (TStr.und (P := c.P)), h1, and_self, dite_true, Result.andThen_ok, Sem.run_pure, h2]
    rfl) h

theorem r_eqS [TStr c.P t] (hd : dstOk c.n (some d) = true) (hg : guardF F g = some true) (hx : ev F x = some (sv l)) (hy : ev F y = some (sv l')) (h : JO c Q m r ((d, .bool (decide (l = l'))) :: F) H) :
    JO c Q m (⟨some d, .binOp .eql t x y t', ty, g, .mov, ns⟩ :: r) F H :=
  r_mov hd hg (fun a w fr => by
    simp [execOp, fr.ev hx, fr.ev hy, eqGuard, binOp_string_eql, toList_sv]
    by_cases h : l = l' <;> simp [h]) h
theorem r_neS [TStr c.P t] (hd : dstOk c.n (some d) = true) (hg : guardF F g = some true) (hx : ev F x = some (sv l)) (hy : ev F y = some (sv l')) (h : JO c Q m r ((d, .bool (decide (l ≠ l'))) :: F) H) :
    JO c Q m (⟨some d, .binOp .neq t x y t', ty, g, .mov, ns⟩ :: r) F H :=
  r_mov hd hg (fun a w fr => by
    simp [execOp, fr.ev hx, fr.ev hy, eqGuard, binOp_string_neq, toList_sv]
    by_cases h : l = l' <;> simp [h]) h
theorem r_addS [TStr c.P t] (hd : dstOk c.n (some d) = true) (hg : guardF F g = some true) (hx : ev F x = some (sv l)) (hy : ev F y = some (sv l')) (hb : l.length + l'.length ≤ 9223372036854775807) (h : JO c Q m r ((d, sv (l ++ l')) :: F) H) :
    JO c Q m (⟨some d, .binOp .add t x y t', ty, g, .mov, ns⟩ :: r) F H :=
  r_mov hd hg (fun a w fr => by
    simp only [execOp, fr.ev hx, fr.ev hy, eqGuard, binOp_string_add, Sem.run_bind, Sem.run_pure, Result.andThen_ok, Bool.not_false, if_true]
    rw [run_string_add_sum w _ _ (by simp only [size_sv]; omega), ByteArray.mk_append_mk]
    rfl) h
theorem r_fromS {k : IntKind} {i : Nat} {lo : Operand} [TStr c.P t] (hd : dstOk c.n (some d) = true) (hg : guardF F g = some true) (hx : ev F x = some (sv l)) (hy : ev F lo = some (.int k i)) (hi : i ≤ l.length)
    (h : JO c Q m r ((d, sv (l.drop i)) :: F) H) : JO c Q m (⟨some d, .slice t x (some lo) none none, ty, g, .mov, ns⟩ :: r) F H :=
  r_mov hd hg (fun a w fr => by
    have h1 : (0 : Int) ≤ i := by omega
    have h2 : (i : Int) ≤ (l.length : Int) := by omega
    simp only [execOp, fr.ev hx, Option.map_some, Option.map_none, fr.ev hy, Sem.run_bind, run_sliceAt_string w t _ _ _ _ (TStr.und (P := c.P)), run_slice_string_from_if w t _ k i (TStr.und (P := c.P)), h1, size_sv, h2, and_self, if_true, Result.andThen_ok, Sem.run_pure, Int.toNat_natCast, ByteArray.extract_mk]
    try rw [List.take_of_length_le (by simp)]) h
end

section
variable {c : Cx} {Q : Exit → Act → World → Prop} {m : Mode} {F : SFrame} {H : SHeap} {r : List SOp} {g : Option (Option Tmp × Bool)} {ns : Bool} {d : Tmp} {ty t t' : TypeId} {x y : Operand}

theorem bts_of {xs : List Nat} (h : ∀ u ∈ xs, u < 256) : bts (xs.map UInt8.ofNat) = xs := by
  unfold bts
  rw [List.map_map]
  conv => rhs; rw [← List.map_id xs]
  refine List.map_congr_left fun u hu => ?_
  have := h u hu
  simp [Function.comp]
  omega

theorem run_bytes_none {P : Program} (w : World) (src dst e : TypeId) (cap : Nat) (hs : P.underlying src = some (.slice e)) (he : P.underlying e = some (.int .u8)) (hd : P.underlying dst = some .string) :
    (convert src dst (.slice none 0 cap)).run P w = .ok (sv []) w := by
  rw [run_convert_bytes_string w src dst e none 0 cap hs he hd]
  simp [Conv.bytesToString]
  rfl

theorem r_toStr {N : SHeap} {v : Value} {n : Nat} {xs : List Nat} {e : TypeId} [TSl c.P t e] [TI c.P e .u8] [TStr c.P t'] (hxs : ∀ u ∈ xs, u < 256) (hv : RdY c N v n xs) (hN : HSub N H) (hm : m.mayCall ns r) (hd : dstOk c.n (some d) = true) (hg : guardF F g = some true) (hx : ev F x = some v)
    (h : ∀ l, bts l = xs → JO c Q m r ((d, sv l) :: F) H) : JO c Q m (⟨some d, .convert t t' x, ty, g, .seq, ns⟩ :: r) F H := by
  refine r_seqR (v := sv (xs.map UInt8.ofNat)) hm hd hg (fun a w fr hs => ?_) (h _ (bts_of hxs))
  have hlen := hv.len
  obtain ⟨_, A, cap, rfl, _, hrd⟩ := hv
  rcases Nat.eq_zero_or_pos n with h0 | h0
  · subst h0
    have hx0 : xs = [] := List.eq_nil_of_length_eq_zero hlen
    subst hx0
    cases A with
    | none =>
      simp only [execOp, fr.ev hx, Sem.run_bind, run_bytes_none w t t' e cap TSl.und TI.und TStr.und, Result.andThen_ok, Sem.run_pure]
      rfl
    | some ad =>
      have h1 := run_convert_bytes_back (P := c.P) w t t' e ad cap [] TSl.und TI.und TStr.und (fun j hj => by simp at hj)
      simp only [List.length_nil] at h1
      simp only [execOp, fr.ev hx, Sem.run_bind, h1, Result.andThen_ok, Sem.run_pure]
      rfl
  · obtain ⟨⟨b, o, rfl⟩, hcell⟩ := hrd h0
    have h1 := run_convert_bytes_back (P := c.P) w t t' e ⟨b, o, none⟩ cap (xs.map UInt8.ofNat) TSl.und TI.und TStr.und (fun j hj => by
      have hj' : j < xs.length := by simpa using hj
      have h2 := hcell w ⟨hs.1, hN.hsat hs.2⟩ j (yv xs[j]) (by simp [hj'])
      rw [add_none]
      have h3 := hxs xs[j] (List.getElem_mem hj')
      simp only [vAt] at h2
      rw [h2]
      simp only [List.getElem_map]
      congr 2
      simp
      omega)
    have h4 : (xs.map UInt8.ofNat).length = n := by simpa using hlen
    rw [h4] at h1
    simp only [execOp, fr.ev hx, Sem.run_bind, h1, Result.andThen_ok, Sem.run_pure]
end


def nrm (l : List Nat) : List Nat := match l with
  | [] => []
  | x :: r => match nrm r with
    | [] => if x = 0 then [] else [x]
    | y :: s => x :: y :: s

theorem nrm_snoc0 (l : List Nat) : nrm (l ++ [0]) = nrm l := by
  induction l with
  | nil => rfl
  | cons x r ih => simp only [List.cons_append, nrm, ih]
theorem nrm_snoc (l : List Nat) {x : Nat} (hx : x ≠ 0) : nrm (l ++ [x]) = l ++ [x] := by
  induction l with
  | nil => simp [nrm, hx]
  | cons y r ih =>
    rw [List.cons_append, nrm, ih]
    cases r <;> rfl

def val (b : Nat) : List Nat → Nat
  | [] => 0
  | x :: r => x + b * val b r
theorem val_nrm (b : Nat) (l : List Nat) : val b (nrm l) = val b l := by
  induction l with
  | nil => rfl
  | cons x r ih =>
    rw [nrm, val]
    cases h : nrm r with
    | nil =>
      rw [h] at ih
      have : val b r = 0 := ih.symm
      rw [this]
      by_cases hx : x = 0
      · simp [hx, val]
      · simp [hx, val]
    | cons y s => rw [h] at ih; simp only [val] at ih ⊢; rw [← ih]
theorem val_append (b : Nat) (l r : List Nat) : val b (l ++ r) = val b l + b ^ l.length * val b r := by
  induction l with
  | nil => simp [val]
  | cons x l ih =>
    simp only [List.cons_append, val, ih, List.length_cons, Nat.pow_succ, Nat.mul_add]
    rw [Nat.mul_comm (b ^ l.length) b, Nat.mul_assoc]
    omega

end Go.Proofs.YtdoogoglfbohaaaDoor

