import Derived.Test.YtdoogoglfbohaaaDoorMc
import Derived.Laws.Cover3
import Derived.Laws.CopyRow
namespace Go.Proofs.YtdoogoglfbohaaaDoor
open Go Go.RowKit
set_option linter.unusedSimpArgs false
set_option linter.unusedVariables false
set_option linter.unusedSectionVars false

theorem fdIsM.f {w : World} {v : Value} {m : NM} (h : fdIsM w v m) : IsF w v m.fm := h.int
theorem Rt.rf {m : NM} (h : Rt m) : RF m.fm := ⟨m, h, rfl⟩
theorem Rt.le {m : NM} (h : Rt m) : m.e.length ≤ 160000 := by rw [h.len]; exact rc_le h.r h.c
theorem Rt.flen {m : NM} (h : Rt m) : m.fm.E.length < 1000000000 := by show (ints m.e).length < _; rw [ints_len]; have := h.le; omega
theorem oneF_of {m n : NM} (hm : Rt m) (hn : Rt n) (hp : m.p = n.p) : OneF m.fm n.fm := ⟨hm.rf, hn.rf, by show (m.p : Int) = n.p; rw [hp]⟩

theorem add_step {f g : Nat → Nat} {n k : Nat} : (tab n fun i => if i < k then f i else g i).set k (f k) = tab n fun i => if i < k + 1 then f i else g i := by
  rw [tab_set]
  refine tab_congr fun i hi => ?_
  by_cases h : i = k
  · subst h; simp
  · by_cases h' : i < k
    · rw [if_neg h, if_pos h', if_pos (by omega)]
    · rw [if_neg h, if_neg h', if_neg (by omega)]

set_option maxHeartbeats 2000000 in
theorem fdc_Add (w : World) (v u : Value) (m n : NM) (hm : Rt m) (hn : Rt n) (hp : m.p = n.p) (hr : m.r = n.r) (hc : m.c = n.c) (hv : fdIsM w v m) (hu : fdIsM w u n) :
    Calls Tryd.prog 20 #[v, u] w (Ret fun v w' => Kp [] w w' ∧ fdGivesMB (addM m n) w v w') := by
  have hvF := hv.f
  have huF := hu.f
  obtain ⟨E, rfl, hE⟩ := hv
  obtain ⟨E', rfl, hE'⟩ := hu
  have hle := hm.le
  have hle' := hn.le
  have hl := hm.len
  have hl' := hn.len
  rw [← hr, ← hc] at hl'
  refine calls_of_S [⟨7, 2, [], []⟩] [] (by simp) [] Tryd.func20 rfl mixed (by kernel_rfl) Tryd.ntmps20 Tryd.results20 rfl ⟨by simp, by simp⟩ (by simp) ?_
  simp only [toS, textOps, toSOp, kindAt, kindOf, odAt, sopsAt, ordOf, zipF]
  (repeat' (first | refine JC.seq ?_ | refine JC.ops ?_ | refine JO.nil ?_ | refine JX.thenN ?_ | (apply r_assign; (iterate 3 exact rfl)) | (apply r_loadN; (iterate 4 exact rfl); (first | exact at0 | exact at1 | exact at2 | exact at3 | exact at4 | exact at5 | exact at6 | exact at7); exact rfl) | (apply r_allocZ; (iterate 3 exact rfl); intro _) | (apply r_boxA; (iterate 4 exact rfl); intro _)))
  rename_i b2 b3 b4
  refine r_call0 trivial rfl rfl rfl (fun w hk _ => c_one w _ _ m.fm n.fm (hvF.mono hk) (huF.mono hk) hm.flen hn.flen) fun w v w' _ _ _ hR => ?_
  obtain ⟨b', rfl, hb⟩ := hR
  obtain rfl := hb.2 (oneF_of hm hn hp)
  (repeat' (first | refine JC.seq ?_ | refine JC.ops ?_ | refine JO.nil ?_ | refine JX.thenN ?_ | (apply r_move; (iterate 3 exact rfl)) | (apply r_fieldAddr; (iterate 3 exact rfl)) | (apply r_load; (iterate 4 exact rfl); (first | exact at0 | exact at1 | exact at2 | exact at3 | exact at4 | exact at5 | exact at6 | exact at7); exact rfl) | (apply r_pickF; (iterate 4 exact rfl)) | (apply r_not; (iterate 3 exact rfl)) | (apply r_neq; (iterate 4 exact rfl); all_goals intro hc; all_goals try (exfalso; omega)) | refine JC.skip ?_ | refine JC.condF rfl ?_))
  refine r_callA (A := [_, _, _]) (B := []) rfl trivial rfl rfl rfl (fun w hk _ => c_zero m.p m.r m.c hm.pr hm.r hm.c w) fun w v w' _ _ _ hR => ?_
  obtain ⟨N, Eo, hN, rfl, hO⟩ := hR
  obtain ⟨Ao, co, rfl⟩ := hO.form
  refine ⟨N, hN, ?_⟩
  (repeat' (first | refine JC.seq ?_ | refine JC.ops ?_ | refine JO.nil ?_ | refine JX.thenN ?_ | (apply r_move; (iterate 3 exact rfl)) | (apply r_fieldAddr; (iterate 3 exact rfl)) | (apply r_load; (iterate 4 exact rfl); (first | exact at0 | exact at1 | exact at2 | exact at3 | exact at4 | exact at5 | exact at6 | exact at7); exact rfl) | (apply r_len; (iterate 3 exact rfl)) | (apply r_allocZ; (iterate 3 exact rfl); intro _) | (apply r_storeN; exact rfl; (first | exact trivial | exact ⟨rfl, rfl⟩); exact rfl; exact rfl; (first | exact at0 | exact at1 | exact at2 | exact at3 | exact at4 | exact at5 | exact at6 | exact at7); (iterate 3 exact rfl)) | refine JC.block ?_))
  rename_i b6
  refine JC.loopH (ι := Nat × SHeap) ⟨fun i => [(37, nv i.1), (36, nv (m.r * m.c)), (6, .pointer (some ⟨b6, 0, none⟩)), (2, .pointer (some ⟨b2, 0, none⟩)), (3, .pointer (some ⟨b3, 0, none⟩)), (4, .pointer (some ⟨b4, 0, none⟩)), (5, .bool false)],
    fun i => [(b6, .cells #[nv m.p, nv m.r, nv m.c, .slice Ao (m.r * m.c) co] 30), (b4, .cells #[iv 0, iv 0, iv 0, .slice none 0 0] 30), (b3, .cells #[nv n.p, nv n.r, nv n.c, E'] 30), (b2, .cells #[nv m.p, nv m.r, nv m.c, E] 30)] ++ (i.2 ++ []),
    fun i => i.1 ≤ m.r * m.c ∧ OwnN i.2 (.slice Ao (m.r * m.c) co) (m.r * m.c) (tab (m.r * m.c) fun t => if t < i.1 then (m.e.getD t 0 + n.e.getD t 0) % m.p else 0), fun i => m.r * m.c - i.1⟩ (0, N) ⟨by omega, by simpa using hO⟩ ⟨rfl, rfl, rfl, rfl, rfl, rfl, rfl, trivial⟩ (by (first | exact HSub.refl _ | (repeat' first | exact HSub.nil _ | exact HSub.refl _ | refine HSub.at 0 rfl ?_ | refine HSub.at 1 rfl ?_ | refine HSub.at 2 rfl ?_ | refine HSub.at 3 rfl ?_ | refine HSub.at 4 rfl ?_ | refine HSub.at 5 rfl ?_ | refine HSub.at 6 rfl ?_ | refine HSub.at 7 rfl ?_))) (fun k hk => ?_)
  obtain ⟨k, N⟩ := k
  obtain ⟨hkn, hO⟩ := hk
  dsimp only at hkn hO ⊢
  have hpos := hm.pos
  have hx := hm.lt' k
  have hy := hn.lt' k
  have hp9 := hm.pr.2.1
  (repeat' (first | refine JC.seq ?_ | refine JC.ops ?_ | refine JC.opsD ?_ | refine JO.nil ?_ | refine JX.thenN ?_ | (apply r_move; (iterate 3 exact rfl)) | (apply r_fieldAddr; (iterate 3 exact rfl)) | (apply r_assign; (iterate 3 exact rfl)) | (apply r_load; (iterate 4 exact rfl); (first | exact at0 | exact at1 | exact at2 | exact at3 | exact at4 | exact at5 | exact at6 | exact at7); exact rfl) | (apply r_loadN; (iterate 4 exact rfl); (first | exact at0 | exact at1 | exact at2 | exact at3 | exact at4 | exact at5 | exact at6 | exact at7); exact rfl) | (apply r_idxN; (iterate 4 exact rfl); (first | assumption | exact WN.rd (by assumption) rfl [] | exact OwnN.rd (by assumption)); (first | assumption | omega)) | (apply r_ldN; (iterate 4 exact rfl); (first | assumption | exact WN.rd (by assumption) rfl [] | exact OwnN.rd (by assumption)); (repeat' first | exact HSub.nil _ | exact HSub.hd | exact HSub.in0 | exact HSub.refl _ | refine HSub.skip ?_ | refine HSub.skipN ?_); (first | assumption | omega)) | (apply r_addN; (iterate 4 exact rfl); omega) | (apply r_modN; (iterate 4 exact rfl); omega) | (apply r_lss; (iterate 4 exact rfl); all_goals intro hc; all_goals try (exfalso; omega)) | (apply r_storeN; exact rfl; (first | exact trivial | exact ⟨rfl, rfl⟩); exact rfl; exact rfl; (first | exact at0 | exact at1 | exact at2 | exact at3 | exact at4 | exact at5 | exact at6 | exact at7); (iterate 3 exact rfl)) | refine JX.thenE ?_ | refine JC.skip ?_ | refine JC.exit ?_ | refine JC.ret ?_ | refine JC.condT rfl ?_ | refine JC.condF rfl ?_ | refine JC.block ?_ | refine JX.blockE ?_))
  · refine r_stN (A := [_, _, _, _]) hO rfl rfl ⟨rfl, rfl⟩ rfl rfl (by omega) (fun N' hO' => ?_)
    (repeat' (first | refine JC.ops ?_ | refine JO.nil ?_ | refine JX.thenN ?_ | (apply r_move; (iterate 3 exact rfl)) | (apply r_add1; (iterate 4 exact rfl); omega) | refine JX.blockN ?_))
    rw [add_step (f := fun t => (m.e.getD t 0 + n.e.getD t 0) % m.p)] at hO'
    exact JX.roundH (k + 1, N') ⟨by dsimp only; omega, hO'⟩ (by dsimp only; omega) ⟨rfl, rfl, rfl, rfl, rfl, rfl, rfl, trivial⟩ (by (first | exact HSub.refl _ | (repeat' first | exact HSub.nil _ | exact HSub.refl _ | refine HSub.at 0 rfl ?_ | refine HSub.at 1 rfl ?_ | refine HSub.at 2 rfl ?_ | refine HSub.at 3 rfl ?_ | refine HSub.at 4 rfl ?_ | refine HSub.at 5 rfl ?_ | refine HSub.at 6 rfl ?_ | refine HSub.at 7 rfl ?_)))
  · refine JX.retCT 1 rfl rfl rfl rfl (fun a w' st => ⟨st.kp, N, _, rfl, st.newOf rfl (by (repeat' first | exact HSub.nil _ | exact HSub.hd | exact HSub.in0 | exact HSub.refl _ | refine HSub.skip ?_ | refine HSub.skipN ?_)), fdOwnM.mk' (n := m.r * m.c) ?_⟩)
    rw [tab_congr (g' := fun t => (m.e.getD t 0 + n.e.getD t 0) % m.p) (fun i hi => if_pos (by omega))] at hO
    exact hO

def SameSize (a b : FM) : Prop := OneF a b ∧ a.R = b.R ∧ a.C = b.C

set_option maxHeartbeats 2000000 in
theorem c_AddF (w : World) (v u : Value) (a b : FM) (h : ¬ SameSize a b) (ha : IsF w v a) (hb : IsF w u b) (hl : a.E.length < 1000000000) (hl' : b.E.length < 1000000000) :
    Calls Tryd.prog 20 #[v, u] w (Ret fun v w' => Kp [] w w' ∧ v = .tuple #[zeroV, .bool false]) := by
  have hvF := ha
  have huF := hb
  obtain ⟨E, rfl, hE⟩ := ha
  obtain ⟨E', rfl, hE'⟩ := hb
  unfold fmV
  refine calls_of_S [⟨7, 2, [], []⟩] [] (by simp) [] Tryd.func20 rfl mixed (by kernel_rfl) Tryd.ntmps20 Tryd.results20 rfl ⟨by simp, by simp⟩ (by simp) ?_
  simp only [toS, textOps, toSOp, kindAt, kindOf, odAt, sopsAt, ordOf, zipF]
  (repeat' (first | refine JC.seq ?_ | refine JC.ops ?_ | refine JO.nil ?_ | refine JX.thenN ?_ | (apply r_assign; (iterate 3 exact rfl)) | (apply r_loadN; (iterate 4 exact rfl); (first | exact at0 | exact at1 | exact at2 | exact at3 | exact at4 | exact at5 | exact at6 | exact at7); exact rfl) | (apply r_allocZ; (iterate 3 exact rfl); intro _) | (apply r_boxA; (iterate 4 exact rfl); intro _)))
  refine r_call0 trivial rfl rfl rfl (fun w hk _ => c_one w _ _ a b (hvF.mono hk) (huF.mono hk) hl hl') fun w v w' _ _ _ hR => ?_
  obtain ⟨b', rfl, hb⟩ := hR
  cases b' <;> (repeat' (first | refine JC.seq ?_ | refine JC.ops ?_ | refine JO.nil ?_ | refine JX.thenN ?_ | (apply r_move; (iterate 3 exact rfl)) | (apply r_fieldAddr; (iterate 3 exact rfl)) | (apply r_assign; (iterate 3 exact rfl)) | (apply r_load; (iterate 4 exact rfl); (first | exact at0 | exact at1 | exact at2 | exact at3 | exact at4 | exact at5 | exact at6 | exact at7); exact rfl) | (apply r_pickT; (iterate 4 exact rfl)) | (apply r_pickF; (iterate 4 exact rfl)) | (apply r_not; (iterate 3 exact rfl)) | (apply r_neq; (iterate 4 exact rfl); all_goals intro hc; all_goals try (exfalso; omega)) | (apply r_buildL; (iterate 5 exact rfl)) | (apply r_storeN; exact rfl; (first | exact trivial | exact ⟨rfl, rfl⟩); exact rfl; exact rfl; (first | exact at0 | exact at1 | exact at2 | exact at3 | exact at4 | exact at5 | exact at6 | exact at7); (iterate 3 exact rfl)) | refine JX.thenR ?_ | refine JC.skip ?_ | refine JC.ret ?_ | refine JC.condT rfl ?_ | refine JC.condF rfl ?_ | (apply r_skip; exact rfl; exact rfl; (first | (intro h; cases h; done) | (intro _; rfl)))))
  all_goals first
    | exact JX.retCT 0 rfl rfl rfl rfl (fun a w' st => ⟨st.kp, rfl⟩)
    | exact absurd ⟨hb.1 rfl, by omega, by omega⟩ h


def mS (m n : NM) (i k j : Nat) : List Nat := tab2 m.r n.c fun a b => if a < i then dot m n a b m.c else if a = i then dot m n i b (if b < j then k + 1 else k) else 0

theorem mS_zero (m n : NM) : mS m n 0 0 0 = tab (m.r * n.c) fun _ => 0 := by
  unfold mS tab2
  refine tab_congr fun t _ => ?_
  simp only [Nat.not_lt_zero, if_false]
  split <;> simp [dot_zero]
theorem mS_set {m n : NM} {i k j : Nat} (hj : j < n.c) : (mS m n i k j).set (i * n.c + j) (dot m n i j (k + 1)) = mS m n i k (j + 1) := by
  unfold mS
  rw [tab2_set hj]
  refine tab2_congr fun a b ha hb => ?_
  by_cases h1 : a < i
  · have : ¬ (a = i ∧ b = j) := by omega
    simp [h1, this]
  · by_cases h2 : a = i
    · subst h2
      by_cases h3 : b = j
      · subst h3; simp
      · have e : (b < j + 1) = (b < j) := by simp; omega
        simp [h3, e]
    · simp [h1, h2]
theorem mS_row {m n : NM} {i k j : Nat} (hj : n.c ≤ j) : mS m n i k j = mS m n i (k + 1) 0 := by
  unfold mS
  refine tab2_congr fun a b ha hb => ?_
  rw [if_pos (show b < j by omega)]
  simp
theorem mS_next {m n : NM} {i k : Nat} (hk : m.c ≤ k) (hk' : k ≤ m.c) : mS m n i k 0 = mS m n (i + 1) 0 0 := by
  unfold mS
  have : k = m.c := by omega
  subst this
  refine tab2_congr fun a b ha hb => ?_
  by_cases h1 : a < i
  · simp [h1, show a < i + 1 by omega]
  · by_cases h2 : a = i
    · subst h2; simp
    · by_cases h3 : a = i + 1
      · subst h3; simp [dot_zero, h1]
      · simp [h1, h2, h3, show ¬ a < i + 1 by omega]
theorem mS_get {m n : NM} {i k j : Nat} (hi : i < m.r) (hj : j < n.c) : (mS m n i k j).getD (i * n.c + j) 0 = dot m n i j k := by
  have := ent_tab2 (g := fun a b => if a < i then dot m n a b m.c else if a = i then dot m n i b (if b < j then k + 1 else k) else 0) hi hj
  simp only [ent] at this
  unfold mS
  rw [this]
  simp
theorem mS_end {m n : NM} {i : Nat} (hi : m.r ≤ i) : mS m n i 0 0 = (mulM m n).e := by
  unfold mS
  show tab2 m.r n.c _ = tab2 m.r n.c fun i j => dot m n i j m.c
  refine tab2_congr fun a b ha hb => ?_
  simp [show a < i by omega]

theorem fdmul_bound {a b p : Nat} (ha : a < p) (hb : b < p) (hp : p ≤ 997) : a * b ≤ 994009 := by
  have := Nat.mul_le_mul (show a ≤ 997 by omega) (show b ≤ 997 by omega)
  omega
theorem row_le {r c i : Nat} (hi : i < r) : (i + 1) * c ≤ r * c := Nat.mul_le_mul_right c (by omega)

set_option maxHeartbeats 4000000 in
theorem fdc_Mul (w : World) (v u : Value) (m n : NM) (hm : Rt m) (hn : Rt n) (hp : m.p = n.p) (hr : m.c = n.r) (hv : fdIsM w v m) (hu : fdIsM w u n) :
    Calls Tryd.prog 19 #[v, u] w (Ret fun v w' => Kp [] w w' ∧ fdGivesMB (mulM m n) w v w') := by
  have hvF := hv.f
  have huF := hu.f
  obtain ⟨E, rfl, hE⟩ := hv
  obtain ⟨E', rfl, hE'⟩ := hu
  have hle := hm.le
  have hle' := hn.le
  have hl := hm.len
  have hl' := hn.len
  rw [hl] at hE
  rw [hl'] at hE'
  have hbr := hm.r
  have hbc := hm.c
  have hbc' := hn.c
  have hrc := rc_le hbr hbc'
  refine calls_of_S [⟨14, 2, [], []⟩] [] (by simp) [] Tryd.func19 rfl mixed (by kernel_rfl) Tryd.ntmps19 Tryd.results19 rfl ⟨by simp, by simp⟩ (by simp) ?_
  simp only [toS, textOps, toSOp, kindAt, kindOf, odAt, sopsAt, ordOf, zipF]
  (repeat' (first | refine JC.seq ?_ | refine JC.ops ?_ | refine JO.nil ?_ | refine JX.thenN ?_ | (apply r_assign; (iterate 3 exact rfl)) | (apply r_loadN; (iterate 4 exact rfl); (first | exact at0 | exact at1 | exact at2 | exact at3 | exact at4 | exact at5 | exact at6 | exact at7); exact rfl) | (apply r_allocZ; (iterate 3 exact rfl); intro _) | (apply r_boxA; (iterate 4 exact rfl); intro _)))
  rename_i b2 b3 b4
  refine r_call0 trivial rfl rfl rfl (fun w hk _ => c_one w _ _ m.fm n.fm (hvF.mono hk) (huF.mono hk) hm.flen hn.flen) fun w v w' _ _ _ hR => ?_
  obtain ⟨b', rfl, hb⟩ := hR
  obtain rfl := hb.2 (oneF_of hm hn hp)
  (repeat' (first | refine JC.seq ?_ | refine JC.ops ?_ | refine JO.nil ?_ | refine JX.thenN ?_ | (apply r_move; (iterate 3 exact rfl)) | (apply r_fieldAddr; (iterate 3 exact rfl)) | (apply r_load; (iterate 4 exact rfl); (first | exact at0 | exact at1 | exact at2 | exact at3 | exact at4 | exact at5 | exact at6 | exact at7); exact rfl) | (apply r_pickF; (iterate 4 exact rfl)) | (apply r_not; (iterate 3 exact rfl)) | (apply r_neq; (iterate 4 exact rfl); all_goals intro hc; all_goals try (exfalso; omega)) | refine JC.skip ?_ | refine JC.condF rfl ?_))
  refine r_callA (A := [_, _, _]) (B := []) rfl trivial rfl rfl rfl (fun w hk _ => c_zero m.p m.r n.c hm.pr hm.r hn.c w) fun w v w' _ _ _ hR => ?_
  obtain ⟨N, Eo, hN, rfl, hO⟩ := hR
  obtain ⟨Ao, co, rfl⟩ := hO.form
  refine ⟨N, hN, ?_⟩
  (repeat' (first | refine JC.seq ?_ | refine JC.ops ?_ | refine JO.nil ?_ | refine JX.thenN ?_ | (apply r_move; (iterate 3 exact rfl)) | (apply r_fieldAddr; (iterate 3 exact rfl)) | (apply r_load; (iterate 4 exact rfl); (first | exact at0 | exact at1 | exact at2 | exact at3 | exact at4 | exact at5 | exact at6 | exact at7); exact rfl) | (apply r_allocZ; (iterate 3 exact rfl); intro _) | (apply r_storeN; exact rfl; (first | exact trivial | exact ⟨rfl, rfl⟩); exact rfl; exact rfl; (first | exact at0 | exact at1 | exact at2 | exact at3 | exact at4 | exact at5 | exact at6 | exact at7); (iterate 3 exact rfl)) | refine JC.block ?_))
  rename_i b6
  refine JC.loopH (ι := Nat × SHeap) ⟨fun i => [(34, nv i.1), (33, nv m.r), (6, .pointer (some ⟨b6, 0, none⟩)), (2, .pointer (some ⟨b2, 0, none⟩)), (3, .pointer (some ⟨b3, 0, none⟩)), (4, .pointer (some ⟨b4, 0, none⟩)), (5, .bool false)],
    fun i => [(b6, .cells #[nv m.p, nv m.r, nv n.c, .slice Ao (m.r * n.c) co] 30), (b4, .cells #[iv 0, iv 0, iv 0, .slice none 0 0] 30), (b3, .cells #[nv n.p, nv n.r, nv n.c, E'] 30), (b2, .cells #[nv m.p, nv m.r, nv m.c, E] 30)] ++ (i.2 ++ []),
    fun i => i.1 ≤ m.r ∧ OwnN i.2 (.slice Ao (m.r * n.c) co) (m.r * n.c) (mS m n i.1 0 0), fun i => m.r - i.1⟩ (0, N) ⟨by omega, by rw [mS_zero]; exact hO⟩ ⟨rfl, rfl, rfl, rfl, rfl, rfl, rfl, trivial⟩ (by (first | exact HSub.refl _ | (repeat' first | exact HSub.nil _ | exact HSub.refl _ | refine HSub.at 0 rfl ?_ | refine HSub.at 1 rfl ?_ | refine HSub.at 2 rfl ?_ | refine HSub.at 3 rfl ?_ | refine HSub.at 4 rfl ?_ | refine HSub.at 5 rfl ?_ | refine HSub.at 6 rfl ?_ | refine HSub.at 7 rfl ?_))) (fun i hi => ?_)
  obtain ⟨i, N⟩ := i
  obtain ⟨hin, hO⟩ := hi
  dsimp only at hin hO ⊢
  have hpos := hm.pos
  have hp9 := hm.pr.2.1
  have hic : i * m.c ≤ 160000 := Nat.mul_le_mul (show i ≤ 400 by omega) hbc
  have hic1 : (i + 1) * m.c ≤ 160400 := by rw [Nat.add_mul]; omega
  have hin2 : i * n.c ≤ 160000 := Nat.mul_le_mul (show i ≤ 400 by omega) hbc'
  (repeat' (first | refine JC.seq ?_ | refine JC.ops ?_ | refine JO.nil ?_ | refine JX.thenN ?_ | (apply r_move; (iterate 3 exact rfl)) | (apply r_fieldAddr; (iterate 3 exact rfl)) | (apply r_assign; (iterate 3 exact rfl)) | (apply r_load; (iterate 4 exact rfl); (first | exact at0 | exact at1 | exact at2 | exact at3 | exact at4 | exact at5 | exact at6 | exact at7); exact rfl) | (apply r_loadN; (iterate 4 exact rfl); (first | exact at0 | exact at1 | exact at2 | exact at3 | exact at4 | exact at5 | exact at6 | exact at7); exact rfl) | (apply r_add1; (iterate 4 exact rfl); omega) | (apply r_mulN; (iterate 4 exact rfl); (first | assumption | omega)) | (apply r_lss; (iterate 4 exact rfl); all_goals intro hc; all_goals try (exfalso; omega)) | (apply r_storeN; exact rfl; (first | exact trivial | exact ⟨rfl, rfl⟩); exact rfl; exact rfl; (first | exact at0 | exact at1 | exact at2 | exact at3 | exact at4 | exact at5 | exact at6 | exact at7); (iterate 3 exact rfl)) | refine JX.thenE ?_ | refine JC.skip ?_ | refine JC.exit ?_ | refine JC.ret ?_ | refine JC.condT rfl ?_ | refine JC.condF rfl ?_ | refine JC.block ?_ | refine JX.blockE ?_))
  · refine r_rowN rfl rfl rfl (WN.rd hE rfl []) rfl rfl (row_le (by omega)) (fun v' hv' hat => ?_)
    (repeat' (first | refine JO.nil ?_ | refine JX.thenN ?_ | (apply r_move; (iterate 3 exact rfl)) | (apply r_lenN; (iterate 3 exact rfl); (first | assumption | exact WN.rd (by assumption) rfl [] | exact OwnN.rd (by assumption))) | refine JC.block ?_))
    refine JC.loopH (ι := Nat × SHeap) ⟨fun z => [(50, nv z.1), (49, nv m.c), (48, v'), (34, nv i), (7, nv i), (33, nv m.r), (6, .pointer (some ⟨b6, 0, none⟩)), (2, .pointer (some ⟨b2, 0, none⟩)), (3, .pointer (some ⟨b3, 0, none⟩)), (4, .pointer (some ⟨b4, 0, none⟩)), (5, .bool false)], fun z => [(b6, .cells #[nv m.p, nv m.r, nv n.c, .slice Ao (m.r * n.c) co] 30), (b4, .cells #[iv 0, iv 0, iv 0, .slice none 0 0] 30), (b3, .cells #[nv n.p, nv n.r, nv n.c, E'] 30), (b2, .cells #[nv m.p, nv m.r, nv m.c, E] 30)] ++ (z.2 ++ []),
      fun z => z.1 ≤ m.c ∧ OwnN z.2 (.slice Ao (m.r * n.c) co) (m.r * n.c) (mS m n i z.1 0), fun z => m.c - z.1⟩ (0, N) ⟨by omega, hO⟩ ⟨rfl, rfl, rfl, rfl, rfl, rfl, rfl, rfl, rfl, rfl, rfl, trivial⟩ (by (first | exact HSub.refl _ | (repeat' first | exact HSub.nil _ | exact HSub.refl _ | refine HSub.at 0 rfl ?_ | refine HSub.at 1 rfl ?_ | refine HSub.at 2 rfl ?_ | refine HSub.at 3 rfl ?_ | refine HSub.at 4 rfl ?_ | refine HSub.at 5 rfl ?_ | refine HSub.at 6 rfl ?_ | refine HSub.at 7 rfl ?_))) (fun k hk => ?_)
    obtain ⟨k, N⟩ := k
    obtain ⟨hkn, hO⟩ := hk
    dsimp only at hkn hO ⊢
    have hkc : k * n.c ≤ 160000 := Nat.mul_le_mul (show k ≤ 400 by omega) hbc'
    have hkc1 : (k + 1) * n.c ≤ 160400 := by rw [Nat.add_mul]; omega
    (repeat' (first | refine JC.seq ?_ | refine JC.ops ?_ | refine JO.nil ?_ | refine JX.thenN ?_ | (apply r_move; (iterate 3 exact rfl)) | (apply r_fieldAddr; (iterate 3 exact rfl)) | (apply r_assign; (iterate 3 exact rfl)) | (apply r_load; (iterate 4 exact rfl); (first | exact at0 | exact at1 | exact at2 | exact at3 | exact at4 | exact at5 | exact at6 | exact at7); exact rfl) | (apply r_idxN; (iterate 4 exact rfl); (first | assumption | exact WN.rd (by assumption) rfl [] | exact OwnN.rd (by assumption)); (first | assumption | omega)) | (apply r_ldN; (iterate 4 exact rfl); (first | assumption | exact WN.rd (by assumption) rfl [] | exact OwnN.rd (by assumption)); (repeat' first | exact HSub.nil _ | exact HSub.hd | exact HSub.in0 | exact HSub.refl _ | refine HSub.skip ?_ | refine HSub.skipN ?_); (first | assumption | omega)) | (apply r_add1; (iterate 4 exact rfl); omega) | (apply r_mulN; (iterate 4 exact rfl); (first | assumption | omega)) | (apply r_lss; (iterate 4 exact rfl); all_goals intro hc; all_goals try (exfalso; omega)) | refine JX.thenE ?_ | refine JC.skip ?_ | refine JC.exit ?_ | refine JC.condT rfl ?_ | refine JC.condF rfl ?_ | refine JC.block ?_ | refine JX.blockN ?_ | refine JX.blockE ?_))
    · refine r_rowN rfl rfl rfl (WN.rd hE' rfl []) rfl rfl (row_le (by omega)) (fun u' hu' hat' => ?_)
      (repeat' (first | refine JO.nil ?_ | refine JX.thenN ?_ | (apply r_move; (iterate 3 exact rfl)) | (apply r_lenN; (iterate 3 exact rfl); (first | assumption | exact WN.rd (by assumption) rfl [] | exact OwnN.rd (by assumption))) | refine JC.block ?_))
      have hk : k < m.c := by omega
      have hi : i < m.r := by omega
      have ex : (rowOf m.c m.e i).getD k 0 = ent m.c m.e i k := rowOf_getD hk
      refine JC.loopH (ι := Nat × SHeap) ⟨fun z => [(68, nv z.1), (67, nv n.c), (66, u'), (8, nv k), (9, nv (ent m.c m.e i k)), (50, nv k), (49, nv m.c), (48, v'), (34, nv i), (7, nv i), (33, nv m.r), (6, .pointer (some ⟨b6, 0, none⟩)), (2, .pointer (some ⟨b2, 0, none⟩)), (3, .pointer (some ⟨b3, 0, none⟩)), (4, .pointer (some ⟨b4, 0, none⟩)), (5, .bool false)], fun z => [(b6, .cells #[nv m.p, nv m.r, nv n.c, .slice Ao (m.r * n.c) co] 30), (b4, .cells #[iv 0, iv 0, iv 0, .slice none 0 0] 30), (b3, .cells #[nv n.p, nv n.r, nv n.c, E'] 30), (b2, .cells #[nv m.p, nv m.r, nv m.c, E] 30)] ++ (z.2 ++ []),
        fun z => z.1 ≤ n.c ∧ OwnN z.2 (.slice Ao (m.r * n.c) co) (m.r * n.c) (mS m n i k z.1), fun z => n.c - z.1⟩ (0, N) ⟨by omega, hO⟩ ⟨rfl, rfl, rfl, rfl, congrArg (fun t => some (nv t)) ex, rfl, rfl, rfl, rfl, rfl, rfl, rfl, rfl, rfl, rfl, rfl, trivial⟩ (by (first | exact HSub.refl _ | (repeat' first | exact HSub.nil _ | exact HSub.refl _ | refine HSub.at 0 rfl ?_ | refine HSub.at 1 rfl ?_ | refine HSub.at 2 rfl ?_ | refine HSub.at 3 rfl ?_ | refine HSub.at 4 rfl ?_ | refine HSub.at 5 rfl ?_ | refine HSub.at 6 rfl ?_ | refine HSub.at 7 rfl ?_))) (fun j hj => ?_)
      obtain ⟨j, N⟩ := j
      obtain ⟨hjn, hO⟩ := hj
      dsimp only at hjn hO ⊢
      (repeat' (first | refine JC.seq ?_ | refine JC.ops ?_ | refine JC.opsD ?_ | refine JO.nil ?_ | refine JX.thenN ?_ | (apply r_move; (iterate 3 exact rfl)) | (apply r_fieldAddr; (iterate 3 exact rfl)) | (apply r_assign; (iterate 3 exact rfl)) | (apply r_load; (iterate 4 exact rfl); (first | exact at0 | exact at1 | exact at2 | exact at3 | exact at4 | exact at5 | exact at6 | exact at7); exact rfl) | (apply r_idxN; (iterate 4 exact rfl); (first | assumption | exact WN.rd (by assumption) rfl [] | exact OwnN.rd (by assumption)); (first | assumption | omega)) | (apply r_ldN; (iterate 4 exact rfl); (first | assumption | exact WN.rd (by assumption) rfl [] | exact OwnN.rd (by assumption)); (repeat' first | exact HSub.nil _ | exact HSub.hd | exact HSub.in0 | exact HSub.refl _ | refine HSub.skip ?_ | refine HSub.skipN ?_); (first | assumption | omega)) | (apply r_add1; (iterate 4 exact rfl); omega) | (apply r_addN; (iterate 4 exact rfl); omega) | (apply r_mulN; (iterate 4 exact rfl); (first | assumption | omega)) | (apply r_lss; (iterate 4 exact rfl); all_goals intro hc; all_goals try (exfalso; omega)) | refine JX.thenE ?_ | refine JC.skip ?_ | refine JC.exit ?_ | refine JC.condT rfl ?_ | refine JC.condF rfl ?_ | refine JC.block ?_ | refine JX.blockN ?_ | refine JX.blockE ?_))
      · have hj : j < n.c := by omega
        have ey : (rowOf n.c n.e k).getD j 0 = ent n.c n.e k j := rowOf_getD hj
        have hb1 := hm.ent i k
        have hb2 := hn.ent k j
        have hbb := fdmul_bound hb1 (hp ▸ hb2) hp9
        have hbx : ent m.c m.e i k * (rowOf n.c n.e k).getD j 0 < 9223372036854775808 := by rw [ey]; omega
        have hlt := fdidx_lt hi hj
        have ed : (mS m n i k j).getD (i * n.c + j) 0 = dot m n i j k := mS_get hi hj
        have hdl : dot m n i j k < m.p := Nat.mod_lt _ hpos
        have hbs : (mS m n i k j).getD (i * n.c + j) 0 + ent m.c m.e i k * (rowOf n.c n.e k).getD j 0 < 9223372036854775808 := by rw [ed, ey]; omega
        (repeat' (first | (apply r_move; (iterate 3 exact rfl)) | (apply r_fieldAddr; (iterate 3 exact rfl)) | (apply r_load; (iterate 4 exact rfl); (first | exact at0 | exact at1 | exact at2 | exact at3 | exact at4 | exact at5 | exact at6 | exact at7); exact rfl) | (apply r_idxN; (iterate 4 exact rfl); (first | assumption | exact WN.rd (by assumption) rfl [] | exact OwnN.rd (by assumption)); (first | assumption | omega)) | (apply r_ldN; (iterate 4 exact rfl); (first | assumption | exact WN.rd (by assumption) rfl [] | exact OwnN.rd (by assumption)); (repeat' first | exact HSub.nil _ | exact HSub.hd | exact HSub.in0 | exact HSub.refl _ | refine HSub.skip ?_ | refine HSub.skipN ?_); (first | assumption | omega)) | (apply r_addN; (iterate 4 exact rfl); omega) | (apply r_mulN; (iterate 4 exact rfl); (first | assumption | omega)) | (apply r_modN; (iterate 4 exact rfl); omega)))
        have eu : ((mS m n i k j).getD (i * n.c + j) 0 + ent m.c m.e i k * (rowOf n.c n.e k).getD j 0) % m.p = dot m n i j (k + 1) := by rw [ed, ey, dot_succ]
        refine r_stN (A := [_, _, _, _]) (u := dot m n i j (k + 1)) hO rfl rfl ⟨rfl, rfl⟩ rfl (congrArg (fun t => some (nv t)) eu) hlt (fun N' hO' => ?_)
        rw [mS_set hj] at hO'
        (repeat' (first | refine JC.ops ?_ | refine JO.nil ?_ | refine JX.thenN ?_ | (apply r_move; (iterate 3 exact rfl)) | (apply r_add1; (iterate 4 exact rfl); omega) | refine JX.blockN ?_))
        exact JX.roundH (j + 1, N') ⟨by dsimp only; omega, hO'⟩ (by dsimp only; omega) ⟨rfl, rfl, rfl, rfl, rfl, rfl, rfl, rfl, rfl, rfl, rfl, rfl, rfl, rfl, rfl, rfl, trivial⟩ (by (first | exact HSub.refl _ | (repeat' first | exact HSub.nil _ | exact HSub.refl _ | refine HSub.at 0 rfl ?_ | refine HSub.at 1 rfl ?_ | refine HSub.at 2 rfl ?_ | refine HSub.at 3 rfl ?_ | refine HSub.at 4 rfl ?_ | refine HSub.at 5 rfl ?_ | refine HSub.at 6 rfl ?_ | refine HSub.at 7 rfl ?_)))
      · rw [mS_row (by omega)] at hO
        exact JX.roundH (k + 1, N) ⟨by dsimp only; omega, hO⟩ (by dsimp only; omega) ⟨rfl, rfl, rfl, rfl, rfl, rfl, rfl, rfl, rfl, rfl, rfl, trivial⟩ (by (first | exact HSub.refl _ | (repeat' first | exact HSub.nil _ | exact HSub.refl _ | refine HSub.at 0 rfl ?_ | refine HSub.at 1 rfl ?_ | refine HSub.at 2 rfl ?_ | refine HSub.at 3 rfl ?_ | refine HSub.at 4 rfl ?_ | refine HSub.at 5 rfl ?_ | refine HSub.at 6 rfl ?_ | refine HSub.at 7 rfl ?_)))
    · rw [mS_next (by omega) hkn] at hO
      exact JX.roundH (i + 1, N) ⟨by dsimp only; omega, hO⟩ (by dsimp only; omega) ⟨rfl, rfl, rfl, rfl, rfl, rfl, rfl, trivial⟩ (by (first | exact HSub.refl _ | (repeat' first | exact HSub.nil _ | exact HSub.refl _ | refine HSub.at 0 rfl ?_ | refine HSub.at 1 rfl ?_ | refine HSub.at 2 rfl ?_ | refine HSub.at 3 rfl ?_ | refine HSub.at 4 rfl ?_ | refine HSub.at 5 rfl ?_ | refine HSub.at 6 rfl ?_ | refine HSub.at 7 rfl ?_)))
  · rw [mS_end (by omega)] at hO
    exact JX.retCT 1 rfl rfl rfl rfl (fun a w' st => ⟨st.kp, N, _, rfl, st.newOf rfl (by (repeat' first | exact HSub.nil _ | exact HSub.hd | exact HSub.in0 | exact HSub.refl _ | refine HSub.skip ?_ | refine HSub.skipN ?_)), fdOwnM.mk' hO⟩)

set_option maxHeartbeats 2000000 in
theorem c_MulF (w : World) (v u : Value) (a b : FM) (h : ¬ (OneF a b ∧ a.C = b.R)) (ha : IsF w v a) (hb : IsF w u b) (hl : a.E.length < 1000000000) (hl' : b.E.length < 1000000000) :
    Calls Tryd.prog 19 #[v, u] w (Ret fun v w' => Kp [] w w' ∧ v = .tuple #[zeroV, .bool false]) := by
  have hvF := ha
  have huF := hb
  obtain ⟨E, rfl, hE⟩ := ha
  obtain ⟨E', rfl, hE'⟩ := hb
  unfold fmV
  refine calls_of_S [⟨14, 2, [], []⟩] [] (by simp) [] Tryd.func19 rfl mixed (by kernel_rfl) Tryd.ntmps19 Tryd.results19 rfl ⟨by simp, by simp⟩ (by simp) ?_
  simp only [toS, textOps, toSOp, kindAt, kindOf, odAt, sopsAt, ordOf, zipF]
  (repeat' (first | refine JC.seq ?_ | refine JC.ops ?_ | refine JO.nil ?_ | refine JX.thenN ?_ | (apply r_assign; (iterate 3 exact rfl)) | (apply r_loadN; (iterate 4 exact rfl); (first | exact at0 | exact at1 | exact at2 | exact at3 | exact at4 | exact at5 | exact at6 | exact at7); exact rfl) | (apply r_allocZ; (iterate 3 exact rfl); intro _) | (apply r_boxA; (iterate 4 exact rfl); intro _)))
  refine r_call0 trivial rfl rfl rfl (fun w hk _ => c_one w _ _ a b (hvF.mono hk) (huF.mono hk) hl hl') fun w v w' _ _ _ hR => ?_
  obtain ⟨b', rfl, hb⟩ := hR
  cases b' <;> (repeat' (first | refine JC.seq ?_ | refine JC.ops ?_ | refine JO.nil ?_ | refine JX.thenN ?_ | (apply r_move; (iterate 3 exact rfl)) | (apply r_fieldAddr; (iterate 3 exact rfl)) | (apply r_assign; (iterate 3 exact rfl)) | (apply r_load; (iterate 4 exact rfl); (first | exact at0 | exact at1 | exact at2 | exact at3 | exact at4 | exact at5 | exact at6 | exact at7); exact rfl) | (apply r_pickT; (iterate 4 exact rfl)) | (apply r_pickF; (iterate 4 exact rfl)) | (apply r_not; (iterate 3 exact rfl)) | (apply r_neq; (iterate 4 exact rfl); all_goals intro hc; all_goals try (exfalso; omega)) | (apply r_buildL; (iterate 5 exact rfl)) | (apply r_storeN; exact rfl; (first | exact trivial | exact ⟨rfl, rfl⟩); exact rfl; exact rfl; (first | exact at0 | exact at1 | exact at2 | exact at3 | exact at4 | exact at5 | exact at6 | exact at7); (iterate 3 exact rfl)) | refine JX.thenR ?_ | refine JC.skip ?_ | refine JC.ret ?_ | refine JC.condT rfl ?_ | refine JC.condF rfl ?_ | (apply r_skip; exact rfl; exact rfl; (first | (intro h; cases h; done) | (intro _; rfl)))))
  all_goals first
    | exact JX.retCT 0 rfl rfl rfl rfl (fun a w' st => ⟨st.kp, rfl⟩)
    | exact absurd ⟨hb.1 rfl, by omega⟩ h



theorem getD_app {xs ys : List Nat} {k : Nat} : (xs ++ ys).getD k 0 = if k < xs.length then xs.getD k 0 else ys.getD (k - xs.length) 0 := by
  simp only [List.getD, List.getElem?_append]
  split <;> rfl

def jS (m n : NM) (i : Nat) : List Nat := tab2 i (m.c + n.c) fun i j => if j < m.c then ent m.c m.e i j else ent n.c n.e i (j - m.c)

theorem jS_zero (m n : NM) : jS m n 0 = [] := by simp [jS, tab2, tab]
theorem jS_end (m n : NM) : jS m n m.r = (joinM m n).e := rfl
theorem rowOf_len {c r i : Nat} {xs : List Nat} (hl : xs.length = r * c) (hi : i < r) : (rowOf c xs i).length = c := by
  have := Nat.mul_le_mul_right c (show i + 1 ≤ r by omega)
  rw [Nat.add_mul] at this
  simp only [rowOf, List.length_take, List.length_drop, hl]
  omega
theorem jS_succ {m n : NM} {i : Nat} (hl : m.e.length = m.r * m.c) (hl' : n.e.length = n.r * n.c) (hi : i < m.r) (hi' : i < n.r) : jS m n i ++ rowOf m.c m.e i ++ rowOf n.c n.e i = jS m n (i + 1) := by
  have h1 := rowOf_len hl hi
  have h2 := rowOf_len hl' hi'
  have e0 : (i + 1) * (m.c + n.c) = i * (m.c + n.c) + (m.c + n.c) := by rw [Nat.add_mul, Nat.one_mul]
  refine ext_getD (d := 0) (by simp only [List.length_append, jS, tab2_len, h1, h2, e0]; omega) fun k hk => ?_
  simp only [List.length_append, jS, tab2_len, h1, h2] at hk
  have hk' : k < (i + 1) * (m.c + n.c) := by omega
  unfold jS
  rw [getD_app, getD_app]
  simp only [List.length_append, tab2_len, h1]
  unfold tab2
  rw [tab_getD hk']
  by_cases a1 : k < i * (m.c + n.c)
  · rw [if_pos (by omega), if_pos a1, tab_getD a1]
  · obtain ⟨j, rfl⟩ : ∃ j, k = i * (m.c + n.c) + j := ⟨k - i * (m.c + n.c), by omega⟩
    have hj : j < m.c + n.c := by omega
    rw [idx_div hj, idx_mod hj]
    dsimp only
    by_cases a2 : j < m.c
    · rw [if_pos (by omega), if_neg a1, if_pos a2, Nat.add_sub_cancel_left, rowOf_getD a2]; rfl
    · rw [if_neg (by omega), if_neg a2, show i * (m.c + n.c) + j - (i * (m.c + n.c) + m.c) = j - m.c by omega, rowOf_getD (by omega)]; rfl

set_option maxHeartbeats 4000000 in
theorem c_join (w : World) (v u : Value) (m n : NM) (hm : Rt m) (hn : Rt n) (hr : m.r = n.r) (hv : fdIsM w v m) (hu : fdIsM w u n) :
    Calls Tryd.prog 47 #[v, u] w (Ret fun v w' => Kp [] w w' ∧ fdGivesM (joinM m n) w v w') := by
  obtain ⟨E, rfl, hE⟩ := hv
  obtain ⟨E', rfl, hE'⟩ := hu
  have hl := hm.len
  have hl' := hn.len
  rw [hl] at hE
  rw [hl'] at hE'
  have hbr := hm.r
  have hbc := hm.c
  have hbc' := hn.c
  refine calls_of_S [⟨5, 2, [0, 1, 2, 3, 4, 5, 6, 7, 8, 9, 10, 11, 12, 13, 15, 16, 17, 18, 19, 20, 21, 22, 23, 24, 25, 26, 14, 27, 28, 29], []⟩] [] (by simp) [] Tryd.func47 rfl mixed (by kernel_rfl) Tryd.ntmps47 Tryd.results47 rfl ⟨by simp, by simp⟩ (by simp) ?_
  simp only [toS, textOps, toSOp, kindAt, kindOf, odAt, sopsAt, ordOf, zipF]
  (repeat' (first | refine JC.seq ?_ | refine JC.ops ?_ | refine JO.nil ?_ | refine JX.thenN ?_ | (apply r_fieldAddr; (iterate 3 exact rfl)) | (apply r_load; (iterate 4 exact rfl); (first | exact at0 | exact at1 | exact at2 | exact at3 | exact at4 | exact at5 | exact at6 | exact at7); exact rfl) | (apply r_addN; (iterate 4 exact rfl); omega) | (apply r_allocZ; (iterate 3 exact rfl); intro _) | (apply r_boxA; (iterate 4 exact rfl); intro _)))
  refine r_build (cs := #[nv m.p, nv m.r, nv (m.c + n.c), .slice none 0 0]) rfl rfl rfl rfl ?_
  (repeat' (first | refine JC.seq ?_ | refine JC.ops ?_ | refine JO.nil ?_ | refine JX.thenN ?_ | (apply r_move; (iterate 3 exact rfl)) | (apply r_fieldAddr; (iterate 3 exact rfl)) | (apply r_load; (iterate 4 exact rfl); (first | exact at0 | exact at1 | exact at2 | exact at3 | exact at4 | exact at5 | exact at6 | exact at7); exact rfl) | (apply r_allocZ; (iterate 3 exact rfl); intro _) | (apply r_storeN; exact rfl; (first | exact trivial | exact ⟨rfl, rfl⟩); exact rfl; exact rfl; (first | exact at0 | exact at1 | exact at2 | exact at3 | exact at4 | exact at5 | exact at6 | exact at7); (iterate 3 exact rfl)) | refine JC.block ?_))
  rename_i b2 b3 b4 b5
  refine JC.loopH (ι := Nat × SHeap × Value) ⟨fun z => [(19, nv z.1), (18, nv m.r), (5, .pointer (some ⟨b5, 0, none⟩)), (2, .pointer (some ⟨b2, 0, none⟩)), (3, .pointer (some ⟨b3, 0, none⟩)), (4, .pointer (some ⟨b4, 0, none⟩))],
    fun z => [(b5, .cells #[nv m.p, nv m.r, nv (m.c + n.c), z.2.2] 30), (b4, .cells #[iv 0, iv 0, iv 0, .slice none 0 0] 30), (b3, .cells #[nv n.p, nv n.r, nv n.c, E'] 30), (b2, .cells #[nv m.p, nv m.r, nv m.c, E] 30)] ++ (z.2.1 ++ []),
    fun z => z.1 ≤ m.r ∧ OwnN z.2.1 z.2.2 (z.1 * (m.c + n.c)) (jS m n z.1), fun z => m.r - z.1⟩ (0, [], .slice none 0 0) ⟨by omega, by rw [jS_zero, Nat.zero_mul]; exact OwnN.nil⟩ (by repeat first | exact trivial | refine ⟨rfl, ?_⟩) (by (first | exact HSub.refl _ | (repeat' first | exact HSub.nil _ | exact HSub.refl _ | refine HSub.at 0 rfl ?_ | refine HSub.at 1 rfl ?_ | refine HSub.at 2 rfl ?_ | refine HSub.at 3 rfl ?_ | refine HSub.at 4 rfl ?_ | refine HSub.at 5 rfl ?_ | refine HSub.at 6 rfl ?_ | refine HSub.at 7 rfl ?_))) (fun z hz => ?_)
  obtain ⟨i, N, vE⟩ := z
  obtain ⟨hin, hO⟩ := hz
  dsimp only at hin hO ⊢
  obtain ⟨Ao, co, rfl⟩ := hO.form
  have hic : i * m.c ≤ 160000 := Nat.mul_le_mul (show i ≤ 400 by omega) hbc
  have hic1 : (i + 1) * m.c ≤ 160400 := by rw [Nat.add_mul]; omega
  have hid : i * n.c ≤ 160000 := Nat.mul_le_mul (show i ≤ 400 by omega) hbc'
  have hid1 : (i + 1) * n.c ≤ 160400 := by rw [Nat.add_mul]; omega
  have hiw : i * (m.c + n.c) ≤ 320000 := Nat.mul_le_mul (show i ≤ 400 by omega) (show m.c + n.c ≤ 800 by omega)
  by_cases hi : i < m.r
  · have hi' : i < n.r := by omega
    (repeat' (first | refine JC.seq ?_ | refine JC.ops ?_ | refine JO.nil ?_ | refine JX.thenN ?_ | (apply r_move; (iterate 3 exact rfl)) | (apply r_assign; (iterate 3 exact rfl)) | (apply r_lss; (iterate 4 exact rfl); all_goals intro hc; all_goals try (exfalso; omega)) | refine JC.skip ?_ | refine JC.condT rfl ?_ | refine JC.block ?_))
    refine JC.opsDs [(b5, .cells #[nv m.p, nv m.r, nv (m.c + n.c), .slice Ao (i * (m.c + n.c)) co] 30), (b4, .cells #[iv 0, iv 0, iv 0, .slice none 0 0] 30), (b3, .cells #[nv n.p, nv n.r, nv n.c, E'] 30), (b2, .cells #[nv m.p, nv m.r, nv m.c, E] 30)] (by (first | exact HSub.refl _ | (repeat' first | exact HSub.nil _ | exact HSub.refl _ | refine HSub.at 0 rfl ?_ | refine HSub.at 1 rfl ?_ | refine HSub.at 2 rfl ?_ | refine HSub.at 3 rfl ?_ | refine HSub.at 4 rfl ?_ | refine HSub.at 5 rfl ?_ | refine HSub.at 6 rfl ?_ | refine HSub.at 7 rfl ?_))) ?_
    (repeat' (first | (apply r_move; (iterate 3 exact rfl)) | (apply r_fieldAddr; (iterate 3 exact rfl)) | (apply r_load; (iterate 4 exact rfl); (first | exact at0 | exact at1 | exact at2 | exact at3 | exact at4 | exact at5 | exact at6 | exact at7); exact rfl) | (apply r_add1; (iterate 4 exact rfl); omega) | (apply r_mulN; (iterate 4 exact rfl); (first | assumption | omega))))
    refine r_rowN rfl rfl rfl (WN.rd hE rfl []) rfl rfl (row_le hi) (fun v1 hv1 _ => ?_)
    (repeat' (first | (apply r_move; (iterate 3 exact rfl)) | (apply r_fieldAddr; (iterate 3 exact rfl)) | (apply r_load; (iterate 4 exact rfl); (first | exact at0 | exact at1 | exact at2 | exact at3 | exact at4 | exact at5 | exact at6 | exact at7); exact rfl) | (apply r_add1; (iterate 4 exact rfl); omega) | (apply r_mulN; (iterate 4 exact rfl); (first | assumption | omega))))
    refine r_rowN rfl rfl rfl (WN.rd hE' rfl []) rfl rfl (row_le hi') (fun v2 hv2 _ => ?_)
    skip
    refine r_appendNL (A := [_, _, _, _]) hO hv1 (by (repeat' first | exact HSub.nil _ | exact HSub.hd | exact HSub.in0 | exact HSub.refl _ | refine HSub.skip ?_ | refine HSub.skipN ?_)) rfl (by (first | exact HSub.refl _ | (repeat' first | exact HSub.nil _ | exact HSub.refl _ | refine HSub.at 0 rfl ?_ | refine HSub.at 1 rfl ?_ | refine HSub.at 2 rfl ?_ | refine HSub.at 3 rfl ?_ | refine HSub.at 4 rfl ?_ | refine HSub.at 5 rfl ?_ | refine HSub.at 6 rfl ?_ | refine HSub.at 7 rfl ?_))) rfl rfl rfl rfl (by omega) (fun v3 N' hO' => ?_)
    skip
    refine r_appendNL (A := [_, _, _, _]) hO' hv2 (by (repeat' first | exact HSub.nil _ | exact HSub.hd | exact HSub.in0 | exact HSub.refl _ | refine HSub.skip ?_ | refine HSub.skipN ?_)) rfl (by (first | exact HSub.refl _ | (repeat' first | exact HSub.nil _ | exact HSub.refl _ | refine HSub.at 0 rfl ?_ | refine HSub.at 1 rfl ?_ | refine HSub.at 2 rfl ?_ | refine HSub.at 3 rfl ?_ | refine HSub.at 4 rfl ?_ | refine HSub.at 5 rfl ?_ | refine HSub.at 6 rfl ?_ | refine HSub.at 7 rfl ?_))) rfl rfl rfl rfl (by omega) (fun v4 N'' hO'' => ?_)
    rw [jS_succ hl hl' hi hi', show i * (m.c + n.c) + m.c + n.c = (i + 1) * (m.c + n.c) by rw [Nat.add_mul]; omega] at hO''
    obtain ⟨A4, c4, rfl⟩ := hO''.form
    (repeat' (first | refine JC.ops ?_ | refine JO.nil ?_ | refine JX.thenN ?_ | (apply r_move; (iterate 3 exact rfl)) | (apply r_fieldAddr; (iterate 3 exact rfl)) | (apply r_add1; (iterate 4 exact rfl); omega) | (apply r_store; exact rfl; (first | exact trivial | exact ⟨rfl, rfl⟩); exact rfl; exact rfl; (first | exact at0 | exact at1 | exact at2 | exact at3 | exact at4 | exact at5 | exact at6 | exact at7); exact rfl; exact rfl; (first | exact Nat.le_of_ble_eq_true rfl | (simp; done) | omega)) | refine JX.blockN ?_))
    exact JX.roundH (i + 1, N'', _) ⟨by dsimp only; omega, hO''⟩ (by dsimp only; omega) (by repeat first | exact trivial | refine ⟨rfl, ?_⟩) (by (first | exact HSub.refl _ | (repeat' first | exact HSub.nil _ | exact HSub.refl _ | refine HSub.at 0 rfl ?_ | refine HSub.at 1 rfl ?_ | refine HSub.at 2 rfl ?_ | refine HSub.at 3 rfl ?_ | refine HSub.at 4 rfl ?_ | refine HSub.at 5 rfl ?_ | refine HSub.at 6 rfl ?_ | refine HSub.at 7 rfl ?_)))
  · (repeat' (first | refine JC.seq ?_ | refine JC.ops ?_ | refine JO.nil ?_ | refine JX.thenN ?_ | (apply r_loadN; (iterate 4 exact rfl); (first | exact at0 | exact at1 | exact at2 | exact at3 | exact at4 | exact at5 | exact at6 | exact at7); exact rfl) | (apply r_lss; (iterate 4 exact rfl); all_goals intro hc; all_goals try (exfalso; omega)) | (apply r_storeN; exact rfl; (first | exact trivial | exact ⟨rfl, rfl⟩); exact rfl; exact rfl; (first | exact at0 | exact at1 | exact at2 | exact at3 | exact at4 | exact at5 | exact at6 | exact at7); (iterate 3 exact rfl)) | refine JX.thenE ?_ | refine JC.exit ?_ | refine JC.ret ?_ | refine JC.condF rfl ?_ | refine JX.blockE ?_))
    have : i = m.r := by omega
    subst this
    rw [jS_end] at hO
    exact JX.retC 1 rfl rfl rfl (fun a w' st => ⟨st.kp, N, st.newOf rfl (by (repeat' first | exact HSub.nil _ | exact HSub.hd | exact HSub.in0 | exact HSub.refl _ | refine HSub.skip ?_ | refine HSub.skipN ?_)), fdOwnM.mk' hO⟩)


def oneM (p n : Nat) : NM := ⟨p, n, n, tab2 n n fun i j => if i = j then 1 else 0⟩
def oS (n k : Nat) : List Nat := tab2 n n fun i j => if i = j ∧ i < k then 1 else 0

theorem oS_zero (n : Nat) : oS n 0 = tab (n * n) fun _ => 0 := by
  unfold oS tab2
  exact tab_congr fun t _ => by simp
theorem oS_set {n k : Nat} (hk : k < n) : (oS n k).set (k * n + k) 1 = oS n (k + 1) := by
  unfold oS
  rw [tab2_set hk]
  refine tab2_congr fun a b _ _ => ?_
  by_cases h : a = k ∧ b = k
  · obtain ⟨rfl, rfl⟩ := h; simp
  · have e : (a = b ∧ a < k + 1) = (a = b ∧ a < k) := by simp; omega
    simp only [h, if_false, e]
theorem oS_end {p n k : Nat} (hk : n ≤ k) : oS n k = (oneM p n).e := by
  unfold oS
  show tab2 n n _ = tab2 n n fun i j => if i = j then 1 else 0
  refine tab2_congr fun a b ha _ => ?_
  have e : (a = b ∧ a < k) = (a = b) := by simp; omega
  simp only [e]
theorem Rt.one {p n : Nat} (hp : Pr p) (hn : n ≤ 400) : Rt (oneM p n) := ⟨hp, hn, hn, by simp [oneM], tab2_lt (r := n) (c := n) (p := p) (g := fun i j => if i = j then 1 else 0) fun i j _ _ => by
  have := hp.1
  show (if i = j then 1 else 0) < p
  split <;> omega⟩

set_option maxHeartbeats 2000000 in
theorem fdc_One (w : World) (p n : Nat) (hp : Pr p) (hn : n ≤ 400) :
    Calls Tryd.prog 11 #[.int .i64 p, .int .i64 n] w (Ret fun v w' => Kp [] w w' ∧ fdGivesM (oneM p n) w v w') := by
  have hrc := rc_le hn hn
  refine calls_of_S [] [] (by simp) [] Tryd.func11 rfl mixed (by kernel_rfl) Tryd.ntmps11 Tryd.results11 rfl ⟨by simp, by simp⟩ (by simp) ?_
  simp only [toS, textOps, toSOp, kindAt, kindOf, odAt, sopsAt, ordOf, zipF]
  (repeat' (first | refine JC.seq ?_ | refine JC.ops ?_ | refine JO.nil ?_ | refine JX.thenN ?_ | (apply r_move; (iterate 3 exact rfl)) | (apply r_allocZ; (iterate 3 exact rfl); intro _)))
  rename_i b4
  refine r_callA (A := [_]) (B := []) rfl trivial rfl rfl rfl (fun w hk _ => c_zero p n n hp hn hn w) fun w v w' _ _ _ hR => ?_
  obtain ⟨N, Eo, hN, rfl, hO⟩ := hR
  obtain ⟨Ao, co, rfl⟩ := hO.form
  refine ⟨N, hN, ?_⟩
  (repeat' (first | refine JC.seq ?_ | refine JC.ops ?_ | refine JO.nil ?_ | refine JX.thenN ?_ | (apply r_move; (iterate 3 exact rfl)) | (apply r_fieldAddr; (iterate 3 exact rfl)) | (apply r_load; (iterate 4 exact rfl); (first | exact at0 | exact at1 | exact at2 | exact at3 | exact at4 | exact at5 | exact at6 | exact at7); exact rfl) | (apply r_allocZ; (iterate 3 exact rfl); intro _) | (apply r_storeN; exact rfl; (first | exact trivial | exact ⟨rfl, rfl⟩); exact rfl; exact rfl; (first | exact at0 | exact at1 | exact at2 | exact at3 | exact at4 | exact at5 | exact at6 | exact at7); (iterate 3 exact rfl)) | refine JC.block ?_))
  rename_i b5
  refine JC.loopH (ι := Nat × SHeap) ⟨fun z => [(13, nv z.1), (12, nv n), (0, nv p), (1, nv n), (5, .pointer (some ⟨b5, 0, none⟩)), (4, .pointer (some ⟨b4, 0, none⟩))],
    fun z => [(b5, .cells #[nv p, nv n, nv n, .slice Ao (n * n) co] 30), (b4, .cells #[iv 0, iv 0, iv 0, .slice none 0 0] 30)] ++ (z.2 ++ []),
    fun z => z.1 ≤ n ∧ OwnN z.2 (.slice Ao (n * n) co) (n * n) (oS n z.1), fun z => n - z.1⟩ (0, N) ⟨by omega, by rw [oS_zero]; exact hO⟩ (by repeat first | exact trivial | refine ⟨rfl, ?_⟩) (by (first | exact HSub.refl _ | (repeat' first | exact HSub.nil _ | exact HSub.refl _ | refine HSub.at 0 rfl ?_ | refine HSub.at 1 rfl ?_ | refine HSub.at 2 rfl ?_ | refine HSub.at 3 rfl ?_ | refine HSub.at 4 rfl ?_ | refine HSub.at 5 rfl ?_ | refine HSub.at 6 rfl ?_ | refine HSub.at 7 rfl ?_))) (fun k hk => ?_)
  obtain ⟨k, N⟩ := k
  obtain ⟨hkn, hO⟩ := hk
  dsimp only at hkn hO ⊢
  by_cases hk : k < n
  · have hlt := fdidx_lt hk hk
    have hkk : k * n ≤ 160000 := Nat.mul_le_mul (show k ≤ 400 by omega) hn
    (repeat' (first | refine JC.seq ?_ | refine JC.ops ?_ | refine JO.nil ?_ | refine JX.thenN ?_ | (apply r_move; (iterate 3 exact rfl)) | (apply r_fieldAddr; (iterate 3 exact rfl)) | (apply r_assign; (iterate 3 exact rfl)) | (apply r_load; (iterate 4 exact rfl); (first | exact at0 | exact at1 | exact at2 | exact at3 | exact at4 | exact at5 | exact at6 | exact at7); exact rfl) | (apply r_idxN; (iterate 4 exact rfl); (first | assumption | exact WN.rd (by assumption) rfl [] | exact OwnN.rd (by assumption)); (first | assumption | omega)) | (apply r_addN; (iterate 4 exact rfl); omega) | (apply r_mulN; (iterate 4 exact rfl); (first | assumption | omega)) | (apply r_lss; (iterate 4 exact rfl); all_goals intro hc; all_goals try (exfalso; omega)) | refine JC.skip ?_ | refine JC.condT rfl ?_ | refine JC.block ?_))
    refine r_stN (A := [_, _]) (u := 1) hO rfl rfl (by first | trivial | exact ⟨rfl, rfl⟩) rfl rfl hlt (fun N' hO' => ?_)
    rw [oS_set hk] at hO'
    (repeat' (first | refine JC.ops ?_ | refine JO.nil ?_ | refine JX.thenN ?_ | (apply r_move; (iterate 3 exact rfl)) | (apply r_add1; (iterate 4 exact rfl); omega) | refine JX.blockN ?_))
    exact JX.roundH (k + 1, N') ⟨by dsimp only; omega, hO'⟩ (by dsimp only; omega) (by repeat first | exact trivial | refine ⟨rfl, ?_⟩) (by (first | exact HSub.refl _ | (repeat' first | exact HSub.nil _ | exact HSub.refl _ | refine HSub.at 0 rfl ?_ | refine HSub.at 1 rfl ?_ | refine HSub.at 2 rfl ?_ | refine HSub.at 3 rfl ?_ | refine HSub.at 4 rfl ?_ | refine HSub.at 5 rfl ?_ | refine HSub.at 6 rfl ?_ | refine HSub.at 7 rfl ?_)))
  · (repeat' (first | refine JC.seq ?_ | refine JC.ops ?_ | refine JO.nil ?_ | refine JX.thenN ?_ | (apply r_loadN; (iterate 4 exact rfl); (first | exact at0 | exact at1 | exact at2 | exact at3 | exact at4 | exact at5 | exact at6 | exact at7); exact rfl) | (apply r_lss; (iterate 4 exact rfl); all_goals intro hc; all_goals try (exfalso; omega)) | (apply r_storeN; exact rfl; (first | exact trivial | exact ⟨rfl, rfl⟩); exact rfl; exact rfl; (first | exact at0 | exact at1 | exact at2 | exact at3 | exact at4 | exact at5 | exact at6 | exact at7); (iterate 3 exact rfl)) | refine JX.thenE ?_ | refine JC.exit ?_ | refine JC.ret ?_ | refine JC.condF rfl ?_ | refine JX.blockE ?_))
    rw [oS_end (p := p) (by omega)] at hO
    exact JX.retC 1 rfl rfl rfl (fun a w' st => ⟨st.kp, N, st.newOf rfl (by (repeat' first | exact HSub.nil _ | exact HSub.hd | exact HSub.in0 | exact HSub.refl _ | refine HSub.skip ?_ | refine HSub.skipN ?_)), fdOwnM.mk' hO⟩)

set_option maxHeartbeats 2000000 in
theorem fdc_refOne (w : World) (p n : Nat) (hp : Pr p) (hn : n ≤ 400) :
    Calls Tryd.prog 12 #[.int .i64 p, .int .i64 n] w (Ret fun v w' => Kp [] w w' ∧ fdGivesM (oneM p n) w v w') := by
  have hrc := rc_le hn hn
  refine calls_of_S [] [] (by simp) [] Tryd.func12 rfl mixed (by kernel_rfl) Tryd.ntmps12 Tryd.results12 rfl ⟨by simp, by simp⟩ (by simp) ?_
  simp only [toS, textOps, toSOp, kindAt, kindOf, odAt, sopsAt, ordOf, zipF]
  (repeat' (first | refine JC.seq ?_ | refine JC.ops ?_ | refine JO.nil ?_ | refine JX.thenN ?_ | (apply r_move; (iterate 3 exact rfl)) | (apply r_allocZ; (iterate 3 exact rfl); intro _)))
  rename_i b4
  refine r_callA (A := [_]) (B := []) rfl trivial rfl rfl rfl (fun w hk _ => fdc_refZero p n n hp hn hn w) fun w v w' _ _ _ hR => ?_
  obtain ⟨N, Eo, hN, rfl, hO⟩ := hR
  obtain ⟨Ao, co, rfl⟩ := hO.form
  refine ⟨N, hN, ?_⟩
  (repeat' (first | refine JC.seq ?_ | refine JC.ops ?_ | refine JO.nil ?_ | refine JX.thenN ?_ | (apply r_assign; (iterate 3 exact rfl)) | (apply r_allocZ; (iterate 3 exact rfl); intro _) | (apply r_storeN; exact rfl; (first | exact trivial | exact ⟨rfl, rfl⟩); exact rfl; exact rfl; (first | exact at0 | exact at1 | exact at2 | exact at3 | exact at4 | exact at5 | exact at6 | exact at7); (iterate 3 exact rfl)) | refine JC.block ?_))
  rename_i b5
  refine JC.loopH (ι := Nat × SHeap) ⟨fun z => [(6, nv z.1), (0, nv p), (1, nv n), (5, .pointer (some ⟨b5, 0, none⟩)), (4, .pointer (some ⟨b4, 0, none⟩))],
    fun z => [(b5, .cells #[nv p, nv n, nv n, .slice Ao (n * n) co] 30), (b4, .cells #[iv 0, iv 0, iv 0, .slice none 0 0] 30)] ++ (z.2 ++ []),
    fun z => z.1 ≤ n ∧ OwnN z.2 (.slice Ao (n * n) co) (n * n) (oS n z.1), fun z => n - z.1⟩ (0, N) ⟨by omega, by rw [oS_zero]; exact hO⟩ (by repeat first | exact trivial | refine ⟨rfl, ?_⟩) (by (first | exact HSub.refl _ | (repeat' first | exact HSub.nil _ | exact HSub.refl _ | refine HSub.at 0 rfl ?_ | refine HSub.at 1 rfl ?_ | refine HSub.at 2 rfl ?_ | refine HSub.at 3 rfl ?_ | refine HSub.at 4 rfl ?_ | refine HSub.at 5 rfl ?_ | refine HSub.at 6 rfl ?_ | refine HSub.at 7 rfl ?_))) (fun k hk => ?_)
  obtain ⟨k, N⟩ := k
  obtain ⟨hkn, hO⟩ := hk
  dsimp only at hkn hO ⊢
  by_cases hk : k < n
  · have hlt := fdidx_lt hk hk
    have hkk : k * n ≤ 160000 := Nat.mul_le_mul (show k ≤ 400 by omega) hn
    (repeat' (first | refine JC.seq ?_ | refine JC.ops ?_ | refine JO.nil ?_ | refine JX.thenN ?_ | (apply r_move; (iterate 3 exact rfl)) | (apply r_fieldAddr; (iterate 3 exact rfl)) | (apply r_load; (iterate 4 exact rfl); (first | exact at0 | exact at1 | exact at2 | exact at3 | exact at4 | exact at5 | exact at6 | exact at7); exact rfl) | (apply r_idxN; (iterate 4 exact rfl); (first | assumption | exact WN.rd (by assumption) rfl [] | exact OwnN.rd (by assumption)); (first | assumption | omega)) | (apply r_addN; (iterate 4 exact rfl); omega) | (apply r_mulN; (iterate 4 exact rfl); (first | assumption | omega)) | (apply r_lss; (iterate 4 exact rfl); all_goals intro hc; all_goals try (exfalso; omega)) | refine JC.skip ?_ | refine JC.condT rfl ?_ | refine JC.block ?_))
    refine r_stN (A := [_, _]) (u := 1) hO rfl rfl (by first | trivial | exact ⟨rfl, rfl⟩) rfl rfl hlt (fun N' hO' => ?_)
    rw [oS_set hk] at hO'
    (repeat' (first | refine JC.ops ?_ | refine JO.nil ?_ | refine JX.thenN ?_ | (apply r_move; (iterate 3 exact rfl)) | (apply r_assign; (iterate 3 exact rfl)) | (apply r_add1; (iterate 4 exact rfl); omega) | refine JX.blockN ?_))
    exact JX.roundH (k + 1, N') ⟨by dsimp only; omega, hO'⟩ (by dsimp only; omega) (by repeat first | exact trivial | refine ⟨rfl, ?_⟩) (by (first | exact HSub.refl _ | (repeat' first | exact HSub.nil _ | exact HSub.refl _ | refine HSub.at 0 rfl ?_ | refine HSub.at 1 rfl ?_ | refine HSub.at 2 rfl ?_ | refine HSub.at 3 rfl ?_ | refine HSub.at 4 rfl ?_ | refine HSub.at 5 rfl ?_ | refine HSub.at 6 rfl ?_ | refine HSub.at 7 rfl ?_)))
  · (repeat' (first | refine JC.seq ?_ | refine JC.ops ?_ | refine JO.nil ?_ | refine JX.thenN ?_ | (apply r_move; (iterate 3 exact rfl)) | (apply r_fieldAddr; (iterate 3 exact rfl)) | (apply r_load; (iterate 4 exact rfl); (first | exact at0 | exact at1 | exact at2 | exact at3 | exact at4 | exact at5 | exact at6 | exact at7); exact rfl) | (apply r_loadN; (iterate 4 exact rfl); (first | exact at0 | exact at1 | exact at2 | exact at3 | exact at4 | exact at5 | exact at6 | exact at7); exact rfl) | (apply r_lss; (iterate 4 exact rfl); all_goals intro hc; all_goals try (exfalso; omega)) | (apply r_storeN; exact rfl; (first | exact trivial | exact ⟨rfl, rfl⟩); exact rfl; exact rfl; (first | exact at0 | exact at1 | exact at2 | exact at3 | exact at4 | exact at5 | exact at6 | exact at7); (iterate 3 exact rfl)) | refine JX.thenE ?_ | refine JC.exit ?_ | refine JC.ret ?_ | refine JC.condF rfl ?_ | refine JX.blockE ?_))
    rw [oS_end (p := p) (by omega)] at hO
    exact JX.retC 1 rfl rfl rfl (fun a w' st => ⟨st.kp, N, st.newOf rfl (by (repeat' first | exact HSub.nil _ | exact HSub.hd | exact HSub.in0 | exact HSub.refl _ | refine HSub.skip ?_ | refine HSub.skipN ?_)), fdOwnM.mk' hO⟩)


section
variable {p : Nat} [NeZero p]

def fi (p : Nat) [NeZero p] (x : Nat) : Fin p := Fin.ofNat p x

theorem fi_val (x : Nat) : (fi p x).val = x % p := rfl
theorem fi_mod (x : Nat) : fi p (x % p) = fi p x := by apply Fin.ext; simp only [fi_val, Nat.mod_mod]
theorem fi_add (x y : Nat) : fi p (x + y) = fi p x + fi p y := by
  apply Fin.ext; rw [Fin.val_add]; simp only [fi_val]; rw [Nat.add_mod]
theorem fi_mul (x y : Nat) : fi p (x * y) = fi p x * fi p y := by
  apply Fin.ext; rw [Fin.val_mul]; simp only [fi_val]; rw [Nat.mul_mod]
theorem fi_zero : fi p 0 = 0 := rfl
theorem fi_one : fi p 1 = 1 := rfl
theorem fi_p : fi p p = 0 := by apply Fin.ext; rw [fi_val, Nat.mod_self]; rfl
theorem fi_sub {n : Nat} (h : n ≤ p) : fi p (p - n) = - fi p n := by
  have h1 : fi p (p - n) + fi p n = 0 := by rw [← fi_add, Nat.sub_add_cancel h, fi_p]
  grind
end

theorem Pr.nz {p : Nat} (hp : Pr p) : NeZero p := ⟨by have := hp.1; omega⟩
def invN (p n : Nat) : Nat := n ^ (p - 2) % p
theorem invN_lt {p n : Nat} (hp : Pr p) : invN p n < p := Nat.mod_lt _ (by have := hp.1; omega)
theorem invN_mul {p n : Nat} (hp : Pr p) (h0 : 0 < n) (hn : n < p) : invN p n * n % p = 1 := by
  have h1 := inv_mul hp h0 hn
  rw [← Nat.mod_mul_mod]
  unfold invN
  rw [Nat.mod_mod, Nat.mod_mul_mod]
  exact h1
theorem fi_inv {p n : Nat} [NeZero p] (hp : Pr p) (h0 : 0 < n) (hn : n < p) : fi p (invN p n) * fi p n = 1 := by
  rw [← fi_mul, ← fi_mod, invN_mul hp h0 hn, fi_one]
def pvN (p k i j : Nat) (g : Nat → Nat → Nat) : Nat → Nat → Nat := fun a b =>
  if a = k then g i b * invN p (g i j) % p
  else ((if a = i then g k b else g a b) + (p - (if a = i then g k j else g a j)) * (g i b * invN p (g i j) % p)) % p

def fndR (xs : List Nat) (c j : Nat) : Nat → Nat → Nat
  | 0, i => i
  | f + 1, i => if ent c xs i j = 0 then fndR xs c j f (i + 1) else i

theorem fndR_none {xs : List Nat} {c j : Nat} : ∀ {f i : Nat}, (∀ t, i ≤ t → t < i + f → ent c xs t j = 0) → fndR xs c j f i = i + f
  | 0, i, _ => rfl
  | f + 1, i, h => by
    rw [fndR, if_pos (h i (Nat.le_refl _) (by omega)), fndR_none (fun t h1 h2 => h t (by omega) (by omega))]
    omega
theorem fndR_some {xs : List Nat} {c j t : Nat} : ∀ {f i : Nat}, i ≤ t → t < i + f → (∀ s, i ≤ s → s < t → ent c xs s j = 0) → ent c xs t j ≠ 0 → fndR xs c j f i = t
  | 0, i, h1, h2, _, _ => by omega
  | f + 1, i, h1, h2, h3, h4 => by
    rw [fndR]
    by_cases hi : i = t
    · subst hi; rw [if_neg h4]
    · rw [if_pos (h3 i (Nat.le_refl _) (by omega)), fndR_some (by omega) (by omega) (fun s a b => h3 s (by omega) b) h4]
theorem fndR_spec {xs : List Nat} {c j : Nat} : ∀ (f i : Nat), (fndR xs c j f i = i + f ∧ ∀ t, i ≤ t → t < i + f → ent c xs t j = 0) ∨ (i ≤ fndR xs c j f i ∧ fndR xs c j f i < i + f ∧ ent c xs (fndR xs c j f i) j ≠ 0)
  | 0, i => .inl ⟨rfl, fun t _ _ => by omega⟩
  | f + 1, i => by
    rw [fndR]
    by_cases h : ent c xs i j = 0
    · rw [if_pos h]
      rcases fndR_spec f (i + 1) with ⟨h1, h2⟩ | ⟨h1, h2, h3⟩
      · refine .inl ⟨by rw [h1]; omega, fun t a b => ?_⟩
        by_cases ht : t = i
        · subst ht; exact h
        · exact h2 t (by omega) (by omega)
      · exact .inr ⟨by omega, by omega, h3⟩
    · rw [if_neg h]; exact .inr ⟨Nat.le_refl _, by omega, h⟩

def redTo (p r c : Nat) (xs : List Nat) : Nat → List Nat × List Nat
  | 0 => (xs, [])
  | j + 1 =>
    let s := redTo p r c xs j
    let i := fndR s.1 c j (r - s.2.length) s.2.length
    if i < r then (tab2 r c (pvN p s.2.length i j (ent c s.1)), s.2 ++ [j]) else s

theorem redTo_none {p r c j : Nat} {xs : List Nat} (hk : (redTo p r c xs j).2.length ≤ r) (h : ∀ i, (redTo p r c xs j).2.length ≤ i → i < r → ent c (redTo p r c xs j).1 i j = 0) : redTo p r c xs (j + 1) = redTo p r c xs j := by
  rw [redTo]
  rw [fndR_none (fun t h1 h2 => h t h1 (by omega)), if_neg (by omega)]
theorem redTo_some {p r c j i : Nat} {xs : List Nat} (hi : (redTo p r c xs j).2.length ≤ i) (hr : i < r) (h : ∀ t, (redTo p r c xs j).2.length ≤ t → t < i → ent c (redTo p r c xs j).1 t j = 0) (h0 : ent c (redTo p r c xs j).1 i j ≠ 0) :
    redTo p r c xs (j + 1) = (tab2 r c (pvN p (redTo p r c xs j).2.length i j (ent c (redTo p r c xs j).1)), (redTo p r c xs j).2 ++ [j]) := by
  rw [redTo]
  rw [fndR_some hi (by omega) h h0, if_pos hr]

def mxL (p : Nat) [NeZero p] (c : Nat) (xs : List Nat) : Mx p := fun i j => if j < c then fi p (ent c xs i j) else 0

theorem mxL_in {p : Nat} [NeZero p] {c i j : Nat} {xs : List Nat} (hj : j < c) : mxL p c xs i j = fi p (ent c xs i j) := if_pos hj
theorem mxL_out {p : Nat} [NeZero p] {c i j : Nat} {xs : List Nat} (hj : c ≤ j) : mxL p c xs i j = 0 := if_neg (by omega)

theorem fdRed.congr {p : Nat} [NeZero p] {r c k : Nat} {e e' : Mx p} {pv : Nat → Nat} (h : fdRed r c e k pv) (he : ∀ i, i < r → ∀ j, j < c → e i j = e' i j) : fdRed r c e' k pv :=
  ⟨h.kr, h.inc, h.lt, fun i hi => by rw [← he i (Nat.lt_of_lt_of_le hi h.kr) _ (h.lt i hi)]; exact h.one i hi,
    fun i i' hi hi' hne => by rw [← he i' hi' _ (h.lt i hi)]; exact h.col i i' hi hi' hne,
    fun i j hi hj => by rw [← he i (Nat.lt_of_lt_of_le hi h.kr) j (Nat.lt_trans hj (h.lt i hi))]; exact h.left i j hi hj,
    fun i j h1 h2 h3 => by rw [← he i h2 j h3]; exact h.rest i j h1 h2 h3⟩
theorem fdRed.pvc {p : Nat} [NeZero p] {r c k : Nat} {e : Mx p} {pv pv' : Nat → Nat} (h : fdRed r c e k pv) (he : ∀ i, i < k → pv i = pv' i) : fdRed r c e k pv' :=
  ⟨h.kr, fun i i' a b => by rw [← he i (by omega), ← he i' b]; exact h.inc i i' a b, fun i hi => by rw [← he i hi]; exact h.lt i hi, fun i hi => by rw [← he i hi]; exact h.one i hi,
    fun i i' hi hi' hne => by rw [← he i hi]; exact h.col i i' hi hi' hne, fun i j hi hj => h.left i j hi (by rw [he i hi]; exact hj), h.rest⟩

structure Els (p r c : Nat) (xs : List Nat) : Prop where
  len : xs.length = r * c
  lt : ∀ x ∈ xs, x < p

theorem Els.ent {p r c : Nat} {xs : List Nat} (h : Els p r c xs) (hp : 0 < p) (i j : Nat) : ent c xs i j < p := by
  unfold Go.Proofs.YtdoogoglfbohaaaDoor.ent
  rcases Nat.lt_or_ge (i * c + j) xs.length with hi | hi
  · exact h.lt _ (mem_getD hi)
  · simp only [List.getD, List.getElem?_eq_none hi, Option.getD_none]; exact hp

theorem pvN_lt {p k i j : Nat} {g : Nat → Nat → Nat} (hp : 0 < p) (a b : Nat) : pvN p k i j g a b < p := by
  unfold pvN
  split
  · exact Nat.mod_lt _ hp
  · exact Nat.mod_lt _ hp

theorem fi_pvN {p r c k i j : Nat} [NeZero p] {xs : List Nat} (h : Els p r c xs) (hp : Pr p) (hj : j < c) (a b : Nat) (ha : a < r) :
    mxL p c (tab2 r c (pvN p k i j (ent c xs))) a b = pvt k i j (fi p (invN p (ent c xs i j))) (mxL p c xs) a b := by
  have hp0 : 0 < p := by have := hp.1; omega
  have hle : ∀ a j, ent c xs a j ≤ p := fun a j => Nat.le_of_lt (h.ent hp0 a j)
  by_cases hb : b < c
  · rw [mxL_in hb, ent_tab2 ha hb]
    unfold pvN pvt
    by_cases h1 : a = k
    · rw [if_pos h1, if_pos h1, fi_mod, fi_mul, mxL_in hb]; grind
    · rw [if_neg h1, if_neg h1, fi_mod, fi_add, fi_mul, fi_mod, fi_mul]
      by_cases h2 : a = i
      · simp only [if_pos h2]
        rw [fi_sub (hle k j), mxL_in hb, mxL_in hj, mxL_in hb]; grind
      · simp only [if_neg h2]
        rw [fi_sub (hle a j), mxL_in hb, mxL_in hj, mxL_in hb]; grind
  · rw [mxL_out (by omega)]
    unfold pvt
    simp only [mxL_out (show c ≤ b by omega)]
    split
    · grind
    · split <;> grind

structure RedOk (p r c : Nat) [NeZero p] (xs : List Nat) (j : Nat) (s : List Nat × List Nat) : Prop where
  els : Els p r c s.1
  red : fdRed r j (mxL p c s.1) s.2.length (fun i => s.2.getD i 0)
  req : REq r (mxL p c xs) (mxL p c s.1)

theorem redTo_ok {p r c : Nat} [NeZero p] {xs : List Nat} (hp : Pr p) (h : Els p r c xs) : ∀ j, j ≤ c → RedOk p r c xs j (redTo p r c xs j)
  | 0, _ => ⟨h, fdRed.start r _ _, REq.refl _ _⟩
  | j + 1, hj => by
    have hp0 : 0 < p := by have := hp.1; omega
    obtain ⟨h1, h2, h3⟩ := redTo_ok hp h j (by omega)
    have hk := h2.kr
    rcases fndR_spec (xs := (redTo p r c xs j).1) (c := c) (j := j) (r - (redTo p r c xs j).2.length) (redTo p r c xs j).2.length with ⟨h4, h5⟩ | ⟨h4, h5, h6⟩
    · rw [redTo_none hk (fun i a b => h5 i a (by omega))]
      exact ⟨h1, h2.none (fun i a b => by rw [mxL_in (by omega), h5 i a (by omega)]; exact fi_zero), h3⟩
    · rw [redTo]
      rw [if_pos (by omega)]
      generalize fndR (redTo p r c xs j).1 c j (r - (redTo p r c xs j).2.length) (redTo p r c xs j).2.length = i at h4 h5 h6 ⊢
      generalize redTo p r c xs j = s at *
      have hx := fi_inv hp (Nat.pos_of_ne_zero h6) (h1.ent hp0 i j)
      have hcg : ∀ a, a < r → ∀ b, pvt s.2.length i j (fi p (invN p (ent c s.1 i j))) (mxL p c s.1) a b = mxL p c (tab2 r c (pvN p s.2.length i j (ent c s.1))) a b := fun a ha b => (fi_pvN h1 hp (by omega) a b ha).symm
      refine ⟨⟨tab2_len _ _ _, tab2_lt (fun a b _ _ => pvN_lt hp0 a b)⟩, ?_, ?_⟩
      · have := h2.some h4 (by omega) (x := fi p (invN p (ent c s.1 i j))) (by rw [mxL_in (by omega)]; exact hx)
        have := (this.congr (fun a ha b _ => hcg a ha b)).pvc (pv' := fun t => (s.2 ++ [j]).getD t 0) (fun t ht => by
          rw [getD_app]
          by_cases e : t = s.2.length
          · subst e; simp
          · rw [if_neg e, if_pos (by omega)])
        simpa using this
      · exact (h3.trans (REq.pvt (by omega) (by omega) (y := mxL p c s.1 i j) (by rw [mxL_in (by omega)]; grind) _)).congr hcg

def echM (m : NM) : NM := ⟨m.p, m.r, m.c, (redTo m.p m.r m.c m.e m.c).1⟩
def pivM (m : NM) : List Nat := (redTo m.p m.r m.c m.e m.c).2


theorem JC.label {c : Cx} {Q : Exit → Act → World → Prop} {F : SFrame} {H : SHeap} {l : Nat} (h : JX c Q .normal F H) : JC c Q (.raw (.label l)) F H := ⟨fun a w st => wp_label (h.h a w st)⟩

theorem JX.end0 {c : Cx} {R : Value → World → Prop} {F : SFrame} {H : SHeap} (hR : ∀ a w, St c F H a w → R (.tuple #[]) w) : JX c (endPost c.P #[] (Ret R)) .normal F H :=
  JX.end' [] trivial hR

theorem HSub.segH {N r B : SHeap} (h : HSub r B) : HSub (N ++ r) (N ++ B) := by
  obtain ⟨l, hl⟩ := h
  exact ⟨l, by rw [List.append_assoc]; exact hl.append_left N⟩

def InW (N : SHeap) (w : World) : Prop := ∀ p ∈ N, w.heap[p.1]? = some p.2

section
variable {c : Cx} {Q : Exit → Act → World → Prop} {m : Mode} {F : SFrame} {H : SHeap} {r : List SOp} {g : Option (Option Tmp × Bool)} {ns : Bool} {d : Tmp} {ty t t' : TypeId} {x y : Operand}

theorem r_seqR {op : Op} {v : Value} {dd : Option Tmp} (hm : m.mayCall ns r) (hd : dstOk c.n dd = true) (hg : guardF F g = some true) (hr : ∀ a w, FrOK c.n F a → Src c H w → (execOp a.eval ⟨dd, op, ty, "", #[], none⟩).run c.P w = .ok (.value v) w)
    (h : JO c Q m r (putF F dd v) H) : JO c Q m (⟨dd, op, ty, g, .seq, ns⟩ :: r) F H := by
  refine ⟨⟨hd, .inr ⟨hg, fun a w st hs => ?_⟩⟩⟩
  unfold Oper.wp SOp.oper
  rw [hr a w st.fr ⟨st.kp, st.hs⟩]
  exact ⟨⟨Nat.le_refl _, fun _ _ _ _ => rfl⟩, _, H, m, st.put v hd, fun _ h => .inl h, Mode.after_call (Kp.refl _ _) hs hm, h.h⟩

theorem r_ldSeq {b o : Nat} (k : Nat) {cs : Array Value} {T : TypeId} {fz : Nat × Nat} {v : Value} [T1 c.P t] (hm : m.mayCall ns r) (hd : dstOk c.n (some d) = true) (hg : guardF F g = some true) (hx : ev F x = some (.pointer (some ⟨b, o, none⟩)))
    (hb : H[k]? = some (b, .cells cs T fz)) (hv : cs[o]? = some v) (h : JO c Q m r ((d, v) :: F) H) : JO c Q m (⟨some d, .load t x, ty, g, .seq, ns⟩ :: r) F H :=
  r_seqR hm hd hg (fun a w fr hs => by simp only [execOp, fr.ev hx, Sem.run_bind, run_load1 (src_cell hs hb hv), Result.andThen_ok, Sem.run_pure]) h

theorem r_callOL {A N B Hs : SHeap} {f : FuncId} {args : Array Operand} {ats : Array TypeId} {vs : List Value} {R : World → Value → World → Prop} {dd : Option Tmp} [TF c.P f] (hH : H = A ++ (N ++ B)) (hHs : HSub Hs (A ++ B)) (hd : dstOk c.n dd = true) (hg : guardF F g = some true) (ha : evArgs F args.toList = some vs)
    (hc : ∀ w, Kp c.M c.w0 w → Hsat H w → Calls c.P f vs.toArray w (Ret fun v w' => Kp (keys N) w w' ∧ R w v w'))
    (h : ∀ w v w', Kp c.M c.w0 w → Hsat H w → Kp (keys N) w w' → R w v w' → ∃ N', keys N' = keys N ∧ InW N' w' ∧ JO c Q (.draw Hs true) r (putF F dd v) (A ++ (N' ++ B))) :
    JO c Q (.draw Hs true) (⟨dd, .call ⟨.value (.func f), args, ats⟩, ty, g, .seq, ns⟩ :: r) F H := by
  subst hH
  refine ⟨⟨hd, .inr ⟨hg, fun a w st hs => ?_⟩⟩⟩
  unfold Oper.wp SOp.oper
  rw [evArgs_run st.fr ha]
  refine Calls.mono (hc w st.kp st.hs) fun e w' he => ?_
  cases e with
  | panicked ch => exact he.elim
  | outgrown => exact he.elim
  | returned v =>
    obtain ⟨hk, hR⟩ := he
    obtain ⟨N', hkeys, hb, hj⟩ := h w v w' st.kp st.hs hk hR
    have hp : (A ++ (N ++ B)).Perm ((A ++ B) ++ N) := (perm_mid A N B).symm
    have hnd := (st.perm hp).hs.nd
    have hnd0 := hnd
    rw [List.map_append, List.nodup_append] at hnd
    obtain ⟨st', hstep, hkk⟩ := turn_step (N' := N') st hp (by have := hnd.2.1; unfold keys at hkeys; rw [hkeys]; exact this) hb (fun k hk' => .inl (hkeys ▸ hk')) (fun k h1 h2 => hk.block k h1 h2) hk.size hk.os hk.tape hk.output
    have hAB : Hsat (A ++ B) w' := by
      have h0 : Hsat (A ++ B) w := (HSub.sub (List.sublist_append_left (A ++ B) N)).hsat (st.perm hp).hs
      exact h0.kp hk fun p hp' hpk => hnd.2.2 p.1 (List.mem_map.2 ⟨p, hp', rfl⟩) p.1 hpk rfl
    refine ⟨hstep, _, _, .draw Hs true, (st'.perm (perm_mid A N' B)).put v hd, fun k hk' => hkk k ?_, ⟨rfl, fun _ => ⟨rfl, hHs.hsat hAB⟩, fun _ => rfl, .inl rfl⟩, hj.h⟩
    obtain ⟨q, hq, rfl⟩ := List.mem_map.1 hk'
    exact List.mem_map.2 ⟨q, (perm_mid A N' B).mem_iff.2 hq, rfl⟩

def rowC (xs : List Nat) (rest : List Value) : Array Value := ⟨xs.map nv ++ rest⟩

theorem rowC_get {xs : List Nat} {rest : List Value} {o : Nat} (ho : o < xs.length) : (rowC xs rest)[o]? = some (nv (xs.getD o 0)) := by
  have h1 : (rowC xs rest)[o]? = (xs.map nv ++ rest)[o]? := by simp [rowC]
  rw [h1, List.getElem?_append_left (by simpa using ho), List.getElem?_map, gD_lt (d := 0) ho]
  rfl
theorem rowC_set {xs : List Nat} {rest : List Value} {o u : Nat} (ho : o < xs.length) : (rowC xs rest).setIfInBounds o (nv u) = rowC (xs.set o u) rest := by
  apply Array.ext'
  simp [rowC, List.set_append, ho, List.map_set]
theorem rowC_size (xs : List Nat) (rest : List Value) : (rowC xs rest).size = xs.length + rest.length := by simp [rowC]

theorem r_ldB {b o : Nat} (k : Nat) {xs : List Nat} {rest : List Value} {T : TypeId} {fz : Nat × Nat} [T1 c.P t] (hd : dstOk c.n (some d) = true) (hg : guardF F g = some true) (hx : ev F x = some (.pointer (some ⟨b, o, none⟩))) (hl : m.live = true)
    (hb : (m.src H)[k]? = some (b, .cells (rowC xs rest) T fz)) (ho : o < xs.length) (h : JO c Q m r ((d, nv (xs.getD o 0)) :: F) H) : JO c Q m (⟨some d, .load t x, ty, g, .ld, ns⟩ :: r) F H :=
  r_load k hd hg hx hl hb (rowC_get ho) h
theorem r_ldBSeq {b o : Nat} (k : Nat) {xs : List Nat} {rest : List Value} {T : TypeId} {fz : Nat × Nat} [T1 c.P t] (hm : m.mayCall ns r) (hd : dstOk c.n (some d) = true) (hg : guardF F g = some true) (hx : ev F x = some (.pointer (some ⟨b, o, none⟩)))
    (hb : H[k]? = some (b, .cells (rowC xs rest) T fz)) (ho : o < xs.length) (h : JO c Q m r ((d, nv (xs.getD o 0)) :: F) H) : JO c Q m (⟨some d, .load t x, ty, g, .seq, ns⟩ :: r) F H :=
  r_ldSeq k hm hd hg hx hb (rowC_get ho) h
theorem r_stB {b o u : Nat} (k : Nat) {xs : List Nat} {rest : List Value} {T : TypeId} [T1 c.P t] (hg : guardF F g = some true) (hm : m.mayStore ns r) (hx : ev F x = some (.pointer (some ⟨b, o, none⟩))) (hy : ev F y = some (nv u))
    (hb : H[k]? = some (b, .cells (rowC xs rest) T (0, 0))) (ho : o < xs.length) (h : JO c Q m.spent r F (H.set k (b, .cells (rowC (xs.set o u) rest) T (0, 0)))) :
    JO c Q m (⟨none, .store t x y, ty, g, .seq, ns⟩ :: r) F H :=
  r_store k hg hm hx hy hb rfl rfl (by rw [rowC_size]; omega) (by rw [rowC_set ho]; exact h)
theorem r_idxB {e : TypeId} {b o len cap j : Nat} {k : IntKind} [TSl c.P t e] [TSz c.P e 1] (hd : dstOk c.n (some d) = true) (hg : guardF F g = some true) (hx : ev F x = some (.slice (some ⟨b, o, none⟩) len cap)) (hy : ev F y = some (.int k j)) (hj : j < len)
    (h : JO c Q m r ((d, .pointer (some ⟨b, o + j, none⟩)) :: F) H) : JO c Q m (⟨some d, .indexAddr t x y, ty, g, .mov, ns⟩ :: r) F H :=
  r_index1 hd hg hx (fun _ => rfl) hy hj h
theorem r_sliceB {e : TypeId} {b o len cap l h' : Nat} {lo hi : Operand} [TSl c.P t e] [TSz c.P e 1] (hd : dstOk c.n (some d) = true) (hg : guardF F g = some true)
    (hx : ev F x = some (.slice (some ⟨b, o, none⟩) len cap)) (hlo : ev F lo = some (nv l)) (hhi : ev F hi = some (nv h')) (hlh : l < h') (hhl : h' ≤ len) (hlc : len ≤ cap)
    (h : JO c Q m r ((d, (.slice (some ⟨b, o + l, none⟩) (h' - l) (cap - l))) :: F) H) : JO c Q m (⟨some d, .slice t x (some lo) (some hi) none, ty, g, .mov, ns⟩ :: r) F H :=
  r_slice (b := b) (o := o) hd hg hx (fun _ => rfl) hlo rfl (.inl rfl) hhi rfl (.inl rfl) (by omega) hhl hlc (fun A' hA' => by
    obtain rfl := hA' hlh
    rw [Nat.mul_one]
    exact h)

theorem r_ldW {b o : Nat} {v : Value} [T1 c.P t] (hd : dstOk c.n (some d) = true) (hg : guardF F g = some true) (hx : ev F x = some (.pointer (some ⟨b, o, none⟩))) (hl : m.live = true)
    (hc : c.w0.cell? ⟨b, o, none⟩ = some v) (hm : b ∉ c.M) (h : JO c Q m r ((d, v) :: F) H) : JO c Q m (⟨some d, .load t x, ty, g, .ld, ns⟩ :: r) F H := r_loadO hd hg hx hl hc hm h

end

theorem OwnN.named {N : SHeap} {v : Value} {n : Nat} {xs : List Nat} (h : OwnN N v n xs) (hn : 0 < n) : ∃ b cap rest, v = .slice (some ⟨b, 0, none⟩) n cap ∧ N = [(b, .cells (rowC xs rest) 3 (0, 0))] ∧ n ≤ cap ∧ rest.length = cap - n ∧ cap ≤ maxLen := by
  obtain ⟨hl, ⟨rfl, rfl, rfl⟩ | ⟨b, cap, cur, rfl, rfl, h2, h3, h4, h5⟩⟩ := h
  · omega
  · refine ⟨b, cap, cur.toList.drop n, rfl, ?_, h2, by simp [h4], h3⟩
    have : cur = rowC xs (cur.toList.drop n) := by
      apply Array.ext'
      show cur.toList = xs.map nv ++ cur.toList.drop n
      rw [Nat.mul_one] at h5
      rw [← h5, List.take_append_drop]
    rw [← this]
theorem OwnN.ofNamed {b cap n : Nat} {xs : List Nat} {rest : List Value} (hl : xs.length = n) (hn : n ≤ cap) (hr : rest.length = cap - n) (hc : cap ≤ maxLen) : OwnN [(b, .cells (rowC xs rest) 3 (0, 0))] (.slice (some ⟨b, 0, none⟩) n cap) n xs := by
  refine ⟨by simp [hl], .inr ⟨b, cap, _, rfl, rfl, hn, hc, by rw [rowC_size]; omega, ?_⟩⟩
  show (xs.map nv ++ rest).take (n * 1) = xs.map nv
  rw [Nat.mul_one, List.take_append_of_le_length (by simp [hl])]
  exact List.take_of_length_le (by simp [hl])


def rdC (p r c : Nat) (E : Value) (ov : List Nat) : Array Value := ⟨nv p :: nv r :: nv c :: E :: ov.map nv⟩

theorem rdC0 (p r c : Nat) (E : Value) (ov : List Nat) : (rdC p r c E ov)[0]? = some (nv p) := by simp [rdC]
theorem rdC1 (p r c : Nat) (E : Value) (ov : List Nat) : (rdC p r c E ov)[1]? = some (nv r) := by simp [rdC]
theorem rdC2 (p r c : Nat) (E : Value) (ov : List Nat) : (rdC p r c E ov)[2]? = some (nv c) := by simp [rdC]
theorem rdC3 (p r c : Nat) (E : Value) (ov : List Nat) : (rdC p r c E ov)[3]? = some E := by simp [rdC]
theorem rdC4 {p r c : Nat} {E : Value} {ov : List Nat} {n : Nat} (h : n < ov.length) : (rdC p r c E ov)[4 + n]? = some (nv (ov.getD n 0)) := by
  have h1 : (rdC p r c E ov)[4 + n]? = (nv p :: nv r :: nv c :: E :: ov.map nv)[4 + n]? := by simp [rdC]
  rw [h1, show 4 + n = n + 1 + 1 + 1 + 1 by omega]
  simp only [List.getElem?_cons_succ, List.getElem?_map, gD_lt (d := 0) h]
  rfl
theorem rdC_set {p r c : Nat} {E : Value} {ov : List Nat} {n u : Nat} : (rdC p r c E ov).setIfInBounds (4 + n) (nv u) = rdC p r c E (ov.set n u) := by
  apply Array.ext'
  rw [Array.toList_setIfInBounds, show 4 + n = n + 1 + 1 + 1 + 1 by omega]
  simp [rdC, List.map_set]
theorem rdC_size (p r c : Nat) (E : Value) (ov : List Nat) : (rdC p r c E ov).size = ov.length + 4 := by simp [rdC]

def IsR (w : World) (b p r c : Nat) (E : Value) (ov : List Nat) : Prop := w.heap[b]? = some (.cells (rdC p r c E ov) 93 (0, 0))

set_option maxHeartbeats 1000000 in
theorem c_row (w : World) (b i p r c bE n cap : Nat) (ov : List Nat) (hR : IsR w b p r c (.slice (some ⟨bE, 0, none⟩) n cap) ov) (hi : (i + 1) * c ≤ n) (hc : 0 < c) (hn : n ≤ cap) (hn' : n ≤ 1000000) :
    Calls Tryd.prog 69 #[.pointer (some ⟨b, 0, none⟩), nv i] w (Ret fun v w' => Kp [] w w' ∧ v = .slice (some ⟨bE, i * c, none⟩) c (cap - i * c)) := by
  have h2 : w.cell? ⟨b, 2, none⟩ = some (nv c) := cell_of_blk hR (rdC2 _ _ _ _ _)
  have h3 : w.cell? ⟨b, 3, none⟩ = some (.slice (some ⟨bE, 0, none⟩) n cap) := cell_of_blk hR (rdC3 _ _ _ _ _)
  have e1 : (i + 1) * c = i * c + c := by rw [Nat.add_mul, Nat.one_mul]
  have e2 : i + 1 ≤ (i + 1) * c := Nat.le_mul_of_pos_right _ hc
  refine calls_of_S [⟨1, 1, [], []⟩] [] (by simp) [] Tryd.func69 rfl mixed (by kernel_rfl) Tryd.ntmps69 Tryd.results69 rfl ⟨by simp, by simp⟩ (by simp) ?_
  simp only [toS, textOps, toSOp, kindAt, kindOf, odAt, sopsAt, ordOf, zipF]
  (repeat' (first | refine JC.seq ?_ | refine JC.ops ?_ | refine JC.opsD ?_ | refine JO.nil ?_ | refine JX.thenN ?_ | (apply r_move; (iterate 3 exact rfl)) | (apply r_fieldAddr; (iterate 3 exact rfl)) | (apply r_assign; (iterate 3 exact rfl)) | (apply r_ldW; (iterate 4 exact rfl); assumption; (first | assumption | exact (by simp))) | (apply r_add1; (iterate 4 exact rfl); omega) | (apply r_mulN; (iterate 4 exact rfl); (first | assumption | omega)) | (apply r_nilCheck; (iterate 3 exact rfl))))
  refine r_sliceB rfl rfl rfl rfl rfl (by omega) hi hn ?_
  (repeat' (first | refine JO.nil ?_ | refine JX.thenN ?_ | (apply r_assign; (iterate 3 exact rfl)) | refine JC.ret ?_))
  refine JX.ret1 rfl (fun a w' st => ⟨st.kp, ?_⟩)
  rw [Nat.zero_add, e1, Nat.add_sub_cancel_left]

def swG (i j : Nat) (g : Nat → Nat → Nat) : Nat → Nat → Nat := fun a b => if a = i then g j b else if a = j then g i b else g a b
def swS (i j k : Nat) (g : Nat → Nat → Nat) : Nat → Nat → Nat := fun a b => if b < k then swG i j g a b else g a b

theorem swS_zero (i j : Nat) (g : Nat → Nat → Nat) : swS i j 0 g = g := by funext a b; simp [swS]
theorem swS_step {r c i j k : Nat} {g : Nat → Nat → Nat} (hi : i < r) (hj : j < r) (hk : k < c) :
    ((tab2 r c (swS i j k g)).set (i * c + k) (ent c (tab2 r c (swS i j k g)) j k)).set (j * c + k) (ent c (tab2 r c (swS i j k g)) i k) = tab2 r c (swS i j (k + 1) g) := by
  rw [ent_tab2 hj hk, ent_tab2 hi hk, tab2_set hk, tab2_set hk]
  refine tab2_congr fun a b _ _ => ?_
  unfold swS swG
  by_cases hb : b = k
  · subst hb
    by_cases h1 : a = j
    · subst h1
      by_cases h2 : a = i
      · subst h2; simp
      · simp [h2]
    · by_cases h2 : a = i
      · subst h2; simp [h1]
      · simp [h1, h2]
  · have : (b < k + 1) = (b < k) := by simp; omega
    simp only [hb, and_false, if_false, this]

theorem tab2_get {r c i j : Nat} {g : Nat → Nat → Nat} (hi : i < r) (hj : j < c) : (tab2 r c g).getD (i * c + j) 0 = g i j := ent_tab2 hi hj

set_option maxHeartbeats 2000000 in
theorem c_swap (w : World) (b i j p r c bE n cap : Nat) (ov : List Nat) (g : Nat → Nat → Nat) (rest : List Value) (hR : IsR w b p r c (.slice (some ⟨bE, 0, none⟩) n cap) ov) (hb : b ≠ bE) (hE : w.heap[bE]? = some (.cells (rowC (tab2 r c g) rest) 3 (0, 0)))
    (hi : i < r) (hj : j < r) (hc : 0 < c) (hn : r * c = n) (hcap : n ≤ cap) (hn' : n ≤ 1000000) :
    Calls Tryd.prog 70 #[.pointer (some ⟨b, 0, none⟩), nv i, nv j] w (Ret fun _ w' => Kp [bE] w w' ∧ w'.heap[bE]? = some (.cells (rowC (tab2 r c (swG i j g)) rest) 3 (0, 0))) := by
  have hbE : bE < w.heap.size := by
    rcases Nat.lt_or_ge bE w.heap.size with h | h
    · exact h
    · rw [Array.getElem?_eq_none h] at hE; cases hE
  have hil := row_le (c := c) hi
  have hjl := row_le (c := c) hj
  have hbsz : b < w.heap.size := by
    rcases Nat.lt_or_ge b w.heap.size with h | h
    · exact h
    · have hR' := hR; unfold IsR at hR'; rw [Array.getElem?_eq_none h] at hR'; cases hR'
  have hcl : ∀ w', Kp [bE] w w' → IsR w' b p r c (.slice (some ⟨bE, 0, none⟩) n cap) ov := fun w' hk => (hk.block b hbsz (by simpa using hb)).trans hR
  refine calls_of_S [⟨4, 4, [], []⟩] [bE] (by simpa using hbE) [(bE, .cells (rowC (tab2 r c g) rest) 3 (0, 0))] Tryd.func70 rfl mixed (by kernel_rfl) Tryd.ntmps70 Tryd.results70 rfl ⟨by simp, by simpa using hE⟩ (by simp) ?_
  simp only [toS, textOps, toSOp, kindAt, kindOf, odAt, sopsAt, ordOf, zipF]
  (repeat' (first | refine JC.seq ?_ | refine JC.ops ?_ | (apply r_move; (iterate 3 exact rfl))))
  refine r_call0 trivial rfl rfl rfl (fun w' hk _ => c_row w' b i p r c bE n cap ov (hcl w' hk) (by omega) hc hcap hn') fun w' v w'' _ _ _ hv => ?_
  subst hv
  (repeat' (first | (apply r_move; (iterate 3 exact rfl))))
  refine r_call0 trivial rfl rfl rfl (fun w' hk _ => c_row w' b j p r c bE n cap ov (hcl w' hk) (by omega) hc hcap hn') fun w' v w'' _ _ _ hv => ?_
  subst hv
  (repeat' (first | refine JC.seq ?_ | refine JC.ops ?_ | refine JO.nil ?_ | refine JX.thenN ?_ | (apply r_move; (iterate 3 exact rfl)) | (apply r_assign; (iterate 3 exact rfl)) | (apply r_len; (iterate 3 exact rfl)) | refine JC.block ?_))
  refine JC.loopH (ι := Nat) ⟨fun k => [(17, nv k), (16, nv c), (6, .slice (some ⟨bE, i * c, none⟩) c (cap - i * c)), (7, .slice (some ⟨bE, j * c, none⟩) c (cap - j * c))], fun k => [(bE, .cells (rowC (tab2 r c (swS i j k g)) rest) 3 (0, 0))], fun k => k ≤ c, fun k => c - k⟩ 0 (by omega) (by repeat first | exact trivial | refine ⟨rfl, ?_⟩) (by dsimp only; rw [swS_zero]; exact HSub.refl _) (fun k hk => ?_)
  dsimp only at hk ⊢
  by_cases hkc : k < c
  · have h1 := fdidx_lt hi hkc
    have h2 := fdidx_lt hj hkc
    have hl : (tab2 r c (swS i j k g)).length = r * c := tab2_len _ _ _
    (repeat' (first | refine JC.seq ?_ | refine JC.ops ?_ | refine JC.opsD ?_ | refine JO.nil ?_ | refine JX.thenN ?_ | (apply r_move; (iterate 3 exact rfl)) | (apply r_assign; (iterate 3 exact rfl)) | (apply r_idxB; (iterate 4 exact rfl); omega) | (apply r_ldB; (iterate 4 exact rfl); (first | exact at0 | exact at1 | exact at2 | exact at3 | exact at4 | exact at5 | exact at6 | exact at7); omega) | (apply r_add1; (iterate 4 exact rfl); omega) | (apply r_lss; (iterate 4 exact rfl); all_goals intro hc; all_goals try (exfalso; omega)) | (apply r_stB; exact rfl; (first | exact trivial | exact ⟨rfl, rfl⟩); exact rfl; exact rfl; (first | exact at0 | exact at1 | exact at2 | exact at3 | exact at4 | exact at5 | exact at6 | exact at7); (first | omega | (simp; omega))) | refine JC.skip ?_ | refine JC.condT rfl ?_ | refine JC.block ?_ | refine JX.blockN ?_))
    refine JX.roundH (k + 1) (by dsimp only; omega) (by dsimp only; omega) (by repeat first | exact trivial | refine ⟨rfl, ?_⟩) ?_
    dsimp only
    rw [← swS_step hi hj hkc]
    exact HSub.refl _
  · (repeat' (first | refine JC.seq ?_ | refine JC.ops ?_ | refine JO.nil ?_ | refine JX.thenN ?_ | (apply r_lss; (iterate 4 exact rfl); all_goals intro hc; all_goals try (exfalso; omega)) | refine JX.thenE ?_ | refine JC.exit ?_ | refine JC.condF rfl ?_ | refine JX.blockE ?_))
    refine JX.end0 (fun a w' st => ⟨st.kp, ?_⟩)
    have := st.hs.blk _ (List.mem_cons_self ..)
    have e : tab2 r c (swS i j k g) = tab2 r c (swG i j g) := tab2_congr fun a b _ hb => by unfold swS; rw [if_pos (by omega)]
    rw [e] at this
    exact this

set_option maxHeartbeats 1000000 in
theorem c_scale (w : World) (x t p k : Nat) (R : Value) (hx : x < p) (ht : t < p) (hp : p ≤ 997) :
    Calls Tryd.prog 73 #[.agg #[R, nv t, nv p], nv k, nv x] w (Ret fun v w' => Kp [] w w' ∧ v = nv (x * t % p)) := by
  have hb := fdmul_bound hx ht hp
  refine calls_of_S [] [] (by simp) [] Tryd.func73 rfl mixed (by kernel_rfl) Tryd.ntmps73 Tryd.results73 rfl ⟨by simp, by simp⟩ (by simp) ?_
  simp only [toS, textOps, toSOp, kindAt, kindOf, odAt, sopsAt, ordOf, zipF]
  (repeat' (first | refine JC.seq ?_ | refine JC.ops ?_ | refine JO.nil ?_ | refine JX.thenN ?_ | (apply r_move; (iterate 3 exact rfl)) | (apply r_fieldAddr; (iterate 3 exact rfl)) | (apply r_assign; (iterate 3 exact rfl)) | (apply r_load; (iterate 4 exact rfl); (first | exact at0 | exact at1 | exact at2 | exact at3 | exact at4 | exact at5 | exact at6 | exact at7); exact rfl) | (apply r_mulN; (iterate 4 exact rfl); (first | assumption | omega)) | (apply r_modN; (iterate 4 exact rfl); omega) | (apply r_boxA; (iterate 4 exact rfl); intro _) | refine JC.ret ?_))
  exact JX.ret1 rfl (fun a w' st => ⟨st.kp, rfl⟩)

set_option maxHeartbeats 1000000 in
theorem fdc_add (w : World) (x t p k o c cap bE : Nat) (T : TypeId) (fz : Nat × Nat) (xs : List Nat) (rest : List Value) (hE : w.heap[bE]? = some (.cells (rowC xs rest) T fz)) (hk : k < c) (ho : o + k < xs.length) (hx : x < p) (hy : xs.getD (o + k) 0 < p) (ht : t ≤ p) (hp : p ≤ 997) :
    Calls Tryd.prog 74 #[.agg #[.slice (some ⟨bE, o, none⟩) c cap, nv t, nv p], nv k, nv x] w (Ret fun v w' => Kp [] w w' ∧ v = nv ((x + xs.getD (o + k) 0 * t) % p)) := by
  have hb : xs.getD (o + k) 0 * t ≤ 994009 := by
    have := Nat.mul_le_mul (show xs.getD (o + k) 0 ≤ 997 by omega) (show t ≤ 997 by omega)
    omega
  have hc : w.cell? ⟨bE, o + k, none⟩ = some (nv (xs.getD (o + k) 0)) := cell_of_blk hE (rowC_get ho)
  refine calls_of_S [⟨1, 1, [], []⟩] [] (by simp) [] Tryd.func74 rfl mixed (by kernel_rfl) Tryd.ntmps74 Tryd.results74 rfl ⟨by simp, by simp⟩ (by simp) ?_
  simp only [toS, textOps, toSOp, kindAt, kindOf, odAt, sopsAt, ordOf, zipF]
  (repeat' (first | refine JC.seq ?_ | refine JC.ops ?_ | refine JC.opsD ?_ | refine JO.nil ?_ | refine JX.thenN ?_ | (apply r_move; (iterate 3 exact rfl)) | (apply r_fieldAddr; (iterate 3 exact rfl)) | (apply r_assign; (iterate 3 exact rfl)) | (apply r_load; (iterate 4 exact rfl); (first | exact at0 | exact at1 | exact at2 | exact at3 | exact at4 | exact at5 | exact at6 | exact at7); exact rfl) | (apply r_idxB; (iterate 4 exact rfl); omega) | (apply r_ldW; (iterate 4 exact rfl); assumption; (first | assumption | exact (by simp))) | (apply r_addN; (iterate 4 exact rfl); omega) | (apply r_mulN; (iterate 4 exact rfl); (first | assumption | omega)) | (apply r_modN; (iterate 4 exact rfl); omega) | (apply r_boxA; (iterate 4 exact rfl); intro _) | refine JC.ret ?_))
  exact JX.ret1 rfl (fun a w' st => ⟨st.kp, rfl⟩)

def eaG (i : Nat) (h : Nat → Nat → Nat) (g : Nat → Nat → Nat) : Nat → Nat → Nat := fun a b => if a = i then h b (g a b) else g a b
def eaS (i k : Nat) (h : Nat → Nat → Nat) (g : Nat → Nat → Nat) : Nat → Nat → Nat := fun a b => if b < k then eaG i h g a b else g a b

theorem eaS_step {r c i k : Nat} {h g : Nat → Nat → Nat} (hi : i < r) (hk : k < c) : (tab2 r c (eaS i k h g)).set (i * c + k) (h k (g i k)) = tab2 r c (eaS i (k + 1) h g) := by
  rw [tab2_set hk]
  refine tab2_congr fun a b _ _ => ?_
  unfold eaS eaG
  by_cases hb : b = k
  · subst hb
    by_cases h1 : a = i
    · subst h1; simp
    · simp [h1]
  · have : (b < k + 1) = (b < k) := by simp; omega
    simp only [hb, and_false, if_false, this]

set_option maxHeartbeats 2000000 in
theorem fdc_each {f : FuncId} [TF Tryd.prog f] {fst cap' : Array Value} (w : World) (i r c bE cap : Nat) (g h : Nat → Nat → Nat) (rest : List Value) (hE : w.heap[bE]? = some (.cells (rowC (tab2 r c g) rest) 3 (0, 0)))
    (hi : i < r) (hn' : r * c ≤ 1000000)
    (hcl : ∀ w' k, k < c → Kp [bE] w w' → w'.heap[bE]? = some (.cells (rowC (tab2 r c (eaS i k h g)) rest) 3 (0, 0)) → Calls Tryd.prog f (fst ++ #[nv k, nv (g i k)] ++ cap') w' (Ret fun v w'' => Kp [] w' w'' ∧ v = nv (h k (g i k)))) :
    Calls Tryd.prog 71 #[.slice (some ⟨bE, i * c, none⟩) c cap, .func (.func f) fst cap'] w (Ret fun _ w' => Kp [bE] w w' ∧ w'.heap[bE]? = some (.cells (rowC (tab2 r c (eaG i h g)) rest) 3 (0, 0))) := by
  have hbE : bE < w.heap.size := by
    rcases Nat.lt_or_ge bE w.heap.size with h | h
    · exact h
    · rw [Array.getElem?_eq_none h] at hE; cases hE
  refine calls_of_S [] [bE] (by simpa using hbE) [(bE, .cells (rowC (tab2 r c g) rest) 3 (0, 0))] Tryd.func71 rfl mixed (by kernel_rfl) Tryd.ntmps71 Tryd.results71 rfl ⟨by simp, by simpa using hE⟩ (by simp) ?_
  simp only [toS, textOps, toSOp, kindAt, kindOf, odAt, sopsAt, ordOf, zipF]
  (repeat' (first | refine JC.seq ?_ | refine JC.ops ?_ | refine JO.nil ?_ | refine JX.thenN ?_ | (apply r_move; (iterate 3 exact rfl)) | (apply r_len; (iterate 3 exact rfl)) | refine JC.block ?_))
  refine JC.loopH (ι := Nat) ⟨fun k => [(8, nv k), (7, nv c), (6, .slice (some ⟨bE, i * c, none⟩) c cap), (0, .slice (some ⟨bE, i * c, none⟩) c cap), (1, .func (.func f) fst cap')], fun k => [(bE, .cells (rowC (tab2 r c (eaS i k h g)) rest) 3 (0, 0))], fun k => k ≤ c, fun k => c - k⟩ 0 (by omega) (by repeat first | exact trivial | refine ⟨rfl, ?_⟩) (by dsimp only; rw [show eaS i 0 h g = g by funext a b; simp [eaS]]; exact HSub.refl _) (fun k hk => ?_)
  dsimp only at hk ⊢
  by_cases hkc : k < c
  · have h1 := fdidx_lt hi hkc
    have hl : (tab2 r c (eaS i k h g)).length = r * c := tab2_len _ _ _
    have he : (tab2 r c (eaS i k h g)).getD (i * c + k) 0 = g i k := by
      rw [tab2_get hi hkc]; unfold eaS; rw [if_neg (by omega)]
    (repeat' (first | refine JC.seq ?_ | refine JC.ops ?_ | refine JO.nil ?_ | refine JX.thenN ?_ | (apply r_move; (iterate 3 exact rfl)) | (apply r_assign; (iterate 3 exact rfl)) | (apply r_idxB; (iterate 4 exact rfl); omega) | (apply r_ldB; (iterate 4 exact rfl); (first | exact at0 | exact at1 | exact at2 | exact at3 | exact at4 | exact at5 | exact at6 | exact at7); omega) | (apply r_lss; (iterate 4 exact rfl); all_goals intro hc; all_goals try (exfalso; omega)) | refine JC.skip ?_ | refine JC.condT rfl ?_ | refine JC.block ?_))
    rw [he]
    refine r_callV0 trivial rfl rfl rfl rfl (fun w' hk hs => hcl w' k hkc hk (hs.blk _ (List.mem_cons_self ..))) fun w' v w'' _ _ _ hv => ?_
    subst hv
    (repeat' (first | refine JC.ops ?_ | refine JO.nil ?_ | refine JX.thenN ?_ | (apply r_move; (iterate 3 exact rfl)) | (apply r_idxB; (iterate 4 exact rfl); omega) | (apply r_add1; (iterate 4 exact rfl); omega) | (apply r_stB; exact rfl; (first | exact trivial | exact ⟨rfl, rfl⟩); exact rfl; exact rfl; (first | exact at0 | exact at1 | exact at2 | exact at3 | exact at4 | exact at5 | exact at6 | exact at7); (first | omega | (simp; omega))) | refine JX.blockN ?_))
    refine JX.roundH (k + 1) (by dsimp only; omega) (by dsimp only; omega) (by repeat first | exact trivial | refine ⟨rfl, ?_⟩) ?_
    dsimp only
    rw [← eaS_step hi hkc]
    exact HSub.refl _
  · (repeat' (first | refine JC.seq ?_ | refine JC.ops ?_ | refine JO.nil ?_ | refine JX.thenN ?_ | (apply r_lss; (iterate 4 exact rfl); all_goals intro hc; all_goals try (exfalso; omega)) | refine JX.thenE ?_ | refine JC.exit ?_ | refine JC.condF rfl ?_ | refine JX.blockE ?_))
    refine JX.end0 (fun a w' st => ⟨st.kp, ?_⟩)
    have := st.hs.blk _ (List.mem_cons_self ..)
    have e : tab2 r c (eaS i k h g) = tab2 r c (eaG i h g) := tab2_congr fun a b _ hb => by unfold eaS; rw [if_pos (by omega)]
    rw [e] at this
    exact this


theorem storeL_list : ∀ (l : List Value) (cs : Array Value) (o : Nat), o + l.length ≤ cs.size → (storeL cs o l).toList = cs.toList.take o ++ (l ++ cs.toList.drop (o + l.length))
  | [], cs, o, h => by rw [storeL]; simp
  | v :: l, cs, o, h => by
    simp only [List.length_cons] at h
    rw [storeL, storeL_list l _ _ (by rw [Array.size_setIfInBounds]; omega), Array.toList_setIfInBounds]
    have hlt : o < (cs.toList.set o v).length := by simp; omega
    rw [List.take_succ_eq_append_getElem hlt, List.take_set_of_le (Nat.le_refl _), List.drop_set_of_lt (by omega)]
    simp only [List.getElem_set_self, List.append_assoc, List.singleton_append, List.length_cons, List.cons_append, List.nil_append]
    rw [show o + 1 + l.length = o + (l.length + 1) by omega]

theorem foldl_storeL (off : Nat) : ∀ (l : List Value) (k : Nat) (cs : Array Value), (l.zipIdx k).foldl (fun (cs : Array Value) (x : Value × Nat) => cs.setIfInBounds (off + x.2) x.1) cs = storeL cs (off + k) l
  | [], k, cs => rfl
  | v :: l, k, cs => by
    rw [List.zipIdx_cons, List.foldl_cons, foldl_storeL off l, storeL]
    rfl

def flat (vs : List Value) : List Value := (vs.map fun v => v.cells.toList).flatten

theorem fill_go (sz : Nat) : ∀ (l : List (Nat × Value)) (vs : List Value) (k : Nat) (cs : Array Value), l.map (·.2) = vs → l.map (·.1) = List.range' k l.length → (∀ v ∈ vs, v.cells.size = sz) → cs.size = (k + l.length) * sz →
    ∃ cs', Instr.fill (fun j => some (j * sz, sz)) cs l = some cs' ∧ cs'.toList = cs.toList.take (k * sz) ++ flat vs
  | [], vs, k, cs, h1, _, _, h4 => by
    simp only [List.map_nil] at h1
    subst h1
    refine ⟨cs, rfl, ?_⟩
    rw [List.take_of_length_le (by simp at h4 ⊢; omega)]
    simp [flat]
  | (i, v) :: l, vs, k, cs, h1, h2, h3, h4 => by
    simp only [List.map_cons] at h1
    subst h1
    simp only [List.map_cons, List.length_cons, List.range'_succ, List.cons.injEq] at h2
    obtain ⟨rfl, h2⟩ := h2
    have hv : v.cells.size = sz := h3 v (by simp)
    have e1 : (i + (l.length + 1)) * sz = i * sz + sz + l.length * sz := by rw [Nat.add_mul, Nat.add_mul, Nat.one_mul]; omega
    simp only [List.length_cons] at h4
    rw [e1] at h4
    have hst : v.cells.zipIdx.foldl (fun (cs : Array Value) (x : Value × Nat) => cs.setIfInBounds (i * sz + x.2) x.1) cs = storeL cs (i * sz) v.cells.toList := by
      rw [← Array.foldl_toList, Array.toList_zipIdx, foldl_storeL]; rfl
    obtain ⟨cs', h5, h6⟩ := fill_go sz l (l.map (·.2)) (i + 1) (storeL cs (i * sz) v.cells.toList) rfl h2 (fun u hu => h3 u (List.mem_cons_of_mem _ hu)) (by rw [storeL_size, h4, Nat.add_mul, Nat.add_mul, Nat.one_mul])
    refine ⟨cs', ?_, ?_⟩
    · have hg : ¬ ((v.cells.size ≠ sz || decide (i * sz + v.cells.size > cs.size)) = true) := by
        simp only [hv, ne_eq, not_true_eq_false, decide_false, Bool.false_or, decide_eq_true_eq]
        omega
      show (if (v.cells.size ≠ sz || decide (i * sz + v.cells.size > cs.size)) = true then none else Instr.fill _ (v.cells.zipIdx.foldl (fun (cs : Array Value) (x : Value × Nat) => cs.setIfInBounds (i * sz + x.2) x.1) cs) l) = _
      rw [if_neg hg, hst, h5]
    · rw [h6, storeL_list _ _ _ (by simp [hv]; omega)]
      have hlen : (cs.toList.take (i * sz) ++ v.cells.toList).length = (i + 1) * sz := by simp [hv, Nat.add_mul]; omega
      rw [← List.append_assoc, List.take_left' hlen]
      simp [flat]

def ones : List Value → Prop
  | [] => True
  | v :: r => v.cells = #[v] ∧ ones r
theorem ones_flat : ∀ {vs : List Value}, ones vs → flat vs = vs ∧ ∀ v ∈ vs, v.cells.size = 1
  | [], _ => ⟨rfl, by simp⟩
  | v :: r, ⟨h1, h2⟩ => by
    obtain ⟨h3, h4⟩ := ones_flat h2
    refine ⟨?_, fun u hu => ?_⟩
    · have : flat (v :: r) = v.cells.toList ++ flat r := by simp [flat]
      rw [this, h3, h1]; rfl
    · rcases List.mem_cons.1 hu with rfl | hu
      · rw [h1]; rfl
      · exact h4 u hu

theorem evParts_map2 {F : SFrame} : ∀ {ps : List (Nat × Operand)} {vs : List Value}, evArgs F (ps.map (·.2)) = some vs → ∃ l, evParts F ps = some l ∧ l.map (·.1) = ps.map (·.1) ∧ l.map (·.2) = vs
  | [], vs, h => by simp only [List.map_nil, evArgs, Option.some.injEq] at h; subst h; exact ⟨[], rfl, rfl, rfl⟩
  | (i, x) :: r, vs, h => by
    simp only [List.map_cons, evArgs] at h
    split at h
    · rename_i v vs' h1 h2
      simp only [Option.some.injEq] at h
      subst h
      obtain ⟨l, h3, h4, h5⟩ := evParts_map2 h2
      exact ⟨(i, v) :: l, by simp only [evParts, h1, h3], by simp [h4], by simp [h5]⟩
    · cases h

section
variable {c : Cx} {Q : Exit → Act → World → Prop} {m : Mode} {F : SFrame} {H : SHeap} {r : List SOp} {g : Option (Option Tmp × Bool)} {ns : Bool} {d : Tmp} {ty t t' : TypeId} {x y : Operand}

theorem r_sub1 {i : Nat} (hd : dstOk c.n (some d) = true) (hg : guardF F g = some true) (hx : ev F x = some (.int .i64 i)) (hy : ev F y = some (.int .i64 1)) (hb : 1 ≤ i ∧ i < 9223372036854775808)
    (h : JO c Q m r ((d, .int .i64 ((i - 1 : Nat) : Int)) :: F) H) : JO c Q m (⟨some d, .binOp .sub t x y t', ty, g, .mov, ns⟩ :: r) F H := r_subN (j := 1) hd hg hx hy hb h
theorem r_sub2 {i : Nat} (hd : dstOk c.n (some d) = true) (hg : guardF F g = some true) (hx : ev F x = some (.int .i64 i)) (hy : ev F y = some (.int .i64 2)) (hb : 2 ≤ i ∧ i < 9223372036854775808)
    (h : JO c Q m r ((d, .int .i64 ((i - 2 : Nat) : Int)) :: F) H) : JO c Q m (⟨some d, .binOp .sub t x y t', ty, g, .mov, ns⟩ :: r) F H := r_subN (j := 2) hd hg hx hy hb h
theorem r_shr1 {k : IntKind} {i : Nat} (hd : dstOk c.n (some d) = true) (hg : guardF F g = some true) (hx : ev F x = some (.int .i64 i)) (hy : ev F y = some (.int k 1))
    (h : JO c Q m r ((d, .int .i64 ((i / 2 : Nat) : Int)) :: F) H) : JO c Q m (⟨some d, .binOp .shr t x y t', ty, g, .mov, ns⟩ :: r) F H := r_shrN (j := 1) hd hg hx hy (by omega) h

theorem r_buildG {e : TypeId} {sz bytes n : Nat} {zc : Array Value} {parts : Array (Nat × Operand)} {vs cl : List Value} [TSl c.P t e] [TE c.P e sz bytes zc] (hd : dstOk c.n (some d) = true) (hg : guardF F g = some true) (hl : m.live = true)
    (hp : evArgs F (parts.toList.map (·.2)) = some vs) (hi : parts.toList.map (·.1) = List.range n) (hs : ∀ v ∈ vs, v.cells.size = sz) (hf : flat vs = cl) (hn : n * sz ≤ 1000) (hn0 : n * sz ≠ 0)
    (h : ∀ b, JO c Q m r ((d, (.slice (some ⟨b, 0, none⟩) n n)) :: F) ((b, .cells ⟨cl⟩ e) :: H)) : JO c Q m (⟨some d, .buildSlice t n parts, ty, g, .alloc, ns⟩ :: r) F H := by
  obtain ⟨l, h1, h2, h3⟩ := evParts_map2 hp
  have hln : l.length = n := by
    have := congrArg List.length h2
    rw [hi] at this
    simpa using this
  obtain ⟨cs', h4, h5⟩ := fill_go sz l vs 0 (zerosOf zc (n * sz)) h3 (by rw [h2, hi, hln, List.range_eq_range']) hs (by simp [zerosOf, hln])
  have h6 : cs' = ⟨cl⟩ := by apply Array.ext'; rw [h5, ← hf]; simp
  subst h6
  exact r_buildSlice hd hg hl h1 (by omega) hn0 h4 h

theorem r_build1 {e : TypeId} {bytes n : Nat} {zc : Array Value} {parts : Array (Nat × Operand)} {vs : List Value} [TSl c.P t e] [TE c.P e 1 bytes zc] (hd : dstOk c.n (some d) = true) (hg : guardF F g = some true) (hl : m.live = true)
    (hp : evArgs F (parts.toList.map (·.2)) = some vs) (hi : parts.toList.map (·.1) = List.range n) (ho : ones vs) (hn : n * 1 ≤ 1000) (hn0 : n * 1 ≠ 0)
    (h : ∀ b, JO c Q m r ((d, (.slice (some ⟨b, 0, none⟩) n n)) :: F) ((b, .cells ⟨vs⟩ e) :: H)) : JO c Q m (⟨some d, .buildSlice t n parts, ty, g, .alloc, ns⟩ :: r) F H :=
  r_buildG hd hg hl hp hi (ones_flat ho).2 (ones_flat ho).1 hn hn0 h

theorem r_eqNil {A : Option Addr} {len cap : Nat} {e : TypeId} [TSl c.P t e] (hd : dstOk c.n (some d) = true) (hg : guardF F g = some true) (hx : ev F x = some (.slice A len cap)) (hy : ev F y = some (.slice none 0 0)) (h : JO c Q m r ((d, (.bool A.isNone)) :: F) H) :
    JO c Q m (⟨some d, .binOp .eql t x y t', ty, g, .mov, ns⟩ :: r) F H :=
  r_mov hd hg (fun a w fr => by
    simp only [execOp, fr.ev hx, fr.ev hy, binOp]
    have hs : eqGuard .eql t x y (.slice A len cap) (.slice none 0 0) = pure () := rfl
    simp only [hs, Sem.run_bind, Sem.run_pure, Result.andThen_ok, run_equal_slice_nil w t e A len cap (TSl.und (P := c.P) (t := t))]) h

end

theorem own_lit (b n : Nat) (xs : List Nat) (vs : List Value) (hv : vs = xs.map nv) (hn : xs.length = n) (h : n ≤ 1000) : OwnN [(b, .cells ⟨vs⟩ 3)] (.slice (some ⟨b, 0, none⟩) n n) n xs := by
  subst hv
  have := OwnRow.mk' (e := 3) (sz := 1) (n := n) (b := b) (cs := ⟨xs.map nv⟩) (by simp [hn]) (by simp only [maxLen]; omega)
  exact this


structure Ovs (p : Nat) (ov : List Nat) : Prop where
  len : ov.length = 998
  ok : ∀ n, 0 < n → n < p → ov.getD n 0 = 0 ∨ ov.getD n 0 = invN p n

theorem Ovs.zero (p : Nat) : Ovs p (List.replicate 998 0) := ⟨List.length_replicate, fun n _ _ => .inl (by
  simp only [List.getD, List.getElem?_replicate]
  by_cases h : n < 998
  · rw [if_pos h]; rfl
  · rw [if_neg h]; rfl)⟩
theorem Ovs.set {p : Nat} {ov : List Nat} (h : Ovs p ov) {n : Nat} (hn : n < 998) : Ovs p (ov.set n (invN p n)) :=
  ⟨by simp [h.len], fun k h0 hk => by
    rw [set_getD (by rw [h.len]; exact hn)]
    split
    · rename_i e; subst e; exact .inr rfl
    · exact h.ok k h0 hk⟩

theorem pow_odd {o q e p : Nat} (he : e % 2 = 1) : (o * q % p) * (q * q % p) ^ (e / 2) % p = o * q ^ e % p := by
  have h1 : q ^ e = q * (q * q) ^ (e / 2) := by
    rw [← Nat.pow_two, ← Nat.pow_mul, Nat.mul_comm q, ← Nat.pow_succ]
    congr 1
    omega
  rw [Nat.mod_mul_mod, Nat.mul_mod, ← Nat.pow_mod, ← Nat.mul_mod, h1, Nat.mul_assoc]
theorem pow_even {o q e p : Nat} (he : e % 2 ≠ 1) : o * (q * q % p) ^ (e / 2) % p = o * q ^ e % p := by
  have h1 : q ^ e = (q * q) ^ (e / 2) := by
    rw [← Nat.pow_two, ← Nat.pow_mul]
    congr 1
    omega
  rw [Nat.mul_mod, ← Nat.pow_mod, ← Nat.mul_mod, h1]

theorem IsR.lt {w : World} {b p r c : Nat} {E : Value} {ov : List Nat} (h : IsR w b p r c E ov) : b < w.heap.size := by
  rcases Nat.lt_or_ge b w.heap.size with h' | h'
  · exact h'
  · unfold IsR at h; rw [Array.getElem?_eq_none h'] at h; cases h

section
variable {cx : Cx} {Q : Exit → Act → World → Prop} {m : Mode} {F : SFrame} {H : SHeap} {l : List SOp} {g : Option (Option Tmp × Bool)} {ns : Bool} {d : Tmp} {ty t : TypeId} {x y : Operand}
theorem r_ldOv {b n p r c : Nat} (k : Nat) {E : Value} {ov : List Nat} {T : TypeId} {fz : Nat × Nat} [T1 cx.P t] (hd : dstOk cx.n (some d) = true) (hg : guardF F g = some true) (hx : ev F x = some (.pointer (some ⟨b, 0 + 4 + n * 1, none⟩))) (hl : m.live = true)
    (hb : (m.src H)[k]? = some (b, .cells (rdC p r c E ov) T fz)) (hn : n < ov.length) (h : JO cx Q m l ((d, nv (ov.getD n 0)) :: F) H) : JO cx Q m (⟨some d, .load t x, ty, g, .ld, ns⟩ :: l) F H :=
  r_load k hd hg hx hl hb (by rw [Nat.mul_one, Nat.zero_add]; exact rdC4 hn) h
theorem r_stOv {b n p r c u : Nat} (k : Nat) {E : Value} {ov : List Nat} {T : TypeId} [T1 cx.P t] (hg : guardF F g = some true) (hm : m.mayStore ns l) (hx : ev F x = some (.pointer (some ⟨b, 0 + 4 + n * 1, none⟩))) (hy : ev F y = some (nv u))
    (hb : H[k]? = some (b, .cells (rdC p r c E ov) T (0, 0))) (hn : n < ov.length) (h : JO cx Q m.spent l F (H.set k (b, .cells (rdC p r c E (ov.set n u)) T (0, 0)))) :
    JO cx Q m (⟨none, .store t x y, ty, g, .seq, ns⟩ :: l) F H :=
  r_store k hg hm hx hy hb rfl rfl (by rw [rdC_size]; omega) (by rw [Nat.mul_one, Nat.zero_add, rdC_set]; exact h)
end

set_option maxHeartbeats 2000000 in
theorem c_invert (w : World) (b n p r c : Nat) (E : Value) (ov : List Nat) (hR : IsR w b p r c E ov) (hv : Ovs p ov) (hp : Pr p) (h0 : 0 < n) (hn : n < p) :
    Calls Tryd.prog 72 #[.pointer (some ⟨b, 0, none⟩), nv n] w (Ret fun v w' => Kp [b] w w' ∧ v = nv (invN p n) ∧ ∃ ov', Ovs p ov' ∧ IsR w' b p r c E ov') := by
  have hb := hR.lt
  have hl := hv.len
  have hp9 := hp.2.1
  have hp2 := hp.1
  refine calls_of_S [] [b] (by simpa using hb) [(b, .cells (rdC p r c E ov) 93 (0, 0))] Tryd.func72 rfl mixed (by kernel_rfl) Tryd.ntmps72 Tryd.results72 rfl ⟨by simp, by intro q hq; cases List.mem_singleton.1 hq; exact hR⟩ (by simp) ?_
  simp only [toS, textOps, toSOp, kindAt, kindOf, odAt, sopsAt, ordOf, zipF]
  (repeat' (first | refine JC.seq ?_ | refine JC.ops ?_ | refine JO.nil ?_ | refine JX.thenN ?_ | (apply r_move; (iterate 3 exact rfl)) | (apply r_fieldAddr; (iterate 3 exact rfl)) | (apply r_assign; (iterate 3 exact rfl)) | (apply r_nilCheck; (iterate 3 exact rfl)) | (apply r_idxArr; (iterate 4 exact rfl); omega)))
  refine r_ldOv 0 rfl rfl rfl rfl rfl (by omega) ?_
  (repeat' (first | refine JC.seq ?_ | refine JC.ops ?_ | refine JO.nil ?_ | refine JX.thenN ?_ | (apply r_move; (iterate 3 exact rfl)) | (apply r_fieldAddr; (iterate 3 exact rfl)) | (apply r_assign; (iterate 3 exact rfl)) | (apply r_load; (iterate 4 exact rfl); (first | exact at0 | exact at1 | exact at2 | exact at3 | exact at4 | exact at5 | exact at6 | exact at7); exact rfl) | (apply r_sub2; (iterate 4 exact rfl); omega) | (apply r_nilCheck; (iterate 3 exact rfl)) | (apply r_gtr; (iterate 4 exact rfl); all_goals intro hc; all_goals try (exfalso; omega)) | (apply r_idxArr; (iterate 4 exact rfl); omega) | refine JC.skip ?_ | refine JC.condT rfl ?_ | refine JC.condF rfl ?_ | refine JC.block ?_))
  · refine r_ldOv 0 rfl rfl rfl rfl rfl (by omega) ?_
    (repeat' (first | refine JO.nil ?_ | refine JX.thenN ?_ | (apply r_assign; (iterate 3 exact rfl)) | refine JX.thenR ?_ | refine JC.ret ?_))
    refine JX.ret1 rfl (fun a w' st => ⟨st.kp, ?_, ov, hv, st.hs.blk _ (List.mem_cons_self ..)⟩)
    rcases hv.ok n h0 hn with h | h
    · rw [h] at hc; omega
    · rw [h]
  · refine JC.loopH (ι := Nat × Nat × Nat) ⟨fun z => [(7, nv z.1), (5, nv z.2.1), (6, nv z.2.2), (0, .pointer (some ⟨b, 0, none⟩)), (1, nv n)], fun _ => [(b, .cells (rdC p r c E ov) 93 (0, 0))],
      fun z => z.2.1 < p ∧ z.2.2 < p ∧ z.1 ≤ p ∧ z.2.1 * z.2.2 ^ z.1 % p = n ^ (p - 2) % p, fun z => z.1⟩ (p - 2, 1, n) ⟨by dsimp only; omega, hn, by dsimp only; omega, by rw [Nat.one_mul]⟩ (by repeat first | exact trivial | refine ⟨rfl, ?_⟩) (by (first | exact HSub.refl _ | (repeat' first | exact HSub.nil _ | exact HSub.refl _ | refine HSub.at 0 rfl ?_ | refine HSub.at 1 rfl ?_ | refine HSub.at 2 rfl ?_ | refine HSub.at 3 rfl ?_ | refine HSub.at 4 rfl ?_ | refine HSub.at 5 rfl ?_ | refine HSub.at 6 rfl ?_ | refine HSub.at 7 rfl ?_))) (fun z hz => ?_)
    obtain ⟨e, o, q⟩ := z
    obtain ⟨ho, hq, hep, hi⟩ := hz
    dsimp only at ho hq hep hi ⊢
    have hb1 := fdmul_bound ho hq hp9
    have hb2 := fdmul_bound hq hq hp9
    by_cases he : 0 < e
    · (repeat' (first | refine JC.seq ?_ | refine JC.ops ?_ | refine JO.nil ?_ | refine JX.thenN ?_ | (apply r_move; (iterate 3 exact rfl)) | (apply r_fieldAddr; (iterate 3 exact rfl)) | (apply r_assign; (iterate 3 exact rfl)) | (apply r_load; (iterate 4 exact rfl); (first | exact at0 | exact at1 | exact at2 | exact at3 | exact at4 | exact at5 | exact at6 | exact at7); exact rfl) | (apply r_mulN; (iterate 4 exact rfl); (first | assumption | omega)) | (apply r_modN; (iterate 4 exact rfl); omega) | (apply r_nilCheck; (iterate 3 exact rfl)) | (apply r_and1; (iterate 4 exact rfl)) | (apply r_shr1; (iterate 4 exact rfl)) | (apply r_gtr; (iterate 4 exact rfl); all_goals intro hc; all_goals try (exfalso; omega)) | (apply r_eql; (iterate 4 exact rfl); all_goals intro hc; all_goals try (exfalso; omega)) | refine JC.skip ?_ | refine JC.condT rfl ?_ | refine JC.condF rfl ?_ | refine JC.block ?_ | refine JX.blockN ?_))
      · refine JX.roundH (e / 2, o * q % p, q * q % p) ⟨Nat.mod_lt _ (by omega), Nat.mod_lt _ (by omega), by dsimp only; omega, ?_⟩ (by dsimp only; omega) (by repeat first | exact trivial | refine ⟨rfl, ?_⟩) (by (first | exact HSub.refl _ | (repeat' first | exact HSub.nil _ | exact HSub.refl _ | refine HSub.at 0 rfl ?_ | refine HSub.at 1 rfl ?_ | refine HSub.at 2 rfl ?_ | refine HSub.at 3 rfl ?_ | refine HSub.at 4 rfl ?_ | refine HSub.at 5 rfl ?_ | refine HSub.at 6 rfl ?_ | refine HSub.at 7 rfl ?_)))
        rw [← hi]; exact pow_odd (by omega)
      · refine JX.roundH (e / 2, o, q * q % p) ⟨by dsimp only; omega, Nat.mod_lt _ (by omega), by dsimp only; omega, ?_⟩ (by dsimp only; omega) (by repeat first | exact trivial | refine ⟨rfl, ?_⟩) (by (first | exact HSub.refl _ | (repeat' first | exact HSub.nil _ | exact HSub.refl _ | refine HSub.at 0 rfl ?_ | refine HSub.at 1 rfl ?_ | refine HSub.at 2 rfl ?_ | refine HSub.at 3 rfl ?_ | refine HSub.at 4 rfl ?_ | refine HSub.at 5 rfl ?_ | refine HSub.at 6 rfl ?_ | refine HSub.at 7 rfl ?_)))
        rw [← hi]; exact pow_even (by omega)
    · have he0 : e = 0 := by omega
      subst he0
      rw [Nat.pow_zero, Nat.mul_one, Nat.mod_eq_of_lt ho] at hi
      subst hi
      (repeat' (first | refine JC.seq ?_ | refine JC.ops ?_ | refine JO.nil ?_ | refine JX.thenN ?_ | (apply r_move; (iterate 3 exact rfl)) | (apply r_fieldAddr; (iterate 3 exact rfl)) | (apply r_nilCheck; (iterate 3 exact rfl)) | (apply r_gtr; (iterate 4 exact rfl); all_goals intro hc; all_goals try (exfalso; omega)) | (apply r_idxArr; (iterate 4 exact rfl); omega) | refine JX.thenE ?_ | refine JC.exit ?_ | refine JC.condF rfl ?_ | refine JX.blockE ?_))
      refine r_stOv 0 rfl (by first | trivial | exact ⟨rfl, rfl⟩) rfl rfl rfl (by omega) ?_
      (repeat' (first | refine JC.seq ?_ | refine JC.ops ?_ | refine JO.nil ?_ | refine JX.thenN ?_ | (apply r_move; (iterate 3 exact rfl)) | (apply r_assign; (iterate 3 exact rfl)) | refine JC.ret ?_))
      exact JX.ret1 rfl (fun a w' st => ⟨st.kp, rfl, _, hv.set (by omega), st.hs.blk _ (List.mem_cons_self ..)⟩)

set_option maxHeartbeats 2000000 in
theorem c_Clone (w : World) (v : Value) (n : Nat) (xs : List Nat) (hv : WN w v n xs) (hn : n ≤ 1000000) :
    Calls Tryd.prog 68 #[v] w (Ret fun u w' => Kp [] w w' ∧ ∃ N, New N w w' ∧ OwnN N u n xs) := by
  obtain ⟨A, cap, rfl⟩ := hv.form
  cases A with
  | none =>
    have h0 : n = 0 ∧ xs = [] := by
      have h1 := hv.len
      rcases Nat.eq_zero_or_pos n with h | h
      · subst h; exact ⟨rfl, List.eq_nil_of_length_eq_zero h1⟩
      · obtain ⟨_, A, cap', he, _, hA⟩ := hv
        cases he
        obtain ⟨⟨_, _, h2⟩, _⟩ := hA (by omega)
        cases h2
    obtain ⟨rfl, rfl⟩ := h0
    refine calls_of_S [] [] (by simp) [] Tryd.func68 rfl mixed (by kernel_rfl) Tryd.ntmps68 Tryd.results68 rfl ⟨by simp, by simp⟩ (by simp) ?_
    simp only [toS, textOps, toSOp, kindAt, kindOf, odAt, sopsAt, ordOf, zipF]
    (repeat' (first | refine JC.seq ?_ | refine JC.ops ?_ | refine JO.nil ?_ | refine JX.thenN ?_ | (apply r_move; (iterate 3 exact rfl)) | (apply r_assign; (iterate 3 exact rfl)) | (apply r_eqNil; (iterate 4 exact rfl)) | refine JX.thenR ?_ | refine JC.ret ?_ | refine JC.condT rfl ?_))
    exact JX.ret1 rfl (fun a w' st => ⟨st.kp, [], New.nil _ _, OwnN.nil⟩)
  | some ad =>
    refine calls_of_S [] [] (by simp) [] Tryd.func68 rfl mixed (by kernel_rfl) Tryd.ntmps68 Tryd.results68 rfl ⟨by simp, by simp⟩ (by simp) ?_
    simp only [toS, textOps, toSOp, kindAt, kindOf, odAt, sopsAt, ordOf, zipF]
    (repeat' (first | refine JC.seq ?_ | refine JC.ops ?_ | refine JO.nil ?_ | refine JX.thenN ?_ | (apply r_move; (iterate 3 exact rfl)) | (apply r_assign; (iterate 3 exact rfl)) | (apply r_eqNil; (iterate 4 exact rfl)) | refine JC.skip ?_ | refine JC.condF rfl ?_))
    refine r_buildSlice0 rfl rfl rfl (fun b => ?_)
    (repeat' (first | (apply r_move; (iterate 3 exact rfl))))
    have hO : OwnN [(b, .cells #[] 3)] (.slice (some ⟨b, 0, none⟩) 0 0) 0 [] := own_lit b 0 [] [] rfl rfl (by omega)
    refine r_appendN (A := []) hO (WN.rd hv rfl []) (by (repeat' first | exact HSub.nil _ | exact HSub.hd | exact HSub.in0 | exact HSub.refl _ | refine HSub.skip ?_ | refine HSub.skipN ?_)) rfl trivial rfl rfl rfl rfl (by omega) (fun v' N' hO' => ?_)
    rw [Nat.zero_add, List.nil_append] at hO'
    (repeat' (first | refine JO.nil ?_ | refine JX.thenN ?_ | (apply r_assign; (iterate 3 exact rfl)) | refine JC.ret ?_))
    exact JX.ret1 rfl (fun a w' st => ⟨st.kp, N', st.newOf rfl (by (repeat' first | exact HSub.nil _ | exact HSub.hd | exact HSub.in0 | exact HSub.refl _ | refine HSub.skip ?_ | refine HSub.skipN ?_)), hO'⟩)


structure Big (m : NM) : Prop where
  pr : Pr m.p
  r : m.r ≤ 400
  c : m.c ≤ 800
  len : m.e.length = m.r * m.c
  lt : ∀ x ∈ m.e, x < m.p

theorem Rt.big {m : NM} (h : Rt m) : Big m := ⟨h.pr, h.r, by have := h.c; omega, h.len, h.lt⟩
theorem Big.els {m : NM} (h : Big m) : Els m.p m.r m.c m.e := ⟨h.len, h.lt⟩

def GivesML (m : NM) (l : List Nat) (w : World) (v : Value) (w' : World) : Prop := ∃ N N2 u x, v = .tuple #[u, x] ∧ New (N ++ N2) w w' ∧ fdOwnM N u m ∧ OwnN N2 x l.length l

def rdZ : Array Value := ⟨iv 0 :: iv 0 :: iv 0 :: .slice none 0 0 :: List.replicate 998 (iv 0)⟩
instance : TSt Tryd.prog 93 rdZ #[(0, 4), (4, 998)] := TSt.mk' (z := .agg rdZ) Tryd.underlying93 (by kernel_rfl) (by kernel_rfl)

theorem fill_rd (a b c d : Value) (x y z u : Value) (l : List Value) (hl : l.length = 998) : Instr.fill ((#[(0, 4), (4, 998)] : Array (Nat × Nat))[·]?) ⟨x :: y :: z :: u :: l⟩ [(0, .agg #[a, b, c, d])] = some ⟨a :: b :: c :: d :: l⟩ := by
  simp [Instr.fill, Value.cells]

def fdelS (p at' j k : Nat) (g : Nat → Nat → Nat) : Nat → Nat → Nat := fun a b => if a < k ∧ a ≠ at' then (g a b + (p - g a j) * g at' b) % p else g a b

theorem elS_at {p at' j k : Nat} {g : Nat → Nat → Nat} (b : Nat) : fdelS p at' j k g at' b = g at' b := by simp [fdelS]
theorem elS_k {p at' j k : Nat} {g : Nat → Nat → Nat} (b : Nat) : fdelS p at' j k g k b = g k b := by simp [fdelS]
theorem elS_skip {p at' j k r c : Nat} {g : Nat → Nat → Nat} (hg : ∀ a b, g a b < p) (h : k = at' ∨ g k j = 0) : tab2 r c (fdelS p at' j k g) = tab2 r c (fdelS p at' j (k + 1) g) := by
  refine tab2_congr fun a b _ _ => ?_
  unfold fdelS
  by_cases ha : a = k
  · subst ha
    rcases h with h | h
    · subst h; simp
    · have : (g a b + (p - g a j) * g at' b) % p = g a b := by rw [h, Nat.sub_zero, Nat.add_mul_mod_self_left, Nat.mod_eq_of_lt (hg a b)]
      rw [this]; simp
  · have : (a < k + 1) = (a < k) := by simp; omega
    simp only [this]
theorem fdelS_step {p at' j k r c : Nat} {g : Nat → Nat → Nat} (hk : k ≠ at') : tab2 r c (eaG k (fun b x => (x + g at' b * (p - g k j)) % p) (fdelS p at' j k g)) = tab2 r c (fdelS p at' j (k + 1) g) := by
  refine tab2_congr fun a b _ _ => ?_
  unfold eaG fdelS
  by_cases ha : a = k
  · subst ha
    simp [hk, Nat.mul_comm]
  · have : (a < k + 1) = (a < k) := by simp; omega
    simp only [this, if_neg ha]
theorem elS_end {p at' i j r c k : Nat} {g : Nat → Nat → Nat} (hk : r ≤ k) (hi : i < r) :
    tab2 r c (fdelS p at' j k (eaG at' (fun _ x => x * invN p (g i j) % p) (swG at' i g))) = tab2 r c (pvN p at' i j g) := by
  refine tab2_congr fun a b ha _ => ?_
  unfold fdelS eaG swG pvN
  by_cases h : a = at'
  · subst h; simp
  · simp [h, show a < k by omega]

set_option maxHeartbeats 4000000 in
theorem c_reduce0 (w : World) (v : Value) (m : NM) (hm : Big m) (h0 : m.r * m.c = 0) (hv : fdIsM w v m) :
    Calls Tryd.prog 45 #[v] w (Ret fun v w' => Kp [] w w' ∧ GivesML (echM m) (pivM m) w v w') := by
  obtain ⟨E, rfl, hE⟩ := hv
  have hl := hm.len
  have hbr := hm.r
  have hbc := hm.c
  haveI := hm.pr.nz
  rw [hl] at hE
  have hstep : ∀ j, redTo m.p m.r m.c m.e j = (m.e, []) := fun j => by
    induction j with
    | zero => rfl
    | succ j ih =>
      by_cases hj : j < m.c
      · have hr : m.r = 0 := by
          rcases Nat.eq_zero_or_pos m.r with h | h
          · exact h
          · have := Nat.mul_pos h (show 0 < m.c by omega); omega
        rw [redTo_none (by rw [ih]; exact Nat.zero_le _) (fun i _ hi => by omega), ih]
      · have he : m.e = [] := List.eq_nil_of_length_eq_zero (by omega)
        rw [redTo_none (by rw [ih]; exact Nat.zero_le _) (fun i _ hi => by rw [ih]; simp [ent, he]), ih]
  refine calls_of_S [⟨13, 0, [0, 1, 3, 4, 5, 7, 11, 12, 2, 6, 8, 9, 10, 13, 14, 15], [(9, .seq)]⟩, ⟨19, 0, [0, 1, 3, 4, 6, 7, 8, 9, 10, 11, 2, 5, 12, 13, 14], []⟩] [] (by simp) [] Tryd.func45 rfl mixed (by kernel_rfl) Tryd.ntmps45 Tryd.results45 rfl ⟨by simp, by simp⟩ (by simp) ?_
  simp only [toS, textOps, toSOp, kindAt, kindOf, odAt, sopsAt, ordOf, zipF]
  (repeat' (first | refine JC.seq ?_ | refine JC.ops ?_ | refine JO.nil ?_ | refine JX.thenN ?_ | (apply r_fieldAddr; (iterate 3 exact rfl)) | (apply r_assign; (iterate 3 exact rfl)) | (apply r_load; (iterate 4 exact rfl); (first | exact at0 | exact at1 | exact at2 | exact at3 | exact at4 | exact at5 | exact at6 | exact at7); exact rfl) | (apply r_allocZ; (iterate 3 exact rfl); intro _) | (apply r_boxA; (iterate 4 exact rfl); intro _) | refine JC.scope ?_))
  rename_i b1 b2
  refine r_callA (A := [_, _]) (B := []) rfl trivial rfl rfl rfl (fun w hk _ => c_Clone w _ _ _ (hE.mono hk) (by omega)) fun w v w' _ _ _ hR => ?_
  obtain ⟨N, hN, hO⟩ := hR
  obtain ⟨A, cap, rfl⟩ := hO.form
  refine ⟨N, hN, ?_⟩
  (repeat' (first | refine JC.seq ?_ | refine JC.ops ?_ | refine JO.nil ?_ | refine JX.thenN ?_ | (apply r_fieldAddr; (iterate 3 exact rfl)) | (apply r_loadN; (iterate 4 exact rfl); (first | exact at0 | exact at1 | exact at2 | exact at3 | exact at4 | exact at5 | exact at6 | exact at7); exact rfl) | (apply r_store; exact rfl; (first | exact trivial | exact ⟨rfl, rfl⟩); exact rfl; exact rfl; (first | exact at0 | exact at1 | exact at2 | exact at3 | exact at4 | exact at5 | exact at6 | exact at7); exact rfl; exact rfl; (first | exact Nat.le_of_ble_eq_true rfl | (simp; done) | omega))))
  refine r_build (cs := rdC m.p m.r m.c (.slice A (m.r * m.c) cap) (List.replicate 998 0)) rfl rfl rfl ?_ ?_
  · rw [rdC, List.map_replicate]
    exact fill_rd _ _ _ _ _ _ _ _ _ List.length_replicate
  (repeat' (first | refine JC.seq ?_ | refine JC.ops ?_ | refine JO.nil ?_ | refine JX.thenN ?_ | (apply r_assign; (iterate 3 exact rfl)) | (apply r_boxA; (iterate 4 exact rfl); intro _)))
  refine JC.label ?_
  (repeat' (first | refine JC.seq ?_ | refine JC.ops ?_ | refine JO.nil ?_ | refine JX.thenN ?_ | (apply r_move; (iterate 3 exact rfl)) | (apply r_fieldAddr; (iterate 3 exact rfl)) | (apply r_load; (iterate 4 exact rfl); (first | exact at0 | exact at1 | exact at2 | exact at3 | exact at4 | exact at5 | exact at6 | exact at7); exact rfl) | refine JC.block ?_))
  rename_i bm
  refine JC.loopH (ι := Nat) ⟨fun j => [(20, nv j), (19, nv m.c), (1, .pointer (some ⟨b1, 0, none⟩)), (2, .pointer (some ⟨b2, 0, none⟩)), (4, .pointer (some ⟨bm, 0, none⟩)), (5, .slice none 0 0)],
    fun j => [(bm, .cells (rdC m.p m.r m.c (.slice A (m.r * m.c) cap) (List.replicate 998 0)) 93), (b2, .cells #[iv 0, iv 0, iv 0, .slice none 0 0] 30), (b1, .cells #[nv m.p, nv m.r, nv m.c, .slice A (m.r * m.c) cap] 30)] ++ (N ++ []),
    fun j => j ≤ m.c, fun j => m.c - j⟩ 0 (by dsimp only; omega) (by repeat first | exact trivial | refine ⟨rfl, ?_⟩) (by (first | exact HSub.refl _ | (repeat' first | exact HSub.nil _ | exact HSub.refl _ | refine HSub.at 0 rfl ?_ | refine HSub.at 1 rfl ?_ | refine HSub.at 2 rfl ?_ | refine HSub.at 3 rfl ?_ | refine HSub.at 4 rfl ?_ | refine HSub.at 5 rfl ?_ | refine HSub.at 6 rfl ?_ | refine HSub.at 7 rfl ?_))) (fun j hj => ?_)
  dsimp only at hj ⊢
  by_cases hjc : j < m.c
  · have hr : m.r = 0 := by
      rcases Nat.eq_zero_or_pos m.r with h | h
      · exact h
      · have := Nat.mul_pos h (show 0 < m.c by omega); omega
    (repeat' (first | refine JC.seq ?_ | refine JC.ops ?_ | refine JO.nil ?_ | refine JX.thenN ?_ | (apply r_move; (iterate 3 exact rfl)) | (apply r_assign; (iterate 3 exact rfl)) | (apply r_len; (iterate 3 exact rfl)) | (apply r_lss; (iterate 4 exact rfl); all_goals intro hc; all_goals try (exfalso; omega)) | refine JC.skip ?_ | refine JC.condT rfl ?_ | refine JC.block ?_))
    refine JC.loopH (ι := Nat) ⟨fun _ => [(8, nv 0), (7, nv 0), (6, nv j), (20, nv j), (19, nv m.c), (1, .pointer (some ⟨b1, 0, none⟩)), (2, .pointer (some ⟨b2, 0, none⟩)), (4, .pointer (some ⟨bm, 0, none⟩)), (5, .slice none 0 0)],
      fun _ => [(bm, .cells (rdC m.p m.r m.c (.slice A (m.r * m.c) cap) (List.replicate 998 0)) 93), (b2, .cells #[iv 0, iv 0, iv 0, .slice none 0 0] 30), (b1, .cells #[nv m.p, nv m.r, nv m.c, .slice A (m.r * m.c) cap] 30)] ++ (N ++ []),
      fun _ => True, fun _ => 0⟩ 0 trivial (by repeat first | exact trivial | refine ⟨rfl, ?_⟩) (by (first | exact HSub.refl _ | (repeat' first | exact HSub.nil _ | exact HSub.refl _ | refine HSub.at 0 rfl ?_ | refine HSub.at 1 rfl ?_ | refine HSub.at 2 rfl ?_ | refine HSub.at 3 rfl ?_ | refine HSub.at 4 rfl ?_ | refine HSub.at 5 rfl ?_ | refine HSub.at 6 rfl ?_ | refine HSub.at 7 rfl ?_))) (fun i _ => ?_)
    dsimp only
    (repeat' (first | refine JC.seq ?_ | refine JC.ops ?_ | refine JO.nil ?_ | refine JX.thenN ?_ | (apply r_move; (iterate 3 exact rfl)) | (apply r_fieldAddr; (iterate 3 exact rfl)) | (apply r_load; (iterate 4 exact rfl); (first | exact at0 | exact at1 | exact at2 | exact at3 | exact at4 | exact at5 | exact at6 | exact at7); exact rfl) | (apply r_add1; (iterate 4 exact rfl); omega) | (apply r_lss; (iterate 4 exact rfl); all_goals intro hc; all_goals try (exfalso; omega)) | refine JX.thenE ?_ | refine JC.exit ?_ | refine JC.condF rfl ?_ | refine JX.blockN ?_ | refine JX.blockE ?_))
    exact JX.roundH (j + 1) (by dsimp only; omega) (by dsimp only; omega) (by repeat first | exact trivial | refine ⟨rfl, ?_⟩) (by (first | exact HSub.refl _ | (repeat' first | exact HSub.nil _ | exact HSub.refl _ | refine HSub.at 0 rfl ?_ | refine HSub.at 1 rfl ?_ | refine HSub.at 2 rfl ?_ | refine HSub.at 3 rfl ?_ | refine HSub.at 4 rfl ?_ | refine HSub.at 5 rfl ?_ | refine HSub.at 6 rfl ?_ | refine HSub.at 7 rfl ?_)))
  · (repeat' (first | refine JC.seq ?_ | refine JC.ops ?_ | refine JO.nil ?_ | refine JX.thenN ?_ | (apply r_move; (iterate 3 exact rfl)) | (apply r_fieldAddr; (iterate 3 exact rfl)) | (apply r_nilCheck; (iterate 3 exact rfl)) | (apply r_lss; (iterate 4 exact rfl); all_goals intro hc; all_goals try (exfalso; omega)) | refine JX.thenE ?_ | refine JC.exit ?_ | refine JC.condF rfl ?_ | refine JX.blockE ?_))
    refine r_loadM (n := 4) (vs := #[nv m.p, nv m.r, nv m.c, .slice A (m.r * m.c) cap]) 0 rfl rfl rfl rfl rfl rfl (fun k hk => ?_) ?_
    · rcases k with _ | _ | _ | _ | k
      · exact rdC0 _ _ _ _ _
      · exact rdC1 _ _ _ _ _
      · exact rdC2 _ _ _ _ _
      · exact rdC3 _ _ _ _ _
      · omega
    (repeat' (first | refine JO.nil ?_ | refine JX.thenN ?_ | (apply r_move; (iterate 3 exact rfl)) | (apply r_assign; (iterate 3 exact rfl)) | (apply r_storeN; exact rfl; (first | exact trivial | exact ⟨rfl, rfl⟩); exact rfl; exact rfl; (first | exact at0 | exact at1 | exact at2 | exact at3 | exact at4 | exact at5 | exact at6 | exact at7); (iterate 3 exact rfl)) | refine JC.ret ?_ | refine JX.scopeR ?_))
    refine JX.retCT 1 rfl rfl rfl rfl (fun a w' st => ⟨st.kp, N, [], _, _, rfl, st.newOf rfl ?_, ?_, ?_⟩)
    · rw [List.append_nil]; exact (by (repeat' first | exact HSub.nil _ | exact HSub.hd | exact HSub.in0 | exact HSub.refl _ | refine HSub.skip ?_ | refine HSub.skipN ?_))
    · unfold echM; rw [hstep]
      exact fdOwnM.mk' hO
    · unfold pivM; rw [hstep]; exact OwnN.nil


theorem fdhs_at {H : SHeap} {w : World} {b : Nat} {o : Obj} (h : Hsat H w) (k : Nat) (hk : H[k]? = some (b, o)) : w.heap[b]? = some o := h.blk (b, o) (List.mem_of_getElem? hk)
theorem fdhs_ne {H : SHeap} {w : World} {b b' : Nat} {o o' : Obj} (h : Hsat H w) (k k' : Nat) (hk : H[k]? = some (b, o)) (hk' : H[k']? = some (b', o')) (hne : k ≠ k') : b ≠ b' := by
  intro e
  subst e
  have e1 : (H.map (·.1))[k]? = some b := by simp [hk]
  have e2 : (H.map (·.1))[k']? = some b := by simp [hk']
  have hl := (List.getElem?_eq_some_iff.1 e1).1
  exact hne ((List.getElem?_inj hl h.nd).1 (e1.trans e2.symm))

set_option maxHeartbeats 16000000 in
theorem c_reduce1 (w : World) (v : Value) (m : NM) (hm : Big m) (h0 : 0 < m.r * m.c) (hv : fdIsM w v m) :
    Calls Tryd.prog 45 #[v] w (Ret fun v w' => Kp [] w w' ∧ GivesML (echM m) (pivM m) w v w') := by
  obtain ⟨E, rfl, hE⟩ := hv
  have hl := hm.len
  have hbr := hm.r
  have hbc := hm.c
  haveI := hm.pr.nz
  have hp := hm.pr
  have hp9 := hp.2.1
  have hpos : 0 < m.p := by have := hp.1; omega
  have hn1 : m.r * m.c ≤ 320000 := Nat.mul_le_mul hbr hbc
  have hc0 : 0 < m.c := Nat.pos_of_ne_zero fun e => by rw [e, Nat.mul_zero] at h0; omega
  rw [hl] at hE
  refine calls_of_S [⟨13, 0, [0, 1, 3, 4, 5, 7, 11, 12, 2, 6, 8, 9, 10, 13, 14, 15], [(9, .seq)]⟩, ⟨19, 0, [0, 1, 3, 4, 6, 7, 8, 9, 10, 11, 2, 5, 12, 13, 14], []⟩] [] (by simp) [] Tryd.func45 rfl mixed (by kernel_rfl) Tryd.ntmps45 Tryd.results45 rfl ⟨by simp, by simp⟩ (by simp) ?_
  simp only [toS, textOps, toSOp, kindAt, kindOf, odAt, sopsAt, ordOf, zipF]
  (repeat' (first | refine JC.seq ?_ | refine JC.ops ?_ | refine JO.nil ?_ | refine JX.thenN ?_ | (apply r_fieldAddr; (iterate 3 exact rfl)) | (apply r_assign; (iterate 3 exact rfl)) | (apply r_load; (iterate 4 exact rfl); (first | exact at0 | exact at1 | exact at2 | exact at3 | exact at4 | exact at5 | exact at6 | exact at7); exact rfl) | (apply r_allocZ; (iterate 3 exact rfl); intro _) | (apply r_boxA; (iterate 4 exact rfl); intro _) | refine JC.scope ?_))
  rename_i b1 b2
  refine r_callA (A := [_, _]) (B := []) rfl trivial rfl rfl rfl (fun w hk _ => c_Clone w _ _ _ (hE.mono hk) (by omega)) fun w v w' _ _ _ hR => ?_
  obtain ⟨N, hN, hO⟩ := hR
  obtain ⟨bE, cap, rest, rfl, rfl, hcap, hrest, hcapm⟩ := hO.named h0
  refine ⟨_, hN, ?_⟩
  (repeat' (first | refine JC.seq ?_ | refine JC.ops ?_ | refine JO.nil ?_ | refine JX.thenN ?_ | (apply r_fieldAddr; (iterate 3 exact rfl)) | (apply r_loadN; (iterate 4 exact rfl); (first | exact at0 | exact at1 | exact at2 | exact at3 | exact at4 | exact at5 | exact at6 | exact at7); exact rfl) | (apply r_store; exact rfl; (first | exact trivial | exact ⟨rfl, rfl⟩); exact rfl; exact rfl; (first | exact at0 | exact at1 | exact at2 | exact at3 | exact at4 | exact at5 | exact at6 | exact at7); exact rfl; exact rfl; (first | exact Nat.le_of_ble_eq_true rfl | (simp; done) | omega))))
  refine r_build (cs := rdC m.p m.r m.c (.slice (some ⟨bE, 0, none⟩) (m.r * m.c) cap) (List.replicate 998 0)) rfl rfl rfl ?_ ?_
  · rw [rdC, List.map_replicate]
    exact fill_rd _ _ _ _ _ _ _ _ _ List.length_replicate
  (repeat' (first | refine JC.seq ?_ | refine JC.ops ?_ | refine JO.nil ?_ | refine JX.thenN ?_ | (apply r_assign; (iterate 3 exact rfl)) | (apply r_boxA; (iterate 4 exact rfl); intro _)))
  refine JC.label ?_
  (repeat' (first | refine JC.seq ?_ | refine JC.ops ?_ | refine JO.nil ?_ | refine JX.thenN ?_ | (apply r_move; (iterate 3 exact rfl)) | (apply r_fieldAddr; (iterate 3 exact rfl)) | (apply r_load; (iterate 4 exact rfl); (first | exact at0 | exact at1 | exact at2 | exact at3 | exact at4 | exact at5 | exact at6 | exact at7); exact rfl) | refine JC.block ?_))
  rename_i bm
  refine JC.loopH (ι := Nat × SHeap × Value × List Nat) ⟨fun z => [(20, nv z.1), (19, nv m.c), (1, .pointer (some ⟨b1, 0, none⟩)), (2, .pointer (some ⟨b2, 0, none⟩)), (4, .pointer (some ⟨bm, 0, none⟩)), (5, z.2.2.1)],
    fun z => [(bm, .cells (rdC m.p m.r m.c (.slice (some ⟨bE, 0, none⟩) (m.r * m.c) cap) z.2.2.2) 93), (b2, .cells #[iv 0, iv 0, iv 0, .slice none 0 0] 30), (b1, .cells #[nv m.p, nv m.r, nv m.c, .slice (some ⟨bE, 0, none⟩) (m.r * m.c) cap] 30), (bE, .cells (rowC (tab2 m.r m.c (ent m.c (redTo m.p m.r m.c m.e z.1).1)) rest) 3 (0, 0))] ++ (z.2.1 ++ []),
    fun z => z.1 ≤ m.c ∧ OwnN z.2.1 z.2.2.1 (redTo m.p m.r m.c m.e z.1).2.length (redTo m.p m.r m.c m.e z.1).2 ∧ Ovs m.p z.2.2.2, fun z => m.c - z.1⟩ (0, [], .slice none 0 0, List.replicate 998 0) ⟨by dsimp only; omega, OwnN.nil, Ovs.zero _⟩ (by repeat first | exact trivial | refine ⟨rfl, ?_⟩) (by dsimp only [redTo]; rw [tab2_of hl]; exact (by (first | exact HSub.refl _ | (repeat' first | exact HSub.nil _ | exact HSub.refl _ | refine HSub.at 0 rfl ?_ | refine HSub.at 1 rfl ?_ | refine HSub.at 2 rfl ?_ | refine HSub.at 3 rfl ?_ | refine HSub.at 4 rfl ?_ | refine HSub.at 5 rfl ?_ | refine HSub.at 6 rfl ?_ | refine HSub.at 7 rfl ?_)))) (fun z hz => ?_)
  obtain ⟨j, M, vp, ov⟩ := z
  obtain ⟨hj, hM, hov⟩ := hz
  dsimp only at hj hM hov ⊢
  by_cases hjc : j < m.c
  · have hok := redTo_ok hp hm.els j (by omega)
    have hk := hok.red.kr
    generalize hs : redTo m.p m.r m.c m.e j = s at *
    have hk8 : s.2.length ≤ 400 := by omega
    (repeat' (first | refine JC.seq ?_ | refine JC.ops ?_ | refine JO.nil ?_ | refine JX.thenN ?_ | (apply r_move; (iterate 3 exact rfl)) | (apply r_assign; (iterate 3 exact rfl)) | (apply r_lenN; (iterate 3 exact rfl); (first | assumption | exact WN.rd (by assumption) rfl [] | exact OwnN.rd (by assumption))) | (apply r_lss; (iterate 4 exact rfl); all_goals intro hc; all_goals try (exfalso; omega)) | refine JC.skip ?_ | refine JC.condT rfl ?_ | refine JC.block ?_))
    refine JC.loopH (ι := Nat) ⟨fun i => [(8, nv i), (7, nv s.2.length), (6, nv j), (20, nv j), (19, nv m.c), (1, .pointer (some ⟨b1, 0, none⟩)), (2, .pointer (some ⟨b2, 0, none⟩)), (4, .pointer (some ⟨bm, 0, none⟩)), (5, vp)],
      fun _ => [(bm, .cells (rdC m.p m.r m.c (.slice (some ⟨bE, 0, none⟩) (m.r * m.c) cap) ov) 93), (b2, .cells #[iv 0, iv 0, iv 0, .slice none 0 0] 30), (b1, .cells #[nv m.p, nv m.r, nv m.c, .slice (some ⟨bE, 0, none⟩) (m.r * m.c) cap] 30), (bE, .cells (rowC (tab2 m.r m.c (ent m.c s.1)) rest) 3 (0, 0))] ++ (M ++ []),
      fun i => s.2.length ≤ i ∧ i ≤ m.r ∧ ∀ t, s.2.length ≤ t → t < i → ent m.c s.1 t j = 0, fun i => m.r - i⟩ s.2.length ⟨Nat.le_refl _, hk, fun t a b => by omega⟩ (by repeat first | exact trivial | refine ⟨rfl, ?_⟩) (by (first | exact HSub.refl _ | (repeat' first | exact HSub.nil _ | exact HSub.refl _ | refine HSub.at 0 rfl ?_ | refine HSub.at 1 rfl ?_ | refine HSub.at 2 rfl ?_ | refine HSub.at 3 rfl ?_ | refine HSub.at 4 rfl ?_ | refine HSub.at 5 rfl ?_ | refine HSub.at 6 rfl ?_ | refine HSub.at 7 rfl ?_))) (fun i hi => ?_)
    obtain ⟨hki, hir, hz⟩ := hi
    dsimp only
    by_cases hi : i < m.r
    · have hrow := row_le (c := m.c) hi
      have hij := fdidx_lt hi hjc
      have htl : (tab2 m.r m.c (ent m.c s.1)).length = m.r * m.c := tab2_len _ _ _
      (repeat' (first | refine JC.seq ?_ | refine JC.ops ?_ | refine JO.nil ?_ | refine JX.thenN ?_ | (apply r_move; (iterate 3 exact rfl)) | (apply r_fieldAddr; (iterate 3 exact rfl)) | (apply r_load; (iterate 4 exact rfl); (first | exact at0 | exact at1 | exact at2 | exact at3 | exact at4 | exact at5 | exact at6 | exact at7); exact rfl) | (apply r_lss; (iterate 4 exact rfl); all_goals intro hc; all_goals try (exfalso; omega)) | refine JC.skip ?_ | refine JC.condT rfl ?_ | refine JC.block ?_))
      refine r_call0 trivial rfl rfl rfl (fun w _ hs => c_row w bm i m.p m.r m.c bE _ cap ov (fdhs_at hs 0 rfl) hrow hc0 hcap (by omega)) fun w v w' _ _ _ hv => ?_
      subst hv
      (repeat' (first | refine JC.seq ?_ | refine JC.ops ?_ | refine JO.nil ?_ | refine JX.thenN ?_ | (apply r_move; (iterate 3 exact rfl)) | (apply r_assign; (iterate 3 exact rfl)) | (apply r_idxB; (iterate 4 exact rfl); omega) | (apply r_ldB; (iterate 4 exact rfl); (first | exact at0 | exact at1 | exact at2 | exact at3 | exact at4 | exact at5 | exact at6 | exact at7); omega) | (apply r_add1; (iterate 4 exact rfl); omega) | (apply r_eql; (iterate 4 exact rfl); all_goals intro hc; all_goals try (exfalso; omega)) | refine JX.thenE ?_ | refine JC.skip ?_ | refine JC.exit ?_ | refine JC.condT rfl ?_ | refine JC.condF rfl ?_ | refine JX.blockE ?_))
      · refine JX.roundH (i + 1) ⟨by omega, by omega, fun t a b => ?_⟩ (by dsimp only; omega) (by repeat first | exact trivial | refine ⟨rfl, ?_⟩) (by (first | exact HSub.refl _ | (repeat' first | exact HSub.nil _ | exact HSub.refl _ | refine HSub.at 0 rfl ?_ | refine HSub.at 1 rfl ?_ | refine HSub.at 2 rfl ?_ | refine HSub.at 3 rfl ?_ | refine HSub.at 4 rfl ?_ | refine HSub.at 5 rfl ?_ | refine HSub.at 6 rfl ?_ | refine HSub.at 7 rfl ?_)))
        by_cases e : t = i
        · subst e; rw [tab2_get hi hjc] at hc; omega
        · exact hz t a (by omega)
      · rw [tab2_get hi hjc] at hc
        have hne : ent m.c s.1 i j ≠ 0 := by omega
        have hlt : ∀ a b, ent m.c s.1 a b < m.p := hok.els.ent hpos
        have har : s.2.length < m.r := by omega
        have harow := row_le (c := m.c) har
        have hinv := invN_lt (n := ent m.c s.1 i j) hp
        have hnext := redTo_some (p := m.p) (r := m.r) (c := m.c) (j := j) (i := i) (xs := m.e) (by rw [hs]; exact hki) hi (by rw [hs]; exact hz) (by rw [hs]; exact hne)
        rw [hs] at hnext
        refine r_callO (A := [_, _, _]) (N := [_]) (B := M ++ []) rfl trivial rfl rfl rfl (fun w _ hs => c_swap w bm s.2.length i m.p m.r m.c bE _ cap ov (ent m.c s.1) rest (fdhs_at hs 0 rfl) (fdhs_ne hs 0 3 rfl rfl (by omega)) (fdhs_at hs 3 rfl) har hi hc0 rfl hcap (by omega)) fun w v w' _ _ _ hv => ?_
        refine ⟨[(bE, .cells (rowC (tab2 m.r m.c (swG s.2.length i (ent m.c s.1))) rest) 3 (0, 0))], rfl, fun q hq => by cases List.mem_singleton.1 hq; exact hv, ?_⟩
        (repeat' (first | refine JC.seq ?_ | refine JO.nil ?_ | refine JX.thenN ?_))
        refine JC.opsDs [(b1, .cells #[nv m.p, nv m.r, nv m.c, .slice (some ⟨bE, 0, none⟩) (m.r * m.c) cap] 30)] (by (first | exact HSub.refl _ | (repeat' first | exact HSub.nil _ | exact HSub.refl _ | refine HSub.at 0 rfl ?_ | refine HSub.at 1 rfl ?_ | refine HSub.at 2 rfl ?_ | refine HSub.at 3 rfl ?_ | refine HSub.at 4 rfl ?_ | refine HSub.at 5 rfl ?_ | refine HSub.at 6 rfl ?_ | refine HSub.at 7 rfl ?_))) ?_
        (repeat' (first | (apply r_move; (iterate 3 exact rfl)) | (apply r_fieldAddr; (iterate 3 exact rfl)) | (apply r_load; (iterate 4 exact rfl); (first | exact at0 | exact at1 | exact at2 | exact at3 | exact at4 | exact at5 | exact at6 | exact at7); exact rfl)))
        refine r_call0 trivial rfl rfl rfl (fun w _ hs => c_row w bm s.2.length m.p m.r m.c bE _ cap ov (fdhs_at hs 0 rfl) harow hc0 hcap (by omega)) fun w v w' _ _ _ hv => ?_
        subst hv
        skip
        refine r_call0 trivial rfl rfl rfl (fun w _ hs => c_row w bm s.2.length m.p m.r m.c bE _ cap ov (fdhs_at hs 0 rfl) harow hc0 hcap (by omega)) fun w v w' _ _ _ hv => ?_
        subst hv
        have haj := fdidx_lt har hjc
        have htl2 : (tab2 m.r m.c (swG s.2.length i (ent m.c s.1))).length = m.r * m.c := tab2_len _ _ _
        (repeat' (first | (apply r_idxB; (iterate 4 exact rfl); omega) | (apply r_ldBSeq; exact trivial; (iterate 3 exact rfl); (first | exact at0 | exact at1 | exact at2 | exact at3 | exact at4 | exact at5 | exact at6 | exact at7); omega)))
        have e1 : (tab2 m.r m.c (swG s.2.length i (ent m.c s.1))).getD (s.2.length * m.c + j) 0 = ent m.c s.1 i j := by rw [tab2_get har hjc]; simp [swG]
        rw [e1]
        refine r_callOL (A := []) (N := [(bm, .cells (rdC m.p m.r m.c (.slice (some ⟨bE, 0, none⟩) (m.r * m.c) cap) ov) 93 (0, 0))]) (B := [_, _, _] ++ (M ++ [])) rfl (by (first | exact HSub.refl _ | (repeat' first | exact HSub.nil _ | exact HSub.refl _ | refine HSub.at 0 rfl ?_ | refine HSub.at 1 rfl ?_ | refine HSub.at 2 rfl ?_ | refine HSub.at 3 rfl ?_ | refine HSub.at 4 rfl ?_ | refine HSub.at 5 rfl ?_ | refine HSub.at 6 rfl ?_ | refine HSub.at 7 rfl ?_))) rfl rfl rfl (fun w _ hs => c_invert w bm (ent m.c s.1 i j) m.p m.r m.c _ ov (fdhs_at hs 0 rfl) hov hp (by omega) (hlt i j)) fun w v w' _ _ _ hR => ?_
        obtain ⟨rfl, ov', hov', hR'⟩ := hR
        refine ⟨[(bm, .cells (rdC m.p m.r m.c (.slice (some ⟨bE, 0, none⟩) (m.r * m.c) cap) ov') 93 (0, 0))], rfl, fun q hq => by cases List.mem_singleton.1 hq; exact hR', ?_⟩
        (repeat' (first | (apply r_buildL; (iterate 5 exact rfl)) | (apply r_makeFunc; (iterate 4 exact rfl))))
        refine r_callOL (A := [_, _, _]) (N := [_]) (B := M ++ []) rfl (by (first | exact HSub.refl _ | (repeat' first | exact HSub.nil _ | exact HSub.refl _ | refine HSub.at 0 rfl ?_ | refine HSub.at 1 rfl ?_ | refine HSub.at 2 rfl ?_ | refine HSub.at 3 rfl ?_ | refine HSub.at 4 rfl ?_ | refine HSub.at 5 rfl ?_ | refine HSub.at 6 rfl ?_ | refine HSub.at 7 rfl ?_))) rfl rfl rfl (fun w _ hs => fdc_each (f := 73) (fst := #[.agg #[.slice none 0 0, nv (invN m.p (ent m.c s.1 i j)), nv m.p]]) (cap' := #[]) w s.2.length m.r m.c bE _ (swG s.2.length i (ent m.c s.1)) (fun _ x => x * invN m.p (ent m.c s.1 i j) % m.p) rest (fdhs_at hs 3 rfl) har (by omega)
          (fun w' k _ _ _ => c_scale w' _ _ _ k _ (by simp only [swG, if_true]; exact hlt i k) hinv hp9)) fun w v w' _ _ _ hv => ?_
        refine ⟨[(bE, .cells (rowC (tab2 m.r m.c (eaG s.2.length (fun _ x => x * invN m.p (ent m.c s.1 i j) % m.p) (swG s.2.length i (ent m.c s.1)))) rest) 3 (0, 0))], rfl, fun q hq => by cases List.mem_singleton.1 hq; exact hv, ?_⟩
        (repeat' (first | refine JC.seq ?_ | refine JC.ops ?_ | refine JO.nil ?_ | refine JX.thenN ?_ | (apply r_move; (iterate 3 exact rfl)) | (apply r_fieldAddr; (iterate 3 exact rfl)) | (apply r_load; (iterate 4 exact rfl); (first | exact at0 | exact at1 | exact at2 | exact at3 | exact at4 | exact at5 | exact at6 | exact at7); exact rfl) | refine JC.block ?_))
        generalize hg1 : eaG s.2.length (fun _ x => x * invN m.p (ent m.c s.1 i j) % m.p) (swG s.2.length i (ent m.c s.1)) = g1
        have hg1lt : ∀ a b, g1 a b < m.p := fun a b => by
          rw [← hg1]
          unfold eaG swG
          repeat' split
          all_goals first | exact hlt _ _ | exact Nat.mod_lt _ hpos
        refine JC.loopH (ι := Nat) ⟨fun k => [(61, nv k), (60, nv m.r), (6, nv j), (7, nv s.2.length), (20, nv j), (19, nv m.c), (1, .pointer (some ⟨b1, 0, none⟩)), (2, .pointer (some ⟨b2, 0, none⟩)), (4, .pointer (some ⟨bm, 0, none⟩)), (5, vp)],
          fun k => [(bm, .cells (rdC m.p m.r m.c (.slice (some ⟨bE, 0, none⟩) (m.r * m.c) cap) ov') 93), (b2, .cells #[iv 0, iv 0, iv 0, .slice none 0 0] 30), (b1, .cells #[nv m.p, nv m.r, nv m.c, .slice (some ⟨bE, 0, none⟩) (m.r * m.c) cap] 30), (bE, .cells (rowC (tab2 m.r m.c (fdelS m.p s.2.length j k g1)) rest) 3 (0, 0))] ++ (M ++ []),
          fun k => k ≤ m.r, fun k => m.r - k⟩ 0 (by dsimp only; omega) (by repeat first | exact trivial | refine ⟨rfl, ?_⟩) (by dsimp only; rw [show fdelS m.p s.2.length j 0 g1 = g1 by funext a b; simp [fdelS]]; exact (by (first | exact HSub.refl _ | (repeat' first | exact HSub.nil _ | exact HSub.refl _ | refine HSub.at 0 rfl ?_ | refine HSub.at 1 rfl ?_ | refine HSub.at 2 rfl ?_ | refine HSub.at 3 rfl ?_ | refine HSub.at 4 rfl ?_ | refine HSub.at 5 rfl ?_ | refine HSub.at 6 rfl ?_ | refine HSub.at 7 rfl ?_)))) (fun k hkr => ?_)
        dsimp only at hkr ⊢
        by_cases hkr1 : k < m.r
        · have hkrow := row_le (c := m.c) hkr1
          have hkj := fdidx_lt hkr1 hjc
          have htl3 : (tab2 m.r m.c (fdelS m.p s.2.length j k g1)).length = m.r * m.c := tab2_len _ _ _
          have e2 : (tab2 m.r m.c (fdelS m.p s.2.length j k g1)).getD (k * m.c + j) 0 = g1 k j := by rw [tab2_get hkr1 hjc, elS_k]
          have hgk := hg1lt k j
          (repeat' (first | refine JC.seq ?_ | refine JC.ops ?_ | refine JO.nil ?_ | refine JX.thenN ?_ | (apply r_move; (iterate 3 exact rfl)) | (apply r_assign; (iterate 3 exact rfl)) | (apply r_lss; (iterate 4 exact rfl); all_goals intro hc; all_goals try (exfalso; omega)) | refine JC.skip ?_ | refine JC.condT rfl ?_ | refine JC.block ?_))
          refine r_call0 trivial rfl rfl rfl (fun w _ hs => c_row w bm k m.p m.r m.c bE _ cap ov' (fdhs_at hs 0 rfl) hkrow hc0 hcap (by omega)) fun w v w' _ _ _ hv => ?_
          subst hv
          (repeat' (first | refine JC.seq ?_ | refine JC.ops ?_ | refine JO.nil ?_ | refine JX.thenN ?_ | (apply r_move; (iterate 3 exact rfl)) | (apply r_assign; (iterate 3 exact rfl)) | (apply r_idxB; (iterate 4 exact rfl); omega) | (apply r_ldB; (iterate 4 exact rfl); (first | exact at0 | exact at1 | exact at2 | exact at3 | exact at4 | exact at5 | exact at6 | exact at7); omega) | (apply r_add1; (iterate 4 exact rfl); omega) | (apply r_pickT; (iterate 4 exact rfl)) | (apply r_pickF; (iterate 4 exact rfl)) | (apply r_gtr; (iterate 4 exact rfl); all_goals intro hc; all_goals try (exfalso; omega)) | (apply r_neq; (iterate 4 exact rfl); all_goals intro hc; all_goals try (exfalso; omega)) | refine JC.skip ?_ | refine JC.condT rfl ?_ | refine JC.condF rfl ?_ | refine JX.blockN ?_ | (apply r_skip; exact rfl; exact rfl; (first | (intro h; cases h; done) | (intro _; rfl)))))
          · rw [e2] at hc ⊢
            refine JC.opsDs [(b1, .cells #[nv m.p, nv m.r, nv m.c, .slice (some ⟨bE, 0, none⟩) (m.r * m.c) cap] 30)] (by (first | exact HSub.refl _ | (repeat' first | exact HSub.nil _ | exact HSub.refl _ | refine HSub.at 0 rfl ?_ | refine HSub.at 1 rfl ?_ | refine HSub.at 2 rfl ?_ | refine HSub.at 3 rfl ?_ | refine HSub.at 4 rfl ?_ | refine HSub.at 5 rfl ?_ | refine HSub.at 6 rfl ?_ | refine HSub.at 7 rfl ?_))) ?_
            (repeat' (first | (apply r_move; (iterate 3 exact rfl)) | (apply r_fieldAddr; (iterate 3 exact rfl)) | (apply r_load; (iterate 4 exact rfl); (first | exact at0 | exact at1 | exact at2 | exact at3 | exact at4 | exact at5 | exact at6 | exact at7); exact rfl) | (apply r_subN; (iterate 4 exact rfl); omega)))
            refine r_call0 trivial rfl rfl rfl (fun w _ hs => c_row w bm k m.p m.r m.c bE _ cap ov' (fdhs_at hs 0 rfl) hkrow hc0 hcap (by omega)) fun w v w' _ _ _ hv => ?_
            subst hv
            skip
            refine r_call0 trivial rfl rfl rfl (fun w _ hs => c_row w bm s.2.length m.p m.r m.c bE _ cap ov' (fdhs_at hs 0 rfl) harow hc0 hcap (by omega)) fun w v w' _ _ _ hv => ?_
            subst hv
            (repeat' (first | (apply r_buildL; (iterate 5 exact rfl)) | (apply r_makeFunc; (iterate 4 exact rfl))))
            refine r_callOL (A := [_, _, _]) (N := [(bE, .cells (rowC (tab2 m.r m.c (fdelS m.p s.2.length j k g1)) rest) 3 (0, 0))]) (B := M ++ []) rfl (by (first | exact HSub.refl _ | (repeat' first | exact HSub.nil _ | exact HSub.refl _ | refine HSub.at 0 rfl ?_ | refine HSub.at 1 rfl ?_ | refine HSub.at 2 rfl ?_ | refine HSub.at 3 rfl ?_ | refine HSub.at 4 rfl ?_ | refine HSub.at 5 rfl ?_ | refine HSub.at 6 rfl ?_ | refine HSub.at 7 rfl ?_))) rfl rfl rfl (fun w _ hs => fdc_each (f := 74) (fst := #[.agg #[.slice (some ⟨bE, s.2.length * m.c, none⟩) m.c (cap - s.2.length * m.c), nv (m.p - g1 k j), nv m.p]]) (cap' := #[]) w k m.r m.c bE _ (fdelS m.p s.2.length j k g1) (fun b x => (x + g1 s.2.length b * (m.p - g1 k j)) % m.p) rest (fdhs_at hs 3 rfl) hkr1 (by omega)
              (fun w' b hb _ hE' => by
                have hbl := fdidx_lt har hb
                have e3 : (tab2 m.r m.c (eaS k b (fun b x => (x + g1 s.2.length b * (m.p - g1 k j)) % m.p) (fdelS m.p s.2.length j k g1))).getD (s.2.length * m.c + b) 0 = g1 s.2.length b := by
                  rw [tab2_get har hb]; unfold eaS eaG; rw [if_neg (by omega), elS_at]
                have := fdc_add w' (fdelS m.p s.2.length j k g1 k b) (m.p - g1 k j) m.p b (s.2.length * m.c) m.c (cap - s.2.length * m.c) bE _ _ _ _ hE' hb (by rw [tab2_len]; exact hbl) (by rw [elS_k]; exact hg1lt k b) (by rw [e3]; exact hg1lt _ b) (by omega) hp9
                rw [e3] at this
                exact this)) fun w v w' _ _ _ hv => ?_
            refine ⟨[(bE, .cells (rowC (tab2 m.r m.c (eaG k (fun b x => (x + g1 s.2.length b * (m.p - g1 k j)) % m.p) (fdelS m.p s.2.length j k g1))) rest) 3 (0, 0))], rfl, fun q hq => by cases List.mem_singleton.1 hq; exact hv, ?_⟩
            rw [fdelS_step (by omega)]
            (repeat' (first | refine JC.ops ?_ | refine JO.nil ?_ | refine JX.thenN ?_ | (apply r_move; (iterate 3 exact rfl)) | (apply r_add1; (iterate 4 exact rfl); omega) | refine JX.blockN ?_))
            exact JX.roundH (k + 1) (by dsimp only; omega) (by dsimp only; omega) (by repeat first | exact trivial | refine ⟨rfl, ?_⟩) (by (first | exact HSub.refl _ | (repeat' first | exact HSub.nil _ | exact HSub.refl _ | refine HSub.at 0 rfl ?_ | refine HSub.at 1 rfl ?_ | refine HSub.at 2 rfl ?_ | refine HSub.at 3 rfl ?_ | refine HSub.at 4 rfl ?_ | refine HSub.at 5 rfl ?_ | refine HSub.at 6 rfl ?_ | refine HSub.at 7 rfl ?_)))
          · skip
            rw [e2] at hc
            rw [elS_skip hg1lt (.inr (by omega))]
            exact JX.roundH (k + 1) (by dsimp only; omega) (by dsimp only; omega) (by repeat first | exact trivial | refine ⟨rfl, ?_⟩) (by (first | exact HSub.refl _ | (repeat' first | exact HSub.nil _ | exact HSub.refl _ | refine HSub.at 0 rfl ?_ | refine HSub.at 1 rfl ?_ | refine HSub.at 2 rfl ?_ | refine HSub.at 3 rfl ?_ | refine HSub.at 4 rfl ?_ | refine HSub.at 5 rfl ?_ | refine HSub.at 6 rfl ?_ | refine HSub.at 7 rfl ?_)))
          · skip
            rw [elS_skip hg1lt (.inl (by omega))]
            exact JX.roundH (k + 1) (by dsimp only; omega) (by dsimp only; omega) (by repeat first | exact trivial | refine ⟨rfl, ?_⟩) (by (first | exact HSub.refl _ | (repeat' first | exact HSub.nil _ | exact HSub.refl _ | refine HSub.at 0 rfl ?_ | refine HSub.at 1 rfl ?_ | refine HSub.at 2 rfl ?_ | refine HSub.at 3 rfl ?_ | refine HSub.at 4 rfl ?_ | refine HSub.at 5 rfl ?_ | refine HSub.at 6 rfl ?_ | refine HSub.at 7 rfl ?_)))
        · (repeat' (first | refine JC.seq ?_ | refine JC.ops ?_ | refine JO.nil ?_ | refine JX.thenN ?_ | (apply r_move; (iterate 3 exact rfl)) | (apply r_lss; (iterate 4 exact rfl); all_goals intro hc; all_goals try (exfalso; omega)) | (apply r_build1; (iterate 5 exact rfl); (repeat first | exact trivial | refine ⟨rfl, ?_⟩); decide; decide; intro _) | refine JX.thenE ?_ | refine JC.exit ?_ | refine JC.condF rfl ?_ | refine JX.blockE ?_))
          subst hg1
          rw [elS_end (by omega) hi]
          have hlen2 : (s.2 ++ [j]).length = s.2.length + 1 := by simp
          have hL : ∀ b5 : Nat, OwnN [(b5, .cells ⟨[nv j]⟩ 3)] (.slice (some ⟨b5, 0, none⟩) 1 1) 1 [j] := fun b5 => own_lit b5 1 [j] _ rfl rfl (by omega)
          refine r_appendN (A := [_, _, _, _, _]) hM (hL _).rd (by (repeat' first | exact HSub.nil _ | exact HSub.hd | exact HSub.in0 | exact HSub.refl _ | refine HSub.skip ?_ | refine HSub.skipN ?_)) rfl trivial rfl rfl rfl rfl (by omega) (fun vp' M' hM' => ?_)
          (repeat' (first | refine JC.ops ?_ | refine JO.nil ?_ | refine JX.thenN ?_ | (apply r_move; (iterate 3 exact rfl)) | (apply r_assign; (iterate 3 exact rfl)) | (apply r_add1; (iterate 4 exact rfl); omega) | refine JX.thenE ?_ | refine JC.exit ?_ | refine JX.blockE ?_ | refine JX.blockO rfl ?_))
          refine JX.roundH (j + 1, M', vp', ov') ⟨by dsimp only; omega, by dsimp only; rw [hnext, hlen2]; exact hM', hov'⟩ (by dsimp only; omega) (by repeat first | exact trivial | refine ⟨rfl, ?_⟩) (by dsimp only; rw [hnext, tab2_of (tab2_len _ _ _)]; exact HSub.skip (by (first | exact HSub.refl _ | (repeat' first | exact HSub.nil _ | exact HSub.refl _ | refine HSub.at 0 rfl ?_ | refine HSub.at 1 rfl ?_ | refine HSub.at 2 rfl ?_ | refine HSub.at 3 rfl ?_ | refine HSub.at 4 rfl ?_ | refine HSub.at 5 rfl ?_ | refine HSub.at 6 rfl ?_ | refine HSub.at 7 rfl ?_))))
    · (repeat' (first | refine JC.seq ?_ | refine JC.ops ?_ | refine JO.nil ?_ | refine JX.thenN ?_ | (apply r_move; (iterate 3 exact rfl)) | (apply r_fieldAddr; (iterate 3 exact rfl)) | (apply r_load; (iterate 4 exact rfl); (first | exact at0 | exact at1 | exact at2 | exact at3 | exact at4 | exact at5 | exact at6 | exact at7); exact rfl) | (apply r_add1; (iterate 4 exact rfl); omega) | (apply r_lss; (iterate 4 exact rfl); all_goals intro hc; all_goals try (exfalso; omega)) | refine JX.thenE ?_ | refine JC.exit ?_ | refine JC.condF rfl ?_ | refine JX.blockN ?_ | refine JX.blockE ?_))
      have hnext := redTo_none (p := m.p) (r := m.r) (c := m.c) (j := j) (xs := m.e) (by rw [hs]; exact hk) (by rw [hs]; exact fun t a b => hz t a (by omega))
      rw [hs] at hnext
      refine JX.roundH (j + 1, M, vp, ov) ⟨by dsimp only; omega, by dsimp only; rw [hnext]; exact hM, hov⟩ (by dsimp only; omega) (by repeat first | exact trivial | refine ⟨rfl, ?_⟩) (by dsimp only; rw [hnext]; exact (by (first | exact HSub.refl _ | (repeat' first | exact HSub.nil _ | exact HSub.refl _ | refine HSub.at 0 rfl ?_ | refine HSub.at 1 rfl ?_ | refine HSub.at 2 rfl ?_ | refine HSub.at 3 rfl ?_ | refine HSub.at 4 rfl ?_ | refine HSub.at 5 rfl ?_ | refine HSub.at 6 rfl ?_ | refine HSub.at 7 rfl ?_))))
  · (repeat' (first | refine JC.seq ?_ | refine JC.ops ?_ | refine JO.nil ?_ | refine JX.thenN ?_ | (apply r_move; (iterate 3 exact rfl)) | (apply r_fieldAddr; (iterate 3 exact rfl)) | (apply r_nilCheck; (iterate 3 exact rfl)) | (apply r_lss; (iterate 4 exact rfl); all_goals intro hc; all_goals try (exfalso; omega)) | refine JX.thenE ?_ | refine JC.exit ?_ | refine JC.condF rfl ?_ | refine JX.blockE ?_))
    have hjc' : j = m.c := by omega
    subst hjc'
    refine r_loadM (n := 4) (vs := #[nv m.p, nv m.r, nv m.c, .slice (some ⟨bE, 0, none⟩) (m.r * m.c) cap]) 0 rfl rfl rfl rfl rfl rfl (fun k hk => ?_) ?_
    · rcases k with _ | _ | _ | _ | k
      · exact rdC0 _ _ _ _ _
      · exact rdC1 _ _ _ _ _
      · exact rdC2 _ _ _ _ _
      · exact rdC3 _ _ _ _ _
      · omega
    (repeat' (first | refine JO.nil ?_ | refine JX.thenN ?_ | (apply r_move; (iterate 3 exact rfl)) | (apply r_assign; (iterate 3 exact rfl)) | (apply r_storeN; exact rfl; (first | exact trivial | exact ⟨rfl, rfl⟩); exact rfl; exact rfl; (first | exact at0 | exact at1 | exact at2 | exact at3 | exact at4 | exact at5 | exact at6 | exact at7); (iterate 3 exact rfl)) | refine JC.ret ?_ | refine JX.scopeR ?_))
    have hok := redTo_ok hp hm.els m.c (Nat.le_refl _)
    have hO := OwnN.ofNamed (b := bE) hok.els.len hcap hrest hcapm
    rw [tab2_of hok.els.len]
    refine JX.retCT 1 rfl rfl rfl rfl (fun a w' st => ⟨st.kp, [_], M, _, _, rfl, st.newOf rfl (HSub.at 3 rfl (by (repeat' first | exact HSub.nil _ | exact HSub.hd | exact HSub.in0 | exact HSub.refl _ | refine HSub.skip ?_ | refine HSub.skipN ?_))), fdOwnM.mk' hO, ?_⟩)
    exact hM


theorem fdc_reduce (w : World) (v : Value) (m : NM) (hm : Big m) (hv : fdIsM w v m) :
    Calls Tryd.prog 45 #[v] w (Ret fun v w' => Kp [] w w' ∧ GivesML (echM m) (pivM m) w v w') := by
  rcases Nat.eq_zero_or_pos (m.r * m.c) with h | h
  · exact c_reduce0 w v m hm h hv
  · exact c_reduce1 w v m hm h hv


def segSet (o k : Nat) (ys xs : List Nat) : List Nat := xs.take o ++ (ys.take k ++ xs.drop (o + k))

theorem segSet_zero (o : Nat) (ys xs : List Nat) : segSet o 0 ys xs = xs := by simp [segSet]
theorem segSet_len {o k : Nat} {ys xs : List Nat} (hk : k ≤ ys.length) (ho : o + k ≤ xs.length) : (segSet o k ys xs).length = xs.length := by simp [segSet]; omega
theorem segSet_getD {o k : Nat} {ys xs : List Nat} (hk : k ≤ ys.length) (ho : o + k ≤ xs.length) (i : Nat) : (segSet o k ys xs).getD i 0 = if o ≤ i ∧ i < o + k then ys.getD (i - o) 0 else xs.getD i 0 := by
  simp only [segSet, List.getD, List.getElem?_append, List.length_take, List.getElem?_take, List.getElem?_drop]
  have e1 : min o xs.length = o := by omega
  have e2 : min k ys.length = k := by omega
  rw [e1, e2]
  by_cases h1 : i < o
  · rw [if_pos h1, if_pos h1, if_neg (by omega)]
  · rw [if_neg h1]
    by_cases h2 : i - o < k
    · rw [if_pos h2, if_pos h2, if_pos (by omega)]
    · rw [if_neg h2, if_neg (by omega), show o + k + (i - o - k) = i by omega]

section
variable {c : Cx} {Q : Exit → Act → World → Prop} {m : Mode} {F : SFrame} {H : SHeap} {r : List SOp} {g : Option (Option Tmp × Bool)} {ns : Bool} {d : Tmp} {ty t t' : TypeId} {x y : Operand}

theorem r_copyNL {v vd vs : Value} {n k k' o : Nat} {xs ys zs : List Nat} {A B N N2 Nd Hs : SHeap} [TSl c.P t 3] [TE c.P 3 1 8 #[iv 0]]
    (hO : OwnN N v n xs) (hv : RdN c Nd vd k zs) (hat : ∀ j, j < k → vAt vd j = vAt v (o + j)) (ho : o + k ≤ n) (h2 : RdN c N2 vs k' ys) (hk : k ≤ k') (hN2 : HSub N2 H) (hH : H = A ++ (N ++ B)) (hHs : HSub Hs (A ++ B))
    (hd : dstOk c.n (some d) = true) (hg : guardF F g = some true) (hx : ev F x = some vd) (hy : ev F y = some vs)
    (h : ∀ u N', OwnN N' v n (segSet o k ys xs) → JO c Q (.draw Hs true) r ((d, u) :: F) (A ++ (N' ++ B))) :
    JO c Q (.draw Hs true) (⟨some d, .call ⟨.builtin .copy, #[x, y], #[t, t]⟩, ty, g, .seq, ns⟩ :: r) F H := by
  subst hH
  refine ⟨⟨hd, .inr ⟨hg, fun a w st hlive => ?_⟩⟩⟩
  obtain ⟨i, z, hi, hi1, _⟩ := TE.info (P := c.P) (e := 3) (sz := 1) (bytes := 8) (zc := #[iv 0])
  obtain ⟨_, D, capd, rfl, _, hvd⟩ := hv
  have hyl := h2.len
  obtain ⟨_, A2, cc, rfl, _, hrd⟩ := h2
  have hp : (A ++ (N ++ B)).Perm ((A ++ B) ++ N) := (perm_mid A N B).symm
  have hargs : (#[x, y] : Array Operand).map a.eval = #[.slice D k capd, .slice A2 k' cc] := by simp [st.fr.ev hx, st.fr.ev hy]
  obtain ⟨w', N', hrun, hN', hb', hkeys, ho', hs', e1, e2, e3⟩ : ∃ w' N', (Builtin.copy_ #[t, t] ty #[.slice D k capd, .slice A2 k' cc]).run c.P w = .ok (goInt k) w' ∧ OwnN N' v n (segSet o k ys xs) ∧ (∀ p ∈ N', w'.heap[p.1]? = some p.2) ∧ (∀ k ∈ keys N', k ∈ keys N ∨ w.heap.size ≤ k) ∧
      (∀ k, k < w.heap.size → k ∉ keys N → w'.heap[k]? = w.heap[k]?) ∧ w.heap.size ≤ w'.heap.size ∧ w'.os = w.os ∧ w'.tape = w.tape ∧ w'.output = w.output := by
    rcases Nat.eq_zero_or_pos k with h0 | h0
    · subst h0
      refine ⟨w, N, ?_, by rw [segSet_zero]; exact hO, fun p hp' => st.hs.blk p (List.mem_append.2 (.inr (List.mem_append.2 (.inl hp')))), fun k hk => .inl hk, fun _ _ _ => rfl, Nat.le_refl _, rfl, rfl, rfl⟩
      cases D <;> cases A2 <;> simp [Builtin.copy_, run_underlying (TSl.und (P := c.P) (t := t)), Builtin.lenOf, Builtin.firstCells, sizeOf, typeInfo, hi, loadCells, loadCellsFrom, storeCells]
    · have hxl := hO.len
      obtain ⟨b, cap, rest, rfl, rfl, h3, h4, h5⟩ := hO.named (by omega)
      have hm : (b, Obj.cells (rowC xs rest) 3 (0, 0)) ∈ A ++ ([(b, Obj.cells (rowC xs rest) 3 (0, 0))] ++ B) := by simp
      have hbw := st.hs.blk _ hm
      obtain ⟨⟨b', o', rfl⟩, _⟩ := hvd h0
      have h6 := hat 0 h0
      simp only [vAt, Nat.add_zero, Nat.zero_add, Addr.mk.injEq] at h6
      obtain ⟨rfl, rfl, _⟩ := h6
      obtain ⟨⟨b2, o2, rfl⟩, hcell⟩ := hrd (by omega)
      have hlt : (ys.take k).length = k := by simp; omega
      have hr := run_copy_row (P := c.P) w t t ty 3 b' o' k capd ⟨b2, o2, none⟩ k' cc (rowC xs rest) 3 ((ys.take k).map nv) (TSl.und (P := c.P) (t := t)) (by rw [hi]; simp [hi1]) hbw (by rw [List.length_map, hlt]; exact (Nat.min_eq_right hk).symm)
        (fun j u hu => by
          rw [add_none]
          refine hcell w ⟨st.kp, hN2.hsat st.hs⟩ j u ?_
          rw [List.map_take, List.getElem?_take] at hu
          split at hu
          · exact hu
          · cases hu) (by rw [List.length_map, hlt, rowC_size]; omega) (fun u hu => by obtain ⟨q, _, rfl⟩ := List.mem_map.1 hu; rfl)
      rw [List.length_map, hlt] at hr
      have hcs : ((rowC xs rest).toList.take o' ++ (ys.take k).map nv ++ (rowC xs rest).toList.drop (o' + k)).toArray = rowC (segSet o' k ys xs) rest := by
        apply Array.ext'
        show (xs.map nv ++ rest).take o' ++ (ys.take k).map nv ++ (xs.map nv ++ rest).drop (o' + k) = (segSet o' k ys xs).map nv ++ rest
        rw [List.take_append_of_le_length (by simp; omega), List.drop_append_of_le_length (by simp; omega)]
        simp [segSet, List.map_take, List.map_drop]
      rw [hcs] at hr
      refine ⟨w.setRow b' (rowC (segSet o' k ys xs) rest), [(b', .cells (rowC (segSet o' k ys xs) rest) 3 (0, 0))], hr, OwnN.ofNamed (by rw [segSet_len (by omega) (by omega)]; exact hxl) h3 h4 h5, fun q hq => ?_, fun q hq => .inl hq, fun q _ hq => setRow_other w b' q _ (fun e => hq (by subst e; simp [keys])), by simp [World.setRow], rfl, rfl, rfl⟩
      cases List.mem_singleton.1 hq
      exact setRow_heap w b' _ _ _ _ hbw
  have hexec : (execOp a.eval ⟨some d, .call ⟨.builtin .copy, #[x, y], #[t, t]⟩, ty, "", #[], none⟩).run c.P w = .ok (.value (goInt k)) w' := by
    show (do let d ← resolve a.eval ⟨.builtin .copy, #[x, y], #[t, t]⟩ ty; invoke d.target d.args).run c.P w = _
    simp only [resolve, Sem.run_bind, Sem.run_pure, Result.andThen_ok, invoke, builtin, hargs]
    simp [hrun]
  unfold Oper.wp SOp.oper
  rw [hexec]
  obtain ⟨st', hstep, hkk⟩ := turn_step st hp (OwnRow.nodup hN') hb' hkeys ho' hs' e1 e2 e3
  have hAB : Hsat (A ++ B) w' := ⟨by have := st'.hs.nd; rw [List.map_append, List.nodup_append] at this; exact this.1, fun p hp => st'.hs.blk p (List.mem_append.2 (.inl hp))⟩
  refine ⟨hstep, (d, goInt k) :: F, A ++ (N' ++ B), .draw Hs true, (st'.perm (perm_mid A N' B)).put (goInt k) hd, fun k hk => hkk k ?_, ⟨rfl, fun _ => ⟨rfl, hHs.hsat hAB⟩, fun _ => rfl, .inl rfl⟩, (h _ N' hN').h⟩
  obtain ⟨q, hq, rfl⟩ := List.mem_map.1 hk
  exact List.mem_map.2 ⟨q, (perm_mid A N' B).mem_iff.2 hq, rfl⟩

end

theorem piv_le {m : NM} (hm : Big m) : (pivM m).length ≤ m.r := by
  haveI := hm.pr.nz
  exact (redTo_ok hm.pr hm.els m.c (Nat.le_refl _)).red.kr

set_option maxHeartbeats 2000000 in
theorem c_Echelon (w : World) (v : Value) (m : NM) (hm : Rt m) (hv : fdIsM w v m) :
    Calls Tryd.prog 23 #[v] w (Ret fun v w' => Kp [] w w' ∧ GivesML (echM m) (pivM m) w v w') := by
  have hv0 := hv
  obtain ⟨E, rfl, hE⟩ := hv
  refine calls_of_S [] [] (by simp) [] Tryd.func23 rfl mixed (by kernel_rfl) Tryd.ntmps23 Tryd.results23 rfl ⟨by simp, by simp⟩ (by simp) ?_
  simp only [toS, textOps, toSOp, kindAt, kindOf, odAt, sopsAt, ordOf, zipF]
  (repeat' (first | refine JC.seq ?_ | refine JC.ops ?_ | refine JO.nil ?_ | refine JX.thenN ?_ | (apply r_assign; (iterate 3 exact rfl)) | (apply r_loadN; (iterate 4 exact rfl); (first | exact at0 | exact at1 | exact at2 | exact at3 | exact at4 | exact at5 | exact at6 | exact at7); exact rfl) | (apply r_allocZ; (iterate 3 exact rfl); intro _) | (apply r_boxA; (iterate 4 exact rfl); intro _)))
  refine r_call0 trivial rfl rfl rfl (fun w hk _ => fdc_Right w _ m.fm (hv0.f.mono hk) (by have := hm.flen; omega)) fun w v w' _ _ _ hR => ?_
  obtain ⟨b', rfl, hb⟩ := hR
  obtain rfl := hb.2 hm.rf
  (repeat' (first | refine JC.seq ?_ | refine JC.ops ?_ | refine JO.nil ?_ | refine JX.thenN ?_ | (apply r_loadN; (iterate 4 exact rfl); (first | exact at0 | exact at1 | exact at2 | exact at3 | exact at4 | exact at5 | exact at6 | exact at7); exact rfl) | (apply r_not; (iterate 3 exact rfl)) | refine JC.skip ?_ | refine JC.condF rfl ?_))
  refine r_callA (A := [_, _]) (B := []) rfl trivial rfl rfl rfl (fun w hk _ => fdc_reduce w _ m hm.big (hv0.mono hk)) fun w v w' _ _ _ hR => ?_
  obtain ⟨N, N2, u, x, rfl, hN, ⟨Eo, rfl, hO⟩, hO2⟩ := hR
  obtain ⟨Ao, co, rfl⟩ := hO.form
  refine ⟨_, hN, ?_⟩
  (repeat' (first | refine JO.nil ?_ | refine JX.thenN ?_ | (apply r_assign; (iterate 3 exact rfl)) | (apply r_extract; (iterate 4 exact rfl)) | (apply r_storeN; exact rfl; (first | exact trivial | exact ⟨rfl, rfl⟩); exact rfl; exact rfl; (first | exact at0 | exact at1 | exact at2 | exact at3 | exact at4 | exact at5 | exact at6 | exact at7); (iterate 3 exact rfl)) | refine JC.ret ?_))
  refine JX.retCT 0 rfl rfl rfl rfl (fun a w' st => ⟨st.kp, N, N2, _, _, rfl, st.newOf rfl (by (repeat' first | exact HSub.nil _ | exact HSub.hd | exact HSub.in0 | exact HSub.refl _ | refine HSub.skip ?_ | refine HSub.skipN ?_)), ⟨_, rfl, hO⟩, hO2⟩)

theorem c_EchelonF (w : World) (v : Value) (a : FM) (h : ¬ RF a) (ha : IsF w v a) (hl : a.E.length < 1000000000) :
    Calls Tryd.prog 23 #[v] w (Ret fun v w' => Kp [] w w' ∧ v = .tuple #[zeroV, .slice none 0 0]) := by
  have hvF := ha
  obtain ⟨E, rfl, hE⟩ := ha
  unfold fmV
  refine calls_of_S [] [] (by simp) [] Tryd.func23 rfl mixed (by kernel_rfl) Tryd.ntmps23 Tryd.results23 rfl ⟨by simp, by simp⟩ (by simp) ?_
  simp only [toS, textOps, toSOp, kindAt, kindOf, odAt, sopsAt, ordOf, zipF]
  (repeat' (first | refine JC.seq ?_ | refine JC.ops ?_ | refine JO.nil ?_ | refine JX.thenN ?_ | (apply r_assign; (iterate 3 exact rfl)) | (apply r_loadN; (iterate 4 exact rfl); (first | exact at0 | exact at1 | exact at2 | exact at3 | exact at4 | exact at5 | exact at6 | exact at7); exact rfl) | (apply r_allocZ; (iterate 3 exact rfl); intro _) | (apply r_boxA; (iterate 4 exact rfl); intro _)))
  refine r_call0 trivial rfl rfl rfl (fun w hk _ => fdc_Right w _ a (hvF.mono hk) (by omega)) fun w v w' _ _ _ hR => ?_
  obtain ⟨b', rfl, hb⟩ := hR
  cases b'
  · (repeat' (first | refine JC.seq ?_ | refine JC.ops ?_ | refine JO.nil ?_ | refine JX.thenN ?_ | (apply r_assign; (iterate 3 exact rfl)) | (apply r_not; (iterate 3 exact rfl)) | (apply r_buildL; (iterate 5 exact rfl)) | (apply r_storeN; exact rfl; (first | exact trivial | exact ⟨rfl, rfl⟩); exact rfl; exact rfl; (first | exact at0 | exact at1 | exact at2 | exact at3 | exact at4 | exact at5 | exact at6 | exact at7); (iterate 3 exact rfl)) | refine JX.thenR ?_ | refine JC.ret ?_ | refine JC.condT rfl ?_))
    exact JX.retCT 0 rfl rfl rfl rfl (fun a w' st => ⟨st.kp, rfl⟩)
  · exact absurd (hb.1 rfl) h

def rankF (a : FM) : Nat := match toN a with
  | some m => (pivM m).length
  | none => 0
theorem rankF_fm {m : NM} (hm : Rt m) : rankF m.fm = (pivM m).length := by unfold rankF; rw [toN_fm hm]
theorem toN_nrf {a : FM} (h : ¬ RF a) : toN a = none := by
  cases ht : toN a with
  | none => rfl
  | some m => obtain ⟨h1, h2⟩ := toN_some ht; exact absurd ⟨m, h2, h1⟩ h
theorem rankF_nrf {a : FM} (h : ¬ RF a) : rankF a = 0 := by unfold rankF; rw [toN_nrf h]

set_option maxHeartbeats 2000000 in
theorem c_Rank (w : World) (v : Value) (a : FM) (hv : IsF w v a) (hl : a.E.length < 1000000000) :
    Calls Tryd.prog 48 #[v] w (Ret fun v w' => Kp [] w w' ∧ v = nv (rankF a)) := by
  have hv0 := hv
  obtain ⟨E, rfl, hE⟩ := hv
  unfold fmV
  by_cases hr : RF a
  · obtain ⟨m, hm, rfl⟩ := hr
    rw [rankF_fm hm]
    refine calls_of_S [] [] (by simp) [] Tryd.func48 rfl mixed (by kernel_rfl) Tryd.ntmps48 Tryd.results48 rfl ⟨by simp, by simp⟩ (by simp) ?_
    simp only [toS, textOps, toSOp, kindAt, kindOf, odAt, sopsAt, ordOf, zipF]
    (repeat' (first | refine JC.seq ?_ | refine JC.ops ?_ | refine JO.nil ?_ | refine JX.thenN ?_ | (apply r_assign; (iterate 3 exact rfl)) | (apply r_loadN; (iterate 4 exact rfl); (first | exact at0 | exact at1 | exact at2 | exact at3 | exact at4 | exact at5 | exact at6 | exact at7); exact rfl) | (apply r_boxA; (iterate 4 exact rfl); intro _)))
    refine r_callA (A := [_]) (B := []) rfl trivial rfl rfl rfl (fun w hk _ => c_Echelon w _ m hm (hv0.nat.mono hk)) fun w v w' _ _ _ hR => ?_
    obtain ⟨N, N2, u, x, rfl, hN, ⟨Eo, rfl, hO⟩, hO2⟩ := hR
    obtain ⟨Ao, co, rfl⟩ := hO.form
    refine ⟨_, hN, ?_⟩
    (repeat' (first | refine JC.seq ?_ | refine JC.ops ?_ | refine JO.nil ?_ | refine JX.thenN ?_ | (apply r_move; (iterate 3 exact rfl)) | (apply r_assign; (iterate 3 exact rfl)) | (apply r_lenN; (iterate 3 exact rfl); (first | assumption | exact WN.rd (by assumption) rfl [] | exact OwnN.rd (by assumption))) | (apply r_extract; (iterate 4 exact rfl)) | (apply r_allocZ; (iterate 3 exact rfl); intro _) | (apply r_storeN; exact rfl; (first | exact trivial | exact ⟨rfl, rfl⟩); exact rfl; exact rfl; (first | exact at0 | exact at1 | exact at2 | exact at3 | exact at4 | exact at5 | exact at6 | exact at7); (iterate 3 exact rfl)) | refine JC.ret ?_))
    exact JX.ret1 rfl (fun a w' st => ⟨st.kp, rfl⟩)
  · rw [rankF_nrf hr]
    refine calls_of_S [] [] (by simp) [] Tryd.func48 rfl mixed (by kernel_rfl) Tryd.ntmps48 Tryd.results48 rfl ⟨by simp, by simp⟩ (by simp) ?_
    simp only [toS, textOps, toSOp, kindAt, kindOf, odAt, sopsAt, ordOf, zipF]
    (repeat' (first | refine JC.seq ?_ | refine JC.ops ?_ | refine JO.nil ?_ | refine JX.thenN ?_ | (apply r_assign; (iterate 3 exact rfl)) | (apply r_loadN; (iterate 4 exact rfl); (first | exact at0 | exact at1 | exact at2 | exact at3 | exact at4 | exact at5 | exact at6 | exact at7); exact rfl) | (apply r_boxA; (iterate 4 exact rfl); intro _)))
    refine r_call0 trivial rfl rfl rfl (fun w hk _ => c_EchelonF w _ a hr (hv0.mono hk) hl) fun w v w' _ _ _ hR => ?_
    subst hR
    unfold zeroV
    (repeat' (first | refine JC.seq ?_ | refine JC.ops ?_ | refine JO.nil ?_ | refine JX.thenN ?_ | (apply r_move; (iterate 3 exact rfl)) | (apply r_assign; (iterate 3 exact rfl)) | (apply r_len; (iterate 3 exact rfl)) | (apply r_extract; (iterate 4 exact rfl)) | (apply r_allocZ; (iterate 3 exact rfl); intro _) | (apply r_storeN; exact rfl; (first | exact trivial | exact ⟨rfl, rfl⟩); exact rfl; exact rfl; (first | exact at0 | exact at1 | exact at2 | exact at3 | exact at4 | exact at5 | exact at6 | exact at7); (iterate 3 exact rfl)) | refine JC.ret ?_))
    exact JX.ret1 rfl (fun a w' st => ⟨st.kp, rfl⟩)

set_option maxHeartbeats 2000000 in
theorem c_Index (w : World) (v : Value) (n x : Nat) (xs : List Nat) (hv : WN w v n xs) (hn : n ≤ 1000000) :
    Calls Tryd.prog 75 #[v, nv x] w (Ret fun v w' => Kp [] w w' ∧ ∃ i : Int, v = iv i ∧ (0 ≤ i ↔ x ∈ xs)) := by
  have hl := hv.len
  refine calls_of_S [] [] (by simp) [] Tryd.func75 rfl mixed (by kernel_rfl) Tryd.ntmps75 Tryd.results75 rfl ⟨by simp, by simp⟩ (by simp) ?_
  simp only [toS, textOps, toSOp, kindAt, kindOf, odAt, sopsAt, ordOf, zipF]
  (repeat' (first | refine JC.seq ?_ | refine JC.ops ?_ | refine JO.nil ?_ | refine JX.thenN ?_ | (apply r_move; (iterate 3 exact rfl)) | (apply r_assign; (iterate 3 exact rfl)) | (apply r_lenN; (iterate 3 exact rfl); (first | assumption | exact WN.rd (by assumption) rfl [] | exact OwnN.rd (by assumption))) | refine JC.block ?_))
  refine JC.loopH (ι := Nat) ⟨fun k => [(8, nv k), (7, nv n), (0, v), (1, nv x)], fun _ => [], fun k => k ≤ n ∧ ∀ i, i < k → xs.getD i 0 ≠ x, fun k => n - k⟩ 0 ⟨by omega, fun i h => by omega⟩ (by repeat first | exact trivial | refine ⟨rfl, ?_⟩) (HSub.nil _) (fun k hk => ?_)
  obtain ⟨hkn, hpr⟩ := hk
  dsimp only
  (repeat' (first | refine JC.seq ?_ | refine JC.ops ?_ | refine JO.nil ?_ | refine JX.thenN ?_ | (apply r_move; (iterate 3 exact rfl)) | (apply r_assign; (iterate 3 exact rfl)) | (apply r_idxN; (iterate 4 exact rfl); (first | assumption | exact WN.rd (by assumption) rfl [] | exact OwnN.rd (by assumption)); (first | assumption | omega)) | (apply r_ldN; (iterate 4 exact rfl); (first | assumption | exact WN.rd (by assumption) rfl [] | exact OwnN.rd (by assumption)); (repeat' first | exact HSub.nil _ | exact HSub.hd | exact HSub.in0 | exact HSub.refl _ | refine HSub.skip ?_ | refine HSub.skipN ?_); (first | assumption | omega)) | (apply r_add1; (iterate 4 exact rfl); omega) | (apply r_lss; (iterate 4 exact rfl); all_goals intro hc; all_goals try (exfalso; omega)) | (apply r_eql; (iterate 4 exact rfl); all_goals intro hc; all_goals try (exfalso; omega)) | refine JX.thenE ?_ | refine JX.thenR ?_ | refine JC.skip ?_ | refine JC.exit ?_ | refine JC.ret ?_ | refine JC.condT rfl ?_ | refine JC.condF rfl ?_ | refine JC.block ?_ | refine JX.blockN ?_ | refine JX.blockR ?_ | refine JX.blockE ?_))
  · exact JX.ret1 rfl (fun a w' st => ⟨st.kp, k, rfl, ⟨fun _ => by
      have : x = xs.getD k 0 := by omega
      rw [this]; exact mem_getD (by omega), fun _ => by omega⟩⟩)
  · refine JX.roundH (k + 1) ⟨by omega, fun i h => ?_⟩ (by dsimp only; omega) (by repeat first | exact trivial | refine ⟨rfl, ?_⟩) (HSub.nil _)
    rcases Nat.lt_or_ge i k with h' | h'
    · exact hpr i h'
    · have : i = k := by omega
      subst this; omega
  · exact JX.ret1 rfl (fun a w' st => ⟨st.kp, -1, rfl, ⟨fun h => by omega, fun hx => by
      obtain ⟨i, hi, rfl⟩ := List.mem_iff_getElem.1 hx
      have := hpr i (by omega)
      simp only [List.getD, List.getElem?_eq_getElem hi, Option.getD_some] at this
      exact absurd rfl this⟩⟩)

theorem c_Contains (w : World) (v : Value) (n x : Nat) (xs : List Nat) (hv : WN w v n xs) (hn : n ≤ 1000000) :
    Calls Tryd.prog 46 #[v, nv x] w (Ret fun v w' => Kp [] w w' ∧ v = .bool (decide (x ∈ xs))) := by
  refine calls_of_S [] [] (by simp) [] Tryd.func46 rfl mixed (by kernel_rfl) Tryd.ntmps46 Tryd.results46 rfl ⟨by simp, by simp⟩ (by simp) ?_
  simp only [toS, textOps, toSOp, kindAt, kindOf, odAt, sopsAt, ordOf, zipF]
  (repeat' (first | refine JC.seq ?_ | refine JC.ops ?_ | refine JO.nil ?_ | refine JX.thenN ?_ | (apply r_move; (iterate 3 exact rfl)) | (apply r_assign; (iterate 3 exact rfl))))
  refine r_call0 trivial rfl rfl rfl (fun w hk _ => c_Index w _ n x xs (hv.mono hk) hn) fun w u w' _ _ _ hR => ?_
  obtain ⟨i, rfl, hi⟩ := hR
  (repeat' (first | refine JO.nil ?_ | refine JX.thenN ?_ | (apply r_assign; (iterate 3 exact rfl)) | (apply r_geq; (iterate 4 exact rfl); all_goals intro hc; all_goals try (exfalso; omega)) | refine JC.ret ?_))
  · exact JX.ret1 rfl (fun a w' st => ⟨st.kp, by rw [decide_eq_true (hi.1 (by omega))]⟩)
  · exact JX.ret1 rfl (fun a w' st => ⟨st.kp, by rw [decide_eq_false (fun h => hc (hi.2 h))]⟩)

end Go.Proofs.YtdoogoglfbohaaaDoor

