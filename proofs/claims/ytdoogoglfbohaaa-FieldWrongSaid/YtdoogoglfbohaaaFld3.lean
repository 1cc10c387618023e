/- Walks of field: sums. -/
import Derived.Test.YtdoogoglfbohaaaFld2
namespace Go.Proofs.Ytdoogoglfbohaaa
open Go Go.RowKit
set_option linter.unusedSimpArgs false
set_option linter.unusedVariables false
set_option linter.unusedSectionVars false

theorem IsM.f {w : World} {v : Value} {m : NM} (h : IsM w v m) : IsF w v m.fm := h.int
theorem Rt.rf {m : NM} (h : Rt m) : RF m.fm := ⟨m, h, rfl⟩
theorem Rt.le {m : NM} (h : Rt m) : m.e.length ≤ 160000 := by rw [h.len]; exact rc_le h.r h.c
theorem Rt.flen {m : NM} (h : Rt m) : m.fm.E.length < 1000000000 := by show (ints m.e).length < _; rw [ints_len]; have := h.le; omega
theorem oneF_of {m n : NM} (hm : Rt m) (hn : Rt n) (hp : m.p = n.p) : OneF m.fm n.fm := ⟨hm.rf, hn.rf, by show (m.p : Int) = n.p; rw [hp]⟩

theorem add_step {f g : Nat → Nat} {n k : Nat} : (tab n fun i => if i < k then f i else g i).set k (f k) = tab n fun i => if i < k + 1 then f i else g i := by
  rw [tab_set]
  refine tab_congr fun i hi => ?_
  by_cases h : i = k
  · subst h; simp
  · by_cases h' : i < k
    · rw [if_neg h, if_pos h', if_pos (by omega)]
    · rw [if_neg h, if_neg h', if_neg (by omega)]

set_option maxHeartbeats 2000000 in
theorem c_Add (w : World) (v u : Value) (m n : NM) (hm : Rt m) (hn : Rt n) (hp : m.p = n.p) (hr : m.r = n.r) (hc : m.c = n.c) (hv : IsM w v m) (hu : IsM w u n) :
    Calls Try.prog 39 #[v, u] w (Ret fun v w' => Kp [] w w' ∧ GivesMB (addM m n) w v w') := by
  have hvF := hv.f
  have huF := hu.f
  obtain ⟨E, rfl, hE⟩ := hv
  obtain ⟨E', rfl, hE'⟩ := hu
  have hle := hm.le
  have hle' := hn.le
  have hl := hm.len
  have hl' := hn.len
  rw [← hr, ← hc] at hl'
  refine calls_of_S [⟨7, 2, [], []⟩] [] (by simp) [] Try.func39 rfl mixed (by kernel_rfl) Try.ntmps39 Try.results39 rfl ⟨by simp, by simp⟩ (by simp) ?_
  simp only [toS, textOps, toSOp, kindAt, kindOf, odAt, sopsAt, ordOf, zipF]
  (repeat' (first | refine JC.seq ?_ | refine JC.ops ?_ | refine JO.nil ?_ | refine JX.thenN ?_ | (apply r_assign; exact rfl; exact rfl; exact rfl) | (apply r_loadN; exact rfl; exact rfl; exact rfl; exact rfl; (first | exact at0 | exact at1 | exact at2 | exact at3 | exact at4 | exact at5 | exact at6 | exact at7); exact rfl) | (apply r_allocZ; exact rfl; exact rfl; exact rfl; intro _) | (apply r_boxA; exact rfl; exact rfl; exact rfl; exact rfl; intro _)))
  rename_i b2 b3 b4
  refine r_call0 trivial rfl rfl rfl (fun w hk _ => c_one w _ _ m.fm n.fm (hvF.mono hk) (huF.mono hk) hm.flen hn.flen) fun w v w' _ _ _ hR => ?_
  obtain ⟨b', rfl, hb⟩ := hR
  obtain rfl := hb.2 (oneF_of hm hn hp)
  (repeat' (first | refine JC.seq ?_ | refine JC.ops ?_ | refine JO.nil ?_ | refine JX.thenN ?_ | (apply r_move; exact rfl; exact rfl; exact rfl) | (apply r_fieldAddr; exact rfl; exact rfl; exact rfl) | (apply r_load; exact rfl; exact rfl; exact rfl; exact rfl; (first | exact at0 | exact at1 | exact at2 | exact at3 | exact at4 | exact at5 | exact at6 | exact at7); exact rfl) | (apply r_pickF; exact rfl; exact rfl; exact rfl; exact rfl) | (apply r_not; exact rfl; exact rfl; exact rfl) | (apply r_neq; exact rfl; exact rfl; exact rfl; exact rfl; all_goals intro hc; all_goals try (exfalso; omega)) | refine JC.skip ?_ | refine JC.condF rfl ?_))
  refine r_callA (A := [_, _, _]) (B := []) rfl trivial rfl rfl rfl (fun w hk _ => c_zero m.p m.r m.c hm.pr hm.r hm.c w) fun w v w' _ _ _ hR => ?_
  obtain ⟨N, Eo, hN, rfl, hO⟩ := hR
  obtain ⟨Ao, co, rfl⟩ := hO.form
  refine ⟨N, hN, ?_⟩
  (repeat' (first | refine JC.seq ?_ | refine JC.ops ?_ | refine JO.nil ?_ | refine JX.thenN ?_ | (apply r_move; exact rfl; exact rfl; exact rfl) | (apply r_fieldAddr; exact rfl; exact rfl; exact rfl) | (apply r_load; exact rfl; exact rfl; exact rfl; exact rfl; (first | exact at0 | exact at1 | exact at2 | exact at3 | exact at4 | exact at5 | exact at6 | exact at7); exact rfl) | (apply r_len; exact rfl; exact rfl; exact rfl) | (apply r_allocZ; exact rfl; exact rfl; exact rfl; intro _) | (apply r_storeN; exact rfl; (first | exact trivial | exact ⟨rfl, rfl⟩); exact rfl; exact rfl; (first | exact at0 | exact at1 | exact at2 | exact at3 | exact at4 | exact at5 | exact at6 | exact at7); exact rfl; exact rfl; exact rfl) | refine JC.block ?_))
  rename_i b6
  refine JC.loopH (ι := Nat × SHeap) ⟨fun i => [(37, nv i.1), (36, nv (m.r * m.c)), (6, .pointer (some ⟨b6, 0, none⟩)), (2, .pointer (some ⟨b2, 0, none⟩)), (3, .pointer (some ⟨b3, 0, none⟩)), (4, .pointer (some ⟨b4, 0, none⟩)), (5, .bool false)],
    fun i => [(b6, .cells #[nv m.p, nv m.r, nv m.c, .slice Ao (m.r * m.c) co] 27), (b4, .cells #[iv 0, iv 0, iv 0, .slice none 0 0] 27), (b3, .cells #[nv n.p, nv n.r, nv n.c, E'] 27), (b2, .cells #[nv m.p, nv m.r, nv m.c, E] 27)] ++ (i.2 ++ []),
    fun i => i.1 ≤ m.r * m.c ∧ OwnN i.2 (.slice Ao (m.r * m.c) co) (m.r * m.c) (tab (m.r * m.c) fun t => if t < i.1 then (m.e.getD t 0 + n.e.getD t 0) % m.p else 0), fun i => m.r * m.c - i.1⟩ (0, N) ⟨by omega, by simpa using hO⟩ ⟨rfl, rfl, rfl, rfl, rfl, rfl, rfl, trivial⟩ (by (first | exact HSub.refl _ | (repeat' first | exact HSub.nil _ | exact HSub.refl _ | refine HSub.at 0 rfl ?_ | refine HSub.at 1 rfl ?_ | refine HSub.at 2 rfl ?_ | refine HSub.at 3 rfl ?_ | refine HSub.at 4 rfl ?_ | refine HSub.at 5 rfl ?_ | refine HSub.at 6 rfl ?_ | refine HSub.at 7 rfl ?_))) (fun k hk => ?_)
  obtain ⟨k, N⟩ := k
  obtain ⟨hkn, hO⟩ := hk
  dsimp only at hkn hO ⊢
  have hpos := hm.pos
  have hx := hm.lt' k
  have hy := hn.lt' k
  have hp9 := hm.pr.2.1
  (repeat' (first | refine JC.seq ?_ | refine JC.ops ?_ | refine JC.opsD ?_ | refine JO.nil ?_ | refine JX.thenN ?_ | (apply r_move; exact rfl; exact rfl; exact rfl) | (apply r_fieldAddr; exact rfl; exact rfl; exact rfl) | (apply r_assign; exact rfl; exact rfl; exact rfl) | (apply r_load; exact rfl; exact rfl; exact rfl; exact rfl; (first | exact at0 | exact at1 | exact at2 | exact at3 | exact at4 | exact at5 | exact at6 | exact at7); exact rfl) | (apply r_loadN; exact rfl; exact rfl; exact rfl; exact rfl; (first | exact at0 | exact at1 | exact at2 | exact at3 | exact at4 | exact at5 | exact at6 | exact at7); exact rfl) | (apply r_idxN; exact rfl; exact rfl; exact rfl; exact rfl; (first | assumption | exact WN.rd (by assumption) rfl [] | exact OwnN.rd (by assumption)); (first | assumption | omega)) | (apply r_ldN; exact rfl; exact rfl; exact rfl; exact rfl; (first | assumption | exact WN.rd (by assumption) rfl [] | exact OwnN.rd (by assumption)); (repeat' first | exact HSub.nil _ | exact HSub.hd | exact HSub.in0 | exact HSub.refl _ | refine HSub.skip ?_ | refine HSub.skipN ?_); (first | assumption | omega)) | (apply r_addN; exact rfl; exact rfl; exact rfl; exact rfl; omega) | (apply r_modN; exact rfl; exact rfl; exact rfl; exact rfl; omega) | (apply r_lss; exact rfl; exact rfl; exact rfl; exact rfl; all_goals intro hc; all_goals try (exfalso; omega)) | (apply r_storeN; exact rfl; (first | exact trivial | exact ⟨rfl, rfl⟩); exact rfl; exact rfl; (first | exact at0 | exact at1 | exact at2 | exact at3 | exact at4 | exact at5 | exact at6 | exact at7); exact rfl; exact rfl; exact rfl) | refine JX.thenE ?_ | refine JC.skip ?_ | refine JC.exit ?_ | refine JC.ret ?_ | refine JC.condT rfl ?_ | refine JC.condF rfl ?_ | refine JC.block ?_ | refine JX.blockE ?_))
  · refine r_stN (A := [_, _, _, _]) hO rfl rfl ⟨rfl, rfl⟩ rfl rfl (by omega) (fun N' hO' => ?_)
    (repeat' (first | refine JC.ops ?_ | refine JO.nil ?_ | refine JX.thenN ?_ | (apply r_move; exact rfl; exact rfl; exact rfl) | (apply r_add1; exact rfl; exact rfl; exact rfl; exact rfl; omega) | refine JX.blockN ?_))
    rw [add_step (f := fun t => (m.e.getD t 0 + n.e.getD t 0) % m.p)] at hO'
    exact JX.roundH (k + 1, N') ⟨by dsimp only; omega, hO'⟩ (by dsimp only; omega) ⟨rfl, rfl, rfl, rfl, rfl, rfl, rfl, trivial⟩ (by (first | exact HSub.refl _ | (repeat' first | exact HSub.nil _ | exact HSub.refl _ | refine HSub.at 0 rfl ?_ | refine HSub.at 1 rfl ?_ | refine HSub.at 2 rfl ?_ | refine HSub.at 3 rfl ?_ | refine HSub.at 4 rfl ?_ | refine HSub.at 5 rfl ?_ | refine HSub.at 6 rfl ?_ | refine HSub.at 7 rfl ?_)))
  · refine JX.retCT 1 rfl rfl rfl rfl (fun a w' st => ⟨st.kp, N, _, rfl, st.newOf rfl (by (repeat' first | exact HSub.nil _ | exact HSub.hd | exact HSub.in0 | exact HSub.refl _ | refine HSub.skip ?_ | refine HSub.skipN ?_)), OwnM.mk' (n := m.r * m.c) ?_⟩)
    rw [tab_congr (g' := fun t => (m.e.getD t 0 + n.e.getD t 0) % m.p) (fun i hi => if_pos (by omega))] at hO
    exact hO

/-- What a sum, or a joined matrix, asks. -/
def SameSize (a b : FM) : Prop := OneF a b ∧ a.R = b.R ∧ a.C = b.C

set_option maxHeartbeats 2000000 in
theorem c_AddF (w : World) (v u : Value) (a b : FM) (h : ¬ SameSize a b) (ha : IsF w v a) (hb : IsF w u b) (hl : a.E.length < 1000000000) (hl' : b.E.length < 1000000000) :
    Calls Try.prog 39 #[v, u] w (Ret fun v w' => Kp [] w w' ∧ v = .tuple #[zeroV, .bool false]) := by
  have hvF := ha
  have huF := hb
  obtain ⟨E, rfl, hE⟩ := ha
  obtain ⟨E', rfl, hE'⟩ := hb
  unfold fmV
  refine calls_of_S [⟨7, 2, [], []⟩] [] (by simp) [] Try.func39 rfl mixed (by kernel_rfl) Try.ntmps39 Try.results39 rfl ⟨by simp, by simp⟩ (by simp) ?_
  simp only [toS, textOps, toSOp, kindAt, kindOf, odAt, sopsAt, ordOf, zipF]
  (repeat' (first | refine JC.seq ?_ | refine JC.ops ?_ | refine JO.nil ?_ | refine JX.thenN ?_ | (apply r_assign; exact rfl; exact rfl; exact rfl) | (apply r_loadN; exact rfl; exact rfl; exact rfl; exact rfl; (first | exact at0 | exact at1 | exact at2 | exact at3 | exact at4 | exact at5 | exact at6 | exact at7); exact rfl) | (apply r_allocZ; exact rfl; exact rfl; exact rfl; intro _) | (apply r_boxA; exact rfl; exact rfl; exact rfl; exact rfl; intro _)))
  refine r_call0 trivial rfl rfl rfl (fun w hk _ => c_one w _ _ a b (hvF.mono hk) (huF.mono hk) hl hl') fun w v w' _ _ _ hR => ?_
  obtain ⟨b', rfl, hb⟩ := hR
  cases b' <;> (repeat' (first | refine JC.seq ?_ | refine JC.ops ?_ | refine JO.nil ?_ | refine JX.thenN ?_ | (apply r_move; exact rfl; exact rfl; exact rfl) | (apply r_fieldAddr; exact rfl; exact rfl; exact rfl) | (apply r_assign; exact rfl; exact rfl; exact rfl) | (apply r_load; exact rfl; exact rfl; exact rfl; exact rfl; (first | exact at0 | exact at1 | exact at2 | exact at3 | exact at4 | exact at5 | exact at6 | exact at7); exact rfl) | (apply r_pickT; exact rfl; exact rfl; exact rfl; exact rfl) | (apply r_pickF; exact rfl; exact rfl; exact rfl; exact rfl) | (apply r_not; exact rfl; exact rfl; exact rfl) | (apply r_neq; exact rfl; exact rfl; exact rfl; exact rfl; all_goals intro hc; all_goals try (exfalso; omega)) | (apply r_buildL; exact rfl; exact rfl; exact rfl; exact rfl; exact rfl) | (apply r_storeN; exact rfl; (first | exact trivial | exact ⟨rfl, rfl⟩); exact rfl; exact rfl; (first | exact at0 | exact at1 | exact at2 | exact at3 | exact at4 | exact at5 | exact at6 | exact at7); exact rfl; exact rfl; exact rfl) | refine JX.thenR ?_ | refine JC.skip ?_ | refine JC.ret ?_ | refine JC.condT rfl ?_ | refine JC.condF rfl ?_ | (apply r_skip; exact rfl; exact rfl; (first | (intro h; cases h; done) | (intro _; rfl)))))
  all_goals first
    | exact JX.retCT 0 rfl rfl rfl rfl (fun a w' st => ⟨st.kp, rfl⟩)
    | exact absurd ⟨hb.1 rfl, by omega, by omega⟩ h

set_option maxHeartbeats 2000000 in
theorem c_refAddF (w : World) (v u : Value) (a b : FM) (h : ¬ SameSize a b) (ha : IsF w v a) (hb : IsF w u b) (hl : a.E.length < 1000000000) (hl' : b.E.length < 1000000000) :
    Calls Try.prog 40 #[v, u] w (Ret fun v w' => Kp [] w w' ∧ v = .tuple #[zeroV, .bool false]) := by
  have hvF := ha
  have huF := hb
  obtain ⟨E, rfl, hE⟩ := ha
  obtain ⟨E', rfl, hE'⟩ := hb
  unfold fmV
  refine calls_of_S [⟨8, 2, [], []⟩] [] (by simp) [] Try.func40 rfl mixed (by kernel_rfl) Try.ntmps40 Try.results40 rfl ⟨by simp, by simp⟩ (by simp) ?_
  simp only [toS, textOps, toSOp, kindAt, kindOf, odAt, sopsAt, ordOf, zipF]
  (repeat' (first | refine JC.seq ?_ | refine JC.ops ?_ | refine JO.nil ?_ | refine JX.thenN ?_ | (apply r_assign; exact rfl; exact rfl; exact rfl) | (apply r_loadN; exact rfl; exact rfl; exact rfl; exact rfl; (first | exact at0 | exact at1 | exact at2 | exact at3 | exact at4 | exact at5 | exact at6 | exact at7); exact rfl) | (apply r_allocZ; exact rfl; exact rfl; exact rfl; intro _) | (apply r_boxA; exact rfl; exact rfl; exact rfl; exact rfl; intro _)))
  refine r_call0 trivial rfl rfl rfl (fun w hk _ => c_refone w _ _ a b (hvF.mono hk) (huF.mono hk) hl hl') fun w v w' _ _ _ hR => ?_
  obtain ⟨b', rfl, hb⟩ := hR
  cases b' <;> (repeat' (first | refine JC.seq ?_ | refine JC.ops ?_ | refine JO.nil ?_ | refine JX.thenN ?_ | (apply r_move; exact rfl; exact rfl; exact rfl) | (apply r_fieldAddr; exact rfl; exact rfl; exact rfl) | (apply r_assign; exact rfl; exact rfl; exact rfl) | (apply r_load; exact rfl; exact rfl; exact rfl; exact rfl; (first | exact at0 | exact at1 | exact at2 | exact at3 | exact at4 | exact at5 | exact at6 | exact at7); exact rfl) | (apply r_pickT; exact rfl; exact rfl; exact rfl; exact rfl) | (apply r_pickF; exact rfl; exact rfl; exact rfl; exact rfl) | (apply r_not; exact rfl; exact rfl; exact rfl) | (apply r_neq; exact rfl; exact rfl; exact rfl; exact rfl; all_goals intro hc; all_goals try (exfalso; omega)) | (apply r_buildL; exact rfl; exact rfl; exact rfl; exact rfl; exact rfl) | (apply r_storeN; exact rfl; (first | exact trivial | exact ⟨rfl, rfl⟩); exact rfl; exact rfl; (first | exact at0 | exact at1 | exact at2 | exact at3 | exact at4 | exact at5 | exact at6 | exact at7); exact rfl; exact rfl; exact rfl) | refine JX.thenR ?_ | refine JC.skip ?_ | refine JC.ret ?_ | refine JC.condT rfl ?_ | refine JC.condF rfl ?_ | (apply r_skip; exact rfl; exact rfl; (first | (intro h; cases h; done) | (intro _; rfl)))))
  all_goals first
    | exact JX.retCT 0 rfl rfl rfl rfl (fun a w' st => ⟨st.kp, rfl⟩)
    | exact absurd ⟨hb.1 rfl, by omega, by omega⟩ h

set_option maxHeartbeats 2000000 in
theorem c_refAdd (w : World) (v u : Value) (m n : NM) (hm : Rt m) (hn : Rt n) (hp : m.p = n.p) (hr : m.r = n.r) (hc : m.c = n.c) (hv : IsM w v m) (hu : IsM w u n) :
    Calls Try.prog 40 #[v, u] w (Ret fun v w' => Kp [] w w' ∧ GivesMB (addM m n) w v w') := by
  have hvF := hv.f
  have huF := hu.f
  obtain ⟨E, rfl, hE⟩ := hv
  obtain ⟨E', rfl, hE'⟩ := hu
  have hle := hm.le
  have hle' := hn.le
  have hl := hm.len
  have hl' := hn.len
  rw [← hr, ← hc] at hl'
  refine calls_of_S [⟨8, 2, [], []⟩] [] (by simp) [] Try.func40 rfl mixed (by kernel_rfl) Try.ntmps40 Try.results40 rfl ⟨by simp, by simp⟩ (by simp) ?_
  simp only [toS, textOps, toSOp, kindAt, kindOf, odAt, sopsAt, ordOf, zipF]
  (repeat' (first | refine JC.seq ?_ | refine JC.ops ?_ | refine JO.nil ?_ | refine JX.thenN ?_ | (apply r_assign; exact rfl; exact rfl; exact rfl) | (apply r_loadN; exact rfl; exact rfl; exact rfl; exact rfl; (first | exact at0 | exact at1 | exact at2 | exact at3 | exact at4 | exact at5 | exact at6 | exact at7); exact rfl) | (apply r_allocZ; exact rfl; exact rfl; exact rfl; intro _) | (apply r_boxA; exact rfl; exact rfl; exact rfl; exact rfl; intro _)))
  rename_i b2 b3 b4
  refine r_call0 trivial rfl rfl rfl (fun w hk _ => c_refone w _ _ m.fm n.fm (hvF.mono hk) (huF.mono hk) hm.flen hn.flen) fun w v w' _ _ _ hR => ?_
  obtain ⟨b', rfl, hb⟩ := hR
  obtain rfl := hb.2 (oneF_of hm hn hp)
  (repeat' (first | refine JC.seq ?_ | refine JC.ops ?_ | refine JO.nil ?_ | refine JX.thenN ?_ | (apply r_move; exact rfl; exact rfl; exact rfl) | (apply r_fieldAddr; exact rfl; exact rfl; exact rfl) | (apply r_assign; exact rfl; exact rfl; exact rfl) | (apply r_load; exact rfl; exact rfl; exact rfl; exact rfl; (first | exact at0 | exact at1 | exact at2 | exact at3 | exact at4 | exact at5 | exact at6 | exact at7); exact rfl) | (apply r_pickF; exact rfl; exact rfl; exact rfl; exact rfl) | (apply r_not; exact rfl; exact rfl; exact rfl) | (apply r_neq; exact rfl; exact rfl; exact rfl; exact rfl; all_goals intro hc; all_goals try (exfalso; omega)) | refine JC.skip ?_ | refine JC.condF rfl ?_))
  refine r_callA (A := [_, _, _]) (B := []) rfl trivial rfl rfl rfl (fun w hk _ => c_refZero m.p m.r m.c hm.pr hm.r hm.c w) fun w v w' _ _ _ hR => ?_
  obtain ⟨N, Eo, hN, rfl, hO⟩ := hR
  obtain ⟨Ao, co, rfl⟩ := hO.form
  refine ⟨N, hN, ?_⟩
  (repeat' (first | refine JC.seq ?_ | refine JC.ops ?_ | refine JO.nil ?_ | refine JX.thenN ?_ | (apply r_assign; exact rfl; exact rfl; exact rfl) | (apply r_allocZ; exact rfl; exact rfl; exact rfl; intro _) | (apply r_storeN; exact rfl; (first | exact trivial | exact ⟨rfl, rfl⟩); exact rfl; exact rfl; (first | exact at0 | exact at1 | exact at2 | exact at3 | exact at4 | exact at5 | exact at6 | exact at7); exact rfl; exact rfl; exact rfl) | refine JC.block ?_))
  rename_i b6
  refine JC.loopH (ι := Nat × SHeap) ⟨fun i => [(8, nv i.1), (7, .pointer (some ⟨b6, 0, none⟩)), (2, .pointer (some ⟨b2, 0, none⟩)), (3, .pointer (some ⟨b3, 0, none⟩)), (4, .pointer (some ⟨b4, 0, none⟩)), (5, .bool false)],
    fun i => [(b6, .cells #[nv m.p, nv m.r, nv m.c, .slice Ao (m.r * m.c) co] 27), (b4, .cells #[iv 0, iv 0, iv 0, .slice none 0 0] 27), (b3, .cells #[nv n.p, nv n.r, nv n.c, E'] 27), (b2, .cells #[nv m.p, nv m.r, nv m.c, E] 27)] ++ (i.2 ++ []),
    fun i => i.1 ≤ m.r * m.c ∧ OwnN i.2 (.slice Ao (m.r * m.c) co) (m.r * m.c) (tab (m.r * m.c) fun t => if t < i.1 then (m.e.getD t 0 + n.e.getD t 0) % m.p else 0), fun i => m.r * m.c - i.1⟩ (0, N) ⟨by omega, by simpa using hO⟩ ⟨rfl, rfl, rfl, rfl, rfl, rfl, trivial⟩ (by (first | exact HSub.refl _ | (repeat' first | exact HSub.nil _ | exact HSub.refl _ | refine HSub.at 0 rfl ?_ | refine HSub.at 1 rfl ?_ | refine HSub.at 2 rfl ?_ | refine HSub.at 3 rfl ?_ | refine HSub.at 4 rfl ?_ | refine HSub.at 5 rfl ?_ | refine HSub.at 6 rfl ?_ | refine HSub.at 7 rfl ?_))) (fun k hk => ?_)
  obtain ⟨k, N⟩ := k
  obtain ⟨hkn, hO⟩ := hk
  dsimp only at hkn hO ⊢
  have hpos := hm.pos
  have hx := hm.lt' k
  have hy := hn.lt' k
  have hp9 := hm.pr.2.1
  (repeat' (first | refine JC.seq ?_ | refine JC.ops ?_ | refine JC.opsD ?_ | refine JO.nil ?_ | refine JX.thenN ?_ | (apply r_move; exact rfl; exact rfl; exact rfl) | (apply r_fieldAddr; exact rfl; exact rfl; exact rfl) | (apply r_assign; exact rfl; exact rfl; exact rfl) | (apply r_load; exact rfl; exact rfl; exact rfl; exact rfl; (first | exact at0 | exact at1 | exact at2 | exact at3 | exact at4 | exact at5 | exact at6 | exact at7); exact rfl) | (apply r_loadN; exact rfl; exact rfl; exact rfl; exact rfl; (first | exact at0 | exact at1 | exact at2 | exact at3 | exact at4 | exact at5 | exact at6 | exact at7); exact rfl) | (apply r_idxN; exact rfl; exact rfl; exact rfl; exact rfl; (first | assumption | exact WN.rd (by assumption) rfl [] | exact OwnN.rd (by assumption)); (first | assumption | omega)) | (apply r_ldN; exact rfl; exact rfl; exact rfl; exact rfl; (first | assumption | exact WN.rd (by assumption) rfl [] | exact OwnN.rd (by assumption)); (repeat' first | exact HSub.nil _ | exact HSub.hd | exact HSub.in0 | exact HSub.refl _ | refine HSub.skip ?_ | refine HSub.skipN ?_); (first | assumption | omega)) | (apply r_len; exact rfl; exact rfl; exact rfl) | (apply r_addN; exact rfl; exact rfl; exact rfl; exact rfl; omega) | (apply r_modN; exact rfl; exact rfl; exact rfl; exact rfl; omega) | (apply r_lss; exact rfl; exact rfl; exact rfl; exact rfl; all_goals intro hc; all_goals try (exfalso; omega)) | (apply r_storeN; exact rfl; (first | exact trivial | exact ⟨rfl, rfl⟩); exact rfl; exact rfl; (first | exact at0 | exact at1 | exact at2 | exact at3 | exact at4 | exact at5 | exact at6 | exact at7); exact rfl; exact rfl; exact rfl) | refine JX.thenE ?_ | refine JC.skip ?_ | refine JC.exit ?_ | refine JC.ret ?_ | refine JC.condT rfl ?_ | refine JC.condF rfl ?_ | refine JC.block ?_ | refine JX.blockE ?_))
  · refine r_stN (A := [_, _, _, _]) hO rfl rfl ⟨rfl, rfl⟩ rfl rfl (by omega) (fun N' hO' => ?_)
    (repeat' (first | refine JC.ops ?_ | refine JO.nil ?_ | refine JX.thenN ?_ | (apply r_move; exact rfl; exact rfl; exact rfl) | (apply r_assign; exact rfl; exact rfl; exact rfl) | (apply r_add1; exact rfl; exact rfl; exact rfl; exact rfl; omega) | refine JX.blockN ?_))
    rw [add_step (f := fun t => (m.e.getD t 0 + n.e.getD t 0) % m.p)] at hO'
    exact JX.roundH (k + 1, N') ⟨by dsimp only; omega, hO'⟩ (by dsimp only; omega) ⟨rfl, rfl, rfl, rfl, rfl, rfl, trivial⟩ (by (first | exact HSub.refl _ | (repeat' first | exact HSub.nil _ | exact HSub.refl _ | refine HSub.at 0 rfl ?_ | refine HSub.at 1 rfl ?_ | refine HSub.at 2 rfl ?_ | refine HSub.at 3 rfl ?_ | refine HSub.at 4 rfl ?_ | refine HSub.at 5 rfl ?_ | refine HSub.at 6 rfl ?_ | refine HSub.at 7 rfl ?_)))
  · refine JX.retCT 1 rfl rfl rfl rfl (fun a w' st => ⟨st.kp, N, _, rfl, st.newOf rfl (by (repeat' first | exact HSub.nil _ | exact HSub.hd | exact HSub.in0 | exact HSub.refl _ | refine HSub.skip ?_ | refine HSub.skipN ?_)), OwnM.mk' (n := m.r * m.c) ?_⟩)
    rw [tab_congr (g' := fun t => (m.e.getD t 0 + n.e.getD t 0) % m.p) (fun i hi => if_pos (by omega))] at hO
    exact hO

end Go.Proofs.Ytdoogoglfbohaaa
