/- Walks: shapes of matrices. -/
import Derived.Test.YtdoogoglfbohaaaFldW11
import Derived.Test.YtdoogoglfbohaaaExM
namespace Go.Proofs.Ytdoogoglfbohaaa
open Go Go.RowKit
set_option linter.unusedSimpArgs false
set_option linter.unusedVariables false
set_option linter.unusedSectionVars false

theorem tmod_emod (n : Int) {m : Int} (hm : 0 < m) : (n.tmod m + m).tmod m = n % m := by
  have h1 := Int.tmod_lt_of_pos n hm
  have h2 : -m < n.tmod m := by
    have := Int.lt_tmod_of_pos n hm
    omega
  rw [Int.tmod_eq_emod_of_nonneg (by omega), Int.add_emod_right]
  have h3 := Int.mul_tdiv_add_tmod n m
  have h4 : n % m = (m * n.tdiv m + n.tmod m) % m := by rw [h3]
  rw [h4, Int.mul_add_emod_self_left]

/-- The residue, as a natural number. -/
def md (n : Int) (m : Nat) : Nat := (n % (m : Int)).toNat
theorem md_eq (n : Int) {m : Nat} (hm : 0 < m) : ((md n m : Nat) : Int) = n % m := by
  have := Int.emod_nonneg n (show (m : Int) ≠ 0 by omega)
  unfold md; omega
theorem md_lt (n : Int) {m : Nat} (hm : 0 < m) : md n m < m := by
  have h1 := md_eq n hm
  have := Int.emod_lt_of_pos n (show (0 : Int) < m by omega)
  omega
theorem md_tmod (n : Int) {m : Nat} (hm : 0 < m) : (n.tmod m + m).tmod m = (md n m : Nat) := by rw [md_eq n hm]; exact tmod_emod n (by omega)
theorem tmod_bd (n : Int) {m : Nat} (hm : 0 < m) (hb : m ≤ 1000000000) : -1000000000 < n.tmod m ∧ n.tmod m < 1000000000 := by
  have h1 := Int.tmod_lt_of_pos n (show (0 : Int) < m by omega)
  have h2 := Int.lt_tmod_of_pos n (show (0 : Int) < m by omega)
  omega

set_option maxHeartbeats 2000000 in
theorem c_Mod01 (w : World) (n : Int) (m : Nat) (hm : 0 < m) (hb : m ≤ 1000000000) :
    Calls Try.prog 49 #[iv n, nv m] w (Ret fun v w' => Kp [] w w' ∧ v = nv (md n m)) := by
  have h1 := tmod_bd n hm hb
  refine calls_of_S [] [] (by simp) [] Try.func49 rfl mixed (by kernel_rfl) Try.ntmps49 Try.results49 rfl ⟨by simp, by simp⟩ (by simp) ?_
  simp only [toS, textOps, toSOp, kindAt, kindOf, odAt, sopsAt, ordOf, zipF]
  (repeat' (first | refine JC.seq ?_ | refine JC.ops ?_ | refine JO.nil ?_ | refine JX.thenN ?_ | (apply r_move; exact rfl; exact rfl; exact rfl) | (apply r_assign; exact rfl; exact rfl; exact rfl) | (apply r_add; exact rfl; exact rfl; exact rfl; exact rfl; omega) | (apply r_mod; exact rfl; exact rfl; exact rfl; exact rfl; omega) | refine JC.ret ?_))
  exact JX.ret1 rfl (fun a w' st => ⟨st.kp, by rw [md_tmod n hm]⟩)

/-- At w, the value v is a shape. -/
def IsS (w : World) (v : Value) (P R C : Nat) (L : List Int) : Prop := P < 256 ∧ R < 256 ∧ C < 256 ∧ ∃ E, v = .agg #[.int .u8 (P : Int), .int .u8 (R : Int), .int .u8 (C : Int), E] ∧ WI w E L.length L
theorem IsS.mono {w w' : World} {v : Value} {P R C : Nat} {L : List Int} (h : IsS w v P R C L) (hk : Kp [] w w') : IsS w' v P R C L := by
  obtain ⟨h1, h2, h3, E, h5, h6⟩ := h
  exact ⟨h1, h2, h3, E, h5, h6.mono hk⟩

/-- The prime of a shape. -/
def shP (P : Nat) : Nat := ([2, 3, 5, 7, 11, 997] : List Nat).getD (P % 6) 0
theorem shP_pr (P : Nat) : Pr (shP P) := by
  unfold shP
  have h : P % 6 < 6 := Nat.mod_lt _ (by omega)
  generalize P % 6 = k at h
  have : k = 0 ∨ k = 1 ∨ k = 2 ∨ k = 3 ∨ k = 4 ∨ k = 5 := by omega
  rcases this with rfl | rfl | rfl | rfl | rfl | rfl
  · exact (show Pr 2 by decide)
  · exact (show Pr 3 by decide)
  · exact (show Pr 5 by decide)
  · exact (show Pr 7 by decide)
  · exact (show Pr 11 by decide +kernel)
  · exact (show Pr 997 by decide +kernel)

set_option maxHeartbeats 2000000 in
theorem c_sPrime (w : World) (v : Value) (P R C : Nat) (L : List Int) (hv : IsS w v P R C L) :
    Calls Try.prog 44 #[v] w (Ret fun v w' => Kp [] w w' ∧ v = nv (shP P)) := by
  obtain ⟨h1, h2, h3, E, rfl, hE⟩ := hv
  refine calls_of_S [] [] (by simp) [] Try.func44 rfl mixed (by kernel_rfl) Try.ntmps44 Try.results44 rfl ⟨by simp, by simp⟩ (by simp) ?_
  simp only [toS, textOps, toSOp, kindAt, kindOf, odAt, sopsAt, ordOf, zipF]
  (repeat' (first | refine JC.seq ?_ | refine JC.ops ?_ | refine JO.nil ?_ | refine JX.thenN ?_ | (apply r_fieldAddr; exact rfl; exact rfl; exact rfl) | (apply r_assign; exact rfl; exact rfl; exact rfl) | (apply r_load; exact rfl; exact rfl; exact rfl; exact rfl; (first | exact at0 | exact at1 | exact at2 | exact at3 | exact at4 | exact at5 | exact at6 | exact at7); exact rfl) | (apply r_build1; exact rfl; exact rfl; exact rfl; exact rfl; exact rfl; (repeat first | exact trivial | refine ⟨rfl, ?_⟩); decide; decide; intro _) | (apply r_boxA; exact rfl; exact rfl; exact rfl; exact rfl; intro _)))
  rename_i b
  refine r_modK 6 rfl rfl rfl rfl (by omega) ?_
  have hO := own_lit b 6 [2, 3, 5, 7, 11, 997] _ rfl rfl (by omega)
  have hlt : P % 6 < 6 := Nat.mod_lt _ (by omega)
  (repeat' (first | refine JO.nil ?_ | refine JX.thenN ?_ | (apply r_assign; exact rfl; exact rfl; exact rfl) | (apply r_idxN; exact rfl; exact rfl; exact rfl; exact rfl; (first | assumption | exact WN.rd (by assumption) rfl [] | exact OwnN.rd (by assumption)); (first | assumption | omega)) | (apply r_ldN; exact rfl; exact rfl; exact rfl; exact rfl; (first | assumption | exact WN.rd (by assumption) rfl [] | exact OwnN.rd (by assumption)); (repeat' first | exact HSub.nil _ | exact HSub.hd | exact HSub.in0 | exact HSub.refl _ | refine HSub.skip ?_ | refine HSub.skipN ?_); (first | assumption | omega)) | refine JC.ret ?_))
  exact JX.ret1 rfl (fun a w' st => ⟨st.kp, rfl⟩)

/-- The matrix that a shape gives. -/
def shE (p n : Nat) (L : List Int) : List Nat := tab n fun k => if L = [] then 0 else md (L.getD ((k + k / L.length) % L.length) 0) p
def shM (L : List Int) (p r c : Nat) : NM := ⟨p, r, c, shE p (r * c) L⟩
theorem Rt.sh {L : List Int} {p r c : Nat} (hp : Pr p) (hr : r ≤ 400) (hc : c ≤ 400) : Rt (shM L p r c) := ⟨hp, hr, hc, by simp [shM, shE], tab_lt (n := r * c) (p := p) (g := fun k => if L = [] then 0 else md (L.getD ((k + k / L.length) % L.length) 0) p) fun i _ => by
  have hpos : 0 < p := by have := hp.1; omega
  show (if L = [] then 0 else _) < p
  split
  · exact hpos
  · exact md_lt _ hpos⟩
def shS (p n : Nat) (L : List Int) (k : Nat) : List Nat := tab n fun i => if i < k then (if L = [] then 0 else md (L.getD ((i + i / L.length) % L.length) 0) p) else 0

theorem shS_zero (p n : Nat) (L : List Int) : shS p n L 0 = tab n fun _ => 0 := by
  unfold shS
  exact tab_congr fun i _ => by simp
theorem shS_end {p n k : Nat} {L : List Int} (h : n ≤ k ∨ L = []) : shS p n L k = shE p n L := by
  unfold shS shE
  refine tab_congr fun i hi => ?_
  rcases h with h | h
  · rw [if_pos (by omega)]
  · subst h; simp

set_option maxHeartbeats 4000000 in
theorem c_With (w : World) (v : Value) (P R C p r c : Nat) (L : List Int) (hv : IsS w v P R C L) (hp : Pr p) (hr : r ≤ 400) (hc : c ≤ 400) :
    Calls Try.prog 17 #[v, nv p, nv r, nv c] w (Ret fun v w' => Kp [] w w' ∧ GivesM (shM L p r c) w v w') := by
  obtain ⟨h1, h2, h3, E, rfl, hE⟩ := hv
  have hrc := rc_le hr hc
  have hp2 := hp.1
  have hp9 := hp.2.1
  refine calls_of_S [⟨5, 2, [], []⟩] [] (by simp) [] Try.func17 rfl mixed (by kernel_rfl) Try.ntmps17 Try.results17 rfl ⟨by simp, by simp⟩ (by simp) ?_
  simp only [toS, textOps, toSOp, kindAt, kindOf, odAt, sopsAt, ordOf, zipF]
  (repeat' (first | refine JC.seq ?_ | refine JC.ops ?_ | refine JO.nil ?_ | refine JX.thenN ?_ | (apply r_move; exact rfl; exact rfl; exact rfl) | (apply r_allocZ; exact rfl; exact rfl; exact rfl; intro _) | (apply r_boxA; exact rfl; exact rfl; exact rfl; exact rfl; intro _)))
  rename_i b4 b8
  refine r_callA (A := [_, _]) (B := []) rfl trivial rfl rfl rfl (fun w hk _ => c_refZero p r c hp hr hc w) fun w v w' _ _ _ hR => ?_
  obtain ⟨N, Eo, hN, rfl, hO⟩ := hR
  obtain ⟨Ao, co, rfl⟩ := hO.form
  refine ⟨N, hN, ?_⟩
  (repeat' (first | refine JC.seq ?_ | refine JC.ops ?_ | refine JO.nil ?_ | refine JX.thenN ?_ | (apply r_assign; exact rfl; exact rfl; exact rfl) | (apply r_allocZ; exact rfl; exact rfl; exact rfl; intro _) | (apply r_storeN; exact rfl; (first | exact trivial | exact ⟨rfl, rfl⟩); exact rfl; exact rfl; (first | exact at0 | exact at1 | exact at2 | exact at3 | exact at4 | exact at5 | exact at6 | exact at7); exact rfl; exact rfl; exact rfl) | refine JC.block ?_))
  rename_i b9
  refine JC.loopH (ι := Nat × SHeap) ⟨fun z => [(10, nv z.1), (1, nv p), (9, .pointer (some ⟨b9, 0, none⟩)), (8, .pointer (some ⟨b8, 0, none⟩)), (4, .pointer (some ⟨b4, 0, none⟩))],
    fun z => [(b9, .cells #[nv p, nv r, nv c, .slice Ao (r * c) co] 27), (b8, .cells #[iv 0, iv 0, iv 0, .slice none 0 0] 27), (b4, .cells #[.int .u8 (P : Int), .int .u8 (R : Int), .int .u8 (C : Int), E] 24)] ++ (z.2 ++ []),
    fun z => z.1 ≤ r * c ∧ OwnN z.2 (.slice Ao (r * c) co) (r * c) (shS p (r * c) L z.1), fun z => r * c - z.1⟩ (0, N) ⟨by dsimp only; omega, by rw [shS_zero]; exact hO⟩ (by repeat first | exact trivial | refine ⟨rfl, ?_⟩) (by (first | exact HSub.refl _ | (repeat' first | exact HSub.nil _ | exact HSub.refl _ | refine HSub.at 0 rfl ?_ | refine HSub.at 1 rfl ?_ | refine HSub.at 2 rfl ?_ | refine HSub.at 3 rfl ?_ | refine HSub.at 4 rfl ?_ | refine HSub.at 5 rfl ?_ | refine HSub.at 6 rfl ?_ | refine HSub.at 7 rfl ?_))) (fun z hz => ?_)
  clear hO
  obtain ⟨k, N⟩ := z
  obtain ⟨hk, hO⟩ := hz
  dsimp only at hk hO ⊢
  by_cases hkk : k < r * c
  · by_cases hL : 0 < L.length
    · have hq1 : k / L.length ≤ k := Nat.div_le_self _ _
      have hlt : (k + k / L.length) % L.length < L.length := Nat.mod_lt _ hL
      (repeat' (first | refine JC.seq ?_ | refine JC.ops ?_ | refine JC.opsD ?_ | refine JO.nil ?_ | refine JX.thenN ?_ | (apply r_move; exact rfl; exact rfl; exact rfl) | (apply r_fieldAddr; exact rfl; exact rfl; exact rfl) | (apply r_load; exact rfl; exact rfl; exact rfl; exact rfl; (first | exact at0 | exact at1 | exact at2 | exact at3 | exact at4 | exact at5 | exact at6 | exact at7); exact rfl) | (apply r_idxI; exact rfl; exact rfl; exact rfl; exact rfl; (first | assumption | exact WI.rd (by assumption) rfl [] | exact OwnI.rd (by assumption)); (first | assumption | omega)) | (apply r_ldI; exact rfl; exact rfl; exact rfl; exact rfl; (first | assumption | exact WI.rd (by assumption) rfl [] | exact OwnI.rd (by assumption)); (repeat' first | exact HSub.nil _ | exact HSub.hd | exact HSub.in0 | exact HSub.refl _ | refine HSub.skip ?_ | refine HSub.skipN ?_); (first | assumption | omega)) | (apply r_len; exact rfl; exact rfl; exact rfl) | (apply r_lenI; exact rfl; exact rfl; exact rfl; (first | assumption | exact WI.rd (by assumption) rfl [] | exact OwnI.rd (by assumption))) | (apply r_addN; exact rfl; exact rfl; exact rfl; exact rfl; omega) | (apply r_modN; exact rfl; exact rfl; exact rfl; exact rfl; omega) | (apply r_divN; exact rfl; exact rfl; exact rfl; exact rfl; omega) | (apply r_pickT; exact rfl; exact rfl; exact rfl; exact rfl) | (apply r_lss; exact rfl; exact rfl; exact rfl; exact rfl; all_goals intro hc; all_goals try (exfalso; omega)) | (apply r_gtr; exact rfl; exact rfl; exact rfl; exact rfl; all_goals intro hc; all_goals try (exfalso; omega)) | refine JC.skip ?_ | refine JC.condT rfl ?_ | refine JC.block ?_))
      refine r_call0 trivial rfl rfl rfl (fun w hk _ => c_Mod01 w _ p (by omega) (by omega)) fun w v w' _ _ _ hR => ?_
      subst hR
      (repeat' (first | (apply r_idxN; exact rfl; exact rfl; exact rfl; exact rfl; (first | assumption | exact WN.rd (by assumption) rfl [] | exact OwnN.rd (by assumption)); (first | assumption | omega))))
      refine r_stN (A := [_, _, _]) hO rfl rfl (by first | trivial | exact ⟨rfl, rfl⟩) rfl rfl hkk (fun N' hO' => ?_)
      have hne : L ≠ [] := fun e => by subst e; exact Nat.lt_irrefl _ hL
      have e : (shS p (r * c) L k).set k (md (L.getD ((k + k / L.length) % L.length) 0) p) = shS p (r * c) L (k + 1) := by
        have := add_step (n := r * c) (k := k) (f := fun i => if L = [] then 0 else md (L.getD ((i + i / L.length) % L.length) 0) p) (g := fun _ => 0)
        simp only [hne, if_false] at this
        unfold shS
        simp only [hne, if_false]
        exact this
      rw [e] at hO'
      (repeat' (first | refine JC.ops ?_ | refine JO.nil ?_ | refine JX.thenN ?_ | (apply r_move; exact rfl; exact rfl; exact rfl) | (apply r_assign; exact rfl; exact rfl; exact rfl) | (apply r_add1; exact rfl; exact rfl; exact rfl; exact rfl; omega) | refine JX.blockN ?_))
      exact JX.roundH (k + 1, N') ⟨by dsimp only; omega, hO'⟩ (by dsimp only; omega) (by repeat first | exact trivial | refine ⟨rfl, ?_⟩) (by (first | exact HSub.refl _ | (repeat' first | exact HSub.nil _ | exact HSub.refl _ | refine HSub.at 0 rfl ?_ | refine HSub.at 1 rfl ?_ | refine HSub.at 2 rfl ?_ | refine HSub.at 3 rfl ?_ | refine HSub.at 4 rfl ?_ | refine HSub.at 5 rfl ?_ | refine HSub.at 6 rfl ?_ | refine HSub.at 7 rfl ?_)))
    · (repeat' (first | refine JC.seq ?_ | refine JC.ops ?_ | refine JO.nil ?_ | refine JX.thenN ?_ | (apply r_move; exact rfl; exact rfl; exact rfl) | (apply r_fieldAddr; exact rfl; exact rfl; exact rfl) | (apply r_load; exact rfl; exact rfl; exact rfl; exact rfl; (first | exact at0 | exact at1 | exact at2 | exact at3 | exact at4 | exact at5 | exact at6 | exact at7); exact rfl) | (apply r_loadN; exact rfl; exact rfl; exact rfl; exact rfl; (first | exact at0 | exact at1 | exact at2 | exact at3 | exact at4 | exact at5 | exact at6 | exact at7); exact rfl) | (apply r_len; exact rfl; exact rfl; exact rfl) | (apply r_lenI; exact rfl; exact rfl; exact rfl; (first | assumption | exact WI.rd (by assumption) rfl [] | exact OwnI.rd (by assumption))) | (apply r_pickT; exact rfl; exact rfl; exact rfl; exact rfl) | (apply r_lss; exact rfl; exact rfl; exact rfl; exact rfl; all_goals intro hc; all_goals try (exfalso; omega)) | (apply r_gtr; exact rfl; exact rfl; exact rfl; exact rfl; all_goals intro hc; all_goals try (exfalso; omega)) | (apply r_storeN; exact rfl; (first | exact trivial | exact ⟨rfl, rfl⟩); exact rfl; exact rfl; (first | exact at0 | exact at1 | exact at2 | exact at3 | exact at4 | exact at5 | exact at6 | exact at7); exact rfl; exact rfl; exact rfl) | refine JX.thenE ?_ | refine JC.exit ?_ | refine JC.ret ?_ | refine JC.condF rfl ?_ | refine JX.blockE ?_))
      have hL0 : L = [] := List.eq_nil_of_length_eq_zero (by omega)
      rw [shS_end (.inr hL0)] at hO
      exact JX.retC 1 rfl rfl rfl (fun a w' st => ⟨st.kp, N, st.newOf rfl (by (repeat' first | exact HSub.nil _ | exact HSub.hd | exact HSub.in0 | exact HSub.refl _ | refine HSub.skip ?_ | refine HSub.skipN ?_)), OwnM.mk' hO⟩)
  · (repeat' (first | refine JC.seq ?_ | refine JC.ops ?_ | refine JO.nil ?_ | refine JX.thenN ?_ | (apply r_move; exact rfl; exact rfl; exact rfl) | (apply r_fieldAddr; exact rfl; exact rfl; exact rfl) | (apply r_load; exact rfl; exact rfl; exact rfl; exact rfl; (first | exact at0 | exact at1 | exact at2 | exact at3 | exact at4 | exact at5 | exact at6 | exact at7); exact rfl) | (apply r_loadN; exact rfl; exact rfl; exact rfl; exact rfl; (first | exact at0 | exact at1 | exact at2 | exact at3 | exact at4 | exact at5 | exact at6 | exact at7); exact rfl) | (apply r_len; exact rfl; exact rfl; exact rfl) | (apply r_pickF; exact rfl; exact rfl; exact rfl; exact rfl) | (apply r_lss; exact rfl; exact rfl; exact rfl; exact rfl; all_goals intro hc; all_goals try (exfalso; omega)) | (apply r_storeN; exact rfl; (first | exact trivial | exact ⟨rfl, rfl⟩); exact rfl; exact rfl; (first | exact at0 | exact at1 | exact at2 | exact at3 | exact at4 | exact at5 | exact at6 | exact at7); exact rfl; exact rfl; exact rfl) | refine JX.thenE ?_ | refine JC.exit ?_ | refine JC.ret ?_ | refine JC.condF rfl ?_ | refine JX.blockE ?_ | (apply r_skip; exact rfl; exact rfl; (first | (intro h; cases h; done) | (intro _; rfl)))))
    rw [shS_end (.inl (by omega))] at hO
    exact JX.retC 1 rfl rfl rfl (fun a w' st => ⟨st.kp, N, st.newOf rfl (by (repeat' first | exact HSub.nil _ | exact HSub.hd | exact HSub.in0 | exact HSub.refl _ | refine HSub.skip ?_ | refine HSub.skipN ?_)), OwnM.mk' hO⟩)

/-- The matrix of a shape. -/
def shMat (P R C : Nat) (L : List Int) : NM := shM L (shP P) (R % 7) (C % 7)
theorem Rt.shMat (P R C : Nat) (L : List Int) : Rt (shMat P R C L) := Rt.sh (shP_pr P) (by have := Nat.mod_lt R (show 0 < 7 by omega); omega) (by have := Nat.mod_lt C (show 0 < 7 by omega); omega)

set_option maxHeartbeats 4000000 in
theorem c_Mat (w : World) (v : Value) (P R C : Nat) (L : List Int) (hv : IsS w v P R C L) :
    Calls Try.prog 12 #[v] w (Ret fun v w' => Kp [] w w' ∧ GivesM (shMat P R C L) w v w') := by
  have hv0 := hv
  obtain ⟨h1, h2, h3, E, rfl, hE⟩ := hv
  have hr7 : R % 7 < 7 := Nat.mod_lt _ (by omega)
  have hc7 : C % 7 < 7 := Nat.mod_lt _ (by omega)
  refine calls_of_S [⟨1, 1, [0, 1, 3, 4, 5, 6, 7, 8, 9, 10, 2, 11, 12], []⟩] [] (by simp) [] Try.func12 rfl mixed (by kernel_rfl) Try.ntmps12 Try.results12 rfl ⟨by simp, by simp⟩ (by simp) ?_
  simp only [toS, textOps, toSOp, kindAt, kindOf, odAt, sopsAt, ordOf, zipF]
  (repeat' (first | refine JC.seq ?_ | refine JC.ops ?_ | refine JC.opsD ?_ | refine JO.nil ?_ | refine JX.thenN ?_ | (apply r_fieldAddr; exact rfl; exact rfl; exact rfl) | (apply r_load; exact rfl; exact rfl; exact rfl; exact rfl; (first | exact at0 | exact at1 | exact at2 | exact at3 | exact at4 | exact at5 | exact at6 | exact at7); exact rfl) | (apply r_loadN; exact rfl; exact rfl; exact rfl; exact rfl; (first | exact at0 | exact at1 | exact at2 | exact at3 | exact at4 | exact at5 | exact at6 | exact at7); exact rfl) | (apply r_allocZ; exact rfl; exact rfl; exact rfl; intro _) | (apply r_boxA; exact rfl; exact rfl; exact rfl; exact rfl; intro _)))
  refine r_modK (i := R) 7 rfl rfl rfl rfl (by omega) ?_
  (repeat' (first | (apply r_fieldAddr; exact rfl; exact rfl; exact rfl) | (apply r_load; exact rfl; exact rfl; exact rfl; exact rfl; (first | exact at0 | exact at1 | exact at2 | exact at3 | exact at4 | exact at5 | exact at6 | exact at7); exact rfl) | (apply r_convN; exact rfl; exact rfl; exact rfl; omega)))
  refine r_modK (i := C) 7 rfl rfl rfl rfl (by omega) ?_
  (repeat' (first | (apply r_convN; exact rfl; exact rfl; exact rfl; omega)))
  refine r_call0 trivial rfl rfl rfl (fun w hk _ => c_sPrime w _ P R C L (hv0.mono hk)) fun w v w' _ _ _ hR => ?_
  subst hR
  skip
  refine r_callA (A := [_, _]) (B := []) rfl trivial rfl rfl rfl (fun w hk _ => c_With w _ P R C (shP P) (R % 7) (C % 7) L (hv0.mono hk) (shP_pr P) (by omega) (by omega)) fun w v w' _ _ _ hR => ?_
  obtain ⟨N, hN, Eo, rfl, hO⟩ := hR
  obtain ⟨Ao, co, rfl⟩ := hO.form
  refine ⟨N, hN, ?_⟩
  (repeat' (first | refine JO.nil ?_ | refine JX.thenN ?_ | (apply r_storeN; exact rfl; (first | exact trivial | exact ⟨rfl, rfl⟩); exact rfl; exact rfl; (first | exact at0 | exact at1 | exact at2 | exact at3 | exact at4 | exact at5 | exact at6 | exact at7); exact rfl; exact rfl; exact rfl) | refine JC.ret ?_))
  exact JX.retC 0 rfl rfl rfl (fun a w' st => ⟨st.kp, N, st.newOf rfl (by (repeat' first | exact HSub.nil _ | exact HSub.hd | exact HSub.in0 | exact HSub.refl _ | refine HSub.skip ?_ | refine HSub.skipN ?_)), _, rfl, hO⟩)

end Go.Proofs.Ytdoogoglfbohaaa
