/- Walks: matrices of rows. -/
import Derived.Test.YtdoogoglfbohaaaFldX1
namespace Go.Proofs.Ytdoogoglfbohaaa
open Go Go.RowKit
set_option linter.unusedSimpArgs false
set_option linter.unusedVariables false
set_option linter.unusedSectionVars false

/-- At w, the value v is a list of lists of ints. -/
def IsRows (w : World) (v : Value) (xss : List (List Int)) : Prop := ∃ ss : List Value, RdW w 1 v xss.length ss ∧ ∀ i, i < xss.length → WI w (ss.getD i (iv 0)) (xss.getD i []).length (xss.getD i [])

theorem IsRows.mono {w w' : World} {v : Value} {xss : List (List Int)} (h : IsRows w v xss) (hk : Kp [] w w') : IsRows w' v xss := by
  obtain ⟨ss, h1, h2⟩ := h
  exact ⟨ss, h1.mono hk, fun i hi => (h2 i hi).mono hk⟩

/-- The greatest length of the first k. -/
def ofC (xss : List (List Int)) : Nat → Nat
  | 0 => 0
  | k + 1 => max (ofC xss k) (xss.getD k []).length
theorem ofC_le (xss : List (List Int)) : ∀ {k i : Nat}, i < k → (xss.getD i []).length ≤ ofC xss k
  | 0, i, h => by omega
  | k + 1, i, h => by
    rw [ofC]
    by_cases hi : i = k
    · subst hi; exact Nat.le_max_right _ _
    · exact Nat.le_trans (ofC_le xss (show i < k by omega)) (Nat.le_max_left _ _)
theorem ofC_lt (xss : List (List Int)) {b : Nat} (hb : 0 < b) (h : ∀ i, (xss.getD i []).length < b) : ∀ k, ofC xss k < b
  | 0 => hb
  | k + 1 => by rw [ofC]; have := ofC_lt xss hb h k; have := h k; omega
theorem max_nv (a b : Nat) : (if (a : Int) < (b : Int) then (b : Int) else (a : Int)) = ((max a b : Nat) : Int) := by
  split <;> omega

def ofE (p : Nat) (xss : List (List Int)) (i j : Nat) : Nat := md ((xss.getD i []).getD j 0) p
def ofM (p : Nat) (xss : List (List Int)) : NM := ⟨p, xss.length, ofC xss xss.length, tab2 xss.length (ofC xss xss.length) (ofE p xss)⟩
theorem Rt.of {p : Nat} {xss : List (List Int)} (hp : Pr p) (hr : xss.length ≤ 400) (hc : ofC xss xss.length ≤ 400) : Rt (ofM p xss) := ⟨hp, hr, hc, by simp [ofM], tab2_lt (r := xss.length) (c := ofC xss xss.length) (p := p) (g := ofE p xss) fun i j _ _ => md_lt _ (by have := hp.1; omega)⟩
def ofS (p : Nat) (xss : List (List Int)) (i k : Nat) : Nat → Nat → Nat := fun a b => if a < i ∨ (a = i ∧ b < k) then ofE p xss a b else 0
theorem ofS_zero (p r c : Nat) (xss : List (List Int)) : tab2 r c (ofS p xss 0 0) = tab (r * c) fun _ => 0 := by
  unfold tab2 ofS
  exact tab_congr fun t _ => by simp
theorem ofS_set {p r c i k : Nat} {xss : List (List Int)} (hk : k < c) : (tab2 r c (ofS p xss i k)).set (i * c + k) (ofE p xss i k) = tab2 r c (ofS p xss i (k + 1)) := by
  rw [tab2_set hk]
  refine tab2_congr fun a b _ _ => ?_
  unfold ofS
  by_cases h : a = i ∧ b = k
  · obtain ⟨rfl, rfl⟩ := h; simp
  · rw [if_neg h]
    have e : (a < i ∨ a = i ∧ b < k + 1) = (a < i ∨ a = i ∧ b < k) := by simp; omega
    simp only [e]
theorem ofE_out {p i j : Nat} {xss : List (List Int)} (h : (xss.getD i []).length ≤ j) : ofE p xss i j = 0 := by
  unfold ofE md
  have e : (xss.getD i []).getD j 0 = 0 := by rw [List.getD, List.getElem?_eq_none h]; rfl
  rw [e]; simp
theorem ofS_row {p r c i k : Nat} {xss : List (List Int)} (hk : (xss.getD i []).length ≤ k) : tab2 r c (ofS p xss i k) = tab2 r c (ofS p xss (i + 1) 0) := by
  refine tab2_congr fun a b _ _ => ?_
  unfold ofS
  by_cases h : a = i
  · subst h
    by_cases hb : b < k
    · rw [if_pos (.inr ⟨rfl, hb⟩), if_pos (.inl (by omega))]
    · rw [if_neg (by omega), if_pos (.inl (by omega)), ofE_out (by omega)]
  · have e : (a < i ∨ a = i ∧ b < k) = (a < i + 1 ∨ a = i + 1 ∧ b < 0) := by simp; omega
    simp only [e]
theorem ofS_end {p r c i : Nat} {xss : List (List Int)} (hi : r ≤ i) : tab2 r c (ofS p xss i 0) = tab2 r c (ofE p xss) := by
  refine tab2_congr fun a b ha _ => ?_
  unfold ofS; rw [if_pos (.inl (by omega))]

set_option maxHeartbeats 4000000 in
theorem c_Of (w : World) (v : Value) (p : Nat) (xss : List (List Int)) (hv : IsRows w v xss) (hp : Pr p) (hr : xss.length ≤ 400) (hcc : ofC xss xss.length ≤ 400) :
    Calls Try.prog 29 #[nv p, v] w (Ret fun v w' => Kp [] w w' ∧ GivesM (ofM p xss) w v w') := by
  obtain ⟨ss, hss, hrow⟩ := hv
  have hrc := rc_le hr hcc
  have hp2 := hp.1
  have hp9 := hp.2.1
  have hlen : ∀ i, i < xss.length → (xss.getD i []).length ≤ 400 := fun i hi => Nat.le_trans (ofC_le xss hi) hcc
  have hsl : ss.length = xss.length := by have := hss.1; omega
  refine calls_of_S [⟨16, 2, [], []⟩] [] (by simp) [] Try.func29 rfl mixed (by kernel_rfl) Try.ntmps29 Try.results29 rfl ⟨by simp, by simp⟩ (by simp) ?_
  simp only [toS, textOps, toSOp, kindAt, kindOf, odAt, sopsAt, ordOf, zipF]
  have hR : Rd ⟨Try.prog, 66, w, [], by simp⟩ [] 1 v xss.length ss := hss.rd rfl []
  (repeat' (first | refine JC.seq ?_ | refine JC.ops ?_ | refine JO.nil ?_ | refine JX.thenN ?_ | (apply r_move; exact rfl; exact rfl; exact rfl) | (apply r_assign; exact rfl; exact rfl; exact rfl) | (apply r_allocZ; exact rfl; exact rfl; exact rfl; intro _)))
  rename_i b4
  refine r_lenR rfl rfl rfl hR ?_
  (repeat' (first | refine JO.nil ?_ | refine JX.thenN ?_ | (apply r_move; exact rfl; exact rfl; exact rfl) | refine JC.block ?_))
  refine JC.loopH (ι := Nat) ⟨fun k => [(15, nv k), (14, nv xss.length), (13, v), (5, nv (ofC xss k)), (0, nv p), (1, v), (4, .pointer (some ⟨b4, 0, none⟩))], fun _ => [(b4, .cells #[iv 0, iv 0, iv 0, .slice none 0 0] 27)],
    fun k => k ≤ xss.length, fun k => xss.length - k⟩ 0 (by dsimp only; omega) (by repeat first | exact trivial | refine ⟨rfl, ?_⟩) (by (first | exact HSub.refl _ | (repeat' first | exact HSub.nil _ | exact HSub.refl _ | refine HSub.at 0 rfl ?_ | refine HSub.at 1 rfl ?_ | refine HSub.at 2 rfl ?_ | refine HSub.at 3 rfl ?_ | refine HSub.at 4 rfl ?_ | refine HSub.at 5 rfl ?_ | refine HSub.at 6 rfl ?_ | refine HSub.at 7 rfl ?_))) (fun k hk => ?_)
  dsimp only at hk ⊢
  by_cases hkk : k < xss.length
  · have hwi := hrow k hkk
    have hl4 := hlen k hkk
    (repeat' (first | refine JC.seq ?_ | refine JC.ops ?_ | refine JO.nil ?_ | refine JX.thenN ?_ | (apply r_lss; exact rfl; exact rfl; exact rfl; exact rfl; all_goals intro hc; all_goals try (exfalso; omega)) | refine JC.skip ?_ | refine JC.condT rfl ?_ | refine JC.block ?_))
    refine r_idxR1 rfl rfl rfl rfl hR hkk ?_
    refine r_ldR rfl rfl rfl rfl hR (HSub.nil _) (gD_lt (d := iv 0) (by omega)) ?_
    (repeat' (first | refine JC.ops ?_ | refine JO.nil ?_ | refine JX.thenN ?_ | (apply r_move; exact rfl; exact rfl; exact rfl) | (apply r_assign; exact rfl; exact rfl; exact rfl) | (apply r_lenI; exact rfl; exact rfl; exact rfl; (first | assumption | exact WI.rd (by assumption) rfl [] | exact OwnI.rd (by assumption))) | (apply r_add1; exact rfl; exact rfl; exact rfl; exact rfl; omega) | (apply r_max; exact rfl; exact rfl; exact rfl; exact rfl) | refine JX.blockN ?_))
    refine JX.roundH (k + 1) (by dsimp only; omega) (by dsimp only; omega) (by dsimp only [ofC]; unfold nv; rw [← max_nv]; exact (by repeat first | exact trivial | refine ⟨rfl, ?_⟩)) (by (first | exact HSub.refl _ | (repeat' first | exact HSub.nil _ | exact HSub.refl _ | refine HSub.at 0 rfl ?_ | refine HSub.at 1 rfl ?_ | refine HSub.at 2 rfl ?_ | refine HSub.at 3 rfl ?_ | refine HSub.at 4 rfl ?_ | refine HSub.at 5 rfl ?_ | refine HSub.at 6 rfl ?_ | refine HSub.at 7 rfl ?_)))
  · have : k = xss.length := by omega
    subst this
    (repeat' (first | refine JC.seq ?_ | refine JC.ops ?_ | refine JO.nil ?_ | refine JX.thenN ?_ | (apply r_move; exact rfl; exact rfl; exact rfl) | (apply r_lss; exact rfl; exact rfl; exact rfl; exact rfl; all_goals intro hc; all_goals try (exfalso; omega)) | refine JX.thenE ?_ | refine JC.exit ?_ | refine JC.condF rfl ?_ | refine JX.blockE ?_))
    refine r_lenR rfl rfl rfl hR ?_
    (repeat' (first | (apply r_move; exact rfl; exact rfl; exact rfl)))
    refine r_callA (A := [_]) (B := []) rfl trivial rfl rfl rfl (fun w hk _ => c_zero p xss.length _ hp hr hcc w) fun w v' w' _ _ _ hR' => ?_
    obtain ⟨N, Eo, hN, rfl, hO⟩ := hR'
    obtain ⟨Ao, co, rfl⟩ := hO.form
    refine ⟨N, hN, ?_⟩
    have hdone : ∀ N', OwnN N' (.slice Ao (xss.length * ofC xss xss.length) co) (xss.length * ofC xss xss.length) (tab2 xss.length (ofC xss xss.length) (ofE p xss)) → OwnM N' (.agg #[nv p, nv xss.length, nv (ofC xss xss.length), .slice Ao (xss.length * ofC xss xss.length) co]) (ofM p xss) := fun N' h => OwnM.mk' h
    (repeat' (first | refine JC.seq ?_ | refine JC.ops ?_ | refine JO.nil ?_ | refine JX.thenN ?_ | (apply r_move; exact rfl; exact rfl; exact rfl) | (apply r_fieldAddr; exact rfl; exact rfl; exact rfl) | (apply r_load; exact rfl; exact rfl; exact rfl; exact rfl; (first | exact at0 | exact at1 | exact at2 | exact at3 | exact at4 | exact at5 | exact at6 | exact at7); exact rfl) | (apply r_loadN; exact rfl; exact rfl; exact rfl; exact rfl; (first | exact at0 | exact at1 | exact at2 | exact at3 | exact at4 | exact at5 | exact at6 | exact at7); exact rfl) | (apply r_len; exact rfl; exact rfl; exact rfl) | (apply r_eql; exact rfl; exact rfl; exact rfl; exact rfl; all_goals intro hc; all_goals try (exfalso; omega)) | (apply r_allocZ; exact rfl; exact rfl; exact rfl; intro _) | (apply r_storeN; exact rfl; (first | exact trivial | exact ⟨rfl, rfl⟩); exact rfl; exact rfl; (first | exact at0 | exact at1 | exact at2 | exact at3 | exact at4 | exact at5 | exact at6 | exact at7); exact rfl; exact rfl; exact rfl) | refine JX.thenR ?_ | refine JC.skip ?_ | refine JC.ret ?_ | refine JC.condT rfl ?_ | refine JC.condF rfl ?_))
    · rename_i b8 h0
      refine JX.retC 1 rfl rfl rfl (fun a w' st => ⟨st.kp, N, st.newOf rfl (by (repeat' first | exact HSub.nil _ | exact HSub.hd | exact HSub.in0 | exact HSub.refl _ | refine HSub.skip ?_ | refine HSub.skipN ?_)), hdone _ ?_⟩)
      have e : tab2 xss.length (ofC xss xss.length) (ofE p xss) = tab (xss.length * ofC xss xss.length) fun _ => 0 := by
        unfold tab2
        exact tab_congr fun i hi => by omega
      rw [e]; exact hO
    · refine r_lenR rfl rfl rfl hR ?_
      (repeat' (first | refine JO.nil ?_ | refine JX.thenN ?_ | (apply r_move; exact rfl; exact rfl; exact rfl) | refine JC.block ?_))
      rename_i b8
      refine JC.loopH (ι := Nat × SHeap) ⟨fun z => [(36, nv z.1), (35, nv xss.length), (34, v), (5, nv (ofC xss xss.length)), (0, nv p), (1, v), (8, .pointer (some ⟨b8, 0, none⟩)), (4, .pointer (some ⟨b4, 0, none⟩))],
        fun z => [(b8, .cells #[nv p, nv xss.length, nv (ofC xss xss.length), .slice Ao (xss.length * ofC xss xss.length) co] 27), (b4, .cells #[iv 0, iv 0, iv 0, .slice none 0 0] 27)] ++ (z.2 ++ []),
        fun z => z.1 ≤ xss.length ∧ OwnN z.2 (.slice Ao (xss.length * ofC xss xss.length) co) (xss.length * ofC xss xss.length) (tab2 xss.length (ofC xss xss.length) (ofS p xss z.1 0)), fun z => xss.length - z.1⟩ (0, N) ⟨by dsimp only; omega, by rw [ofS_zero]; exact hO⟩ (by repeat first | exact trivial | refine ⟨rfl, ?_⟩) (by (first | exact HSub.refl _ | (repeat' first | exact HSub.nil _ | exact HSub.refl _ | refine HSub.at 0 rfl ?_ | refine HSub.at 1 rfl ?_ | refine HSub.at 2 rfl ?_ | refine HSub.at 3 rfl ?_ | refine HSub.at 4 rfl ?_ | refine HSub.at 5 rfl ?_ | refine HSub.at 6 rfl ?_ | refine HSub.at 7 rfl ?_))) (fun z hz => ?_)
      clear hO
      obtain ⟨i, N⟩ := z
      obtain ⟨hi, hO⟩ := hz
      dsimp only at hi hO ⊢
      by_cases hii : i < xss.length
      · have hwi := hrow i hii
        have hl4 := hlen i hii
        have hlc := ofC_le xss hii
        (repeat' (first | refine JC.seq ?_ | refine JC.ops ?_ | refine JO.nil ?_ | refine JX.thenN ?_ | (apply r_move; exact rfl; exact rfl; exact rfl) | (apply r_lss; exact rfl; exact rfl; exact rfl; exact rfl; all_goals intro hc; all_goals try (exfalso; omega)) | refine JC.skip ?_ | refine JC.condT rfl ?_ | refine JC.block ?_))
        refine r_idxR1 rfl rfl rfl rfl hR hii ?_
        refine r_ldR rfl rfl rfl rfl hR (HSub.nil _) (gD_lt (d := iv 0) (by omega)) ?_
        (repeat' (first | refine JC.seq ?_ | refine JC.ops ?_ | refine JO.nil ?_ | refine JX.thenN ?_ | (apply r_move; exact rfl; exact rfl; exact rfl) | (apply r_assign; exact rfl; exact rfl; exact rfl) | (apply r_lenI; exact rfl; exact rfl; exact rfl; (first | assumption | exact WI.rd (by assumption) rfl [] | exact OwnI.rd (by assumption))) | refine JC.block ?_))
        refine JC.loopH (ι := Nat × SHeap) ⟨fun z => [(43, nv z.1), (42, nv (xss.getD i []).length), (41, ss.getD i (iv 0)), (9, nv i), (36, nv i), (35, nv xss.length), (34, v), (5, nv (ofC xss xss.length)), (0, nv p), (1, v), (8, .pointer (some ⟨b8, 0, none⟩)), (4, .pointer (some ⟨b4, 0, none⟩))],
          fun z => [(b8, .cells #[nv p, nv xss.length, nv (ofC xss xss.length), .slice Ao (xss.length * ofC xss xss.length) co] 27), (b4, .cells #[iv 0, iv 0, iv 0, .slice none 0 0] 27)] ++ (z.2 ++ []),
          fun z => z.1 ≤ (xss.getD i []).length ∧ OwnN z.2 (.slice Ao (xss.length * ofC xss xss.length) co) (xss.length * ofC xss xss.length) (tab2 xss.length (ofC xss xss.length) (ofS p xss i z.1)), fun z => (xss.getD i []).length - z.1⟩ (0, N) ⟨by dsimp only; omega, hO⟩ (by repeat first | exact trivial | refine ⟨rfl, ?_⟩) (by (first | exact HSub.refl _ | (repeat' first | exact HSub.nil _ | exact HSub.refl _ | refine HSub.at 0 rfl ?_ | refine HSub.at 1 rfl ?_ | refine HSub.at 2 rfl ?_ | refine HSub.at 3 rfl ?_ | refine HSub.at 4 rfl ?_ | refine HSub.at 5 rfl ?_ | refine HSub.at 6 rfl ?_ | refine HSub.at 7 rfl ?_))) (fun z hz => ?_)
        clear hO
        obtain ⟨j, N⟩ := z
        obtain ⟨hj, hO⟩ := hz
        dsimp only at hj hO ⊢
        by_cases hjj : j < (xss.getD i []).length
        · have hjc : j < ofC xss xss.length := by omega
          have hidx := idx_lt hii hjc
          have hb1 : i * ofC xss xss.length ≤ 160000 := Nat.mul_le_mul (show i ≤ 400 by omega) hcc
          have htb := tmod_bd ((xss.getD i []).getD j 0) (m := p) (by omega) (by omega)
          (repeat' (first | refine JC.seq ?_ | refine JC.ops ?_ | refine JC.opsD ?_ | refine JO.nil ?_ | refine JX.thenN ?_ | (apply r_move; exact rfl; exact rfl; exact rfl) | (apply r_fieldAddr; exact rfl; exact rfl; exact rfl) | (apply r_assign; exact rfl; exact rfl; exact rfl) | (apply r_load; exact rfl; exact rfl; exact rfl; exact rfl; (first | exact at0 | exact at1 | exact at2 | exact at3 | exact at4 | exact at5 | exact at6 | exact at7); exact rfl) | (apply r_idxI; exact rfl; exact rfl; exact rfl; exact rfl; (first | assumption | exact WI.rd (by assumption) rfl [] | exact OwnI.rd (by assumption)); (first | assumption | omega)) | (apply r_idxN; exact rfl; exact rfl; exact rfl; exact rfl; (first | assumption | exact WN.rd (by assumption) rfl [] | exact OwnN.rd (by assumption)); (first | assumption | omega)) | (apply r_ldI; exact rfl; exact rfl; exact rfl; exact rfl; (first | assumption | exact WI.rd (by assumption) rfl [] | exact OwnI.rd (by assumption)); (repeat' first | exact HSub.nil _ | exact HSub.hd | exact HSub.in0 | exact HSub.refl _ | refine HSub.skip ?_ | refine HSub.skipN ?_); (first | assumption | omega)) | (apply r_addN; exact rfl; exact rfl; exact rfl; exact rfl; omega) | (apply r_mulN; exact rfl; exact rfl; exact rfl; exact rfl; (first | assumption | omega)) | (apply r_add; exact rfl; exact rfl; exact rfl; exact rfl; omega) | (apply r_mod; exact rfl; exact rfl; exact rfl; exact rfl; omega) | (apply r_lss; exact rfl; exact rfl; exact rfl; exact rfl; all_goals intro hc; all_goals try (exfalso; omega)) | refine JC.skip ?_ | refine JC.condT rfl ?_ | refine JC.block ?_))
          refine r_stN (A := [_, _]) (u := ofE p xss i j) hO rfl rfl (by first | trivial | exact ⟨rfl, rfl⟩) rfl (congrArg (fun t => some (iv t)) (md_tmod _ (by omega))) hidx (fun N' hO' => ?_)
          rw [ofS_set hjc] at hO'
          (repeat' (first | refine JC.ops ?_ | refine JO.nil ?_ | refine JX.thenN ?_ | (apply r_move; exact rfl; exact rfl; exact rfl) | (apply r_add1; exact rfl; exact rfl; exact rfl; exact rfl; omega) | refine JX.blockN ?_))
          exact JX.roundH (j + 1, N') ⟨by dsimp only; omega, hO'⟩ (by dsimp only; omega) (by repeat first | exact trivial | refine ⟨rfl, ?_⟩) (by (first | exact HSub.refl _ | (repeat' first | exact HSub.nil _ | exact HSub.refl _ | refine HSub.at 0 rfl ?_ | refine HSub.at 1 rfl ?_ | refine HSub.at 2 rfl ?_ | refine HSub.at 3 rfl ?_ | refine HSub.at 4 rfl ?_ | refine HSub.at 5 rfl ?_ | refine HSub.at 6 rfl ?_ | refine HSub.at 7 rfl ?_)))
        · rw [ofS_row (show (xss.getD i []).length ≤ j by omega)] at hO
          (repeat' (first | refine JC.seq ?_ | refine JC.ops ?_ | refine JO.nil ?_ | refine JX.thenN ?_ | (apply r_move; exact rfl; exact rfl; exact rfl) | (apply r_add1; exact rfl; exact rfl; exact rfl; exact rfl; omega) | (apply r_lss; exact rfl; exact rfl; exact rfl; exact rfl; all_goals intro hc; all_goals try (exfalso; omega)) | refine JX.thenE ?_ | refine JC.exit ?_ | refine JC.condF rfl ?_ | refine JX.blockN ?_ | refine JX.blockE ?_))
          exact JX.roundH (i + 1, N) ⟨by dsimp only; omega, hO⟩ (by dsimp only; omega) (by repeat first | exact trivial | refine ⟨rfl, ?_⟩) (by (first | exact HSub.refl _ | (repeat' first | exact HSub.nil _ | exact HSub.refl _ | refine HSub.at 0 rfl ?_ | refine HSub.at 1 rfl ?_ | refine HSub.at 2 rfl ?_ | refine HSub.at 3 rfl ?_ | refine HSub.at 4 rfl ?_ | refine HSub.at 5 rfl ?_ | refine HSub.at 6 rfl ?_ | refine HSub.at 7 rfl ?_)))
      · rw [ofS_end (show xss.length ≤ i by omega)] at hO
        (repeat' (first | refine JC.seq ?_ | refine JC.ops ?_ | refine JO.nil ?_ | refine JX.thenN ?_ | (apply r_loadN; exact rfl; exact rfl; exact rfl; exact rfl; (first | exact at0 | exact at1 | exact at2 | exact at3 | exact at4 | exact at5 | exact at6 | exact at7); exact rfl) | (apply r_lss; exact rfl; exact rfl; exact rfl; exact rfl; all_goals intro hc; all_goals try (exfalso; omega)) | (apply r_storeN; exact rfl; (first | exact trivial | exact ⟨rfl, rfl⟩); exact rfl; exact rfl; (first | exact at0 | exact at1 | exact at2 | exact at3 | exact at4 | exact at5 | exact at6 | exact at7); exact rfl; exact rfl; exact rfl) | refine JX.thenE ?_ | refine JC.exit ?_ | refine JC.ret ?_ | refine JC.condF rfl ?_ | refine JX.blockE ?_))
        exact JX.retC 1 rfl rfl rfl (fun a w' st => ⟨st.kp, N, st.newOf rfl (by (repeat' first | exact HSub.nil _ | exact HSub.hd | exact HSub.in0 | exact HSub.refl _ | refine HSub.skip ?_ | refine HSub.skipN ?_)), hdone _ hO⟩)

set_option maxHeartbeats 4000000 in
theorem c_OfF (w : World) (v : Value) (p : Int) (xss : List (List Int)) (hv : IsRows w v xss) (hf : ¬ Fits p xss.length (ofC xss xss.length)) (hr : xss.length < 4611686018427387904) (hb : ∀ i, (xss.getD i []).length < 4611686018427387904) :
    Calls Try.prog 29 #[iv p, v] w (Ret fun v w' => Kp [] w w' ∧ v = zeroV) := by
  obtain ⟨ss, hss, hrow⟩ := hv
  have hsl : ss.length = xss.length := by have := hss.1; omega
  have hoc := ofC_lt xss (show 0 < 4611686018427387904 by omega) hb
  refine calls_of_S [⟨16, 2, [], []⟩] [] (by simp) [] Try.func29 rfl mixed (by kernel_rfl) Try.ntmps29 Try.results29 rfl ⟨by simp, by simp⟩ (by simp) ?_
  simp only [toS, textOps, toSOp, kindAt, kindOf, odAt, sopsAt, ordOf, zipF]
  have hR : Rd ⟨Try.prog, 66, w, [], by simp⟩ [] 1 v xss.length ss := hss.rd rfl []
  (repeat' (first | refine JC.seq ?_ | refine JC.ops ?_ | refine JO.nil ?_ | refine JX.thenN ?_ | (apply r_move; exact rfl; exact rfl; exact rfl) | (apply r_assign; exact rfl; exact rfl; exact rfl) | (apply r_allocZ; exact rfl; exact rfl; exact rfl; intro _)))
  rename_i b4
  refine r_lenR rfl rfl rfl hR ?_
  (repeat' (first | refine JO.nil ?_ | refine JX.thenN ?_ | (apply r_move; exact rfl; exact rfl; exact rfl) | refine JC.block ?_))
  refine JC.loopH (ι := Nat) ⟨fun k => [(15, nv k), (14, nv xss.length), (13, v), (5, nv (ofC xss k)), (0, iv p), (1, v), (4, .pointer (some ⟨b4, 0, none⟩))], fun _ => [(b4, .cells #[iv 0, iv 0, iv 0, .slice none 0 0] 27)],
    fun k => k ≤ xss.length, fun k => xss.length - k⟩ 0 (by dsimp only; omega) (by repeat first | exact trivial | refine ⟨rfl, ?_⟩) (by (first | exact HSub.refl _ | (repeat' first | exact HSub.nil _ | exact HSub.refl _ | refine HSub.at 0 rfl ?_ | refine HSub.at 1 rfl ?_ | refine HSub.at 2 rfl ?_ | refine HSub.at 3 rfl ?_ | refine HSub.at 4 rfl ?_ | refine HSub.at 5 rfl ?_ | refine HSub.at 6 rfl ?_ | refine HSub.at 7 rfl ?_))) (fun k hk => ?_)
  dsimp only at hk ⊢
  by_cases hkk : k < xss.length
  · have hwi := hrow k hkk
    have hl4 := hb k
    (repeat' (first | refine JC.seq ?_ | refine JC.ops ?_ | refine JO.nil ?_ | refine JX.thenN ?_ | (apply r_lss; exact rfl; exact rfl; exact rfl; exact rfl; all_goals intro hc; all_goals try (exfalso; omega)) | refine JC.skip ?_ | refine JC.condT rfl ?_ | refine JC.block ?_))
    refine r_idxR1 rfl rfl rfl rfl hR hkk ?_
    refine r_ldR rfl rfl rfl rfl hR (HSub.nil _) (gD_lt (d := iv 0) (by omega)) ?_
    (repeat' (first | refine JC.ops ?_ | refine JO.nil ?_ | refine JX.thenN ?_ | (apply r_move; exact rfl; exact rfl; exact rfl) | (apply r_assign; exact rfl; exact rfl; exact rfl) | (apply r_lenI; exact rfl; exact rfl; exact rfl; (first | assumption | exact WI.rd (by assumption) rfl [] | exact OwnI.rd (by assumption))) | (apply r_add1; exact rfl; exact rfl; exact rfl; exact rfl; omega) | (apply r_max; exact rfl; exact rfl; exact rfl; exact rfl) | refine JX.blockN ?_))
    refine JX.roundH (k + 1) (by dsimp only; omega) (by dsimp only; omega) (by dsimp only [ofC]; unfold nv; rw [← max_nv]; exact (by repeat first | exact trivial | refine ⟨rfl, ?_⟩)) (by (first | exact HSub.refl _ | (repeat' first | exact HSub.nil _ | exact HSub.refl _ | refine HSub.at 0 rfl ?_ | refine HSub.at 1 rfl ?_ | refine HSub.at 2 rfl ?_ | refine HSub.at 3 rfl ?_ | refine HSub.at 4 rfl ?_ | refine HSub.at 5 rfl ?_ | refine HSub.at 6 rfl ?_ | refine HSub.at 7 rfl ?_)))
  · have : k = xss.length := by omega
    subst this
    (repeat' (first | refine JC.seq ?_ | refine JC.ops ?_ | refine JO.nil ?_ | refine JX.thenN ?_ | (apply r_move; exact rfl; exact rfl; exact rfl) | (apply r_lss; exact rfl; exact rfl; exact rfl; exact rfl; all_goals intro hc; all_goals try (exfalso; omega)) | refine JX.thenE ?_ | refine JC.exit ?_ | refine JC.condF rfl ?_ | refine JX.blockE ?_))
    refine r_lenR rfl rfl rfl hR ?_
    (repeat' (first | (apply r_move; exact rfl; exact rfl; exact rfl)))
    refine r_call0 trivial rfl rfl rfl (fun w hk _ => c_zeroF p _ _ hf w) fun w v' w' _ _ _ hR' => ?_
    subst hR'
    unfold zeroV
    (repeat' (first | refine JC.seq ?_ | refine JC.ops ?_ | refine JO.nil ?_ | refine JX.thenN ?_ | (apply r_fieldAddr; exact rfl; exact rfl; exact rfl) | (apply r_load; exact rfl; exact rfl; exact rfl; exact rfl; (first | exact at0 | exact at1 | exact at2 | exact at3 | exact at4 | exact at5 | exact at6 | exact at7); exact rfl) | (apply r_loadN; exact rfl; exact rfl; exact rfl; exact rfl; (first | exact at0 | exact at1 | exact at2 | exact at3 | exact at4 | exact at5 | exact at6 | exact at7); exact rfl) | (apply r_len; exact rfl; exact rfl; exact rfl) | (apply r_eql; exact rfl; exact rfl; exact rfl; exact rfl; all_goals intro hc; all_goals try (exfalso; omega)) | (apply r_allocZ; exact rfl; exact rfl; exact rfl; intro _) | (apply r_storeN; exact rfl; (first | exact trivial | exact ⟨rfl, rfl⟩); exact rfl; exact rfl; (first | exact at0 | exact at1 | exact at2 | exact at3 | exact at4 | exact at5 | exact at6 | exact at7); exact rfl; exact rfl; exact rfl) | refine JX.thenR ?_ | refine JC.ret ?_ | refine JC.condT rfl ?_))
    exact JX.retC 1 rfl rfl rfl (fun a w' st => ⟨st.kp, rfl⟩)

end Go.Proofs.Ytdoogoglfbohaaa
