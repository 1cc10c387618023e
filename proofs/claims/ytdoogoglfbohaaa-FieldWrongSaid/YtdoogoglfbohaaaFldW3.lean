/- Walks of field: row reduction. -/
import Derived.Test.YtdoogoglfbohaaaFldW2
namespace Go.Proofs.Ytdoogoglfbohaaa
open Go Go.RowKit
set_option linter.unusedSimpArgs false
set_option linter.unusedVariables false
set_option linter.unusedSectionVars false

/-- A matrix that may be joined of two. -/
structure Big (m : NM) : Prop where
  pr : Pr m.p
  r : m.r ≤ 400
  c : m.c ≤ 800
  len : m.e.length = m.r * m.c
  lt : ∀ x ∈ m.e, x < m.p

theorem Rt.big {m : NM} (h : Rt m) : Big m := ⟨h.pr, h.r, by have := h.c; omega, h.len, h.lt⟩
theorem Big.els {m : NM} (h : Big m) : Els m.p m.r m.c m.e := ⟨h.len, h.lt⟩

/-- A result that is a matrix, and a list of numbers. -/
def GivesML (m : NM) (l : List Nat) (w : World) (v : Value) (w' : World) : Prop := ∃ N N2 u x, v = .tuple #[u, x] ∧ New (N ++ N2) w w' ∧ OwnM N u m ∧ OwnN N2 x l.length l

def rdZ : Array Value := ⟨iv 0 :: iv 0 :: iv 0 :: .slice none 0 0 :: List.replicate 998 (iv 0)⟩
instance : TSt Try.prog 63 rdZ #[(0, 4), (4, 998)] := TSt.mk' (z := .agg rdZ) Try.underlying63 (by kernel_rfl) (by kernel_rfl)

theorem fill_rd (a b c d : Value) (x y z u : Value) (l : List Value) (hl : l.length = 998) : Instr.fill ((#[(0, 4), (4, 998)] : Array (Nat × Nat))[·]?) ⟨x :: y :: z :: u :: l⟩ [(0, .agg #[a, b, c, d])] = some ⟨a :: b :: c :: d :: l⟩ := by
  simp [Instr.fill, Value.cells]

/-- The rest of a pivot's work: rows before k are done. -/
def elS (p at' j k : Nat) (g : Nat → Nat → Nat) : Nat → Nat → Nat := fun a b => if a < k ∧ a ≠ at' then (g a b + (p - g a j) * g at' b) % p else g a b

theorem elS_at {p at' j k : Nat} {g : Nat → Nat → Nat} (b : Nat) : elS p at' j k g at' b = g at' b := by simp [elS]
theorem elS_k {p at' j k : Nat} {g : Nat → Nat → Nat} (b : Nat) : elS p at' j k g k b = g k b := by simp [elS]
theorem elS_skip {p at' j k r c : Nat} {g : Nat → Nat → Nat} (hg : ∀ a b, g a b < p) (h : k = at' ∨ g k j = 0) : tab2 r c (elS p at' j k g) = tab2 r c (elS p at' j (k + 1) g) := by
  refine tab2_congr fun a b _ _ => ?_
  unfold elS
  by_cases ha : a = k
  · subst ha
    rcases h with h | h
    · subst h; simp
    · have : (g a b + (p - g a j) * g at' b) % p = g a b := by rw [h, Nat.sub_zero, Nat.add_mul_mod_self_left, Nat.mod_eq_of_lt (hg a b)]
      rw [this]; simp
  · have : (a < k + 1) = (a < k) := by simp; omega
    simp only [this]
theorem elS_step {p at' j k r c : Nat} {g : Nat → Nat → Nat} (hk : k ≠ at') : tab2 r c (eaG k (fun b x => (x + g at' b * (p - g k j)) % p) (elS p at' j k g)) = tab2 r c (elS p at' j (k + 1) g) := by
  refine tab2_congr fun a b _ _ => ?_
  unfold eaG elS
  by_cases ha : a = k
  · subst ha
    simp [hk, Nat.mul_comm]
  · have : (a < k + 1) = (a < k) := by simp; omega
    simp only [this, if_neg ha]
theorem elS_end {p at' i j r c k : Nat} {g : Nat → Nat → Nat} (hk : r ≤ k) (hi : i < r) :
    tab2 r c (elS p at' j k (eaG at' (fun _ x => x * invN p (g i j) % p) (swG at' i g))) = tab2 r c (pvN p at' i j g) := by
  refine tab2_congr fun a b ha _ => ?_
  unfold elS eaG swG pvN
  by_cases h : a = at'
  · subst h; simp
  · simp [h, show a < k by omega]

theorem ent_lt_tab2 {p r c : Nat} {g : Nat → Nat → Nat} (hp : 0 < p) (hg : ∀ a b, a < r → b < c → g a b < p) (i : Nat) : (tab2 r c g).getD i 0 < p := by
  rcases Nat.lt_or_ge i (tab2 r c g).length with h | h
  · exact tab2_lt hg _ (mem_getD h)
  · simp only [List.getD, List.getElem?_eq_none h, Option.getD_none]; exact hp

theorem lit_iv {x : Nat} : iv (x : Int) = nv x := rfl
theorem toN_z (xs : List Nat) : xs.map nv = xs.map nv := rfl

set_option maxHeartbeats 4000000 in
theorem c_reduce0 (w : World) (v : Value) (m : NM) (hm : Big m) (h0 : m.r * m.c = 0) (hv : IsM w v m) :
    Calls Try.prog 45 #[v] w (Ret fun v w' => Kp [] w w' ∧ GivesML (echM m) (pivM m) w v w') := by
  obtain ⟨E, rfl, hE⟩ := hv
  have hl := hm.len
  have hbr := hm.r
  have hbc := hm.c
  haveI := hm.pr.nz
  rw [hl] at hE
  have hstep : ∀ j, redTo m.p m.r m.c m.e j = (m.e, []) := fun j => by
    induction j with
    | zero => rfl
    | succ j ih =>
      by_cases hj : j < m.c
      · have hr : m.r = 0 := by
          rcases Nat.eq_zero_or_pos m.r with h | h
          · exact h
          · have := Nat.mul_pos h (show 0 < m.c by omega); omega
        rw [redTo_none (by rw [ih]; exact Nat.zero_le _) (fun i _ hi => by omega), ih]
      · have he : m.e = [] := List.eq_nil_of_length_eq_zero (by omega)
        rw [redTo_none (by rw [ih]; exact Nat.zero_le _) (fun i _ hi => by rw [ih]; simp [ent, he]), ih]
  refine calls_of_S [⟨13, 0, [0, 1, 3, 4, 5, 7, 11, 12, 2, 6, 8, 9, 10, 13, 14, 15], [(9, .seq)]⟩, ⟨19, 0, [0, 1, 3, 4, 6, 7, 8, 9, 10, 11, 2, 5, 12, 13, 14], []⟩] [] (by simp) [] Try.func45 rfl mixed (by kernel_rfl) Try.ntmps45 Try.results45 rfl ⟨by simp, by simp⟩ (by simp) ?_
  simp only [toS, textOps, toSOp, kindAt, kindOf, odAt, sopsAt, ordOf, zipF]
  (repeat' (first | refine JC.seq ?_ | refine JC.ops ?_ | refine JO.nil ?_ | refine JX.thenN ?_ | (apply r_fieldAddr; exact rfl; exact rfl; exact rfl) | (apply r_assign; exact rfl; exact rfl; exact rfl) | (apply r_load; exact rfl; exact rfl; exact rfl; exact rfl; (first | exact at0 | exact at1 | exact at2 | exact at3 | exact at4 | exact at5 | exact at6 | exact at7); exact rfl) | (apply r_allocZ; exact rfl; exact rfl; exact rfl; intro _) | (apply r_boxA; exact rfl; exact rfl; exact rfl; exact rfl; intro _) | refine JC.scope ?_))
  rename_i b1 b2
  refine r_callA (A := [_, _]) (B := []) rfl trivial rfl rfl rfl (fun w hk _ => c_Clone w _ _ _ (hE.mono hk) (by omega)) fun w v w' _ _ _ hR => ?_
  obtain ⟨N, hN, hO⟩ := hR
  obtain ⟨A, cap, rfl⟩ := hO.form
  refine ⟨N, hN, ?_⟩
  (repeat' (first | refine JC.seq ?_ | refine JC.ops ?_ | refine JO.nil ?_ | refine JX.thenN ?_ | (apply r_fieldAddr; exact rfl; exact rfl; exact rfl) | (apply r_loadN; exact rfl; exact rfl; exact rfl; exact rfl; (first | exact at0 | exact at1 | exact at2 | exact at3 | exact at4 | exact at5 | exact at6 | exact at7); exact rfl) | (apply r_store; exact rfl; (first | exact trivial | exact ⟨rfl, rfl⟩); exact rfl; exact rfl; (first | exact at0 | exact at1 | exact at2 | exact at3 | exact at4 | exact at5 | exact at6 | exact at7); exact rfl; exact rfl; (first | exact Nat.le_of_ble_eq_true rfl | (simp; done) | omega))))
  refine r_build (cs := rdC m.p m.r m.c (.slice A (m.r * m.c) cap) (List.replicate 998 0)) rfl rfl rfl ?_ ?_
  · rw [rdC, List.map_replicate]
    exact fill_rd _ _ _ _ _ _ _ _ _ List.length_replicate
  (repeat' (first | refine JC.seq ?_ | refine JC.ops ?_ | refine JO.nil ?_ | refine JX.thenN ?_ | (apply r_assign; exact rfl; exact rfl; exact rfl) | (apply r_boxA; exact rfl; exact rfl; exact rfl; exact rfl; intro _)))
  refine JC.label ?_
  (repeat' (first | refine JC.seq ?_ | refine JC.ops ?_ | refine JO.nil ?_ | refine JX.thenN ?_ | (apply r_move; exact rfl; exact rfl; exact rfl) | (apply r_fieldAddr; exact rfl; exact rfl; exact rfl) | (apply r_load; exact rfl; exact rfl; exact rfl; exact rfl; (first | exact at0 | exact at1 | exact at2 | exact at3 | exact at4 | exact at5 | exact at6 | exact at7); exact rfl) | refine JC.block ?_))
  rename_i bm
  refine JC.loopH (ι := Nat) ⟨fun j => [(20, nv j), (19, nv m.c), (1, .pointer (some ⟨b1, 0, none⟩)), (2, .pointer (some ⟨b2, 0, none⟩)), (4, .pointer (some ⟨bm, 0, none⟩)), (5, .slice none 0 0)],
    fun j => [(bm, .cells (rdC m.p m.r m.c (.slice A (m.r * m.c) cap) (List.replicate 998 0)) 63), (b2, .cells #[iv 0, iv 0, iv 0, .slice none 0 0] 27), (b1, .cells #[nv m.p, nv m.r, nv m.c, .slice A (m.r * m.c) cap] 27)] ++ (N ++ []),
    fun j => j ≤ m.c, fun j => m.c - j⟩ 0 (by dsimp only; omega) (by repeat first | exact trivial | refine ⟨rfl, ?_⟩) (by (first | exact HSub.refl _ | (repeat' first | exact HSub.nil _ | exact HSub.refl _ | refine HSub.at 0 rfl ?_ | refine HSub.at 1 rfl ?_ | refine HSub.at 2 rfl ?_ | refine HSub.at 3 rfl ?_ | refine HSub.at 4 rfl ?_ | refine HSub.at 5 rfl ?_ | refine HSub.at 6 rfl ?_ | refine HSub.at 7 rfl ?_))) (fun j hj => ?_)
  dsimp only at hj ⊢
  by_cases hjc : j < m.c
  · have hr : m.r = 0 := by
      rcases Nat.eq_zero_or_pos m.r with h | h
      · exact h
      · have := Nat.mul_pos h (show 0 < m.c by omega); omega
    (repeat' (first | refine JC.seq ?_ | refine JC.ops ?_ | refine JO.nil ?_ | refine JX.thenN ?_ | (apply r_move; exact rfl; exact rfl; exact rfl) | (apply r_assign; exact rfl; exact rfl; exact rfl) | (apply r_len; exact rfl; exact rfl; exact rfl) | (apply r_lss; exact rfl; exact rfl; exact rfl; exact rfl; all_goals intro hc; all_goals try (exfalso; omega)) | refine JC.skip ?_ | refine JC.condT rfl ?_ | refine JC.block ?_))
    refine JC.loopH (ι := Nat) ⟨fun _ => [(8, nv 0), (7, nv 0), (6, nv j), (20, nv j), (19, nv m.c), (1, .pointer (some ⟨b1, 0, none⟩)), (2, .pointer (some ⟨b2, 0, none⟩)), (4, .pointer (some ⟨bm, 0, none⟩)), (5, .slice none 0 0)],
      fun _ => [(bm, .cells (rdC m.p m.r m.c (.slice A (m.r * m.c) cap) (List.replicate 998 0)) 63), (b2, .cells #[iv 0, iv 0, iv 0, .slice none 0 0] 27), (b1, .cells #[nv m.p, nv m.r, nv m.c, .slice A (m.r * m.c) cap] 27)] ++ (N ++ []),
      fun _ => True, fun _ => 0⟩ 0 trivial (by repeat first | exact trivial | refine ⟨rfl, ?_⟩) (by (first | exact HSub.refl _ | (repeat' first | exact HSub.nil _ | exact HSub.refl _ | refine HSub.at 0 rfl ?_ | refine HSub.at 1 rfl ?_ | refine HSub.at 2 rfl ?_ | refine HSub.at 3 rfl ?_ | refine HSub.at 4 rfl ?_ | refine HSub.at 5 rfl ?_ | refine HSub.at 6 rfl ?_ | refine HSub.at 7 rfl ?_))) (fun i _ => ?_)
    dsimp only
    (repeat' (first | refine JC.seq ?_ | refine JC.ops ?_ | refine JO.nil ?_ | refine JX.thenN ?_ | (apply r_move; exact rfl; exact rfl; exact rfl) | (apply r_fieldAddr; exact rfl; exact rfl; exact rfl) | (apply r_load; exact rfl; exact rfl; exact rfl; exact rfl; (first | exact at0 | exact at1 | exact at2 | exact at3 | exact at4 | exact at5 | exact at6 | exact at7); exact rfl) | (apply r_add1; exact rfl; exact rfl; exact rfl; exact rfl; omega) | (apply r_lss; exact rfl; exact rfl; exact rfl; exact rfl; all_goals intro hc; all_goals try (exfalso; omega)) | refine JX.thenE ?_ | refine JC.exit ?_ | refine JC.condF rfl ?_ | refine JX.blockN ?_ | refine JX.blockE ?_))
    exact JX.roundH (j + 1) (by dsimp only; omega) (by dsimp only; omega) (by repeat first | exact trivial | refine ⟨rfl, ?_⟩) (by (first | exact HSub.refl _ | (repeat' first | exact HSub.nil _ | exact HSub.refl _ | refine HSub.at 0 rfl ?_ | refine HSub.at 1 rfl ?_ | refine HSub.at 2 rfl ?_ | refine HSub.at 3 rfl ?_ | refine HSub.at 4 rfl ?_ | refine HSub.at 5 rfl ?_ | refine HSub.at 6 rfl ?_ | refine HSub.at 7 rfl ?_)))
  · (repeat' (first | refine JC.seq ?_ | refine JC.ops ?_ | refine JO.nil ?_ | refine JX.thenN ?_ | (apply r_move; exact rfl; exact rfl; exact rfl) | (apply r_fieldAddr; exact rfl; exact rfl; exact rfl) | (apply r_nilCheck; exact rfl; exact rfl; exact rfl) | (apply r_lss; exact rfl; exact rfl; exact rfl; exact rfl; all_goals intro hc; all_goals try (exfalso; omega)) | refine JX.thenE ?_ | refine JC.exit ?_ | refine JC.condF rfl ?_ | refine JX.blockE ?_))
    refine r_loadM (n := 4) (vs := #[nv m.p, nv m.r, nv m.c, .slice A (m.r * m.c) cap]) 0 rfl rfl rfl rfl rfl rfl (fun k hk => ?_) ?_
    · rcases k with _ | _ | _ | _ | k
      · exact rdC0 _ _ _ _ _
      · exact rdC1 _ _ _ _ _
      · exact rdC2 _ _ _ _ _
      · exact rdC3 _ _ _ _ _
      · omega
    (repeat' (first | refine JO.nil ?_ | refine JX.thenN ?_ | (apply r_move; exact rfl; exact rfl; exact rfl) | (apply r_assign; exact rfl; exact rfl; exact rfl) | (apply r_storeN; exact rfl; (first | exact trivial | exact ⟨rfl, rfl⟩); exact rfl; exact rfl; (first | exact at0 | exact at1 | exact at2 | exact at3 | exact at4 | exact at5 | exact at6 | exact at7); exact rfl; exact rfl; exact rfl) | refine JC.ret ?_ | refine JX.scopeR ?_))
    refine JX.retCT 1 rfl rfl rfl rfl (fun a w' st => ⟨st.kp, N, [], _, _, rfl, st.newOf rfl ?_, ?_, ?_⟩)
    · rw [List.append_nil]; exact (by (repeat' first | exact HSub.nil _ | exact HSub.hd | exact HSub.in0 | exact HSub.refl _ | refine HSub.skip ?_ | refine HSub.skipN ?_))
    · unfold echM; rw [hstep]
      exact OwnM.mk' hO
    · unfold pivM; rw [hstep]; exact OwnN.nil

end Go.Proofs.Ytdoogoglfbohaaa
