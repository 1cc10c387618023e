import Derived.Test.YtdehklhdjbkneaaDoorMb
/- Numbers as lists of digits. -/
namespace Go.Proofs.YtdehklhdjbkneaaDoor
open Go Go.RowKit
set_option linter.unusedSimpArgs false
set_option linter.unusedVariables false
set_option linter.unusedSectionVars false

/-- Without zeros at the end. -/
def nrm (l : List Nat) : List Nat := match l with
  | [] => []
  | x :: r => match nrm r with
    | [] => if x = 0 then [] else [x]
    | y :: s => x :: y :: s

theorem nrm_snoc0 (l : List Nat) : nrm (l ++ [0]) = nrm l := by
  induction l with
  | nil => rfl
  | cons x r ih => simp only [List.cons_append, nrm, ih]
theorem nrm_snoc (l : List Nat) {x : Nat} (hx : x ≠ 0) : nrm (l ++ [x]) = l ++ [x] := by
  induction l with
  | nil => simp [nrm, hx]
  | cons y r ih =>
    rw [List.cons_append, nrm, ih]
    cases r <;> rfl

/-- The value of digits to the base b. -/
def val (b : Nat) : List Nat → Nat
  | [] => 0
  | x :: r => x + b * val b r
theorem val_nrm (b : Nat) (l : List Nat) : val b (nrm l) = val b l := by
  induction l with
  | nil => rfl
  | cons x r ih =>
    rw [nrm, val]
    cases h : nrm r with
    | nil =>
      rw [h] at ih
      have : val b r = 0 := ih.symm
      rw [this]
      by_cases hx : x = 0
      · simp [hx, val]
      · simp [hx, val]
    | cons y s => rw [h] at ih; simp only [val] at ih ⊢; rw [← ih]
theorem val_append (b : Nat) (l r : List Nat) : val b (l ++ r) = val b l + b ^ l.length * val b r := by
  induction l with
  | nil => simp [val]
  | cons x l ih =>
    simp only [List.cons_append, val, ih, List.length_cons, Nat.pow_succ, Nat.mul_add]
    rw [Nat.mul_comm (b ^ l.length) b, Nat.mul_assoc]
    omega

end Go.Proofs.YtdehklhdjbkneaaDoor

/- norm and trim. -/
namespace Go.Proofs.YtdehklhdjbkneaaDoor
open Go Go.RowKit
set_option linter.unusedSimpArgs false
set_option linter.unusedVariables false
set_option linter.unusedSectionVars false

section
variable {c : Cx} {Q : Exit → Act → World → Prop} {m : Mode} {F : SFrame} {H : SHeap} {r : List SOp} {g : Option (Option Tmp × Bool)} {ns : Bool} {d : Tmp} {ty t t' : TypeId} {x y : Operand}
/-- 'a[:j]', as it stands. -/
theorem r_head {e : TypeId} {sz b o len cap j : Nat} {hi : Operand} [TSl c.P t e] [TSz c.P e sz] (hd : dstOk c.n (some d) = true) (hg : guardF F g = some true) (hx : ev F x = some (.slice (some ⟨b, o, none⟩) len cap)) (hhi : ev F hi = some (nv j)) (hj : j ≤ len) (hlc : len ≤ cap)
    (h : JO c Q m r ((d, (.slice (some ⟨b, o, none⟩) j cap)) :: F) H) : JO c Q m (⟨some d, .slice t x none (some hi) none, ty, g, .mov, ns⟩ :: r) F H :=
  r_mov hd hg (fun a w fr => by
    have e2 : (0 : Int) ≤ j ∧ (j : Int) ≤ cap := by omega
    have e3 : (if cap = 0 then some (⟨b, o, none⟩ : Addr) else some ((⟨b, o, none⟩ : Addr).add (0 * sz))) = some ⟨b, o, none⟩ := by
      split
      · rfl
      · simp [add_none]
    simp only [execOp, fr.ev hx, Option.map_some, fr.ev hhi, Option.map_none, Instr.sliceAt, Sem.run_bind, run_underlying (TSl.und (P := c.P) (t := t)), Result.andThen_ok, Instr.slice, Instr.sliceBounds,
      Instr.sliceBound, asIntOf, Sem.run_pure, e2, and_self, if_true, Int.toNat_natCast, TSz.size (e := e) (n := sz), if_false, Nat.sub_zero, e3]) h
end

theorem nrm_take {xs : List Nat} {k : Nat} (hk : k ≤ xs.length) (h : ∀ i, k ≤ i → i < xs.length → xs.getD i 0 = 0) (h0 : 0 < k → xs.getD (k - 1) 0 ≠ 0) : nrm xs = xs.take k := by
  have key : ∀ d, k + d ≤ xs.length → nrm (xs.take (k + d)) = xs.take k := fun d => by
    induction d with
    | zero =>
      intro _
      rcases Nat.eq_zero_or_pos k with h1 | h1
      · subst h1; rfl
      · have e : xs.take k = xs.take (k - 1) ++ [xs.getD (k - 1) 0] := by
          have h2 : xs[k - 1]? = some (xs.getD (k - 1) 0) := gD_lt (d := 0) (by omega)
          have h3 := List.take_add_one (l := xs) (i := k - 1)
          rw [show k - 1 + 1 = k by omega, h2] at h3
          exact h3
        rw [Nat.add_zero, e]
        exact nrm_snoc _ (h0 h1)
    | succ d ih =>
      intro hd
      have e : xs.take (k + (d + 1)) = xs.take (k + d) ++ [0] := by
        have h2 : xs[k + d]? = some 0 := by rw [gD_lt (d := 0) (by omega), h (k + d) (by omega) (by omega)]
        rw [← Nat.add_assoc, List.take_add_one, h2]; rfl
      rw [e, nrm_snoc0]
      exact ih (by omega)
  have := key (xs.length - k) (by omega)
  rw [show k + (xs.length - k) = xs.length by omega, List.take_length] at this
  exact this

set_option maxHeartbeats 2000000 in
theorem c_norm (w : World) (A : Option Addr) (n cap : Nat) (xs : List Nat) (hv : WU w (.slice A n cap) n xs) (hn : n ≤ 1000000000) :
    Calls Tryd.prog 57 #[.slice A n cap] w (Ret fun v w' => Kp [] w w' ∧ ∃ k, k ≤ n ∧ v = .slice A k cap ∧ nrm xs = xs.take k) := by
  have hlen := hv.len
  refine calls_of_S [] [] (by simp) [] Tryd.func57 rfl mixed (by kernel_rfl) Tryd.ntmps57 Tryd.results57 rfl ⟨by simp, by simp⟩ (by simp) ?_
  simp only [toS, textOps, toSOp, kindAt, kindOf, odAt, sopsAt, ordOf, zipF]
  (repeat' (first | refine JC.seq ?_ | refine JC.ops ?_ | refine JO.nil ?_ | refine JX.thenN ?_ | (apply r_assign; exact rfl; exact rfl; exact rfl) | refine JC.block ?_))
  refine JC.loopH (ι := Nat) ⟨fun k => [(0, .slice A k cap)], fun _ => [], fun k => k ≤ n ∧ ∀ i, k ≤ i → i < n → xs.getD i 0 = 0, fun k => k⟩ n ⟨Nat.le_refl _, fun i a b => by omega⟩ (by repeat first | exact trivial | refine ⟨rfl, ?_⟩) (by (first | exact HSub.refl _ | (repeat' first | exact HSub.nil _ | exact HSub.refl _ | refine HSub.at 0 rfl ?_ | refine HSub.at 1 rfl ?_ | refine HSub.at 2 rfl ?_ | refine HSub.at 3 rfl ?_ | refine HSub.at 4 rfl ?_ | refine HSub.at 5 rfl ?_ | refine HSub.at 6 rfl ?_ | refine HSub.at 7 rfl ?_))) (fun k hk => ?_)
  obtain ⟨hkn, hz⟩ := hk
  dsimp only at hkn hz ⊢
  have hrow : WU w (.slice A k cap) k (xs.take k) := by
    obtain ⟨h1, A', cap', h2, h3, h4⟩ := hv
    simp only [Value.slice.injEq] at h2
    obtain ⟨rfl, _, rfl⟩ := h2
    refine ⟨by simp; omega, A, cap, rfl, by omega, fun h0 => ⟨(h4 (by omega)).1, fun j u hu => ?_⟩⟩
    obtain ⟨⟨b, o, rfl⟩, h5⟩ := h4 (by omega)
    refine h5 j u ?_
    rw [List.map_take, List.getElem?_take] at hu
    split at hu
    · exact hu
    · cases hu
  have hcap : k ≤ cap := by
    obtain ⟨_, _, _, h2, h3, _⟩ := hrow
    simp only [Value.slice.injEq] at h2
    obtain ⟨_, _, rfl⟩ := h2
    exact h3
  have hget : 0 < k → (xs.take k).getD (k - 1) 0 = xs.getD (k - 1) 0 := fun h => by
    simp only [List.getD, List.getElem?_take, if_pos (show k - 1 < k by omega)]
  by_cases hk0 : 0 < k
  · have hg := hget hk0
    have hA : ∃ b o, A = some ⟨b, o, none⟩ := by
      obtain ⟨_, _, _, h2, _, h4⟩ := hrow
      simp only [Value.slice.injEq] at h2
      obtain ⟨rfl, _, rfl⟩ := h2
      exact (h4 hk0).1
    by_cases hx0 : xs.getD (k - 1) 0 = 0
    · (repeat' (first | refine JC.seq ?_ | refine JC.ops ?_ | refine JO.nil ?_ | refine JX.thenN ?_ | (apply r_move; exact rfl; exact rfl; exact rfl) | (apply r_len; exact rfl; exact rfl; exact rfl) | (apply r_sub1; exact rfl; exact rfl; exact rfl; exact rfl; omega) | (apply r_pickT; exact rfl; exact rfl; exact rfl; exact rfl) | (apply r_idxU; exact rfl; exact rfl; exact rfl; exact rfl; (first | assumption | exact WU.rd (by assumption) rfl [] | exact OwnU.rd (by assumption)); (first | assumption | omega)) | (apply r_ldU; exact rfl; exact rfl; exact rfl; exact rfl; (first | assumption | exact WU.rd (by assumption) rfl [] | exact OwnU.rd (by assumption)); (repeat' first | exact HSub.nil _ | exact HSub.hd | exact HSub.in0 | exact HSub.refl _ | refine HSub.skip ?_ | refine HSub.skipN ?_); (first | assumption | omega)) | (apply r_gtr; exact rfl; exact rfl; exact rfl; exact rfl; all_goals intro hc; all_goals try (exfalso; omega)) | (apply r_eql; exact rfl; exact rfl; exact rfl; exact rfl; all_goals intro hc; all_goals try (exfalso; omega)) | refine JC.skip ?_ | refine JC.condT rfl ?_ | refine JC.block ?_))
      obtain ⟨b, o, rfl⟩ := hA
      refine r_head rfl rfl rfl rfl (by omega) hcap ?_
      (repeat' (first | refine JO.nil ?_ | (apply r_assign; exact rfl; exact rfl; exact rfl) | refine JX.blockN ?_))
      exact JX.roundH (k - 1) ⟨by omega, fun i a b => by
        by_cases e : i = k - 1
        · subst e; exact hx0
        · exact hz i (by omega) b⟩ (by dsimp only; omega) (by repeat first | exact trivial | refine ⟨rfl, ?_⟩) (by (first | exact HSub.refl _ | (repeat' first | exact HSub.nil _ | exact HSub.refl _ | refine HSub.at 0 rfl ?_ | refine HSub.at 1 rfl ?_ | refine HSub.at 2 rfl ?_ | refine HSub.at 3 rfl ?_ | refine HSub.at 4 rfl ?_ | refine HSub.at 5 rfl ?_ | refine HSub.at 6 rfl ?_ | refine HSub.at 7 rfl ?_)))
    · (repeat' (first | refine JC.seq ?_ | refine JC.ops ?_ | refine JO.nil ?_ | refine JX.thenN ?_ | (apply r_move; exact rfl; exact rfl; exact rfl) | (apply r_assign; exact rfl; exact rfl; exact rfl) | (apply r_len; exact rfl; exact rfl; exact rfl) | (apply r_sub1; exact rfl; exact rfl; exact rfl; exact rfl; omega) | (apply r_pickT; exact rfl; exact rfl; exact rfl; exact rfl) | (apply r_idxU; exact rfl; exact rfl; exact rfl; exact rfl; (first | assumption | exact WU.rd (by assumption) rfl [] | exact OwnU.rd (by assumption)); (first | assumption | omega)) | (apply r_ldU; exact rfl; exact rfl; exact rfl; exact rfl; (first | assumption | exact WU.rd (by assumption) rfl [] | exact OwnU.rd (by assumption)); (repeat' first | exact HSub.nil _ | exact HSub.hd | exact HSub.in0 | exact HSub.refl _ | refine HSub.skip ?_ | refine HSub.skipN ?_); (first | assumption | omega)) | (apply r_gtr; exact rfl; exact rfl; exact rfl; exact rfl; all_goals intro hc; all_goals try (exfalso; omega)) | (apply r_eql; exact rfl; exact rfl; exact rfl; exact rfl; all_goals intro hc; all_goals try (exfalso; omega)) | refine JX.thenE ?_ | refine JC.exit ?_ | refine JC.ret ?_ | refine JC.condF rfl ?_ | refine JX.blockE ?_))
      exact JX.ret1 rfl (fun a w' st => ⟨st.kp, k, hkn, rfl, nrm_take (by omega) (fun i a b => hz i a (by omega)) (fun _ => hx0)⟩)
  · (repeat' (first | refine JC.seq ?_ | refine JC.ops ?_ | refine JO.nil ?_ | refine JX.thenN ?_ | (apply r_move; exact rfl; exact rfl; exact rfl) | (apply r_assign; exact rfl; exact rfl; exact rfl) | (apply r_len; exact rfl; exact rfl; exact rfl) | (apply r_pickF; exact rfl; exact rfl; exact rfl; exact rfl) | (apply r_gtr; exact rfl; exact rfl; exact rfl; exact rfl; all_goals intro hc; all_goals try (exfalso; omega)) | refine JX.thenE ?_ | refine JC.exit ?_ | refine JC.ret ?_ | refine JC.condF rfl ?_ | refine JX.blockE ?_ | (apply r_skip; exact rfl; exact rfl; (first | (intro h; cases h; done) | (intro _; rfl)))))
    exact JX.ret1 rfl (fun a w' st => ⟨st.kp, k, hkn, rfl, nrm_take (by omega) (fun i a b => hz i a (by omega)) (fun h => absurd h hk0)⟩)

set_option maxHeartbeats 2000000 in
theorem c_trim (w : World) (A : Option Addr) (n cap : Nat) (xs : List Nat) (hv : WN w (.slice A n cap) n xs) (hn : n ≤ 1000000000) :
    Calls Tryd.prog 59 #[.slice A n cap] w (Ret fun v w' => Kp [] w w' ∧ ∃ k, k ≤ n ∧ v = .slice A k cap ∧ nrm xs = xs.take k) := by
  have hlen := hv.len
  refine calls_of_S [] [] (by simp) [] Tryd.func59 rfl mixed (by kernel_rfl) Tryd.ntmps59 Tryd.results59 rfl ⟨by simp, by simp⟩ (by simp) ?_
  simp only [toS, textOps, toSOp, kindAt, kindOf, odAt, sopsAt, ordOf, zipF]
  (repeat' (first | refine JC.seq ?_ | refine JC.ops ?_ | refine JO.nil ?_ | refine JX.thenN ?_ | (apply r_assign; exact rfl; exact rfl; exact rfl) | refine JC.block ?_))
  refine JC.loopH (ι := Nat) ⟨fun k => [(0, .slice A k cap)], fun _ => [], fun k => k ≤ n ∧ ∀ i, k ≤ i → i < n → xs.getD i 0 = 0, fun k => k⟩ n ⟨Nat.le_refl _, fun i a b => by omega⟩ (by repeat first | exact trivial | refine ⟨rfl, ?_⟩) (by (first | exact HSub.refl _ | (repeat' first | exact HSub.nil _ | exact HSub.refl _ | refine HSub.at 0 rfl ?_ | refine HSub.at 1 rfl ?_ | refine HSub.at 2 rfl ?_ | refine HSub.at 3 rfl ?_ | refine HSub.at 4 rfl ?_ | refine HSub.at 5 rfl ?_ | refine HSub.at 6 rfl ?_ | refine HSub.at 7 rfl ?_))) (fun k hk => ?_)
  obtain ⟨hkn, hz⟩ := hk
  dsimp only at hkn hz ⊢
  have hrow : WN w (.slice A k cap) k (xs.take k) := by
    obtain ⟨h1, A', cap', h2, h3, h4⟩ := hv
    simp only [Value.slice.injEq] at h2
    obtain ⟨rfl, _, rfl⟩ := h2
    refine ⟨by simp; omega, A, cap, rfl, by omega, fun h0 => ⟨(h4 (by omega)).1, fun j u hu => ?_⟩⟩
    obtain ⟨⟨b, o, rfl⟩, h5⟩ := h4 (by omega)
    refine h5 j u ?_
    rw [List.map_take, List.getElem?_take] at hu
    split at hu
    · exact hu
    · cases hu
  have hcap : k ≤ cap := by
    obtain ⟨_, _, _, h2, h3, _⟩ := hrow
    simp only [Value.slice.injEq] at h2
    obtain ⟨_, _, rfl⟩ := h2
    exact h3
  have hget : 0 < k → (xs.take k).getD (k - 1) 0 = xs.getD (k - 1) 0 := fun h => by
    simp only [List.getD, List.getElem?_take, if_pos (show k - 1 < k by omega)]
  by_cases hk0 : 0 < k
  · have hg := hget hk0
    have hA : ∃ b o, A = some ⟨b, o, none⟩ := by
      obtain ⟨_, _, _, h2, _, h4⟩ := hrow
      simp only [Value.slice.injEq] at h2
      obtain ⟨rfl, _, rfl⟩ := h2
      exact (h4 hk0).1
    by_cases hx0 : xs.getD (k - 1) 0 = 0
    · (repeat' (first | refine JC.seq ?_ | refine JC.ops ?_ | refine JO.nil ?_ | refine JX.thenN ?_ | (apply r_move; exact rfl; exact rfl; exact rfl) | (apply r_idxN; exact rfl; exact rfl; exact rfl; exact rfl; (first | assumption | exact WN.rd (by assumption) rfl [] | exact OwnN.rd (by assumption)); (first | assumption | omega)) | (apply r_ldN; exact rfl; exact rfl; exact rfl; exact rfl; (first | assumption | exact WN.rd (by assumption) rfl [] | exact OwnN.rd (by assumption)); (repeat' first | exact HSub.nil _ | exact HSub.hd | exact HSub.in0 | exact HSub.refl _ | refine HSub.skip ?_ | refine HSub.skipN ?_); (first | assumption | omega)) | (apply r_len; exact rfl; exact rfl; exact rfl) | (apply r_sub1; exact rfl; exact rfl; exact rfl; exact rfl; omega) | (apply r_pickT; exact rfl; exact rfl; exact rfl; exact rfl) | (apply r_gtr; exact rfl; exact rfl; exact rfl; exact rfl; all_goals intro hc; all_goals try (exfalso; omega)) | (apply r_eql; exact rfl; exact rfl; exact rfl; exact rfl; all_goals intro hc; all_goals try (exfalso; omega)) | refine JC.skip ?_ | refine JC.condT rfl ?_ | refine JC.block ?_))
      obtain ⟨b, o, rfl⟩ := hA
      refine r_head rfl rfl rfl rfl (by omega) hcap ?_
      (repeat' (first | refine JO.nil ?_ | (apply r_assign; exact rfl; exact rfl; exact rfl) | refine JX.blockN ?_))
      exact JX.roundH (k - 1) ⟨by omega, fun i a b => by
        by_cases e : i = k - 1
        · subst e; exact hx0
        · exact hz i (by omega) b⟩ (by dsimp only; omega) (by repeat first | exact trivial | refine ⟨rfl, ?_⟩) (by (first | exact HSub.refl _ | (repeat' first | exact HSub.nil _ | exact HSub.refl _ | refine HSub.at 0 rfl ?_ | refine HSub.at 1 rfl ?_ | refine HSub.at 2 rfl ?_ | refine HSub.at 3 rfl ?_ | refine HSub.at 4 rfl ?_ | refine HSub.at 5 rfl ?_ | refine HSub.at 6 rfl ?_ | refine HSub.at 7 rfl ?_)))
    · (repeat' (first | refine JC.seq ?_ | refine JC.ops ?_ | refine JO.nil ?_ | refine JX.thenN ?_ | (apply r_move; exact rfl; exact rfl; exact rfl) | (apply r_assign; exact rfl; exact rfl; exact rfl) | (apply r_idxN; exact rfl; exact rfl; exact rfl; exact rfl; (first | assumption | exact WN.rd (by assumption) rfl [] | exact OwnN.rd (by assumption)); (first | assumption | omega)) | (apply r_ldN; exact rfl; exact rfl; exact rfl; exact rfl; (first | assumption | exact WN.rd (by assumption) rfl [] | exact OwnN.rd (by assumption)); (repeat' first | exact HSub.nil _ | exact HSub.hd | exact HSub.in0 | exact HSub.refl _ | refine HSub.skip ?_ | refine HSub.skipN ?_); (first | assumption | omega)) | (apply r_len; exact rfl; exact rfl; exact rfl) | (apply r_sub1; exact rfl; exact rfl; exact rfl; exact rfl; omega) | (apply r_pickT; exact rfl; exact rfl; exact rfl; exact rfl) | (apply r_gtr; exact rfl; exact rfl; exact rfl; exact rfl; all_goals intro hc; all_goals try (exfalso; omega)) | (apply r_eql; exact rfl; exact rfl; exact rfl; exact rfl; all_goals intro hc; all_goals try (exfalso; omega)) | refine JX.thenE ?_ | refine JC.exit ?_ | refine JC.ret ?_ | refine JC.condF rfl ?_ | refine JX.blockE ?_))
      exact JX.ret1 rfl (fun a w' st => ⟨st.kp, k, hkn, rfl, nrm_take (by omega) (fun i a b => hz i a (by omega)) (fun _ => hx0)⟩)
  · (repeat' (first | refine JC.seq ?_ | refine JC.ops ?_ | refine JO.nil ?_ | refine JX.thenN ?_ | (apply r_move; exact rfl; exact rfl; exact rfl) | (apply r_assign; exact rfl; exact rfl; exact rfl) | (apply r_len; exact rfl; exact rfl; exact rfl) | (apply r_pickF; exact rfl; exact rfl; exact rfl; exact rfl) | (apply r_gtr; exact rfl; exact rfl; exact rfl; exact rfl; all_goals intro hc; all_goals try (exfalso; omega)) | refine JX.thenE ?_ | refine JC.exit ?_ | refine JC.ret ?_ | refine JC.condF rfl ?_ | refine JX.blockE ?_ | (apply r_skip; exact rfl; exact rfl; (first | (intro h; cases h; done) | (intro _; rfl)))))
    exact JX.ret1 rfl (fun a w' st => ⟨st.kp, k, hkn, rfl, nrm_take (by omega) (fun i a b => hz i a (by omega)) (fun h => absurd h hk0)⟩)

end Go.Proofs.YtdehklhdjbkneaaDoor

/- Canonical digits: told by their value. -/
namespace Go.Proofs.YtdehklhdjbkneaaDoor
open Go Go.RowKit
set_option linter.unusedSimpArgs false
set_option linter.unusedVariables false
set_option linter.unusedSectionVars false

/-- Digits to the base b, without zeros at the end. -/
structure Dig (b : Nat) (l : List Nat) : Prop where
  lt : ∀ x ∈ l, x < b
  nrm : nrm l = l

theorem nrm_tail {x : Nat} {l : List Nat} (h : nrm (x :: l) = x :: l) : nrm l = l := by
  rw [nrm] at h
  cases hn : nrm l with
  | nil =>
    rw [hn] at h
    by_cases hx : x = 0
    · rw [if_pos hx] at h; cases h
    · rw [if_neg hx] at h; simpa using h
  | cons y s =>
    rw [hn] at h
    simpa using h
theorem nrm_mem {l : List Nat} : ∀ x ∈ nrm l, x ∈ l := by
  induction l with
  | nil => intro x h; exact h
  | cons y r ih =>
    intro x h
    rw [nrm] at h
    cases hn : nrm r with
    | nil =>
      rw [hn] at h
      by_cases hy : y = 0
      · rw [if_pos hy] at h; cases h
      · rw [if_neg hy] at h; simp at h; simp [h]
    | cons z s =>
      rw [hn] at h
      rcases List.mem_cons.1 h with rfl | h
      · simp
      · exact List.mem_cons_of_mem _ (ih x (by rw [hn]; exact h))
theorem nrm_nrm (l : List Nat) : nrm (nrm l) = nrm l := by
  induction l with
  | nil => rfl
  | cons x r ih =>
    rw [nrm]
    cases hn : nrm r with
    | nil =>
      by_cases hx : x = 0
      · simp [hx, nrm]
      · simp [hx, nrm]
    | cons y s =>
      rw [hn] at ih
      show nrm (x :: y :: s) = x :: y :: s
      rw [nrm, ih]
theorem Dig.of {b : Nat} {l : List Nat} (h : ∀ x ∈ l, x < b) : Dig b (Go.Proofs.YtdehklhdjbkneaaDoor.nrm l) := ⟨fun x hx => h x (nrm_mem x hx), nrm_nrm l⟩
theorem Dig.tail {b x : Nat} {l : List Nat} (h : Dig b (x :: l)) : Dig b l := ⟨fun y hy => h.lt y (List.mem_cons_of_mem _ hy), nrm_tail h.nrm⟩
theorem Dig.nil (b : Nat) : Dig b [] := ⟨fun x h => (by cases h), rfl⟩

theorem val_pos {b : Nat} (hb : 0 < b) : ∀ {l : List Nat}, Go.Proofs.YtdehklhdjbkneaaDoor.nrm l = l → l ≠ [] → 0 < val b l
  | [], _, h => absurd rfl h
  | x :: l, h, _ => by
    rw [val]
    by_cases hl : l = []
    · subst hl
      have hx : x ≠ 0 := fun e => by subst e; simp [Go.Proofs.YtdehklhdjbkneaaDoor.nrm] at h
      omega
    · have := Nat.mul_pos hb (val_pos hb (nrm_tail h) hl)
      omega

theorem Dig.inj {b : Nat} : ∀ {l r : List Nat}, Dig b l → Dig b r → val b l = val b r → l = r
  | [], [], _, _, _ => rfl
  | [], y :: r, _, hr, h => by
    have hb : 0 < b := Nat.lt_of_le_of_lt (Nat.zero_le _) (hr.lt y (by simp))
    have := val_pos hb hr.nrm (by simp)
    rw [← h] at this
    exact absurd this (Nat.lt_irrefl 0)
  | x :: l, [], hl, _, h => by
    have hb : 0 < b := Nat.lt_of_le_of_lt (Nat.zero_le _) (hl.lt x (by simp))
    have := val_pos hb hl.nrm (by simp)
    rw [h] at this
    exact absurd this (Nat.lt_irrefl 0)
  | x :: l, y :: r, hl, hr, h => by
    have hx := hl.lt x (by simp)
    have hy := hr.lt y (by simp)
    rw [val, val] at h
    have h1 : x = y := by
      have := congrArg (· % b) h
      simpa [Nat.add_mul_mod_self_left, Nat.mod_eq_of_lt hx, Nat.mod_eq_of_lt hy] using this
    have h2 : val b l = val b r := by
      have := congrArg (· / b) h
      have hb : 0 < b := by omega
      simpa [Nat.add_mul_div_left _ _ hb, Nat.div_eq_of_lt hx, Nat.div_eq_of_lt hy] using this
    rw [h1, Dig.inj hl.tail hr.tail h2]

theorem val_lt {b : Nat} : ∀ {l : List Nat}, (∀ x ∈ l, x < b) → val b l < b ^ l.length
  | [], _ => by simp [val]
  | x :: l, h => by
    have h1 := h x (by simp)
    have h2 := val_lt (l := l) fun y hy => h y (List.mem_cons_of_mem _ hy)
    rw [val, List.length_cons, Nat.pow_succ, Nat.mul_comm (b ^ l.length) b]
    have h3 : b * (val b l + 1) ≤ b * b ^ l.length := Nat.mul_le_mul_left _ h2
    rw [Nat.mul_add] at h3
    omega
theorem val_ge {b : Nat} (hb : 0 < b) {l : List Nat} (h : Go.Proofs.YtdehklhdjbkneaaDoor.nrm l = l) (hl : l ≠ []) : b ^ (l.length - 1) ≤ val b l := by
  induction l with
  | nil => exact absurd rfl hl
  | cons x l ih =>
    by_cases h0 : l = []
    · subst h0
      have := val_pos hb h (by simp)
      show b ^ 0 ≤ _
      rw [Nat.pow_zero]; exact this
    · have h1 := ih (nrm_tail h) h0
      have hp : 0 < l.length := List.length_pos_iff.2 h0
      rw [val, List.length_cons, Nat.add_sub_cancel]
      have h2 : b ^ l.length = b * b ^ (l.length - 1) := by
        conv => lhs; rw [show l.length = l.length - 1 + 1 by omega, Nat.pow_succ, Nat.mul_comm]
      rw [h2]
      have := Nat.mul_le_mul_left b h1
      omega

end Go.Proofs.YtdehklhdjbkneaaDoor

/- The sum of words. -/
namespace Go.Proofs.YtdehklhdjbkneaaDoor
open Go Go.RowKit
set_option linter.unusedSimpArgs false
set_option linter.unusedVariables false
set_option linter.unusedSectionVars false

/-- The base of words. -/
abbrev W32 : Nat := 4294967296

theorem val_take {b : Nat} (l : List Nat) (i : Nat) : val b (l.take (i + 1)) = val b (l.take i) + b ^ i * l.getD i 0 := by
  rw [List.take_add_one]
  by_cases h : i < l.length
  · rw [gD_lt (d := 0) h, val_append]
    simp only [Option.toList_some, val, Nat.mul_zero, Nat.add_zero, List.length_take, Nat.min_eq_left (Nat.le_of_lt h)]
  · rw [List.getElem?_eq_none (by omega)]
    simp [List.getD, List.getElem?_eq_none (show l.length ≤ i by omega)]
theorem take_set {l : List Nat} {i u : Nat} : (l.set i u).take i = l.take i := by
  rw [List.take_set_of_le (Nat.le_refl _)]
theorem getD_set_self {l : List Nat} {i u : Nat} (h : i < l.length) : (l.set i u).getD i 0 = u := by
  simp [List.getD, h]
theorem mem_getD_lt {b : Nat} (hb : 0 < b) {l : List Nat} (h : ∀ x ∈ l, x < b) (i : Nat) : l.getD i 0 < b := by
  by_cases hi : i < l.length
  · exact h _ (mem_getD hi)
  · simp only [List.getD, List.getElem?_eq_none (show l.length ≤ i by omega), Option.getD_none]; exact hb

end Go.Proofs.YtdehklhdjbkneaaDoor

/- The sum of words. -/
namespace Go.Proofs.YtdehklhdjbkneaaDoor
open Go Go.RowKit
set_option linter.unusedSimpArgs false
set_option linter.unusedVariables false
set_option linter.unusedSectionVars false

theorem tab_zero (n j : Nat) : (tab n fun _ => 0).getD j 0 = 0 := by
  by_cases h : j < n
  · rw [List.getD, tab_get h]; rfl
  · rw [List.getD, List.getElem?_eq_none (by simp; omega)]; rfl
theorem add_round {b P c s x y a v : Nat} (hs : s = x + c + y) (h : v + P * c = a) : (v + P * (s % b)) + (P * b) * (s / b) = a + P * x + P * y := by
  have h1 : P * (s % b) + P * b * (s / b) = P * s := by rw [Nat.mul_assoc, ← Nat.mul_add, Nat.mod_add_div]
  rw [Nat.add_assoc, h1, hs, Nat.mul_add, Nat.mul_add, ← h]
  omega
theorem OwnU.head {N : SHeap} {b n k cap : Nat} {xs : List Nat} (h : OwnU N (.slice (some ⟨b, 0, none⟩) n cap) n xs) (hk : k ≤ n) (h0 : 0 < n) : OwnU N (.slice (some ⟨b, 0, none⟩) k cap) k (xs.take k) := by
  have hl := h.len
  obtain ⟨b', cap', rest, h1, rfl, h2, h3, h4⟩ := h.named h0
  simp only [Value.slice.injEq, Option.some.injEq, Addr.mk.injEq, and_true, true_and] at h1
  obtain ⟨rfl, rfl⟩ := h1
  have e : rowCU xs rest = rowCU (xs.take k) ((xs.drop k).map uv ++ rest) := by
    apply Array.ext'
    show xs.map uv ++ rest = (xs.take k).map uv ++ ((xs.drop k).map uv ++ rest)
    rw [← List.append_assoc, ← List.map_append, List.take_append_drop]
  rw [e]
  exact OwnU.ofNamed (by simp; omega) (by omega) (by simp; omega) h4

set_option maxHeartbeats 8000000 in
theorem c_add (w : World) (v u : Value) (n k : Nat) (xs ys : List Nat) (hv : WU w v n xs) (hu : WU w u k ys) (hx : ∀ x ∈ xs, x < W32) (hy : ∀ x ∈ ys, x < W32) (hn : n ≤ 1000000) (hk : k ≤ 1000000) :
    Calls Tryd.prog 53 #[v, u] w (Ret fun v w' => Kp [] w w' ∧ ∃ N zs, New N w w' ∧ OwnU N v zs.length zs ∧ Dig W32 zs ∧ val W32 zs = val W32 xs + val W32 ys) := by
  have hlx := hv.len
  have hly := hu.len
  by_cases hlt : n < k
  · refine calls_of_S [] [] (by simp) [] Tryd.func53 rfl mixed (by kernel_rfl) Tryd.ntmps53 Tryd.results53 rfl ⟨by simp, by simp⟩ (by simp) ?_
    simp only [toS, textOps, toSOp, kindAt, kindOf, odAt, sopsAt, ordOf, zipF]
    (repeat' (first | refine JC.seq ?_ | refine JC.ops ?_ | refine JO.nil ?_ | refine JX.thenN ?_ | (apply r_move; exact rfl; exact rfl; exact rfl) | (apply r_assign; exact rfl; exact rfl; exact rfl) | (apply r_add1; exact rfl; exact rfl; exact rfl; exact rfl; omega) | (apply r_lenU; exact rfl; exact rfl; exact rfl; (first | assumption | exact WU.rd (by assumption) rfl [] | exact OwnU.rd (by assumption))) | (apply r_lss; exact rfl; exact rfl; exact rfl; exact rfl; all_goals intro hc; all_goals try (exfalso; omega)) | refine JC.condT rfl ?_))
    refine r_make (n := k + 1) rfl rfl rfl rfl rfl (by omega) (by omega) (fun b5 => ?_)
    have hO := own_zerosU b5 (k + 1) (by simp only [maxLen]; omega)
    (repeat' (first | refine JC.seq ?_ | refine JC.ops ?_ | refine JO.nil ?_ | refine JX.thenN ?_ | (apply r_move; exact rfl; exact rfl; exact rfl) | (apply r_assign; exact rfl; exact rfl; exact rfl) | (apply r_lenU; exact rfl; exact rfl; exact rfl; (first | assumption | exact WU.rd (by assumption) rfl [] | exact OwnU.rd (by assumption))) | refine JC.block ?_))
    refine JC.loopH (ι := Nat × Nat × SHeap × List Nat) ⟨fun z => [(22, nv z.1), (21, nv k), (6, uv z.2.1), (5, .slice (some ⟨b5, 0, none⟩) (k + 1) (k + 1)), (0, u), (1, v)], fun z => z.2.2.1 ++ [],
      fun z => z.1 ≤ k ∧ OwnU z.2.2.1 (.slice (some ⟨b5, 0, none⟩) (k + 1) (k + 1)) (k + 1) z.2.2.2 ∧ (∀ x ∈ z.2.2.2, x < W32) ∧ z.2.1 ≤ 1 ∧ val W32 (z.2.2.2.take z.1) + W32 ^ z.1 * z.2.1 = val W32 (ys.take z.1) + val W32 (xs.take z.1) ∧ ∀ j, z.1 ≤ j → z.2.2.2.getD j 0 = 0, fun z => k - z.1⟩
      (0, 0, _, _) ⟨Nat.zero_le _, hO, fun x hx => by obtain ⟨a, _, rfl⟩ := List.mem_map.1 hx; decide, Nat.zero_le _, by simp [val], fun j _ => tab_zero _ j⟩ (by repeat first | exact trivial | refine ⟨rfl, ?_⟩) (by (first | exact HSub.refl _ | (repeat' first | exact HSub.nil _ | exact HSub.refl _ | refine HSub.at 0 rfl ?_ | refine HSub.at 1 rfl ?_ | refine HSub.at 2 rfl ?_ | refine HSub.at 3 rfl ?_ | refine HSub.at 4 rfl ?_ | refine HSub.at 5 rfl ?_ | refine HSub.at 6 rfl ?_ | refine HSub.at 7 rfl ?_))) (fun z hz => ?_)
    clear hO
    obtain ⟨i, c, N, zs⟩ := z
    obtain ⟨hi, hO, hz, hc1, hval, hzero⟩ := hz
    dsimp only at hi hO hz hc1 hval hzero ⊢
    have hlz := hO.len
    by_cases hin : i < k
    · have hxi : ys.getD i 0 < 4294967296 := mem_getD_lt (b := W32) (by decide) hy i
      have hyi : xs.getD i 0 < 4294967296 := mem_getD_lt (b := W32) (by decide) hx i
      by_cases hik : i < n
      · (repeat' (first | refine JC.seq ?_ | refine JC.ops ?_ | refine JO.nil ?_ | refine JX.thenN ?_ | (apply r_move; exact rfl; exact rfl; exact rfl) | (apply r_assign; exact rfl; exact rfl; exact rfl) | (apply r_idxU; exact rfl; exact rfl; exact rfl; exact rfl; (first | assumption | exact WU.rd (by assumption) rfl [] | exact OwnU.rd (by assumption)); (first | assumption | omega)) | (apply r_ldU; exact rfl; exact rfl; exact rfl; exact rfl; (first | assumption | exact WU.rd (by assumption) rfl [] | exact OwnU.rd (by assumption)); (repeat' first | exact HSub.nil _ | exact HSub.hd | exact HSub.in0 | exact HSub.refl _ | refine HSub.skip ?_ | refine HSub.skipN ?_); (first | assumption | omega)) | (apply r_lenU; exact rfl; exact rfl; exact rfl; (first | assumption | exact WU.rd (by assumption) rfl [] | exact OwnU.rd (by assumption))) | (apply r_addU; exact rfl; exact rfl; exact rfl; exact rfl; (first | assumption | omega)) | (apply r_maskU; exact rfl; exact rfl; exact rfl; exact rfl; (first | assumption | omega)) | (apply r_lss; exact rfl; exact rfl; exact rfl; exact rfl; all_goals intro hc; all_goals try (exfalso; omega)) | refine JC.skip ?_ | refine JC.condT rfl ?_ | refine JC.block ?_))
        refine r_shrU (j := 32) rfl rfl rfl rfl (by omega) ?_
        (repeat' (first | (apply r_idxB; exact rfl; exact rfl; exact rfl; exact rfl; omega)))
        refine r_stU (A := []) hO rfl rfl trivial rfl rfl (by omega) (fun N' hO' => ?_)
        (repeat' (first | refine JC.ops ?_ | refine JO.nil ?_ | refine JX.thenN ?_ | (apply r_move; exact rfl; exact rfl; exact rfl) | (apply r_assign; exact rfl; exact rfl; exact rfl) | (apply r_add1; exact rfl; exact rfl; exact rfl; exact rfl; omega) | refine JX.blockN ?_))
        refine JX.roundH (i + 1, _, N', _) ⟨by dsimp only; omega, hO', fun x hx => ?_, ?_, ?_, fun j hj => ?_⟩ (by dsimp only; omega) (by repeat first | exact trivial | refine ⟨rfl, ?_⟩) (by (first | exact HSub.refl _ | (repeat' first | exact HSub.nil _ | exact HSub.refl _ | refine HSub.at 0 rfl ?_ | refine HSub.at 1 rfl ?_ | refine HSub.at 2 rfl ?_ | refine HSub.at 3 rfl ?_ | refine HSub.at 4 rfl ?_ | refine HSub.at 5 rfl ?_ | refine HSub.at 6 rfl ?_ | refine HSub.at 7 rfl ?_)))
        · rcases List.mem_or_eq_of_mem_set hx with h | rfl
          · exact hz x h
          · exact Nat.mod_lt _ (by decide)
        · dsimp only; omega
        · dsimp only
          rw [val_take, val_take, val_take, take_set, getD_set_self (by omega), Nat.pow_succ]
          have h := add_round (b := W32) (P := W32 ^ i) (c := c) (s := ys.getD i 0 + c + xs.getD i 0) (x := ys.getD i 0) (y := xs.getD i 0) rfl hval
          rw [Nat.add_add_add_comm, ← Nat.add_assoc]
          exact h
        · dsimp only at hj ⊢
          have := hzero j (by omega)
          rw [List.getD, List.getElem?_set_ne (by omega)]
          exact this
      · have hy0 : xs.getD i 0 = 0 := by rw [List.getD, List.getElem?_eq_none (by omega)]; rfl
        (repeat' (first | refine JC.seq ?_ | refine JC.ops ?_ | refine JO.nil ?_ | refine JX.thenN ?_ | (apply r_move; exact rfl; exact rfl; exact rfl) | (apply r_assign; exact rfl; exact rfl; exact rfl) | (apply r_idxU; exact rfl; exact rfl; exact rfl; exact rfl; (first | assumption | exact WU.rd (by assumption) rfl [] | exact OwnU.rd (by assumption)); (first | assumption | omega)) | (apply r_ldU; exact rfl; exact rfl; exact rfl; exact rfl; (first | assumption | exact WU.rd (by assumption) rfl [] | exact OwnU.rd (by assumption)); (repeat' first | exact HSub.nil _ | exact HSub.hd | exact HSub.in0 | exact HSub.refl _ | refine HSub.skip ?_ | refine HSub.skipN ?_); (first | assumption | omega)) | (apply r_lenU; exact rfl; exact rfl; exact rfl; (first | assumption | exact WU.rd (by assumption) rfl [] | exact OwnU.rd (by assumption))) | (apply r_addU; exact rfl; exact rfl; exact rfl; exact rfl; (first | assumption | omega)) | (apply r_maskU; exact rfl; exact rfl; exact rfl; exact rfl; (first | assumption | omega)) | (apply r_lss; exact rfl; exact rfl; exact rfl; exact rfl; all_goals intro hc; all_goals try (exfalso; omega)) | refine JC.skip ?_ | refine JC.condT rfl ?_ | refine JC.condF rfl ?_ | refine JC.block ?_))
        refine r_shrU (j := 32) rfl rfl rfl rfl (by omega) ?_
        (repeat' (first | (apply r_idxB; exact rfl; exact rfl; exact rfl; exact rfl; omega)))
        refine r_stU (A := []) hO rfl rfl trivial rfl rfl (by omega) (fun N' hO' => ?_)
        (repeat' (first | refine JC.ops ?_ | refine JO.nil ?_ | refine JX.thenN ?_ | (apply r_move; exact rfl; exact rfl; exact rfl) | (apply r_assign; exact rfl; exact rfl; exact rfl) | (apply r_add1; exact rfl; exact rfl; exact rfl; exact rfl; omega) | refine JX.blockN ?_))
        refine JX.roundH (i + 1, _, N', _) ⟨by dsimp only; omega, hO', fun x hx => ?_, ?_, ?_, fun j hj => ?_⟩ (by dsimp only; omega) (by repeat first | exact trivial | refine ⟨rfl, ?_⟩) (by (first | exact HSub.refl _ | (repeat' first | exact HSub.nil _ | exact HSub.refl _ | refine HSub.at 0 rfl ?_ | refine HSub.at 1 rfl ?_ | refine HSub.at 2 rfl ?_ | refine HSub.at 3 rfl ?_ | refine HSub.at 4 rfl ?_ | refine HSub.at 5 rfl ?_ | refine HSub.at 6 rfl ?_ | refine HSub.at 7 rfl ?_)))
        · rcases List.mem_or_eq_of_mem_set hx with h | rfl
          · exact hz x h
          · exact Nat.mod_lt _ (by decide)
        · dsimp only; omega
        · dsimp only
          rw [val_take, val_take, val_take, take_set, getD_set_self (by omega), Nat.pow_succ]
          have h := add_round (b := W32) (P := W32 ^ i) (c := c) (s := ys.getD i 0 + c) (x := ys.getD i 0) (y := xs.getD i 0) (by rw [hy0]; rfl) hval
          rw [Nat.add_add_add_comm, ← Nat.add_assoc]
          exact h
        · dsimp only at hj ⊢
          have := hzero j (by omega)
          rw [List.getD, List.getElem?_set_ne (by omega)]
          exact this
    · (repeat' (first | refine JC.seq ?_ | refine JC.ops ?_ | refine JO.nil ?_ | refine JX.thenN ?_ | (apply r_move; exact rfl; exact rfl; exact rfl) | (apply r_idxB; exact rfl; exact rfl; exact rfl; exact rfl; omega) | (apply r_lenU; exact rfl; exact rfl; exact rfl; (first | assumption | exact WU.rd (by assumption) rfl [] | exact OwnU.rd (by assumption))) | (apply r_lss; exact rfl; exact rfl; exact rfl; exact rfl; all_goals intro hc; all_goals try (exfalso; omega)) | refine JX.thenE ?_ | refine JC.exit ?_ | refine JC.condF rfl ?_ | refine JX.blockE ?_))
      refine r_stU (A := []) hO rfl rfl trivial rfl rfl (by omega) (fun N' hO' => ?_)
      (repeat' (first | refine JC.seq ?_ | refine JC.ops ?_ | refine JO.nil ?_ | refine JX.thenN ?_ | (apply r_move; exact rfl; exact rfl; exact rfl)))
      refine r_call0 trivial rfl rfl rfl (fun w hk hs => c_norm w _ _ _ _ (hO'.rd.at hk hs (by (repeat' first | exact HSub.nil _ | exact HSub.hd | exact HSub.in0 | exact HSub.refl _ | refine HSub.skip ?_ | refine HSub.skipN ?_))) (by omega)) fun w v w' _ _ _ hR => ?_
      obtain ⟨q, hq, rfl, hnq⟩ := hR
      (repeat' (first | refine JO.nil ?_ | refine JX.thenN ?_ | (apply r_assign; exact rfl; exact rfl; exact rfl) | refine JC.ret ?_))
      have hlt2 : ∀ x ∈ zs.set k c, x < W32 := fun x hx => by
        rcases List.mem_or_eq_of_mem_set hx with h | rfl
        · exact hz x h
        · show x < 4294967296; omega
      have hown := hO'.head hq (by omega)
      rw [← hnq] at hown
      have hql : (nrm (zs.set k c)).length = q := hown.len
      refine JX.ret1 rfl (fun a w' st => ⟨st.kp, N', nrm (zs.set k c), st.newOf rfl (by (repeat' first | exact HSub.nil _ | exact HSub.hd | exact HSub.in0 | exact HSub.refl _ | refine HSub.skip ?_ | refine HSub.skipN ?_)), by rw [hql]; exact hown, Dig.of hlt2, ?_⟩)
      rw [val_nrm]
      have e1 : zs.set k c = (zs.set k c).take (k + 1) := (List.take_of_length_le (by simp; omega)).symm
      rw [e1, val_take, take_set, getD_set_self (by omega)]
      obtain rfl : i = k := by omega
      rw [hval, List.take_of_length_le (by omega), List.take_of_length_le (by omega)]
      exact Nat.add_comm _ _
  · refine calls_of_S [] [] (by simp) [] Tryd.func53 rfl mixed (by kernel_rfl) Tryd.ntmps53 Tryd.results53 rfl ⟨by simp, by simp⟩ (by simp) ?_
    simp only [toS, textOps, toSOp, kindAt, kindOf, odAt, sopsAt, ordOf, zipF]
    (repeat' (first | refine JC.seq ?_ | refine JC.ops ?_ | refine JO.nil ?_ | refine JX.thenN ?_ | (apply r_move; exact rfl; exact rfl; exact rfl) | (apply r_assign; exact rfl; exact rfl; exact rfl) | (apply r_add1; exact rfl; exact rfl; exact rfl; exact rfl; omega) | (apply r_lenU; exact rfl; exact rfl; exact rfl; (first | assumption | exact WU.rd (by assumption) rfl [] | exact OwnU.rd (by assumption))) | (apply r_lss; exact rfl; exact rfl; exact rfl; exact rfl; all_goals intro hc; all_goals try (exfalso; omega)) | refine JC.skip ?_ | refine JC.condF rfl ?_))
    refine r_make (n := n + 1) rfl rfl rfl rfl rfl (by omega) (by omega) (fun b5 => ?_)
    have hO := own_zerosU b5 (n + 1) (by simp only [maxLen]; omega)
    (repeat' (first | refine JC.seq ?_ | refine JC.ops ?_ | refine JO.nil ?_ | refine JX.thenN ?_ | (apply r_move; exact rfl; exact rfl; exact rfl) | (apply r_assign; exact rfl; exact rfl; exact rfl) | (apply r_lenU; exact rfl; exact rfl; exact rfl; (first | assumption | exact WU.rd (by assumption) rfl [] | exact OwnU.rd (by assumption))) | refine JC.block ?_))
    refine JC.loopH (ι := Nat × Nat × SHeap × List Nat) ⟨fun z => [(22, nv z.1), (21, nv n), (6, uv z.2.1), (5, .slice (some ⟨b5, 0, none⟩) (n + 1) (n + 1)), (0, v), (1, u)], fun z => z.2.2.1 ++ [],
      fun z => z.1 ≤ n ∧ OwnU z.2.2.1 (.slice (some ⟨b5, 0, none⟩) (n + 1) (n + 1)) (n + 1) z.2.2.2 ∧ (∀ x ∈ z.2.2.2, x < W32) ∧ z.2.1 ≤ 1 ∧ val W32 (z.2.2.2.take z.1) + W32 ^ z.1 * z.2.1 = val W32 (xs.take z.1) + val W32 (ys.take z.1) ∧ ∀ j, z.1 ≤ j → z.2.2.2.getD j 0 = 0, fun z => n - z.1⟩
      (0, 0, _, _) ⟨Nat.zero_le _, hO, fun x hx => by obtain ⟨a, _, rfl⟩ := List.mem_map.1 hx; decide, Nat.zero_le _, by simp [val], fun j _ => tab_zero _ j⟩ (by repeat first | exact trivial | refine ⟨rfl, ?_⟩) (by (first | exact HSub.refl _ | (repeat' first | exact HSub.nil _ | exact HSub.refl _ | refine HSub.at 0 rfl ?_ | refine HSub.at 1 rfl ?_ | refine HSub.at 2 rfl ?_ | refine HSub.at 3 rfl ?_ | refine HSub.at 4 rfl ?_ | refine HSub.at 5 rfl ?_ | refine HSub.at 6 rfl ?_ | refine HSub.at 7 rfl ?_))) (fun z hz => ?_)
    clear hO
    obtain ⟨i, c, N, zs⟩ := z
    obtain ⟨hi, hO, hz, hc1, hval, hzero⟩ := hz
    dsimp only at hi hO hz hc1 hval hzero ⊢
    have hlz := hO.len
    by_cases hin : i < n
    · have hxi : xs.getD i 0 < 4294967296 := mem_getD_lt (b := W32) (by decide) hx i
      have hyi : ys.getD i 0 < 4294967296 := mem_getD_lt (b := W32) (by decide) hy i
      by_cases hik : i < k
      · (repeat' (first | refine JC.seq ?_ | refine JC.ops ?_ | refine JO.nil ?_ | refine JX.thenN ?_ | (apply r_move; exact rfl; exact rfl; exact rfl) | (apply r_assign; exact rfl; exact rfl; exact rfl) | (apply r_idxU; exact rfl; exact rfl; exact rfl; exact rfl; (first | assumption | exact WU.rd (by assumption) rfl [] | exact OwnU.rd (by assumption)); (first | assumption | omega)) | (apply r_ldU; exact rfl; exact rfl; exact rfl; exact rfl; (first | assumption | exact WU.rd (by assumption) rfl [] | exact OwnU.rd (by assumption)); (repeat' first | exact HSub.nil _ | exact HSub.hd | exact HSub.in0 | exact HSub.refl _ | refine HSub.skip ?_ | refine HSub.skipN ?_); (first | assumption | omega)) | (apply r_lenU; exact rfl; exact rfl; exact rfl; (first | assumption | exact WU.rd (by assumption) rfl [] | exact OwnU.rd (by assumption))) | (apply r_addU; exact rfl; exact rfl; exact rfl; exact rfl; (first | assumption | omega)) | (apply r_maskU; exact rfl; exact rfl; exact rfl; exact rfl; (first | assumption | omega)) | (apply r_lss; exact rfl; exact rfl; exact rfl; exact rfl; all_goals intro hc; all_goals try (exfalso; omega)) | refine JC.skip ?_ | refine JC.condT rfl ?_ | refine JC.block ?_))
        refine r_shrU (j := 32) rfl rfl rfl rfl (by omega) ?_
        (repeat' (first | (apply r_idxB; exact rfl; exact rfl; exact rfl; exact rfl; omega)))
        refine r_stU (A := []) hO rfl rfl trivial rfl rfl (by omega) (fun N' hO' => ?_)
        (repeat' (first | refine JC.ops ?_ | refine JO.nil ?_ | refine JX.thenN ?_ | (apply r_move; exact rfl; exact rfl; exact rfl) | (apply r_assign; exact rfl; exact rfl; exact rfl) | (apply r_add1; exact rfl; exact rfl; exact rfl; exact rfl; omega) | refine JX.blockN ?_))
        refine JX.roundH (i + 1, _, N', _) ⟨by dsimp only; omega, hO', fun x hx => ?_, ?_, ?_, fun j hj => ?_⟩ (by dsimp only; omega) (by repeat first | exact trivial | refine ⟨rfl, ?_⟩) (by (first | exact HSub.refl _ | (repeat' first | exact HSub.nil _ | exact HSub.refl _ | refine HSub.at 0 rfl ?_ | refine HSub.at 1 rfl ?_ | refine HSub.at 2 rfl ?_ | refine HSub.at 3 rfl ?_ | refine HSub.at 4 rfl ?_ | refine HSub.at 5 rfl ?_ | refine HSub.at 6 rfl ?_ | refine HSub.at 7 rfl ?_)))
        · rcases List.mem_or_eq_of_mem_set hx with h | rfl
          · exact hz x h
          · exact Nat.mod_lt _ (by decide)
        · dsimp only; omega
        · dsimp only
          rw [val_take, val_take, val_take, take_set, getD_set_self (by omega), Nat.pow_succ]
          have h := add_round (b := W32) (P := W32 ^ i) (c := c) (s := xs.getD i 0 + c + ys.getD i 0) (x := xs.getD i 0) (y := ys.getD i 0) rfl hval
          rw [Nat.add_add_add_comm, ← Nat.add_assoc]
          exact h
        · dsimp only at hj ⊢
          have := hzero j (by omega)
          rw [List.getD, List.getElem?_set_ne (by omega)]
          exact this
      · have hy0 : ys.getD i 0 = 0 := by rw [List.getD, List.getElem?_eq_none (by omega)]; rfl
        (repeat' (first | refine JC.seq ?_ | refine JC.ops ?_ | refine JO.nil ?_ | refine JX.thenN ?_ | (apply r_move; exact rfl; exact rfl; exact rfl) | (apply r_assign; exact rfl; exact rfl; exact rfl) | (apply r_idxU; exact rfl; exact rfl; exact rfl; exact rfl; (first | assumption | exact WU.rd (by assumption) rfl [] | exact OwnU.rd (by assumption)); (first | assumption | omega)) | (apply r_ldU; exact rfl; exact rfl; exact rfl; exact rfl; (first | assumption | exact WU.rd (by assumption) rfl [] | exact OwnU.rd (by assumption)); (repeat' first | exact HSub.nil _ | exact HSub.hd | exact HSub.in0 | exact HSub.refl _ | refine HSub.skip ?_ | refine HSub.skipN ?_); (first | assumption | omega)) | (apply r_lenU; exact rfl; exact rfl; exact rfl; (first | assumption | exact WU.rd (by assumption) rfl [] | exact OwnU.rd (by assumption))) | (apply r_addU; exact rfl; exact rfl; exact rfl; exact rfl; (first | assumption | omega)) | (apply r_maskU; exact rfl; exact rfl; exact rfl; exact rfl; (first | assumption | omega)) | (apply r_lss; exact rfl; exact rfl; exact rfl; exact rfl; all_goals intro hc; all_goals try (exfalso; omega)) | refine JC.skip ?_ | refine JC.condT rfl ?_ | refine JC.condF rfl ?_ | refine JC.block ?_))
        refine r_shrU (j := 32) rfl rfl rfl rfl (by omega) ?_
        (repeat' (first | (apply r_idxB; exact rfl; exact rfl; exact rfl; exact rfl; omega)))
        refine r_stU (A := []) hO rfl rfl trivial rfl rfl (by omega) (fun N' hO' => ?_)
        (repeat' (first | refine JC.ops ?_ | refine JO.nil ?_ | refine JX.thenN ?_ | (apply r_move; exact rfl; exact rfl; exact rfl) | (apply r_assign; exact rfl; exact rfl; exact rfl) | (apply r_add1; exact rfl; exact rfl; exact rfl; exact rfl; omega) | refine JX.blockN ?_))
        refine JX.roundH (i + 1, _, N', _) ⟨by dsimp only; omega, hO', fun x hx => ?_, ?_, ?_, fun j hj => ?_⟩ (by dsimp only; omega) (by repeat first | exact trivial | refine ⟨rfl, ?_⟩) (by (first | exact HSub.refl _ | (repeat' first | exact HSub.nil _ | exact HSub.refl _ | refine HSub.at 0 rfl ?_ | refine HSub.at 1 rfl ?_ | refine HSub.at 2 rfl ?_ | refine HSub.at 3 rfl ?_ | refine HSub.at 4 rfl ?_ | refine HSub.at 5 rfl ?_ | refine HSub.at 6 rfl ?_ | refine HSub.at 7 rfl ?_)))
        · rcases List.mem_or_eq_of_mem_set hx with h | rfl
          · exact hz x h
          · exact Nat.mod_lt _ (by decide)
        · dsimp only; omega
        · dsimp only
          rw [val_take, val_take, val_take, take_set, getD_set_self (by omega), Nat.pow_succ]
          have h := add_round (b := W32) (P := W32 ^ i) (c := c) (s := xs.getD i 0 + c) (x := xs.getD i 0) (y := ys.getD i 0) (by rw [hy0]; rfl) hval
          rw [Nat.add_add_add_comm, ← Nat.add_assoc]
          exact h
        · dsimp only at hj ⊢
          have := hzero j (by omega)
          rw [List.getD, List.getElem?_set_ne (by omega)]
          exact this
    · (repeat' (first | refine JC.seq ?_ | refine JC.ops ?_ | refine JO.nil ?_ | refine JX.thenN ?_ | (apply r_move; exact rfl; exact rfl; exact rfl) | (apply r_idxB; exact rfl; exact rfl; exact rfl; exact rfl; omega) | (apply r_lenU; exact rfl; exact rfl; exact rfl; (first | assumption | exact WU.rd (by assumption) rfl [] | exact OwnU.rd (by assumption))) | (apply r_lss; exact rfl; exact rfl; exact rfl; exact rfl; all_goals intro hc; all_goals try (exfalso; omega)) | refine JX.thenE ?_ | refine JC.exit ?_ | refine JC.condF rfl ?_ | refine JX.blockE ?_))
      refine r_stU (A := []) hO rfl rfl trivial rfl rfl (by omega) (fun N' hO' => ?_)
      (repeat' (first | refine JC.seq ?_ | refine JC.ops ?_ | refine JO.nil ?_ | refine JX.thenN ?_ | (apply r_move; exact rfl; exact rfl; exact rfl)))
      refine r_call0 trivial rfl rfl rfl (fun w hk hs => c_norm w _ _ _ _ (hO'.rd.at hk hs (by (repeat' first | exact HSub.nil _ | exact HSub.hd | exact HSub.in0 | exact HSub.refl _ | refine HSub.skip ?_ | refine HSub.skipN ?_))) (by omega)) fun w v w' _ _ _ hR => ?_
      obtain ⟨q, hq, rfl, hnq⟩ := hR
      (repeat' (first | refine JO.nil ?_ | refine JX.thenN ?_ | (apply r_assign; exact rfl; exact rfl; exact rfl) | refine JC.ret ?_))
      have hlt2 : ∀ x ∈ zs.set n c, x < W32 := fun x hx => by
        rcases List.mem_or_eq_of_mem_set hx with h | rfl
        · exact hz x h
        · show x < 4294967296; omega
      have hown := hO'.head hq (by omega)
      rw [← hnq] at hown
      have hql : (nrm (zs.set n c)).length = q := hown.len
      refine JX.ret1 rfl (fun a w' st => ⟨st.kp, N', nrm (zs.set n c), st.newOf rfl (by (repeat' first | exact HSub.nil _ | exact HSub.hd | exact HSub.in0 | exact HSub.refl _ | refine HSub.skip ?_ | refine HSub.skipN ?_)), by rw [hql]; exact hown, Dig.of hlt2, ?_⟩)
      rw [val_nrm]
      have e1 : zs.set n c = (zs.set n c).take (n + 1) := (List.take_of_length_le (by simp; omega)).symm
      rw [e1, val_take, take_set, getD_set_self (by omega)]
      obtain rfl : i = n := by omega
      rw [hval, List.take_of_length_le (by omega), List.take_of_length_le (by omega)]
end Go.Proofs.YtdehklhdjbkneaaDoor

/- The difference of words. -/
namespace Go.Proofs.YtdehklhdjbkneaaDoor
open Go Go.RowKit
set_option linter.unusedSimpArgs false
set_option linter.unusedVariables false
set_option linter.unusedSectionVars false

theorem OwnU.head0 {N : SHeap} {b n k cap : Nat} {xs : List Nat} (h : OwnU N (.slice (some ⟨b, 0, none⟩) n cap) n xs) (hk : k ≤ n) : OwnU N (.slice (some ⟨b, 0, none⟩) k cap) k (xs.take k) := by
  rcases Nat.eq_zero_or_pos n with h0 | h0
  · subst h0
    obtain rfl : k = 0 := by omega
    have hl := h.len
    rw [List.eq_nil_of_length_eq_zero hl] at h ⊢
    exact h
  · exact h.head hk h0
theorem sub_round {P c c' d x y a v z : Nat} (hs : x + 4294967296 * c' = d + c + y) (h : a + P * c = v + z) : (a + P * x) + (P * W32) * c' = (v + P * d) + (z + P * y) := by
  have h1 : P * x + P * W32 * c' = P * d + P * c + P * y := by rw [Nat.mul_assoc, ← Nat.mul_add, show x + W32 * c' = d + c + y from hs, Nat.mul_add, Nat.mul_add]
  omega

set_option maxHeartbeats 8000000 in
theorem c_sub (w : World) (v u : Value) (n k : Nat) (xs ys : List Nat) (hv : WU w v n xs) (hu : WU w u k ys) (hx : ∀ x ∈ xs, x < W32) (hy : ∀ x ∈ ys, x < W32) (hn : n ≤ 1000000) (hk : k ≤ n) (hle : val W32 ys ≤ val W32 xs) :
    Calls Tryd.prog 54 #[v, u] w (Ret fun v w' => Kp [] w w' ∧ ∃ N zs, New N w w' ∧ OwnU N v zs.length zs ∧ Dig W32 zs ∧ val W32 zs + val W32 ys = val W32 xs) := by
  have hlx := hv.len
  have hly := hu.len
  refine calls_of_S [] [] (by simp) [] Tryd.func54 rfl mixed (by kernel_rfl) Tryd.ntmps54 Tryd.results54 rfl ⟨by simp, by simp⟩ (by simp) ?_
  simp only [toS, textOps, toSOp, kindAt, kindOf, odAt, sopsAt, ordOf, zipF]
  (repeat' (first | refine JC.seq ?_ | refine JC.ops ?_ | refine JO.nil ?_ | refine JX.thenN ?_ | (apply r_move; exact rfl; exact rfl; exact rfl) | (apply r_assign; exact rfl; exact rfl; exact rfl) | (apply r_lenU; exact rfl; exact rfl; exact rfl; (first | assumption | exact WU.rd (by assumption) rfl [] | exact OwnU.rd (by assumption)))))
  refine r_make (n := n) rfl rfl rfl rfl rfl (by omega) (by omega) (fun b5 => ?_)
  have hO := own_zerosU b5 n (by simp only [maxLen]; omega)
  (repeat' (first | refine JC.seq ?_ | refine JC.ops ?_ | refine JO.nil ?_ | refine JX.thenN ?_ | (apply r_move; exact rfl; exact rfl; exact rfl) | (apply r_assign; exact rfl; exact rfl; exact rfl) | (apply r_lenU; exact rfl; exact rfl; exact rfl; (first | assumption | exact WU.rd (by assumption) rfl [] | exact OwnU.rd (by assumption))) | refine JC.block ?_))
  refine JC.loopH (ι := Nat × Nat × SHeap × List Nat) ⟨fun z => [(14, nv z.1), (13, nv n), (6, uv z.2.1), (5, .slice (some ⟨b5, 0, none⟩) n n), (0, v), (1, u)], fun z => z.2.2.1 ++ [],
    fun z => z.1 ≤ n ∧ OwnU z.2.2.1 (.slice (some ⟨b5, 0, none⟩) n n) n z.2.2.2 ∧ (∀ x ∈ z.2.2.2, x < W32) ∧ z.2.1 ≤ 1 ∧ val W32 (xs.take z.1) + W32 ^ z.1 * z.2.1 = val W32 (z.2.2.2.take z.1) + val W32 (ys.take z.1), fun z => n - z.1⟩
    (0, 0, _, _) ⟨Nat.zero_le _, hO, fun x hx => by obtain ⟨a, _, rfl⟩ := List.mem_map.1 hx; decide, Nat.zero_le _, by simp [val]⟩ (by repeat first | exact trivial | refine ⟨rfl, ?_⟩) (by (first | exact HSub.refl _ | (repeat' first | exact HSub.nil _ | exact HSub.refl _ | refine HSub.at 0 rfl ?_ | refine HSub.at 1 rfl ?_ | refine HSub.at 2 rfl ?_ | refine HSub.at 3 rfl ?_ | refine HSub.at 4 rfl ?_ | refine HSub.at 5 rfl ?_ | refine HSub.at 6 rfl ?_ | refine HSub.at 7 rfl ?_))) (fun z hz => ?_)
  clear hO
  obtain ⟨i, c, N, zs⟩ := z
  obtain ⟨hi, hO, hz, hc1, hval⟩ := hz
  dsimp only at hi hO hz hc1 hval ⊢
  have hlz := hO.len
  by_cases hin : i < n
  · have hxi : xs.getD i 0 < 4294967296 := mem_getD_lt (b := W32) (by decide) hx i
    have hyi : ys.getD i 0 < 4294967296 := mem_getD_lt (b := W32) (by decide) hy i
    by_cases hik : i < k
    · (repeat' (first | refine JC.seq ?_ | refine JC.ops ?_ | refine JO.nil ?_ | refine JX.thenN ?_ | (apply r_move; exact rfl; exact rfl; exact rfl) | (apply r_assign; exact rfl; exact rfl; exact rfl) | (apply r_idxU; exact rfl; exact rfl; exact rfl; exact rfl; (first | assumption | exact WU.rd (by assumption) rfl [] | exact OwnU.rd (by assumption)); (first | assumption | omega)) | (apply r_ldU; exact rfl; exact rfl; exact rfl; exact rfl; (first | assumption | exact WU.rd (by assumption) rfl [] | exact OwnU.rd (by assumption)); (repeat' first | exact HSub.nil _ | exact HSub.hd | exact HSub.in0 | exact HSub.refl _ | refine HSub.skip ?_ | refine HSub.skipN ?_); (first | assumption | omega)) | (apply r_lenU; exact rfl; exact rfl; exact rfl; (first | assumption | exact WU.rd (by assumption) rfl [] | exact OwnU.rd (by assumption))) | (apply r_maskU; exact rfl; exact rfl; exact rfl; exact rfl; (first | assumption | omega)) | (apply r_subU; exact rfl; exact rfl; exact rfl; exact rfl; (first | assumption | omega)) | (apply r_lss; exact rfl; exact rfl; exact rfl; exact rfl; all_goals intro hc; all_goals try (exfalso; omega)) | refine JC.skip ?_ | refine JC.condT rfl ?_ | refine JC.block ?_))
      refine r_shrU (j := 63) rfl rfl rfl rfl (by omega) ?_
      (repeat' (first | (apply r_idxB; exact rfl; exact rfl; exact rfl; exact rfl; omega)))
      refine r_stU (A := []) hO rfl rfl trivial rfl rfl (by omega) (fun N' hO' => ?_)
      (repeat' (first | refine JC.ops ?_ | refine JO.nil ?_ | refine JX.thenN ?_ | (apply r_move; exact rfl; exact rfl; exact rfl) | (apply r_assign; exact rfl; exact rfl; exact rfl) | (apply r_add1; exact rfl; exact rfl; exact rfl; exact rfl; omega) | refine JX.blockN ?_))
      refine JX.roundH (i + 1, _, N', _) ⟨by dsimp only; omega, hO', fun x hx => ?_, ?_, ?_⟩ (by dsimp only; omega) (by repeat first | exact trivial | refine ⟨rfl, ?_⟩) (by (first | exact HSub.refl _ | (repeat' first | exact HSub.nil _ | exact HSub.refl _ | refine HSub.at 0 rfl ?_ | refine HSub.at 1 rfl ?_ | refine HSub.at 2 rfl ?_ | refine HSub.at 3 rfl ?_ | refine HSub.at 4 rfl ?_ | refine HSub.at 5 rfl ?_ | refine HSub.at 6 rfl ?_ | refine HSub.at 7 rfl ?_)))
      · rcases List.mem_or_eq_of_mem_set hx with h | rfl
        · exact hz x h
        · exact Nat.mod_lt _ (by decide)
      · dsimp only; omega
      · dsimp only
        rw [val_take, val_take, val_take, take_set, getD_set_self (by omega), Nat.pow_succ]
        exact sub_round (by omega) hval
    · have hy0 : ys.getD i 0 = 0 := by rw [List.getD, List.getElem?_eq_none (by omega)]; rfl
      (repeat' (first | refine JC.seq ?_ | refine JC.ops ?_ | refine JO.nil ?_ | refine JX.thenN ?_ | (apply r_move; exact rfl; exact rfl; exact rfl) | (apply r_assign; exact rfl; exact rfl; exact rfl) | (apply r_idxU; exact rfl; exact rfl; exact rfl; exact rfl; (first | assumption | exact WU.rd (by assumption) rfl [] | exact OwnU.rd (by assumption)); (first | assumption | omega)) | (apply r_ldU; exact rfl; exact rfl; exact rfl; exact rfl; (first | assumption | exact WU.rd (by assumption) rfl [] | exact OwnU.rd (by assumption)); (repeat' first | exact HSub.nil _ | exact HSub.hd | exact HSub.in0 | exact HSub.refl _ | refine HSub.skip ?_ | refine HSub.skipN ?_); (first | assumption | omega)) | (apply r_lenU; exact rfl; exact rfl; exact rfl; (first | assumption | exact WU.rd (by assumption) rfl [] | exact OwnU.rd (by assumption))) | (apply r_maskU; exact rfl; exact rfl; exact rfl; exact rfl; (first | assumption | omega)) | (apply r_subU; exact rfl; exact rfl; exact rfl; exact rfl; (first | assumption | omega)) | (apply r_lss; exact rfl; exact rfl; exact rfl; exact rfl; all_goals intro hc; all_goals try (exfalso; omega)) | refine JC.skip ?_ | refine JC.condT rfl ?_ | refine JC.condF rfl ?_ | refine JC.block ?_))
      refine r_shrU (j := 63) rfl rfl rfl rfl (by omega) ?_
      (repeat' (first | (apply r_idxB; exact rfl; exact rfl; exact rfl; exact rfl; omega)))
      refine r_stU (A := []) hO rfl rfl trivial rfl rfl (by omega) (fun N' hO' => ?_)
      (repeat' (first | refine JC.ops ?_ | refine JO.nil ?_ | refine JX.thenN ?_ | (apply r_move; exact rfl; exact rfl; exact rfl) | (apply r_assign; exact rfl; exact rfl; exact rfl) | (apply r_add1; exact rfl; exact rfl; exact rfl; exact rfl; omega) | refine JX.blockN ?_))
      refine JX.roundH (i + 1, _, N', _) ⟨by dsimp only; omega, hO', fun x hx => ?_, ?_, ?_⟩ (by dsimp only; omega) (by repeat first | exact trivial | refine ⟨rfl, ?_⟩) (by (first | exact HSub.refl _ | (repeat' first | exact HSub.nil _ | exact HSub.refl _ | refine HSub.at 0 rfl ?_ | refine HSub.at 1 rfl ?_ | refine HSub.at 2 rfl ?_ | refine HSub.at 3 rfl ?_ | refine HSub.at 4 rfl ?_ | refine HSub.at 5 rfl ?_ | refine HSub.at 6 rfl ?_ | refine HSub.at 7 rfl ?_)))
      · rcases List.mem_or_eq_of_mem_set hx with h | rfl
        · exact hz x h
        · exact Nat.mod_lt _ (by decide)
      · dsimp only; omega
      · dsimp only
        rw [val_take, val_take, val_take, take_set, getD_set_self (by omega), Nat.pow_succ]
        exact sub_round (by omega) hval
  · (repeat' (first | refine JC.seq ?_ | refine JC.ops ?_ | refine JO.nil ?_ | refine JX.thenN ?_ | (apply r_move; exact rfl; exact rfl; exact rfl) | (apply r_lss; exact rfl; exact rfl; exact rfl; exact rfl; all_goals intro hc; all_goals try (exfalso; omega)) | refine JX.thenE ?_ | refine JC.exit ?_ | refine JC.condF rfl ?_ | refine JX.blockE ?_))
    refine r_call0 trivial rfl rfl rfl (fun w hk hs => c_norm w _ _ _ _ (hO.rd.at hk hs (by (repeat' first | exact HSub.nil _ | exact HSub.hd | exact HSub.in0 | exact HSub.refl _ | refine HSub.skip ?_ | refine HSub.skipN ?_))) (by omega)) fun w v w' _ _ _ hR => ?_
    obtain ⟨q, hq, rfl, hnq⟩ := hR
    (repeat' (first | refine JO.nil ?_ | refine JX.thenN ?_ | (apply r_assign; exact rfl; exact rfl; exact rfl) | refine JC.ret ?_))
    have hown := hO.head0 hq
    rw [← hnq] at hown
    have hql : (nrm zs).length = q := hown.len
    refine JX.ret1 rfl (fun a w' st => ⟨st.kp, N, nrm zs, st.newOf rfl (by (repeat' first | exact HSub.nil _ | exact HSub.hd | exact HSub.in0 | exact HSub.refl _ | refine HSub.skip ?_ | refine HSub.skipN ?_)), by rw [hql]; exact hown, Dig.of hz, ?_⟩)
    rw [val_nrm]
    obtain rfl : i = n := by omega
    rw [List.take_of_length_le (by omega), List.take_of_length_le (by omega), List.take_of_length_le (by omega)] at hval
    have h1 := val_lt hz
    rw [hlz] at h1
    have h2 : c = 0 := by
      rcases (show c = 0 ∨ c = 1 by omega) with h | rfl
      · exact h
      · rw [Nat.mul_one] at hval; omega
    subst h2
    rw [Nat.mul_zero] at hval
    exact hval.symm

end Go.Proofs.YtdehklhdjbkneaaDoor

/- Words compared. -/
namespace Go.Proofs.YtdehklhdjbkneaaDoor
open Go Go.RowKit
set_option linter.unusedSimpArgs false
set_option linter.unusedVariables false
set_option linter.unusedSectionVars false

def cmpV (a b : Nat) : Int := if a < b then -1 else if b < a then 1 else 0

theorem val_split {b : Nat} {l : List Nat} {i : Nat} (h : i < l.length) : val b l = val b (l.take i) + b ^ i * (l.getD i 0 + b * val b (l.drop (i + 1))) := by
  have e : l = l.take i ++ (l.getD i 0 :: l.drop (i + 1)) := by
    conv => lhs; rw [← List.take_append_drop i l]
    rw [List.drop_eq_getElem_cons h]
    simp [List.getD, h]
  have h2 := congrArg (val b) e
  rw [val_append, val] at h2
  rw [h2, List.length_take, Nat.min_eq_left (Nat.le_of_lt h)]
theorem val_cmp {b : Nat} {l r : List Nat} {i : Nat} (hl : i < l.length) (hr : i < r.length) (hlt : ∀ x ∈ l, x < b) (h : l.getD i 0 < r.getD i 0) (hd : l.drop (i + 1) = r.drop (i + 1)) : val b l < val b r := by
  rw [val_split hl, val_split hr, hd]
  have h1 := val_lt (b := b) (l := l.take i) fun x hx => hlt x (List.mem_of_mem_take hx)
  rw [List.length_take, Nat.min_eq_left (Nat.le_of_lt hl)] at h1
  have h2 : b ^ i * (l.getD i 0 + b * val b (r.drop (i + 1)) + 1) ≤ b ^ i * (r.getD i 0 + b * val b (r.drop (i + 1))) := Nat.mul_le_mul_left _ (by omega)
  rw [Nat.mul_add, Nat.mul_one] at h2
  omega
theorem len_cmp {b : Nat} {l r : List Nat} (hb : 0 < b) (hl : Dig b l) (hr : Dig b r) (h : l.length < r.length) : val b l < val b r := by
  have h1 := val_lt hl.lt
  have h2 := val_ge hb hr.nrm (fun e => by subst e; cases h)
  have h3 : b ^ l.length ≤ b ^ (r.length - 1) := Nat.pow_le_pow_right hb (by omega)
  omega

set_option maxHeartbeats 8000000 in
theorem c_cmp (w : World) (v u : Value) (n k : Nat) (xs ys : List Nat) (hv : WU w v n xs) (hu : WU w u k ys) (hx : Dig W32 xs) (hy : Dig W32 ys) (hn : n ≤ 1000000) (hk : k ≤ 1000000) :
    Calls Tryd.prog 55 #[v, u] w (Ret fun v w' => Kp [] w w' ∧ v = iv (cmpV (val W32 xs) (val W32 ys))) := by
  have hlx := hv.len
  have hly := hu.len
  refine calls_of_S [] [] (by simp) [] Tryd.func55 rfl mixed (by kernel_rfl) Tryd.ntmps55 Tryd.results55 rfl ⟨by simp, by simp⟩ (by simp) ?_
  simp only [toS, textOps, toSOp, kindAt, kindOf, odAt, sopsAt, ordOf, zipF]
  rcases Nat.lt_trichotomy n k with h | h | h
  · have hcc := len_cmp (by decide) hx hy (by omega)
    (repeat' (first | refine JC.seq ?_ | refine JC.ops ?_ | refine JO.nil ?_ | refine JX.thenN ?_ | (apply r_move; exact rfl; exact rfl; exact rfl) | (apply r_assign; exact rfl; exact rfl; exact rfl) | (apply r_lenU; exact rfl; exact rfl; exact rfl; (first | assumption | exact WU.rd (by assumption) rfl [] | exact OwnU.rd (by assumption))) | (apply r_lss; exact rfl; exact rfl; exact rfl; exact rfl; all_goals intro hc; all_goals try (exfalso; omega)) | refine JX.thenR ?_ | refine JC.ret ?_ | refine JC.condT rfl ?_ | refine JC.block ?_ | refine JX.blockR ?_))
    exact JX.ret1 rfl (fun a w' st => ⟨st.kp, by unfold cmpV; rw [if_pos hcc]⟩)
  · (repeat' (first | refine JC.seq ?_ | refine JC.ops ?_ | refine JO.nil ?_ | refine JX.thenN ?_ | (apply r_move; exact rfl; exact rfl; exact rfl) | (apply r_assign; exact rfl; exact rfl; exact rfl) | (apply r_sub; exact rfl; exact rfl; exact rfl; exact rfl; omega) | (apply r_lenU; exact rfl; exact rfl; exact rfl; (first | assumption | exact WU.rd (by assumption) rfl [] | exact OwnU.rd (by assumption))) | (apply r_lss; exact rfl; exact rfl; exact rfl; exact rfl; all_goals intro hc; all_goals try (exfalso; omega)) | (apply r_gtr; exact rfl; exact rfl; exact rfl; exact rfl; all_goals intro hc; all_goals try (exfalso; omega)) | refine JC.skip ?_ | refine JC.condF rfl ?_ | refine JC.block ?_ | refine JX.blockN ?_))
    refine JC.loopH (ι := Nat) ⟨fun q => [(5, iv ((q : Int) - 1)), (0, v), (1, u)], fun _ => [], fun q => q ≤ n ∧ xs.drop q = ys.drop q, fun q => q⟩ n ⟨Nat.le_refl _, by rw [List.drop_eq_nil_of_le (by omega), List.drop_eq_nil_of_le (by omega)]⟩ (by repeat first | exact trivial | refine ⟨rfl, ?_⟩) (by (first | exact HSub.refl _ | (repeat' first | exact HSub.nil _ | exact HSub.refl _ | refine HSub.at 0 rfl ?_ | refine HSub.at 1 rfl ?_ | refine HSub.at 2 rfl ?_ | refine HSub.at 3 rfl ?_ | refine HSub.at 4 rfl ?_ | refine HSub.at 5 rfl ?_ | refine HSub.at 6 rfl ?_ | refine HSub.at 7 rfl ?_))) (fun q hq => ?_)
    obtain ⟨hqn, hd⟩ := hq
    dsimp only at hqn hd ⊢
    rcases q with _ | q
    · (repeat' (first | refine JC.seq ?_ | refine JC.ops ?_ | refine JO.nil ?_ | refine JX.thenN ?_ | (apply r_move; exact rfl; exact rfl; exact rfl) | (apply r_assign; exact rfl; exact rfl; exact rfl) | (apply r_geq; exact rfl; exact rfl; exact rfl; exact rfl; all_goals intro hc; all_goals try (exfalso; omega)) | refine JX.thenE ?_ | refine JC.exit ?_ | refine JC.ret ?_ | refine JC.condF rfl ?_ | refine JX.blockE ?_))
      have : xs = ys := hd
      exact JX.ret1 rfl (fun a w' st => ⟨st.kp, by unfold cmpV; rw [this, if_neg (Nat.lt_irrefl _), if_neg (Nat.lt_irrefl _)]⟩)
    · have hiv : iv (((q + 1 : Nat) : Int) - 1) = nv q := by
        show iv _ = iv _
        congr 1
        omega
      rw [hiv]
      rcases Nat.lt_trichotomy (xs.getD q 0) (ys.getD q 0) with h1 | h1 | h1
      · have hcc := val_cmp (b := W32) (by omega) (by omega) hx.lt h1 hd
        (repeat' (first | refine JC.seq ?_ | refine JC.ops ?_ | refine JC.opsD ?_ | refine JO.nil ?_ | refine JX.thenN ?_ | (apply r_move; exact rfl; exact rfl; exact rfl) | (apply r_assign; exact rfl; exact rfl; exact rfl) | (apply r_idxU; exact rfl; exact rfl; exact rfl; exact rfl; (first | assumption | exact WU.rd (by assumption) rfl [] | exact OwnU.rd (by assumption)); (first | assumption | omega)) | (apply r_ldU; exact rfl; exact rfl; exact rfl; exact rfl; (first | assumption | exact WU.rd (by assumption) rfl [] | exact OwnU.rd (by assumption)); (repeat' first | exact HSub.nil _ | exact HSub.hd | exact HSub.in0 | exact HSub.refl _ | refine HSub.skip ?_ | refine HSub.skipN ?_); (first | assumption | omega)) | (apply r_lss; exact rfl; exact rfl; exact rfl; exact rfl; all_goals intro hc; all_goals try (exfalso; omega)) | (apply r_geq; exact rfl; exact rfl; exact rfl; exact rfl; all_goals intro hc; all_goals try (exfalso; omega)) | refine JX.thenR ?_ | refine JC.skip ?_ | refine JC.ret ?_ | refine JC.condT rfl ?_ | refine JC.block ?_ | refine JX.blockR ?_))
        exact JX.ret1 rfl (fun a w' st => ⟨st.kp, by unfold cmpV; rw [if_pos hcc]⟩)
      · (repeat' (first | refine JC.seq ?_ | refine JC.ops ?_ | refine JC.opsD ?_ | refine JO.nil ?_ | refine JX.thenN ?_ | (apply r_move; exact rfl; exact rfl; exact rfl) | (apply r_assign; exact rfl; exact rfl; exact rfl) | (apply r_sub; exact rfl; exact rfl; exact rfl; exact rfl; omega) | (apply r_idxU; exact rfl; exact rfl; exact rfl; exact rfl; (first | assumption | exact WU.rd (by assumption) rfl [] | exact OwnU.rd (by assumption)); (first | assumption | omega)) | (apply r_ldU; exact rfl; exact rfl; exact rfl; exact rfl; (first | assumption | exact WU.rd (by assumption) rfl [] | exact OwnU.rd (by assumption)); (repeat' first | exact HSub.nil _ | exact HSub.hd | exact HSub.in0 | exact HSub.refl _ | refine HSub.skip ?_ | refine HSub.skipN ?_); (first | assumption | omega)) | (apply r_lss; exact rfl; exact rfl; exact rfl; exact rfl; all_goals intro hc; all_goals try (exfalso; omega)) | (apply r_gtr; exact rfl; exact rfl; exact rfl; exact rfl; all_goals intro hc; all_goals try (exfalso; omega)) | (apply r_geq; exact rfl; exact rfl; exact rfl; exact rfl; all_goals intro hc; all_goals try (exfalso; omega)) | refine JC.skip ?_ | refine JC.condT rfl ?_ | refine JC.condF rfl ?_ | refine JC.block ?_ | refine JX.blockN ?_))
        refine JX.roundH q ⟨by omega, ?_⟩ (by dsimp only; omega) (by repeat first | exact trivial | refine ⟨rfl, ?_⟩) (by (first | exact HSub.refl _ | (repeat' first | exact HSub.nil _ | exact HSub.refl _ | refine HSub.at 0 rfl ?_ | refine HSub.at 1 rfl ?_ | refine HSub.at 2 rfl ?_ | refine HSub.at 3 rfl ?_ | refine HSub.at 4 rfl ?_ | refine HSub.at 5 rfl ?_ | refine HSub.at 6 rfl ?_ | refine HSub.at 7 rfl ?_)))
        rw [List.drop_eq_getElem_cons (show q < xs.length by omega), List.drop_eq_getElem_cons (show q < ys.length by omega), hd]
        have e : xs[q]'(by omega) = ys[q]'(by omega) := by
          simpa [List.getD, List.getElem?_eq_getElem (show q < xs.length by omega), List.getElem?_eq_getElem (show q < ys.length by omega)] using h1
        rw [e]
      · have hcc := val_cmp (b := W32) (by omega) (by omega) hy.lt h1 hd.symm
        (repeat' (first | refine JC.seq ?_ | refine JC.ops ?_ | refine JC.opsD ?_ | refine JO.nil ?_ | refine JX.thenN ?_ | (apply r_move; exact rfl; exact rfl; exact rfl) | (apply r_assign; exact rfl; exact rfl; exact rfl) | (apply r_idxU; exact rfl; exact rfl; exact rfl; exact rfl; (first | assumption | exact WU.rd (by assumption) rfl [] | exact OwnU.rd (by assumption)); (first | assumption | omega)) | (apply r_ldU; exact rfl; exact rfl; exact rfl; exact rfl; (first | assumption | exact WU.rd (by assumption) rfl [] | exact OwnU.rd (by assumption)); (repeat' first | exact HSub.nil _ | exact HSub.hd | exact HSub.in0 | exact HSub.refl _ | refine HSub.skip ?_ | refine HSub.skipN ?_); (first | assumption | omega)) | (apply r_lss; exact rfl; exact rfl; exact rfl; exact rfl; all_goals intro hc; all_goals try (exfalso; omega)) | (apply r_gtr; exact rfl; exact rfl; exact rfl; exact rfl; all_goals intro hc; all_goals try (exfalso; omega)) | (apply r_geq; exact rfl; exact rfl; exact rfl; exact rfl; all_goals intro hc; all_goals try (exfalso; omega)) | refine JX.thenR ?_ | refine JC.skip ?_ | refine JC.ret ?_ | refine JC.condT rfl ?_ | refine JC.condF rfl ?_ | refine JC.block ?_ | refine JX.blockR ?_))
        exact JX.ret1 rfl (fun a w' st => ⟨st.kp, by unfold cmpV; rw [if_neg (by omega), if_pos hcc]⟩)
  · have hcc := len_cmp (by decide) hy hx (by omega)
    (repeat' (first | refine JC.seq ?_ | refine JC.ops ?_ | refine JO.nil ?_ | refine JX.thenN ?_ | (apply r_move; exact rfl; exact rfl; exact rfl) | (apply r_assign; exact rfl; exact rfl; exact rfl) | (apply r_lenU; exact rfl; exact rfl; exact rfl; (first | assumption | exact WU.rd (by assumption) rfl [] | exact OwnU.rd (by assumption))) | (apply r_lss; exact rfl; exact rfl; exact rfl; exact rfl; all_goals intro hc; all_goals try (exfalso; omega)) | (apply r_gtr; exact rfl; exact rfl; exact rfl; exact rfl; all_goals intro hc; all_goals try (exfalso; omega)) | refine JX.thenR ?_ | refine JC.ret ?_ | refine JC.condT rfl ?_ | refine JC.condF rfl ?_ | refine JC.block ?_ | refine JX.blockR ?_))
    exact JX.ret1 rfl (fun a w' st => ⟨st.kp, by unfold cmpV; rw [if_neg (by omega), if_pos hcc]⟩)

end Go.Proofs.YtdehklhdjbkneaaDoor

/- The value when a digit is set. -/
namespace Go.Proofs.YtdehklhdjbkneaaDoor
open Go Go.RowKit
set_option linter.unusedSimpArgs false
set_option linter.unusedVariables false
set_option linter.unusedSectionVars false

theorem val_set {b : Nat} : ∀ {l : List Nat} {j u : Nat}, j < l.length → val b (l.set j u) + b ^ j * l.getD j 0 = val b l + b ^ j * u
  | x :: l, 0, u, _ => by
    simp only [List.set_cons_zero, val, Nat.pow_zero, Nat.one_mul, List.getD_cons_zero]
    omega
  | x :: l, j + 1, u, h => by
    have ih := val_set (b := b) (l := l) (j := j) (u := u) (by simpa using h)
    simp only [List.set_cons_succ, val, List.getD_cons_succ, Nat.pow_succ]
    have h2 := congrArg (b * ·) ih
    simp only [Nat.mul_add] at h2
    have e : ∀ z, b ^ j * b * z = b * (b ^ j * z) := fun z => by rw [Nat.mul_comm (b ^ j) b, Nat.mul_assoc]
    rw [e, e]
    omega

end Go.Proofs.YtdehklhdjbkneaaDoor

/- Canonical digits of a number, bytes, Knuth's division, signs, the greatest common divisor: plain laws. -/
namespace Go.Proofs.YtdehklhdjbkneaaDoor
open Go Go.RowKit
set_option linter.unusedSimpArgs false
set_option linter.unusedVariables false
set_option linter.unusedSectionVars false

/-- The first guess is not too small. -/
theorem kn_start {W P top second lv a b c lu U V : Nat} (ht : 0 < top) (hV : V = (top * W + second) * P + lv) (hU : U = ((a * W + b) * W + c) * P + lu) (hc : c < W) (hlu : lu < P) : U / V ≤ (a * W + b) / top := by
  rw [Nat.le_div_iff_mul_le ht]
  have h1 : U / V * V ≤ U := Nat.div_mul_le_self U V
  have h2 : top * W * P ≤ V := by rw [hV, Nat.add_mul]; omega
  have h3 : U / V * (top * W * P) ≤ U := Nat.le_trans (Nat.mul_le_mul_left _ h2) h1
  have h4 : U < (a * W + b + 1) * (W * P) := by
    have e1 : (c + 1) * P ≤ W * P := Nat.mul_le_mul_right _ hc
    rw [Nat.add_mul] at e1
    have e2 : U = (a * W + b) * (W * P) + (c * P + lu) := by rw [hU, Nat.add_mul, Nat.mul_assoc (a * W + b) W P, Nat.add_assoc]
    rw [e2, Nat.add_mul (a * W + b) 1]
    omega
  have h5 : U / V * top * (W * P) < (a * W + b + 1) * (W * P) := by
    have : U / V * (top * W * P) = U / V * top * (W * P) := by simp only [Nat.mul_assoc]
    rw [← this]
    omega
  have h6 := Nat.lt_of_mul_lt_mul_right h5
  omega
/-- A guess that is refused is too great. -/
theorem kn_dec {P V2 U3 lv lu U V g : Nat} (hV : V = V2 * P + lv) (hU : U = U3 * P + lu) (hlu : lu < P) (h : U3 < g * V2) : U / V < g := by
  have h1 : U < g * V := by
    have h2 : (U3 + 1) * P ≤ g * V2 * P := Nat.mul_le_mul_right _ h
    have h3 : g * V2 * P ≤ g * V := by rw [hV, Nat.mul_add, Nat.mul_assoc]; omega
    rw [Nat.add_mul] at h2
    omega
  exact Nat.div_lt_of_lt_mul (by rw [Nat.mul_comm]; exact h1)
/-- A guess that is kept is at most one too great. -/
theorem kn_end {P V2 U3 lv lu U V g : Nat} (hV : V = V2 * P + lv) (hlv : lv < P) (hV2 : 0 < V2) (hU : U = U3 * P + lu) (h : g * V2 ≤ U3) (hg : g ≤ V2 + 1) : g ≤ U / V + 1 := by
  rcases g with _ | g
  · exact Nat.zero_le _
  have hP : 0 < P := by omega
  have hVp : 0 < V := by rw [hV]; have := Nat.mul_pos hV2 hP; omega
  have h1 : g * V ≤ U := by
    have h2 : V ≤ (V2 + 1) * P := by rw [Nat.add_mul]; omega
    have h3 : g * V ≤ g * ((V2 + 1) * P) := Nat.mul_le_mul_left _ h2
    have h4 : g * (V2 + 1) ≤ (g + 1) * V2 := by rw [Nat.mul_add, Nat.add_mul]; omega
    have h5 : g * (V2 + 1) * P ≤ (g + 1) * V2 * P := Nat.mul_le_mul_right _ h4
    have h6 : (g + 1) * V2 * P ≤ U3 * P := Nat.mul_le_mul_right _ h
    rw [← Nat.mul_assoc] at h3
    omega
  have : g ≤ U / V := (Nat.le_div_iff_mul_le hVp).2 h1
  omega
/-- The loop's way out. -/
theorem kn_out {W top second two c g rest : Nat} (hr : two = g * top + rest) (hg : g < W) (hs : second < W) (h : W ≤ rest ∨ g * second ≤ rest * W + c) : g * (top * W + second) ≤ two * W + c := by
  have e : two * W = g * top * W + rest * W := by rw [hr, Nat.add_mul]
  have e2 : g * (top * W + second) = g * top * W + g * second := by rw [Nat.mul_add, Nat.mul_assoc]
  rw [e, e2]
  rcases h with h | h
  · have h1 : g * second ≤ W * W := Nat.mul_le_mul (by omega) (by omega)
    have h2 : W * W ≤ rest * W := Nat.mul_le_mul_right _ h
    omega
  · omega

/-! canonical digits of a number -/
def digF (b : Nat) : Nat → Nat → List Nat
  | 0, _ => []
  | f + 1, n => if n = 0 then [] else n % b :: digF b f (n / b)
def dig (b n : Nat) : List Nat := digF b n n

theorem digF_ok {b : Nat} (hb : 2 ≤ b) : ∀ (f n : Nat), n ≤ f → Dig b (digF b f n) ∧ val b (digF b f n) = n
  | 0, n, h => by
    obtain rfl : n = 0 := by omega
    exact ⟨Dig.nil b, rfl⟩
  | f + 1, n, h => by
    rw [digF]
    by_cases h0 : n = 0
    · rw [if_pos h0, h0]; exact ⟨Dig.nil b, rfl⟩
    · rw [if_neg h0]
      have hlt : n / b < n := Nat.div_lt_self (by omega) hb
      obtain ⟨h1, h2⟩ := digF_ok hb f (n / b) (by omega)
      refine ⟨⟨fun x hx => ?_, ?_⟩, by rw [val, h2, Nat.mod_add_div]⟩
      · rcases List.mem_cons.1 hx with rfl | hx
        · exact Nat.mod_lt _ (by omega)
        · exact h1.lt x hx
      · rw [nrm, h1.nrm]
        cases hc : digF b f (n / b) with
        | nil =>
          have hz : n / b = 0 := by rw [← h2, hc]; rfl
          have hm : n % b ≠ 0 := by
            have := Nat.mod_add_div n b
            rw [hz] at this
            omega
          show (if n % b = 0 then [] else [n % b]) = [n % b]
          rw [if_neg hm]
        | cons y s => rfl
theorem dig_ok {b : Nat} (hb : 2 ≤ b) (n : Nat) : Dig b (dig b n) := (digF_ok hb n n (Nat.le_refl _)).1
theorem val_dig {b : Nat} (hb : 2 ≤ b) (n : Nat) : val b (dig b n) = n := (digF_ok hb n n (Nat.le_refl _)).2
theorem Dig.eq_dig {b : Nat} (hb : 2 ≤ b) {l : List Nat} (h : Dig b l) : l = dig b (val b l) := h.inj (dig_ok hb _) (val_dig hb _).symm
theorem dig_zero (b : Nat) : dig b 0 = [] := rfl
theorem dig_nil {b n : Nat} (hb : 2 ≤ b) : dig b n = [] ↔ n = 0 := ⟨fun h => by rw [← val_dig hb n, h]; rfl, fun h => by rw [h]; rfl⟩
/-- A number below b^k has at most k digits. -/
theorem Dig.len_le {b : Nat} (hb : 2 ≤ b) {l : List Nat} (h : Dig b l) {k : Nat} (hv : val b l < b ^ k) : l.length ≤ k := by
  by_cases h0 : l = []
  · subst h0; exact Nat.zero_le _
  · have h1 := val_ge (Nat.lt_of_lt_of_le (by decide) hb) h.nrm h0
    have h2 : b ^ (l.length - 1) < b ^ k := Nat.lt_of_le_of_lt h1 hv
    have h3 := (Nat.pow_lt_pow_iff_right (show 1 < b from hb)).1 h2
    omega
theorem dig_len_le {b : Nat} (hb : 2 ≤ b) {n k : Nat} (hv : n < b ^ k) : (dig b n).length ≤ k := (dig_ok hb n).len_le hb (by rw [val_dig hb]; exact hv)
theorem Dig.eq_nil {b : Nat} (hb : 0 < b) {l : List Nat} (h : Dig b l) : l = [] ↔ val b l = 0 := ⟨fun e => by subst e; rfl, fun e => Decidable.byContradiction fun h0 => by
  exact absurd e (Nat.ne_of_gt (val_pos hb h.nrm h0))⟩

/-! bytes, the most significant one first -/
theorem nrm_zero_cons {l : List Nat} : nrm (l.reverse) = (l.dropWhile (· == 0)).reverse := by
  induction l with
  | nil => rfl
  | cons x l ih =>
    rw [List.reverse_cons]
    by_cases hx : x = 0
    · subst hx; rw [nrm_snoc0, ih]; rfl
    · rw [nrm_snoc _ hx, List.dropWhile, show (x == 0) = false by simp [hx]]; simp
/-- The value of bytes, the most significant one first. -/
def bval (l : List Nat) : Nat := val 256 l.reverse
theorem bval_snoc (l : List Nat) (x : Nat) : bval (l ++ [x]) = x + 256 * bval l := by
  unfold bval
  rw [List.reverse_append]
  rfl
theorem bval_nil : bval [] = 0 := rfl
theorem bval_trim (l : List Nat) : bval (l.dropWhile (· == 0)) = bval l := by
  unfold bval
  rw [← nrm_zero_cons, val_nrm]
theorem bval_take (l : List Nat) (i : Nat) (h : i < l.length) : bval (l.take (i + 1)) = l.getD i 0 + 256 * bval (l.take i) := by
  rw [List.take_add_one, gD_lt (d := 0) h]
  exact bval_snoc _ _
theorem bval_lt {l : List Nat} (h : ∀ x ∈ l, x < 256) : bval l < 256 ^ l.length := by
  have := val_lt (b := 256) (l := l.reverse) (by simpa using h)
  simpa [bval] using this
/-- The canonical bytes of a number. -/
def mag (n : Nat) : List Nat := (dig 256 n).reverse
theorem mag_lt {n : Nat} : ∀ x ∈ mag n, x < 256 := fun x hx => (dig_ok (by decide) n).lt x (by simpa [mag] using hx)
theorem bval_mag (n : Nat) : bval (mag n) = n := by unfold bval mag; rw [List.reverse_reverse]; exact val_dig (by decide) n
theorem mag_of {l : List Nat} (h : ∀ x ∈ l, x < 256) : l.dropWhile (· == 0) = mag (bval l) := by
  have h1 : Dig 256 ((l.dropWhile (· == 0)).reverse) := by
    rw [← nrm_zero_cons]
    exact Dig.of (by simpa using h)
  have h2 := h1.eq_dig (by decide)
  unfold mag
  have h3 : val 256 (l.dropWhile (· == 0)).reverse = bval l := bval_trim l
  rw [← h3, ← h2, List.reverse_reverse]
theorem mag_nil {n : Nat} : mag n = [] ↔ n = 0 := by
  unfold mag
  rw [List.reverse_eq_nil_iff]
  exact dig_nil (by decide)
theorem mag_len {n k : Nat} (h : n < 256 ^ k) : (mag n).length ≤ k := by
  unfold mag
  rw [List.length_reverse]
  exact dig_len_le (by decide) h
theorem mag_inj {n m : Nat} (h : mag n = mag m) : n = m := by rw [← bval_mag n, h, bval_mag]
theorem val_cut (b : Nat) (l : List Nat) (k : Nat) (h : k ≤ l.length) : val b l = val b (l.take k) + b ^ k * val b (l.drop k) := by
  conv => lhs; rw [← List.take_append_drop k l]
  rw [val_append, List.length_take, Nat.min_eq_left h]
theorem val_drop {b : Nat} {l : List Nat} {k : Nat} (h : k < l.length) : val b (l.drop k) = l.getD k 0 + b * val b (l.drop (k + 1)) := by
  rw [List.drop_eq_getElem_cons h]
  simp [val, List.getD, h]
theorem val_drop_nil {b : Nat} {l : List Nat} {k : Nat} (h : l.length ≤ k) : val b (l.drop k) = 0 := by
  rw [List.drop_eq_nil_of_le h]; rfl
theorem getD_drop (l : List Nat) (i j : Nat) : (l.drop i).getD j 0 = l.getD (i + j) 0 := by simp [List.getD]
/-- The three words at k. -/
theorem val_top3 {W : Nat} {l : List Nat} {k : Nat} (h : k + 3 ≤ l.length) (h0 : val W (l.drop (k + 3)) = 0) : val W l = ((l.getD (k + 2) 0 * W + l.getD (k + 1) 0) * W + l.getD k 0) * W ^ k + val W (l.take k) := by
  rw [val_cut W l k (by omega), val_drop (by omega), val_drop (show k + 1 < l.length by omega), val_drop (show k + 1 + 1 < l.length by omega), h0]
  simp only [Nat.mul_zero, Nat.add_zero]
  rw [Nat.mul_comm (_ + _) (W ^ k), Nat.add_comm]
  congr 2
  rw [Nat.mul_comm W, Nat.add_comm, Nat.mul_comm W, Nat.add_comm (l.getD (k + 1) 0)]
theorem val_top2 {W : Nat} {l : List Nat} {k : Nat} (h : k + 2 = l.length) : val W l = (l.getD (k + 1) 0 * W + l.getD k 0) * W ^ k + val W (l.take k) := by
  rw [val_cut W l k (by omega), val_drop (by omega), val_drop (show k + 1 < l.length by omega), val_drop_nil (by omega)]
  simp only [Nat.mul_zero, Nat.add_zero]
  rw [Nat.mul_comm (_ + _) (W ^ k), Nat.add_comm]
  congr 2
  rw [Nat.mul_comm W, Nat.add_comm]
theorem val_take_lt {W : Nat} {l : List Nat} (h : ∀ x ∈ l, x < W) {k : Nat} (hk : k ≤ l.length) : val W (l.take k) < W ^ k := by
  have := val_lt (b := W) (l := l.take k) fun x hx => h x (List.mem_of_mem_take hx)
  rwa [List.length_take, Nat.min_eq_left hk] at this
/-- What lies above is 0 where the whole is small. -/
theorem val_high0 {W : Nat} {l : List Nat} {k : Nat} (h : val W l < W ^ k) (hk : k ≤ l.length) : val W (l.drop k) = 0 := by
  rw [val_cut W l k hk] at h
  by_cases h0 : val W (l.drop k) = 0
  · exact h0
  · have := Nat.le_mul_of_pos_right (W ^ k) (Nat.pos_of_ne_zero h0)
    omega

structure KnStep (W : Nat) (u v : List Nat) (i m U V top second a b c : Nat) : Prop where
  lt : U < V * W
  hV : ∃ lv, lv < W ^ (m - 2) ∧ V = (top * W + second) * W ^ (m - 2) + lv
  hU : ∃ lu, lu < W ^ (m - 2) ∧ U = ((a * W + b) * W + c) * W ^ (m - 2) + lu
  head : val W ((u.drop i).take (m + 1)) = U
  tail : val W (u.drop (i + m + 1)) = 0
theorem kn_step {W : Nat} {u v : List Nat} {i m : Nat} (hu : ∀ x ∈ u, x < W) (hv : ∀ x ∈ v, x < W) (hm : v.length = m) (hm2 : 2 ≤ m) (hi : i + m < u.length) (h : val W (u.drop (i + 1)) < val W v) :
    KnStep W u v i m (val W (u.drop i)) (val W v) (v.getD (m - 1) 0) (v.getD (m - 2) 0) (u.getD (i + m) 0) (u.getD (i + m - 1) 0) (u.getD (i + m - 2) 0) := by
  have hud : ∀ x ∈ u.drop i, x < W := fun x hx => hu x (List.mem_of_mem_drop hx)
  have hVlt : val W v < W ^ m := by have := val_lt hv; rwa [hm] at this
  have e0 := val_drop (b := W) (l := u) (k := i) (by omega)
  have hx0 : u.getD i 0 < W := hu _ (mem_getD (by omega))
  have hlt : val W (u.drop i) < val W v * W := by
    rw [e0]
    have := Nat.mul_le_mul_left W h
    rw [Nat.mul_succ] at this
    rw [Nat.mul_comm _ W]
    omega
  have hlt2 : val W (u.drop i) < W ^ (m + 1) := by
    rw [Nat.pow_succ]
    exact Nat.lt_of_lt_of_le hlt (Nat.mul_le_mul_right _ (Nat.le_of_lt hVlt))
  have hlen : (u.drop i).length = u.length - i := by simp
  have h0 := val_high0 hlt2 (by omega)
  refine ⟨hlt, ⟨_, val_take_lt hv (by omega), ?_⟩, ⟨_, val_take_lt hud (k := m - 2) (by omega), ?_⟩, ?_, ?_⟩
  · have := val_top2 (W := W) (l := v) (k := m - 2) (by omega)
    rwa [show m - 2 + 1 = m - 1 by omega] at this
  · have := val_top3 (W := W) (l := u.drop i) (k := m - 2) (by omega) (by rwa [show m - 2 + 3 = m + 1 by omega])
    rw [getD_drop, getD_drop, getD_drop] at this
    rwa [show i + (m - 2 + 2) = i + m by omega, show i + (m - 2 + 1) = i + m - 1 by omega, show i + (m - 2) = i + m - 2 by omega] at this
  · have := val_cut W (u.drop i) (m + 1) (by omega)
    rw [h0] at this
    omega
  · rw [List.drop_drop] at h0
    rwa [show i + (m + 1) = i + m + 1 by omega] at h0
/-! numbers with a sign -/
def sgn (p : Bool) (n : Nat) : Int := if p then -(n : Int) else n
theorem sgn_natAbs (p : Bool) (n : Nat) : (sgn p n).natAbs = n := by cases p <;> simp [sgn]
theorem sgn_neg (p : Bool) (n : Nat) : decide (sgn p n < 0) = (p && decide (n ≠ 0)) := by
  cases p
  · simp [sgn]
  · by_cases h : n = 0
    · subst h; rfl
    · simp [sgn, h]; omega
theorem sgn_self (z : Int) : sgn (decide (z < 0)) z.natAbs = z := by
  unfold sgn
  by_cases h : z < 0
  · simp only [h, decide_true, if_true]; omega
  · simp only [h, decide_false, Bool.false_eq_true, if_false]; omega
theorem sgn_not (p : Bool) (n : Nat) : sgn (!p) n = -sgn p n := by cases p <;> simp [sgn]
theorem sgn_add (p : Bool) (x y : Nat) : sgn p (x + y) = sgn p x + sgn p y := by cases p <;> simp [sgn]; omega
theorem sgn_sub1 {p q : Bool} {x y : Nat} (h : p ≠ q) (hxy : x < y) : sgn q (y - x) = sgn p x + sgn q y := by cases p <;> cases q <;> simp_all [sgn] <;> omega
theorem sgn_sub2 {p q : Bool} {x y : Nat} (h : p ≠ q) (hxy : ¬ x < y) : sgn p (x - y) = sgn p x + sgn q y := by cases p <;> cases q <;> simp_all [sgn] <;> omega
theorem sgn_mul (p q : Bool) (x y : Nat) : sgn (p != q) (x * y) = sgn p x * sgn q y := by cases p <;> cases q <;> simp [sgn, Int.neg_mul, Int.mul_neg]
theorem sgn_zero (p : Bool) : sgn p 0 = 0 := by cases p <;> rfl
theorem sgn_eq_zero (p : Bool) (n : Nat) : sgn p n = 0 ↔ n = 0 := by cases p <;> simp [sgn]

theorem quo_unique {a b q r : Int} (h : a = q * b + r) (h0 : 0 ≤ r) (h1 : r < b.natAbs) : q = a / b ∧ r = a % b := by
  have hb : b ≠ 0 := by omega
  have e := Int.mul_ediv_add_emod a b
  have m0 := Int.emod_nonneg a hb
  have m1 : a % b < b.natAbs := Int.emod_lt a hb
  have key : (q - a / b) * b = a % b - r := by
    rw [Int.sub_mul, Int.mul_comm (a / b) b]; omega
  have : q = a / b := by
    refine Decidable.byContradiction fun hne => ?_
    have h2 : 1 ≤ (q - a / b).natAbs := by omega
    have h3 : ((q - a / b) * b).natAbs = (q - a / b).natAbs * b.natAbs := Int.natAbs_mul _ _
    have h4 : b.natAbs ≤ (q - a / b).natAbs * b.natAbs := Nat.le_mul_of_pos_left _ h2
    rw [key] at h3
    omega
  refine ⟨this, ?_⟩
  rw [this] at key
  simp at key
  omega

/-- What Quo computes of absolute values. -/
theorem quo_law (p q : Bool) (x y n r : Nat) (hy : 0 < y) (hn : x = n * y + r) (hr : r < y) :
    (p = true ∧ 0 < r → sgn (p != q) (n + 1) = sgn p x / sgn q y ∧ ((y - r : Nat) : Int) = sgn p x % sgn q y) ∧
    (¬ (p = true ∧ 0 < r) → sgn (p != q) n = sgn p x / sgn q y ∧ (r : Int) = sgn p x % sgn q y) := by
  constructor
  · rintro ⟨rfl, h0⟩
    refine quo_unique ?_ (by omega) (by rw [sgn_natAbs]; omega)
    have e : (x : Int) = n * y + r := by exact_mod_cast hn
    have e2 : ((y - r : Nat) : Int) = y - r := by omega
    rw [e2]
    cases q
    · simp only [sgn, Bool.true_bne, Bool.not_false, if_true, Bool.false_eq_true, if_false]
      rw [e]; push_cast; rw [Int.neg_mul, Int.add_mul, Int.one_mul]; omega
    · simp only [sgn, Bool.true_bne, Bool.not_true, if_true, Bool.false_eq_true, if_false]
      rw [e]; push_cast; rw [Int.mul_neg, Int.add_mul, Int.one_mul]; omega
  · intro h
    have e : (x : Int) = n * y + r := by exact_mod_cast hn
    refine quo_unique ?_ (by omega) (by rw [sgn_natAbs]; omega)
    cases p
    · cases q
      · simpa [sgn] using e
      · simp only [sgn, Bool.false_bne, if_true, Bool.false_eq_true, if_false]
        rw [e, Int.neg_mul_neg]
    · have : r = 0 := by
        refine Decidable.byContradiction fun hne => h ⟨rfl, by omega⟩
      subst this
      cases q
      · simp only [sgn, Bool.true_bne, Bool.not_false, if_true, Bool.false_eq_true, if_false]
        rw [e, Int.neg_mul]; omega
      · simp only [sgn, Bool.true_bne, Bool.not_true, if_true, Bool.false_eq_true, if_false]
        rw [e, Int.mul_neg]; omega

/-- What Gcd returns. -/
structure GcdP (a b g x y : Int) : Prop where
  e : g = Int.gcd a b
  z : b = 0 → x = a.sign ∧ y = 0
  n : b ≠ 0 → 0 ≤ x ∧ x * g < b.natAbs ∧ x * a + y * b = g
theorem GcdP.unique {a b g x y g' x' y' : Int} (h : GcdP a b g x y) (h' : GcdP a b g' x' y') : g = g' ∧ x = x' ∧ y = y' := by
  have hg : g = g' := h.e.trans h'.e.symm
  subst hg
  refine ⟨rfl, ?_⟩
  by_cases hb : b = 0
  · obtain ⟨h1, h2⟩ := h.z hb
    obtain ⟨h3, h4⟩ := h'.z hb
    exact ⟨h1.trans h3.symm, h2.trans h4.symm⟩
  · obtain ⟨a0, a1, a2⟩ := h.n hb
    obtain ⟨b0, b1, b2⟩ := h'.n hb
    have hgp : 0 < g := by
      have := h.e
      have h1 : 0 < Int.gcd a b := Int.gcd_pos_of_ne_zero_right _ hb
      omega
    have e1 : (x - x') * a = (y' - y) * b := by rw [Int.sub_mul, Int.sub_mul]; omega
    have e2 : (x - x') * g = (x * (y' - y) + y * (x - x')) * b := by
      have : (x - x') * (x * a + y * b) = (x * (y' - y) + y * (x - x')) * b := by
        rw [Int.mul_add, Int.add_mul, Int.mul_assoc x, ← e1]
        simp only [Int.mul_left_comm, Int.mul_comm, Int.mul_assoc]
      rw [a2] at this; exact this
    have e3 : ((x - x') * g).natAbs = (x * (y' - y) + y * (x - x')).natAbs * b.natAbs := by rw [e2, Int.natAbs_mul]
    have a3 : 0 ≤ x * g := Int.mul_nonneg a0 (by omega)
    have b3 : 0 ≤ x' * g := Int.mul_nonneg b0 (by omega)
    have e4 : ((x - x') * g).natAbs < b.natAbs := by rw [Int.sub_mul]; omega
    have hx : x = x' := by
      refine Decidable.byContradiction fun hne => ?_
      have h0 : (x - x') * g ≠ 0 := Int.mul_ne_zero (by omega) (by omega)
      by_cases hz : (x * (y' - y) + y * (x - x')).natAbs = 0
      · rw [hz, Nat.zero_mul] at e3
        omega
      · have := Nat.le_mul_of_pos_left b.natAbs (Nat.pos_of_ne_zero hz)
        omega
    subst hx
    refine ⟨rfl, ?_⟩
    have : (y' - y) * b = 0 := by rw [← e1, Int.sub_self, Int.zero_mul]
    rcases Int.mul_eq_zero.1 this with h1 | h1
    · omega
    · exact absurd h1 hb
theorem gcd_step (g h : Int) : Int.gcd h (g % h) = Int.gcd g h := by
  have e := Int.mul_ediv_add_emod g h
  have e2 : g % h = g - h * (g / h) := by omega
  rw [e2, Int.gcd_sub_mul_left_right, Int.gcd_comm]

/-- A round of Euclid: g and h are sums of multiples of a and b. -/
structure GI (a b g h x u : Int) : Prop where
  ex : ∃ y, x * a + y * b = g
  eu : ∃ v, u * a + v * b = h
  gcd : Int.gcd g h = Int.gcd a b
  g0 : 0 ≤ g
  h0 : 0 ≤ h
  sz : x.natAbs * h.natAbs + u.natAbs * g.natAbs ≤ 3 * b.natAbs

theorem lin_step {a b g h x u : Int} (ex : ∃ y, x * a + y * b = g) (eu : ∃ v, u * a + v * b = h) : ∃ v, (x - g / h * u) * a + v * b = g % h := by
  obtain ⟨y, hy⟩ := ex
  obtain ⟨v, hv⟩ := eu
  refine ⟨y - g / h * v, ?_⟩
  have e := Int.mul_ediv_add_emod g h
  have e2 : g % h = g - g / h * h := by rw [Int.mul_comm]; omega
  rw [e2]
  generalize g / h = q
  subst hy
  subst hv
  have e3 := Int.mul_add q (u * a) (v * b)
  rw [Int.sub_mul, Int.sub_mul, Int.mul_assoc q, Int.mul_assoc q, e3]
  omega

theorem GI.step {a b g h x u : Int} (H : GI a b g h x u) (hh : h ≠ 0) : GI a b h (g % h) u (x - g / h * u) := by
  have r0 := Int.emod_nonneg g hh
  refine ⟨H.eu, lin_step H.ex H.eu, (gcd_step g h).trans H.gcd, H.h0, r0, ?_⟩
  have hq0 : 0 ≤ g / h := Int.ediv_nonneg H.g0 H.h0
  have e := Int.mul_ediv_add_emod g h
  obtain ⟨G, rfl⟩ := Int.eq_ofNat_of_zero_le H.g0
  obtain ⟨K, rfl⟩ := Int.eq_ofNat_of_zero_le H.h0
  have e2 : (G : Int) % K = ((G % K : Nat) : Int) := rfl
  have e3 : (G : Int) / K = ((G / K : Nat) : Int) := rfl
  have hs := H.sz
  rw [e2, e3]
  simp only [Int.natAbs_natCast] at hs ⊢
  have h1 : (x - ((G / K : Nat) : Int) * u).natAbs ≤ x.natAbs + G / K * u.natAbs := by
    have := Int.natAbs_sub_le x (((G / K : Nat) : Int) * u)
    rwa [Int.natAbs_mul, Int.natAbs_natCast] at this
  have h2 : (x - ((G / K : Nat) : Int) * u).natAbs * K ≤ (x.natAbs + G / K * u.natAbs) * K := Nat.mul_le_mul_right _ h1
  have h3 : u.natAbs * (G % K) + (x.natAbs + G / K * u.natAbs) * K = x.natAbs * K + u.natAbs * G := by
    conv => rhs; rw [← Nat.mod_add_div G K]
    rw [Nat.add_mul, Nat.mul_add, Nat.mul_comm (G / K), Nat.mul_assoc, Nat.mul_comm (G / K) K]
    omega
  omega

theorem GI.start (a b : Int) : GI a b (a.natAbs : Int) (b.natAbs : Int) a.sign 0 := by
  refine ⟨⟨0, ?_⟩, ?_, ?_, by omega, by omega, ?_⟩
  · have := Int.mul_sign_self a; rw [Int.mul_comm] at this; omega
  · refine ⟨b.sign, ?_⟩
    have := Int.mul_sign_self b; rw [Int.mul_comm] at this; omega
  · simp [Int.gcd]
  · simp only [Int.natAbs_natCast, Int.natAbs_zero, Nat.zero_mul, Nat.add_zero]
    have : a.sign.natAbs ≤ 1 := by rcases Int.lt_trichotomy a 0 with h | h | h <;> simp [Int.sign_eq_neg_one_of_neg, Int.sign_eq_one_of_pos, h]
    have := Nat.mul_le_mul_right b.natAbs this
    omega

/-- The rounds of the reference, whose first two have numbers with signs. -/
def GR (a b g h x u : Int) : Prop := (g = a ∧ h = b ∧ x = 1 ∧ u = 0) ∨ (g = b ∧ b < 0 ∧ h = a % b ∧ x = 0 ∧ u = 1) ∨ GI a b g h x u
theorem GR.step {a b g h x u : Int} (H : GR a b g h x u) (hb : b ≠ 0) (hh : h ≠ 0) : GR a b h (g % h) u (x - g / h * u) := by
  rcases H with ⟨rfl, rfl, rfl, rfl⟩ | ⟨rfl, hlt, rfl, rfl, rfl⟩ | H
  · have r0 := Int.emod_nonneg g hh
    by_cases hneg : h < 0
    · exact .inr (.inl ⟨rfl, hneg, rfl, rfl, by simp⟩)
    · refine .inr (.inr ⟨⟨1, by simp⟩, ⟨-(g / h), ?_⟩, gcd_step g h, by omega, r0, ?_⟩)
      · have e := Int.mul_ediv_add_emod g h
        rw [Int.mul_zero, Int.sub_zero, Int.one_mul, Int.neg_mul, Int.mul_comm]; omega
      · simp; omega
  · have r0 := Int.emod_nonneg a hb
    have r1 := Int.emod_lt a hb
    have s0 := Int.emod_nonneg g hh
    have s1 := Int.emod_lt g hh
    have e := Int.mul_ediv_add_emod a g
    refine .inr (.inr ⟨⟨-(a / g), ?_⟩, ?_, ?_, r0, s0, ?_⟩)
    · rw [Int.one_mul, Int.neg_mul, Int.mul_comm]; omega
    · exact lin_step ⟨1, by simp⟩ ⟨-(a / g), by rw [Int.one_mul, Int.neg_mul, Int.mul_comm]; omega⟩
    · rw [gcd_step, Int.gcd_comm]
      exact (Int.gcd_comm _ _).trans (gcd_step a g)
    · have e' := Int.mul_ediv_add_emod g (a % g)
      have h1 : ((0 : Int) - g / (a % g) * 1).natAbs * (a % g).natAbs = (a % g * (g / (a % g))).natAbs := by
        rw [← Int.natAbs_mul, Int.mul_one, Int.zero_sub, Int.neg_mul, Int.natAbs_neg, Int.mul_comm]
      rw [h1]
      simp only [Int.natAbs_one, Nat.one_mul]
      omega
  · exact .inr (.inr (H.step hh))

/-- The end of Gcd. -/
theorem gcd_end {a b g x0 y0 : Int} (hg : g = Int.gcd a b) (hb : b ≠ 0) (h : x0 * a + y0 * b = g) : GcdP a b g (x0 % (b / g)) ((g - x0 % (b / g) * a) / b) := by
  have hgp : 0 < g := by
    have h1 : 0 < Int.gcd a b := Int.gcd_pos_of_ne_zero_right _ hb
    omega
  have da : g ∣ a := by rw [hg]; exact Int.gcd_dvd_left ..
  have db : g ∣ b := by rw [hg]; exact Int.gcd_dvd_right ..
  obtain ⟨a', ha⟩ := da
  have hm : b / g * g = b := Int.ediv_mul_cancel db
  have hm0 : b / g ≠ 0 := fun e => by rw [e, Int.zero_mul] at hm; exact hb hm.symm
  refine ⟨hg, fun e => absurd e hb, fun _ => ⟨Int.emod_nonneg _ hm0, ?_, ?_⟩⟩
  · have h1 := Int.emod_lt x0 hm0
    have h2 : (b / g).natAbs * g.natAbs = b.natAbs := by rw [← Int.natAbs_mul, hm]
    have h3 : (x0 % (b / g)) * g < ((b / g).natAbs : Int) * g := Int.mul_lt_mul_of_pos_right h1 hgp
    have h4 : ((b / g).natAbs : Int) * g = b.natAbs := by rw [← h2]; push_cast; congr 1; omega
    omega
  · have e := Int.mul_ediv_add_emod x0 (b / g)
    have e1 : x0 % (b / g) = x0 - (b / g) * (x0 / (b / g)) := by omega
    have e2 : g - x0 % (b / g) * a = (y0 + x0 / (b / g) * a') * b := by
      rw [e1, Int.sub_mul, Int.add_mul]
      have e3 : b / g * (x0 / (b / g)) * a = x0 / (b / g) * a' * b := by
        generalize x0 / (b / g) = t
        conv => rhs; rw [← hm]
        rw [ha]
        generalize b / g = s
        simp only [Int.mul_left_comm, Int.mul_comm, Int.mul_assoc]
      omega
    rw [e2, Int.mul_ediv_cancel _ hb]
    omega
theorem abs_quo_emod {b g x : Int} (db : g ∣ b) : x % ((b.natAbs : Int) / g) = x % (b / g) := by
  rcases Int.natAbs_eq b with h | h
  · rw [← h]
  · have e : (b.natAbs : Int) / g = -(b / g) := by
      have : (b.natAbs : Int) = -b := by omega
      rw [this, Int.neg_ediv_of_dvd db]
    rw [e, Int.emod_neg]
theorem gcd_zero_end (a : Int) : GcdP a 0 a.natAbs a.sign 0 := ⟨by simp, fun _ => ⟨rfl, rfl⟩, fun h => absurd rfl h⟩

end Go.Proofs.YtdehklhdjbkneaaDoor

/- The rules of the judgement, continued: words shifted and joined. -/
namespace Go.Proofs.YtdehklhdjbkneaaDoor
open Go Go.RowKit
set_option linter.unusedSimpArgs false
set_option linter.unusedVariables false
set_option linter.unusedSectionVars false

section
variable {c : Cx} {Q : Exit → Act → World → Prop} {m : Mode} {F : SFrame} {H : SHeap} {r : List SOp} {g : Option (Option Tmp × Bool)} {ns : Bool} {d : Tmp} {ty t t' : TypeId} {x y : Operand} {i j : Nat}

theorem r_shr32 {k : IntKind} (hd : dstOk c.n (some d) = true) (hg : guardF F g = some true) (hx : ev F x = some (uv i)) (hy : ev F y = some (.int k 32))
    (h : JO c Q m r ((d, uv (i / 4294967296)) :: F) H) : JO c Q m (⟨some d, .binOp .shr t x y t', ty, g, .mov, ns⟩ :: r) F H :=
  r_shrU (j := 32) hd hg hx hy (by omega) (by rw [show (2 : Nat) ^ 32 = 4294967296 from rfl]; exact h)
theorem r_shl32 {k : IntKind} (hd : dstOk c.n (some d) = true) (hg : guardF F g = some true) (hx : ev F x = some (uv i)) (hy : ev F y = some (.int k 32)) (hb : i < 4294967296)
    (h : JO c Q m r ((d, uv (i * 4294967296)) :: F) H) : JO c Q m (⟨some d, .binOp .shl t x y t', ty, g, .mov, ns⟩ :: r) F H :=
  r_shlU (j := 32) hd hg hx hy (by omega) (by rw [show (2 : Nat) ^ 32 = 4294967296 from rfl, Nat.mod_eq_of_lt (by omega)]; exact h)
theorem or32 {i j : Nat} (hj : j < 4294967296) : i * 4294967296 ||| j = i * 4294967296 + j := by
  have := Nat.two_pow_add_eq_or_of_lt (i := 32) (b := j) (by simpa using hj) i
  rw [show (2 : Nat) ^ 32 = 4294967296 from rfl, Nat.mul_comm] at this
  exact this.symm
theorem r_or32 (hd : dstOk c.n (some d) = true) (hg : guardF F g = some true) (hx : ev F x = some (uv (i * 4294967296))) (hy : ev F y = some (uv j)) (hb : i < 4294967296 ∧ j < 4294967296)
    (h : JO c Q m r ((d, uv (i * 4294967296 + j)) :: F) H) : JO c Q m (⟨some d, .binOp .or t x y t', ty, g, .mov, ns⟩ :: r) F H :=
  r_orU hd hg hx hy (by omega) (by rw [or32 hb.2]; exact h)
/-- A word shifted, the result given. -/
theorem r_shlV {k : IntKind} (s : Nat) (hd : dstOk c.n (some d) = true) (hg : guardF F g = some true) (hx : ev F x = some (uv i)) (hy : ev F y = some (.int k j)) (hj : j ≤ 64) (hs : i * 2 ^ j % 18446744073709551616 = s)
    (h : JO c Q m r ((d, uv s) :: F) H) : JO c Q m (⟨some d, .binOp .shl t x y t', ty, g, .mov, ns⟩ :: r) F H :=
  r_shlU hd hg hx hy hj (by rw [hs]; exact h)
/-- Words joined, the result given. -/
theorem r_orV (s : Nat) (hd : dstOk c.n (some d) = true) (hg : guardF F g = some true) (hx : ev F x = some (uv i)) (hy : ev F y = some (uv j)) (hb : i < 18446744073709551616 ∧ j < 18446744073709551616) (hs : i ||| j = s)
    (h : JO c Q m r ((d, uv s) :: F) H) : JO c Q m (⟨some d, .binOp .or t x y t', ty, g, .mov, ns⟩ :: r) F H :=
  r_orU hd hg hx hy hb (by rw [hs]; exact h)
end

/-- The first places of an owned row. -/
theorem OwnU.hd {N : SHeap} {A : Option Addr} {n k cap : Nat} {xs : List Nat} (h : OwnU N (.slice A n cap) n xs) (hk : k ≤ n) : OwnU N (.slice A k cap) k (xs.take k) := by
  have hl := h.len
  obtain ⟨h1, ⟨h2, h3, h4⟩ | ⟨b, cap', cur, h2, h3, h4, h5, h6, h7⟩⟩ := h
  · subst h4
    subst h3
    obtain rfl : k = 0 := by omega
    have h0 : xs = [] := List.eq_nil_of_length_eq_zero hl
    subst h0
    rw [h2]
    exact OwnU.nil
  · simp only [Value.slice.injEq, true_and] at h2
    obtain ⟨rfl, rfl⟩ := h2
    refine ⟨by simp; omega, .inr ⟨b, cap, cur, rfl, h3, by omega, h5, h6, ?_⟩⟩
    rw [Nat.mul_one] at h7 ⊢
    rw [List.map_take, ← h7, List.take_take, Nat.min_eq_left hk]

theorem mul_round {W P V V' x y c z s A : Nat} (hV : V' + P * z = V + P * (s % W)) (hs : s = z + x * y + c) (h : V + P * c = A) : V' + P * W * (s / W) = A + P * (x * y) := by
  have h1 : P * (s % W) + P * W * (s / W) = P * s := by rw [Nat.mul_assoc, ← Nat.mul_add, Nat.mod_add_div]
  have h2 : P * s = P * z + P * (x * y) + P * c := by rw [hs, Nat.mul_add, Nat.mul_add]
  omega
theorem mul_bound {x y : Nat} (hx : x < 4294967296) (hy : y < 4294967296) : x * y ≤ 18446744065119617025 := by
  have := Nat.mul_le_mul (show x ≤ 4294967295 by omega) (show y ≤ 4294967295 by omega)
  omega
theorem getD_set_ne {l : List Nat} {i j u : Nat} (h : i ≠ j) : (l.set i u).getD j 0 = l.getD j 0 := by
  rw [List.getD, List.getElem?_set_ne h]; rfl
theorem set_lt {b : Nat} {l : List Nat} {i u : Nat} (hl : ∀ x ∈ l, x < b) (hu : u < b) : ∀ x ∈ l.set i u, x < b := fun x hx => by
  rcases List.mem_or_eq_of_mem_set hx with h | rfl
  · exact hl x h
  · exact hu
theorem getD_over {l : List Nat} {i : Nat} (h : l.length ≤ i) : l.getD i 0 = 0 := by rw [List.getD, List.getElem?_eq_none h]; rfl
theorem val_zeros (b n : Nat) : val b (tab n fun _ => 0) = 0 := by
  have key : ∀ l : List Nat, (∀ x ∈ l, x = 0) → val b l = 0 := by
    intro l
    induction l with
    | nil => intro _; rfl
    | cons x l ih => intro h; rw [val, h x (by simp), ih fun y hy => h y (List.mem_cons_of_mem _ hy)]; simp
  refine key _ fun x hx => ?_
  obtain ⟨a, _, rfl⟩ := List.mem_map.1 hx
  rfl

end Go.Proofs.YtdehklhdjbkneaaDoor

/- The rules of the judgement, continued: clear and copy over a part of a block of words; blocks of words read. -/
namespace Go.Proofs.YtdehklhdjbkneaaDoor
open Go Go.RowKit
set_option linter.unusedSimpArgs false
set_option linter.unusedVariables false
set_option linter.unusedSectionVars false

/-- A slice of a block of words, read. -/
theorem WU.ofBlk {w : World} {b o k cc : Nat} {us : List Nat} {rest : List Value} {T : TypeId} {fz : Nat × Nat} (h : w.heap[b]? = some (.cells (rowCU us rest) T fz)) (ho : o + k ≤ us.length) (hc : k ≤ cc) : WU w (.slice (some ⟨b, o, none⟩) k cc) k ((us.drop o).take k) := by
  refine ⟨by simp; omega, _, cc, rfl, hc, fun h0 => ⟨⟨b, o, rfl⟩, fun j u hu => ?_⟩⟩
  rw [vAt_lit]
  refine cell_of_blk h ?_
  rw [List.map_take, List.map_drop, List.getElem?_take] at hu
  split at hu
  · rw [List.getElem?_drop] at hu
    have e : (rowCU us rest)[o + j]? = (us.map uv ++ rest)[o + j]? := by simp [rowCU]
    rw [e]
    rw [List.getElem?_append_left (by simp; omega)]
    exact hu
  · cases hu

section
variable {c : Cx} {Q : Exit → Act → World → Prop} {m : Mode} {F : SFrame} {H : SHeap} {r : List SOp} {g : Option (Option Tmp × Bool)} {ns : Bool} {d : Tmp} {ty t t' : TypeId} {x y : Operand}

/-- An operation that turns the cells of one block. -/
theorem r_turn {A B : SHeap} {b : Nat} {cur new : Array Value} {T : TypeId} {op : Op} {dd : Option Tmp} {v : Value} (hH : H = A ++ ([(b, .cells cur T (0, 0))] ++ B)) (hm : m.mayStore ns r) (hd : dstOk c.n dd = true) (hg : guardF F g = some true)
    (hx : ∀ a w, St c F H a w → (execOp a.eval ⟨dd, op, ty, "", #[], none⟩).run c.P w = .ok (.value v) (w.setRow b new))
    (h : JO c Q m.spent r (putF F dd v) (A ++ ([(b, .cells new T (0, 0))] ++ B))) : JO c Q m (⟨dd, op, ty, g, .seq, ns⟩ :: r) F H := by
  subst hH
  refine ⟨⟨hd, .inr ⟨hg, fun a w st hs => ?_⟩⟩⟩
  unfold Oper.wp SOp.oper
  rw [hx a w st]
  have hp : (A ++ ([(b, Obj.cells cur T (0, 0))] ++ B)).Perm ((A ++ B) ++ [(b, Obj.cells cur T (0, 0))]) := (perm_mid A _ B).symm
  have hbw : w.heap[b]? = some (.cells cur T (0, 0)) := st.hs.blk (b, .cells cur T (0, 0)) (by simp)
  obtain ⟨st', hstep, hkk⟩ := turn_step (w' := w.setRow b new) (N' := [(b, .cells new T (0, 0))]) st hp (by simp) (fun q hq => by cases List.mem_singleton.1 hq; exact setRow_heap w b _ _ _ _ hbw) (fun k hk => .inl hk) (fun q _ hq => setRow_other w b q _ (fun e => hq (by subst e; simp [keys]))) (by simp [World.setRow]) rfl rfl rfl
  refine ⟨hstep, _, _, m.spent, (st'.perm (perm_mid A _ B)).put v hd, fun k hk' => hkk k ?_, Mode.after_spent hm, h.h⟩
  obtain ⟨q, hq, rfl⟩ := List.mem_map.1 hk'
  exact List.mem_map.2 ⟨q, (perm_mid A _ B).mem_iff.2 hq, rfl⟩

theorem rowCU_seg {us ys : List Nat} {rest : List Value} {o k : Nat} (ho : o + k ≤ us.length) : ((rowCU us rest).toList.take o ++ (ys.take k).map uv ++ (rowCU us rest).toList.drop (o + k)).toArray = rowCU (segSet o k ys us) rest := by
  apply Array.ext'
  show (us.map uv ++ rest).take o ++ (ys.take k).map uv ++ (us.map uv ++ rest).drop (o + k) = (segSet o k ys us).map uv ++ rest
  rw [List.take_append_of_le_length (by simp; omega), List.drop_append_of_le_length (by simp; omega)]
  simp [segSet, List.map_take, List.map_drop]

/-- 'clear(s)', s a part of a block of words. -/
theorem r_clearU {A B : SHeap} {b o n cc : Nat} {us : List Nat} {rest : List Value} {T : TypeId} [TSl c.P t 68] [TE c.P 68 1 8 #[(.int .u64 0)]] (hH : H = A ++ ([(b, .cells (rowCU us rest) T (0, 0))] ++ B)) (hm : m.mayStore ns r) (hg : guardF F g = some true) (hx : ev F x = some (.slice (some ⟨b, o, none⟩) n cc))
    (hn : 0 < n) (ho : o + n ≤ us.length) (h : JO c Q m.spent r F (A ++ ([(b, .cells (rowCU (segSet o n (List.replicate n 0) us) rest) T (0, 0))] ++ B))) :
    JO c Q m (⟨none, .call ⟨.builtin .clear, #[x], #[t]⟩, ty, g, .seq, ns⟩ :: r) F H := by
  refine r_turn (v := .tuple #[]) hH hm rfl hg (fun a w st => ?_) h
  obtain ⟨i, z, hi, hi1, hi2, hz, hzc⟩ := TE.info (P := c.P) (e := 68) (sz := 1) (bytes := 8) (zc := #[(.int .u64 0)])
  have hbw : w.heap[b]? = some (.cells (rowCU us rest) T (0, 0)) := st.hs.blk (b, _) (by rw [hH]; simp)
  have hargs : (#[x] : Array Operand).map a.eval = #[.slice (some ⟨b, o, none⟩) n cc] := by simp [st.fr.ev hx]
  have hst := run_storeCells_at c.P b o T ((List.replicate n 0).map uv) 0 (rowCU us rest) w hbw (by rw [rowCU_size]; simp; omega) (fun u hu => by obtain ⟨q, _, rfl⟩ := List.mem_map.1 hu; rfl)
  have e := rowCU_seg (ys := List.replicate n 0) (rest := rest) ho
  rw [List.take_of_length_le (l := List.replicate n 0) (i := n) (by simp)] at e
  rw [List.length_map, List.length_replicate, Nat.add_zero, e] at hst
  rw [List.map_replicate] at hst
  have hzl : (Builtin.zeroCells #[(.int .u64 0)] n).toList = List.replicate n (uv 0) := by
    simp only [Builtin.zeroCells]
    apply List.ext_getElem
    · simp
    · intro i h1 h2
      simp [Nat.mod_one]
  obtain ⟨k, rfl⟩ : ∃ k, n = k + 1 := ⟨n - 1, by omega⟩
  have ht := TSl.und (P := c.P) (t := t) (e := 68)
  have hzv : (zeroValue 68).run c.P w = .ok z w := by simp [zeroValue, typeInfo, hi, hz]
  have hrun : (Builtin.clear_ #[t] ty #[.slice (some ⟨b, o, none⟩) (k + 1) cc]).run c.P w = .ok (.tuple #[]) (w.setRow b (rowCU (segSet o (k + 1) (List.replicate (k + 1) 0) us) rest)) := by
    simp [Builtin.clear_, run_underlying ht, hzv, hzc, hzl, hst]
  show (do let d ← resolve a.eval ⟨.builtin .clear, #[x], #[t]⟩ ty; invoke d.target d.args).run c.P w = _
  simp only [resolve, Sem.run_bind, Sem.run_pure, Result.andThen_ok, invoke, builtin, hargs]
  simp [hrun]

/-- 'copy(s, src)', s a part of a block of words. -/
theorem r_copyU {A B N2 : SHeap} {b o n cc k : Nat} {us ys : List Nat} {rest : List Value} {T : TypeId} {vs : Value} [TSl c.P t 68] [TE c.P 68 1 8 #[(.int .u64 0)]] (hH : H = A ++ ([(b, .cells (rowCU us rest) T (0, 0))] ++ B)) (h2 : RdU c N2 vs k ys) (hN2 : HSub N2 H) (hm : m.mayStore ns r) (hd : dstOk c.n (some d) = true) (hg : guardF F g = some true)
    (hx : ev F x = some (.slice (some ⟨b, o, none⟩) n cc)) (hy : ev F y = some vs) (hk : k ≤ n) (ho : o + n ≤ us.length) (h : JO c Q m.spent r ((d, goInt k) :: F) (A ++ ([(b, .cells (rowCU (segSet o k ys us) rest) T (0, 0))] ++ B))) :
    JO c Q m (⟨some d, .call ⟨.builtin .copy, #[x, y], #[t, t]⟩, ty, g, .seq, ns⟩ :: r) F H := by
  refine r_turn (v := goInt k) hH hm hd hg (fun a w st => ?_) h
  obtain ⟨i, z, hi, hi1, _⟩ := TE.info (P := c.P) (e := 68) (sz := 1) (bytes := 8) (zc := #[(.int .u64 0)])
  have hyl := h2.len
  obtain ⟨_, A2, c2, rfl, _, hrd⟩ := h2
  have hbw : w.heap[b]? = some (.cells (rowCU us rest) T (0, 0)) := st.hs.blk (b, _) (by rw [hH]; simp)
  have hargs : (#[x, y] : Array Operand).map a.eval = #[.slice (some ⟨b, o, none⟩) n cc, .slice A2 k c2] := by simp [st.fr.ev hx, st.fr.ev hy]
  have hrun : (Builtin.copy_ #[t, t] ty #[.slice (some ⟨b, o, none⟩) n cc, .slice A2 k c2]).run c.P w = .ok (goInt k) (w.setRow b (rowCU (segSet o k ys us) rest)) := by
    rcases Nat.eq_zero_or_pos k with h0 | h0
    · subst h0
      rw [segSet_zero, setRow_self w b _ _ _ hbw]
      cases A2 <;> simp [Builtin.copy_, run_underlying (TSl.und (P := c.P) (t := t)), Builtin.lenOf, Builtin.firstCells, sizeOf, typeInfo, hi, loadCells, loadCellsFrom, storeCells]
    · obtain ⟨⟨b2, o2, rfl⟩, hcell⟩ := hrd h0
      have hlt : (ys.take k).length = k := by simp; omega
      have hr := run_copy_row (P := c.P) w t t ty 68 b o n cc ⟨b2, o2, none⟩ k c2 (rowCU us rest) T ((ys.take k).map uv) (TSl.und (P := c.P) (t := t)) (by rw [hi]; simp [hi1]) hbw (by rw [List.length_map, hlt]; exact (Nat.min_eq_left hk).symm)
        (fun j u hu => by
          rw [add_none]
          refine hcell w ⟨st.kp, hN2.hsat st.hs⟩ j u ?_
          rw [List.map_take, List.getElem?_take] at hu
          split at hu
          · exact hu
          · cases hu) (by rw [List.length_map, hlt, rowCU_size]; omega) (fun u hu => by obtain ⟨q, _, rfl⟩ := List.mem_map.1 hu; rfl)
      rw [List.length_map, hlt, rowCU_seg (by omega)] at hr
      exact hr
  show (do let d ← resolve a.eval ⟨.builtin .copy, #[x, y], #[t, t]⟩ ty; invoke d.target d.args).run c.P w = _
  simp only [resolve, Sem.run_bind, Sem.run_pure, Result.andThen_ok, invoke, builtin, hargs]
  simp [hrun]
end

end Go.Proofs.YtdehklhdjbkneaaDoor

/- The rules of the judgement, continued: a word less one, the tail of a slice. -/
namespace Go.Proofs.YtdehklhdjbkneaaDoor
open Go Go.RowKit
set_option linter.unusedSimpArgs false
set_option linter.unusedVariables false
set_option linter.unusedSectionVars false

theorem hs_ne {H : SHeap} {w : World} {b b' : Nat} {o o' : Obj} (h : Hsat H w) (k k' : Nat) (hk : H[k]? = some (b, o)) (hk' : H[k']? = some (b', o')) (hne : k ≠ k') : b ≠ b' := by
  intro e
  subst e
  have e1 : (H.map (·.1))[k]? = some b := by simp [hk]
  have e2 : (H.map (·.1))[k']? = some b := by simp [hk']
  have hl := (List.getElem?_eq_some_iff.1 e1).1
  exact hne ((List.getElem?_inj hl h.nd).1 (e1.trans e2.symm))

section
variable {c : Cx} {Q : Exit → Act → World → Prop} {m : Mode} {F : SFrame} {H : SHeap} {r : List SOp} {g : Option (Option Tmp × Bool)} {ns : Bool} {d : Tmp} {ty t t' : TypeId} {x y : Operand} {i j : Nat}
theorem r_decU (hd : dstOk c.n (some d) = true) (hg : guardF F g = some true) (hx : ev F x = some (uv i)) (hy : ev F y = some (.int .u64 1)) (hb : 1 ≤ i ∧ i < 18446744073709551616)
    (h : JO c Q m r ((d, uv (i - 1)) :: F) H) : JO c Q m (⟨some d, .binOp .sub t x y t', ty, g, .mov, ns⟩ :: r) F H :=
  r_subU (j := 1) hd hg hx hy (by omega) (by rw [show (i + (18446744073709551616 - 1)) % 18446744073709551616 = i - 1 by omega]; exact h)
/-- 's[l:]'. -/
theorem r_tail {e : TypeId} {b o o' len cap l : Nat} {lo : Operand} [TSl c.P t e] [TSz c.P e 1] (hd : dstOk c.n (some d) = true) (hg : guardF F g = some true)
    (hx : ev F x = some (.slice (some ⟨b, o, none⟩) len cap)) (hlo : ev F lo = some (nv l)) (ho : o + l = o') (hlh : l < len) (hlc : len ≤ cap)
    (h : JO c Q m r ((d, (.slice (some ⟨b, o', none⟩) (len - l) (cap - l))) :: F) H) : JO c Q m (⟨some d, .slice t x (some lo) none none, ty, g, .mov, ns⟩ :: r) F H :=
  r_slice (b := b) (o := o) (h' := len) (vh := none) hd hg hx (fun _ => rfl) hlo rfl (.inl rfl) rfl rfl (.inr ⟨rfl, rfl⟩) (by omega) (Nat.le_refl _) hlc (fun A' hA' => by
    obtain rfl := hA' hlh
    rw [Nat.mul_one, ho]
    exact h)
end

/-- The names of a row that is not empty. -/
theorem OwnU.blk {N : SHeap} {v : Value} {n : Nat} {xs : List Nat} (h : OwnU N v n xs) (hn : 0 < n) : ∃ b cap rest, v = .slice (some ⟨b, 0, none⟩) n cap ∧ N = [(b, .cells (rowCU xs rest) 68 (0, 0))] ∧ n ≤ cap ∧ rest.length = cap - n ∧ cap ≤ maxLen := h.named hn

/-- The rest of a division that was scaled. -/
theorem div_final {p X Y Q R : Nat} (hp : 0 < p) (h : R + p * Y * Q = p * X) (hR : R < p * Y) : X = Q * Y + R / p ∧ R / p < Y := by
  rw [Nat.mul_assoc] at h
  have h1 : p * (Y * Q) ≤ p * X := by omega
  have h2 : Y * Q ≤ X := Nat.le_of_mul_le_mul_left h1 hp
  have h3 : R = p * (X - Y * Q) := by rw [Nat.mul_sub]; omega
  have h4 : R / p = X - Y * Q := by rw [h3, Nat.mul_div_cancel_left _ hp]
  rw [h4, Nat.mul_comm Q Y]
  refine ⟨by omega, ?_⟩
  rw [h3] at hR
  exact Nat.lt_of_mul_lt_mul_left hR
/-- The length of the divisor behind the shift. -/
theorem shift_len {s k : Nat} {ys vs : List Nat} (hs : s ≤ 31) (hk : ys.length = k) (hk0 : 0 < k) (hy : Dig 4294967296 ys) (ht : ys.getD (k - 1) 0 * 2 ^ s < 4294967296) (hv : Dig 4294967296 vs) (h : val 4294967296 vs = 2 ^ s * val 4294967296 ys) : vs.length = k ∧ 2 ^ s * 4294967296 ^ (k - 1) ≤ val 4294967296 vs := by
  have hp0 : 0 < 2 ^ s := Nat.pow_pos (by decide)
  have hne : ys ≠ [] := fun e => by subst e; simp at hk; omega
  have h1 := val_ge (b := 4294967296) (by decide) hy.nrm hne
  rw [hk] at h1
  have h2 : 2 ^ s * 4294967296 ^ (k - 1) ≤ val 4294967296 vs := by rw [h]; exact Nat.mul_le_mul_left _ h1
  refine ⟨?_, h2⟩
  have htop : ys.getD (k - 1) 0 < 2 ^ (32 - s) := by
    refine Nat.lt_of_mul_lt_mul_right (a := 2 ^ s) ?_
    rw [← Nat.pow_add, show 32 - s + s = 32 by omega]
    exact ht
  have h3 : val 4294967296 ys < (ys.getD (k - 1) 0 + 1) * 4294967296 ^ (k - 1) := by
    have e := val_cut 4294967296 ys (k - 1) (by omega)
    rw [val_drop (by omega), val_drop_nil (by omega), Nat.mul_zero, Nat.add_zero] at e
    have h4 := val_take_lt hy.lt (k := k - 1) (by omega)
    rw [e, Nat.add_mul, Nat.one_mul, Nat.mul_comm (ys.getD (k - 1) 0)]
    omega
  have h5 : val 4294967296 vs < 4294967296 ^ k := by
    rw [h]
    have h6 : 2 ^ s * val 4294967296 ys < 2 ^ s * ((ys.getD (k - 1) 0 + 1) * 4294967296 ^ (k - 1)) := Nat.mul_lt_mul_of_pos_left h3 hp0
    refine Nat.lt_of_lt_of_le h6 ?_
    have h7 : 2 ^ s * (ys.getD (k - 1) 0 + 1) ≤ 4294967296 := by
      have : (ys.getD (k - 1) 0 + 1) * 2 ^ s ≤ 2 ^ (32 - s) * 2 ^ s := Nat.mul_le_mul_right _ htop
      rw [← Nat.pow_add, show 32 - s + s = 32 by omega] at this
      rw [Nat.mul_comm]
      exact this
    rw [← Nat.mul_assoc]
    have e : (4294967296 : Nat) ^ k = 4294967296 * 4294967296 ^ (k - 1) := by
      conv => lhs; rw [show k = k - 1 + 1 by omega, Nat.pow_succ, Nat.mul_comm]
    rw [e]
    exact Nat.mul_le_mul_right _ h7
  have h8 := hv.len_le (by decide) h5
  refine Nat.le_antisymm h8 ?_
  refine Decidable.byContradiction fun hlt => ?_
  have h9 : val 4294967296 vs < 4294967296 ^ (k - 1) := by
    refine Nat.lt_of_lt_of_le (val_lt hv.lt) (Nat.pow_le_pow_right (by decide) (by omega))
  have h10 : 4294967296 ^ (k - 1) ≤ 2 ^ s * 4294967296 ^ (k - 1) := Nat.le_mul_of_pos_left _ hp0
  omega
/-- At the start, the dividend's top is less than the divisor. -/
theorem shift_top {s k n V : Nat} {us : List Nat} (hu : ∀ x ∈ us, x < 4294967296) (hl : us.length = n + 1) (hk : 1 ≤ k) (hkn : k ≤ n) (ht : us.getD n 0 < 2 ^ s) (hV : 2 ^ s * 4294967296 ^ (k - 1) ≤ V) : val 4294967296 (us.drop (n + 1 - k)) < V := by
  have hd : ∀ x ∈ us.drop (n + 1 - k), x < 4294967296 := fun x hx => hu x (List.mem_of_mem_drop hx)
  have hlen : (us.drop (n + 1 - k)).length = k := by simp; omega
  have e := val_cut 4294967296 (us.drop (n + 1 - k)) (k - 1) (by omega)
  rw [val_drop (l := us.drop (n + 1 - k)) (k := k - 1) (by omega), val_drop_nil (l := us.drop (n + 1 - k)) (k := k - 1 + 1) (by omega), getD_drop, show n + 1 - k + (k - 1) = n by omega] at e
  simp only [Nat.mul_zero, Nat.add_zero] at e
  have h1 := val_take_lt hd (k := k - 1) (by omega)
  rw [e]
  have h2 : 4294967296 ^ (k - 1) * (us.getD n 0 + 1) ≤ 4294967296 ^ (k - 1) * 2 ^ s := Nat.mul_le_mul_left _ ht
  rw [Nat.mul_add, Nat.mul_one, Nat.mul_comm _ (2 ^ s)] at h2
  omega

end Go.Proofs.YtdehklhdjbkneaaDoor

/- The rules of the judgement, continued: stores ahead of loads that may come later. -/
namespace Go.Proofs.YtdehklhdjbkneaaDoor
open Go Go.RowKit
set_option linter.unusedSimpArgs false
set_option linter.unusedVariables false
set_option linter.unusedSectionVars false

section
variable {c : Cx} {Q : Exit → Act → World → Prop} {m : Mode} {F : SFrame} {H Hs : SHeap} {r : List SOp} {g : Option (Option Tmp × Bool)} {ns : Bool} {d : Tmp} {ty t t' : TypeId} {x y : Operand}

theorem storeL_full {vs cs : Array Value} (h : vs.size = cs.size) : storeL cs 0 vs.toList = vs := by
  have key : ∀ (l : List Value) (cs : Array Value) (o : Nat), o + l.length = cs.size → (storeL cs o l).toList = cs.toList.take o ++ l := by
    intro l
    induction l with
    | nil =>
      intro cs o h
      simp only [List.length_nil, Nat.add_zero] at h
      rw [storeL, List.append_nil, List.take_of_length_le (by simp [h])]
    | cons v l ih =>
      intro cs o h
      simp only [List.length_cons] at h
      rw [storeL, ih _ _ (by rw [Array.size_setIfInBounds]; omega), Array.toList_setIfInBounds]
      have hlt : o < (cs.toList.set o v).length := by simp; omega
      rw [List.take_succ_eq_append_getElem hlt, List.take_set_of_le (Nat.le_refl _)]
      simp
  have := key vs.toList cs 0 (by simp; omega)
  apply Array.ext'
  simpa using this

/-- A struct stored over a whole block, while loads may come later: what they read is a part of the heap behind it. -/
theorem r_storeKN {b n : Nat} (k : Nat) {cs vs : Array Value} {T : TypeId} [TN c.P t n] (hg : guardF F g = some true) (hx : ev F x = some (.pointer (some ⟨b, 0, none⟩))) (hy : ev F y = some (.agg vs))
    (hb : H[k]? = some (b, .cells cs T (0, 0))) (hn : vs.size = n) (hn' : cs.size = n) (hv : (vs.toList.all (·.oneCell')) = true) (hHs : HSub Hs (H.set k (b, .cells vs T (0, 0)))) (h : JO c Q (.draw Hs true) r F (H.set k (b, .cells vs T (0, 0)))) :
    JO c Q (.draw Hs true) (⟨none, .store t x y, ty, g, .seq, ns⟩ :: r) F H := by
  refine ⟨⟨rfl, .inr ⟨hg, fun a w st _ => ?_⟩⟩⟩
  have hm' : (b, Obj.cells cs T (0, 0)) ∈ H := List.mem_of_getElem? hb
  obtain ⟨w', h1, h2, h3, h4, h5, h6, h7⟩ := run_storeAt (P := c.P) (t := t) (n := n) TN.size (o := 0) (v := .agg vs) (w := w) (by show vs.size = n; exact hn) (by show ∀ u ∈ vs.toList, _; exact List.all_eq_true.1 hv) (st.hs.blk _ hm') (by omega)
  have h2 : w'.heap[b]? = some (.cells (storeL cs 0 vs.toList) T (0, 0)) := h2
  rw [storeL_full (by omega)] at h2
  obtain ⟨st', hstep⟩ := setBlk st hb h2 h3 h4 h5 h6 h7
  unfold Oper.wp SOp.oper
  simp only [execOp, st.fr.ev hx, st.fr.ev hy, Sem.run_bind, h1, Result.andThen_ok, Sem.run_pure]
  exact ⟨hstep, F, _, .draw Hs true, st', fun j hj => .inl (keys_set hb j hj), ⟨rfl, fun _ => ⟨rfl, hHs.hsat st'.hs⟩, fun _ => rfl, .inl rfl⟩, h.h⟩

/-- A load of a struct, as a step of its own. -/
theorem r_ldNS {b n : Nat} (k : Nat) {cs : Array Value} {T : TypeId} {fz : Nat × Nat} [TN c.P t n] (hm : m.mayCall ns r) (hd : dstOk c.n (some d) = true) (hg : guardF F g = some true) (hx : ev F x = some (.pointer (some ⟨b, 0, none⟩)))
    (hb : H[k]? = some (b, .cells cs T fz)) (hn : cs.size = n) (h : JO c Q m r ((d, (.agg cs)) :: F) H) : JO c Q m (⟨some d, .load t x, ty, g, .seq, ns⟩ :: r) F H :=
  r_seqR (v := .agg cs) hm hd hg (fun a w fr hs => by
    have := run_loadN (P := c.P) (t := t) (n := n) (w := w) (b := b) (o := 0) (vs := cs) hn (fun j hj => by
      have hj' : j < cs.size := by omega
      rw [Nat.zero_add, Array.getElem?_eq_getElem hj']
      exact src_cell hs hb (Array.getElem?_eq_getElem hj'))
    simp only [execOp, fr.ev hx, Sem.run_bind, this, Result.andThen_ok, Sem.run_pure]) h
end

/-- A region in which i and j may come up in either order, of whose heap the part Hs stays while it loads. -/
theorem JC.forkS {c : Cx} {Q : Exit → Act → World → Prop} {F : SFrame} {H : SHeap} {id : Nat} {ops : Array Oper} (Hs : SHeap) (hHs : HSub Hs H) (i j : Nat) (kd : Nat → Op → Kind) (t1 t2 : Nat) (o1 o2 : List Nat) (hij : i ≠ j) (hm : c.P.follows .mixedOrders = true)
    (hB1 : canonB c.P kd (edge ops i j) o1 t1 = true) (hB2 : canonB c.P kd (edge ops j i) o2 t2 = true)
    (h1 : JO c Q (.draw Hs true) (sopsAt kd ops t1 o1) F H) (h2 : JO c Q (.draw Hs true) (sopsAt kd ops t2 o2) F H) : JC c Q (.raw (.region id ops true)) F H := ⟨fun a w st => by
  show (Code.region id ops true).wp c.P Q a w
  refine wp_mono ?_ (fun e a w h => Only.up e a w h)
  have a1 := any_of_canon (Q := Q) hB1 st (hHs.hsat st.hs) (by rw [sopsAt_edge]; exact h1.h)
  have a2 := any_of_canon (Q := Q) hB2 st (hHs.hsat st.hs) (by rw [sopsAt_edge]; exact h2.h)
  rw [edge_size] at a1 a2
  refine wp_region_draw fun t => ?_
  simp only [Region.schedule, hm, Bool.true_or, if_true]
  rcases ordr_fork hij _ _ _ (ordr_go (ops := ops) ops.size t (Array.replicate ops.size false)) with h | h
  · obtain ⟨t', ht⟩ := go_ordr _ _ _ h
    have := wpAny_sound ops.size t' _ a _ a1
    rw [ht] at this
    exact wpOps_edge _ _ _ this
  · obtain ⟨t', ht⟩ := go_ordr _ _ _ h
    have := wpAny_sound ops.size t' _ a _ a2
    rw [ht] at this
    exact wpOps_edge _ _ _ this⟩

end Go.Proofs.YtdehklhdjbkneaaDoor

/- The product of words. -/
namespace Go.Proofs.YtdehklhdjbkneaaDoor
open Go Go.RowKit
set_option linter.unusedSimpArgs false
set_option linter.unusedVariables false
set_option linter.unusedSectionVars false

set_option maxHeartbeats 8000000 in
theorem c_mulW (w : World) (v u : Value) (n k : Nat) (xs ys : List Nat) (hv : WU w v n xs) (hu : WU w u k ys) (hx : ∀ x ∈ xs, x < W32) (hy : ∀ x ∈ ys, x < W32) (hn : n ≤ 1000000) (hk : k ≤ 1000000) :
    Calls Tryd.prog 43 #[v, u] w (Ret fun v w' => Kp [] w w' ∧ ∃ N zs, New N w w' ∧ OwnU N v zs.length zs ∧ Dig W32 zs ∧ val W32 zs = val W32 xs * val W32 ys) := by
  have hlx := hv.len
  have hly := hu.len
  refine calls_of_S [] [] (by simp) [] Tryd.func43 rfl mixed (by kernel_rfl) Tryd.ntmps43 Tryd.results43 rfl ⟨by simp, by simp⟩ (by simp) ?_
  simp only [toS, textOps, toSOp, kindAt, kindOf, odAt, sopsAt, ordOf, zipF]
  (repeat' (first | refine JC.seq ?_ | refine JC.ops ?_ | refine JO.nil ?_ | refine JX.thenN ?_ | (apply r_move; exact rfl; exact rfl; exact rfl) | (apply r_assign; exact rfl; exact rfl; exact rfl) | (apply r_addN; exact rfl; exact rfl; exact rfl; exact rfl; omega) | (apply r_lenU; exact rfl; exact rfl; exact rfl; (first | assumption | exact WU.rd (by assumption) rfl [] | exact OwnU.rd (by assumption)))))
  refine r_make (n := n + k) rfl rfl rfl rfl rfl (by omega) (by omega) (fun b5 => ?_)
  have hO := own_zerosU b5 (n + k) (by simp only [maxLen]; omega)
  (repeat' (first | refine JC.seq ?_ | refine JC.ops ?_ | refine JO.nil ?_ | refine JX.thenN ?_ | (apply r_move; exact rfl; exact rfl; exact rfl) | (apply r_assign; exact rfl; exact rfl; exact rfl) | (apply r_lenU; exact rfl; exact rfl; exact rfl; (first | assumption | exact WU.rd (by assumption) rfl [] | exact OwnU.rd (by assumption))) | refine JC.block ?_))
  refine JC.loopH (ι := Nat × SHeap × List Nat) ⟨fun z => [(20, nv z.1), (19, nv n), (18, v), (5, .slice (some ⟨b5, 0, none⟩) (n + k) (n + k)), (0, v), (1, u)], fun z => z.2.1 ++ [],
    fun z => z.1 ≤ n ∧ OwnU z.2.1 (.slice (some ⟨b5, 0, none⟩) (n + k) (n + k)) (n + k) z.2.2 ∧ (∀ x ∈ z.2.2, x < W32) ∧ val W32 z.2.2 = val W32 (xs.take z.1) * val W32 ys ∧ ∀ j, z.1 + k ≤ j → z.2.2.getD j 0 = 0, fun z => n - z.1⟩
    (0, _, _) ⟨Nat.zero_le _, hO, fun x hx => by obtain ⟨a, _, rfl⟩ := List.mem_map.1 hx; decide, by show val W32 (tab (n + k) fun _ => 0) = _; rw [val_zeros]; simp [val], fun j _ => tab_zero _ j⟩ (by repeat first | exact trivial | refine ⟨rfl, ?_⟩) (by (first | exact HSub.refl _ | (repeat' first | exact HSub.nil _ | exact HSub.refl _ | refine HSub.at 0 rfl ?_ | refine HSub.at 1 rfl ?_ | refine HSub.at 2 rfl ?_ | refine HSub.at 3 rfl ?_ | refine HSub.at 4 rfl ?_ | refine HSub.at 5 rfl ?_ | refine HSub.at 6 rfl ?_ | refine HSub.at 7 rfl ?_))) (fun z hz => ?_)
  clear hO
  obtain ⟨i, N, zs⟩ := z
  obtain ⟨hi, hO, hz, hval, hzero⟩ := hz
  dsimp only at hi hO hz hval hzero ⊢
  have hlz := hO.len
  by_cases hin : i < n
  · have hxi : xs.getD i 0 < 4294967296 := mem_getD_lt (b := W32) (by decide) hx i
    (repeat' (first | refine JC.seq ?_ | refine JC.ops ?_ | refine JO.nil ?_ | refine JX.thenN ?_ | (apply r_move; exact rfl; exact rfl; exact rfl) | (apply r_assign; exact rfl; exact rfl; exact rfl) | (apply r_idxU; exact rfl; exact rfl; exact rfl; exact rfl; (first | assumption | exact WU.rd (by assumption) rfl [] | exact OwnU.rd (by assumption)); (first | assumption | omega)) | (apply r_ldU; exact rfl; exact rfl; exact rfl; exact rfl; (first | assumption | exact WU.rd (by assumption) rfl [] | exact OwnU.rd (by assumption)); (repeat' first | exact HSub.nil _ | exact HSub.hd | exact HSub.in0 | exact HSub.refl _ | refine HSub.skip ?_ | refine HSub.skipN ?_); (first | assumption | omega)) | (apply r_lenU; exact rfl; exact rfl; exact rfl; (first | assumption | exact WU.rd (by assumption) rfl [] | exact OwnU.rd (by assumption))) | (apply r_lss; exact rfl; exact rfl; exact rfl; exact rfl; all_goals intro hc; all_goals try (exfalso; omega)) | refine JC.skip ?_ | refine JC.condT rfl ?_ | refine JC.block ?_))
    refine JC.loopH (ι := Nat × Nat × SHeap × List Nat) ⟨fun y => [(27, nv y.1), (26, nv k), (25, u), (8, uv y.2.1), (7, uv (xs.getD i 0)), (6, nv i), (20, nv i), (19, nv n), (18, v), (5, .slice (some ⟨b5, 0, none⟩) (n + k) (n + k)), (0, v), (1, u)], fun y => y.2.2.1 ++ [],
      fun y => y.1 ≤ k ∧ OwnU y.2.2.1 (.slice (some ⟨b5, 0, none⟩) (n + k) (n + k)) (n + k) y.2.2.2 ∧ (∀ x ∈ y.2.2.2, x < W32) ∧ y.2.1 < 4294967296 ∧ val W32 y.2.2.2 + W32 ^ (i + y.1) * y.2.1 = val W32 (xs.take i) * val W32 ys + W32 ^ i * (xs.getD i 0 * val W32 (ys.take y.1)) ∧ ∀ j, i + k ≤ j → y.2.2.2.getD j 0 = 0, fun y => k - y.1⟩
      (0, 0, _, _) ⟨Nat.zero_le _, hO, hz, by show (0 : Nat) < 4294967296; decide, by simp [hval, val], hzero⟩ (by repeat first | exact trivial | refine ⟨rfl, ?_⟩) (by (first | exact HSub.refl _ | (repeat' first | exact HSub.nil _ | exact HSub.refl _ | refine HSub.at 0 rfl ?_ | refine HSub.at 1 rfl ?_ | refine HSub.at 2 rfl ?_ | refine HSub.at 3 rfl ?_ | refine HSub.at 4 rfl ?_ | refine HSub.at 5 rfl ?_ | refine HSub.at 6 rfl ?_ | refine HSub.at 7 rfl ?_))) (fun y hyy => ?_)
    clear hO hz hval hzero hlz
    obtain ⟨q, c, M, us⟩ := y
    obtain ⟨hq, hO, hz, hc1, hval, hzero⟩ := hyy
    dsimp only at hq hO hz hc1 hval hzero ⊢
    have hlz := hO.len
    by_cases hqk : q < k
    · have hyq : ys.getD q 0 < 4294967296 := mem_getD_lt (b := W32) (by decide) hy q
      have huq : us.getD (i + q) 0 < 4294967296 := mem_getD_lt (b := W32) (by decide) hz (i + q)
      have hxy := mul_bound hxi hyq
      (repeat' (first | refine JC.seq ?_ | refine JC.ops ?_ | refine JO.nil ?_ | refine JX.thenN ?_ | (apply r_move; exact rfl; exact rfl; exact rfl) | (apply r_assign; exact rfl; exact rfl; exact rfl) | (apply r_addN; exact rfl; exact rfl; exact rfl; exact rfl; omega) | (apply r_shr32; exact rfl; exact rfl; exact rfl; exact rfl) | (apply r_idxU; exact rfl; exact rfl; exact rfl; exact rfl; (first | assumption | exact WU.rd (by assumption) rfl [] | exact OwnU.rd (by assumption)); (first | assumption | omega)) | (apply r_ldU; exact rfl; exact rfl; exact rfl; exact rfl; (first | assumption | exact WU.rd (by assumption) rfl [] | exact OwnU.rd (by assumption)); (repeat' first | exact HSub.nil _ | exact HSub.hd | exact HSub.in0 | exact HSub.refl _ | refine HSub.skip ?_ | refine HSub.skipN ?_); (first | assumption | omega)) | (apply r_addU; exact rfl; exact rfl; exact rfl; exact rfl; (first | assumption | omega)) | (apply r_mulU; exact rfl; exact rfl; exact rfl; exact rfl; (first | assumption | omega)) | (apply r_maskU; exact rfl; exact rfl; exact rfl; exact rfl; (first | assumption | omega)) | (apply r_lss; exact rfl; exact rfl; exact rfl; exact rfl; all_goals intro hc; all_goals try (exfalso; omega)) | refine JC.skip ?_ | refine JC.condT rfl ?_ | refine JC.block ?_))
      refine r_stU (A := []) hO rfl rfl trivial rfl rfl (by omega) (fun M' hO' => ?_)
      (repeat' (first | refine JC.ops ?_ | refine JO.nil ?_ | refine JX.thenN ?_ | (apply r_move; exact rfl; exact rfl; exact rfl) | (apply r_assign; exact rfl; exact rfl; exact rfl) | (apply r_add1; exact rfl; exact rfl; exact rfl; exact rfl; omega) | refine JX.blockN ?_))
      refine JX.roundH (q + 1, _, M', _) ⟨by dsimp only; omega, hO', set_lt hz (Nat.mod_lt _ (by decide)), ?_, ?_, fun j hj => ?_⟩ (by dsimp only; omega) (by repeat first | exact trivial | refine ⟨rfl, ?_⟩) (by (first | exact HSub.refl _ | (repeat' first | exact HSub.nil _ | exact HSub.refl _ | refine HSub.at 0 rfl ?_ | refine HSub.at 1 rfl ?_ | refine HSub.at 2 rfl ?_ | refine HSub.at 3 rfl ?_ | refine HSub.at 4 rfl ?_ | refine HSub.at 5 rfl ?_ | refine HSub.at 6 rfl ?_ | refine HSub.at 7 rfl ?_)))
      · dsimp only; omega
      · dsimp only
        have e := val_set (b := W32) (l := us) (j := i + q) (u := (us.getD (i + q) 0 + xs.getD i 0 * ys.getD q 0 + c) % W32) (by omega)
        have := mul_round e rfl hval
        rw [val_take, Nat.mul_add, Nat.mul_add, ← Nat.add_assoc (_ * _), ← Nat.add_assoc i q 1, Nat.pow_succ]
        have e3 : W32 ^ i * (xs.getD i 0 * (W32 ^ q * ys.getD q 0)) = W32 ^ (i + q) * (xs.getD i 0 * ys.getD q 0) := by
          rw [Nat.pow_add]
          simp only [Nat.mul_left_comm, Nat.mul_assoc]
        rw [e3]
        exact this
      · dsimp only at hj ⊢
        rw [getD_set_ne (by omega)]
        exact hzero j (by omega)
    · obtain rfl : q = k := by omega
      (repeat' (first | refine JC.seq ?_ | refine JC.ops ?_ | refine JO.nil ?_ | refine JX.thenN ?_ | (apply r_move; exact rfl; exact rfl; exact rfl) | (apply r_addN; exact rfl; exact rfl; exact rfl; exact rfl; omega) | (apply r_idxU; exact rfl; exact rfl; exact rfl; exact rfl; (first | assumption | exact WU.rd (by assumption) rfl [] | exact OwnU.rd (by assumption)); (first | assumption | omega)) | (apply r_lenU; exact rfl; exact rfl; exact rfl; (first | assumption | exact WU.rd (by assumption) rfl [] | exact OwnU.rd (by assumption))) | (apply r_lss; exact rfl; exact rfl; exact rfl; exact rfl; all_goals intro hc; all_goals try (exfalso; omega)) | refine JX.thenE ?_ | refine JC.exit ?_ | refine JC.condF rfl ?_ | refine JX.blockE ?_))
      refine r_stU (A := []) hO rfl rfl trivial rfl rfl (by omega) (fun M' hO' => ?_)
      (repeat' (first | refine JC.ops ?_ | refine JO.nil ?_ | refine JX.thenN ?_ | (apply r_move; exact rfl; exact rfl; exact rfl) | (apply r_add1; exact rfl; exact rfl; exact rfl; exact rfl; omega) | refine JX.blockN ?_))
      refine JX.roundH (i + 1, M', _) ⟨by dsimp only; omega, hO', set_lt hz hc1, ?_, fun j hj => ?_⟩ (by dsimp only; omega) (by repeat first | exact trivial | refine ⟨rfl, ?_⟩) (by (first | exact HSub.refl _ | (repeat' first | exact HSub.nil _ | exact HSub.refl _ | refine HSub.at 0 rfl ?_ | refine HSub.at 1 rfl ?_ | refine HSub.at 2 rfl ?_ | refine HSub.at 3 rfl ?_ | refine HSub.at 4 rfl ?_ | refine HSub.at 5 rfl ?_ | refine HSub.at 6 rfl ?_ | refine HSub.at 7 rfl ?_)))
      · dsimp only
        have e := val_set (b := W32) (l := us) (j := i + q) (u := c) (by omega)
        rw [hzero (i + q) (Nat.le_refl _), Nat.mul_zero, Nat.add_zero, hval] at e
        rw [e, val_take, Nat.add_mul, List.take_of_length_le (l := ys) (i := q) (by omega), Nat.mul_assoc]
      · dsimp only at hj ⊢
        rw [getD_set_ne (by omega)]
        exact hzero j (by omega)
  · (repeat' (first | refine JC.seq ?_ | refine JC.ops ?_ | refine JO.nil ?_ | refine JX.thenN ?_ | (apply r_move; exact rfl; exact rfl; exact rfl) | (apply r_lss; exact rfl; exact rfl; exact rfl; exact rfl; all_goals intro hc; all_goals try (exfalso; omega)) | refine JX.thenE ?_ | refine JC.exit ?_ | refine JC.condF rfl ?_ | refine JX.blockE ?_))
    refine r_call0 trivial rfl rfl rfl (fun w hk hs => c_norm w _ _ _ _ (hO.rd.at hk hs (by (repeat' first | exact HSub.nil _ | exact HSub.hd | exact HSub.in0 | exact HSub.refl _ | refine HSub.skip ?_ | refine HSub.skipN ?_))) (by omega)) fun w v w' _ _ _ hR => ?_
    obtain ⟨q, hq, rfl, hnq⟩ := hR
    (repeat' (first | refine JO.nil ?_ | refine JX.thenN ?_ | (apply r_assign; exact rfl; exact rfl; exact rfl) | refine JC.ret ?_))
    have hown := hO.hd hq
    rw [← hnq] at hown
    have hql : (nrm zs).length = q := hown.len
    refine JX.ret1 rfl (fun a w' st => ⟨st.kp, N, nrm zs, st.newOf rfl (by (repeat' first | exact HSub.nil _ | exact HSub.hd | exact HSub.in0 | exact HSub.refl _ | refine HSub.skip ?_ | refine HSub.skipN ?_)), by rw [hql]; exact hown, Dig.of hz, ?_⟩)
    rw [val_nrm, hval, List.take_of_length_le (by omega)]

end Go.Proofs.YtdehklhdjbkneaaDoor

/- The quotient by a word. -/
namespace Go.Proofs.YtdehklhdjbkneaaDoor
open Go Go.RowKit
set_option linter.unusedSimpArgs false
set_option linter.unusedVariables false
set_option linter.unusedSectionVars false

theorem small_round {d W r x Z cur : Nat} (hc : cur = r * W + x) : x + W * (d * Z + r) = d * (cur / d + W * Z) + cur % d := by
  have h1 := Nat.div_add_mod cur d
  rw [Nat.mul_add, Nat.mul_add, Nat.mul_left_comm W d Z, Nat.mul_comm W r]
  omega
theorem drop_set {l : List Nat} {i u : Nat} : (l.set i u).drop (i + 1) = l.drop (i + 1) := by
  apply List.ext_getElem?
  intro j
  rw [List.getElem?_drop, List.getElem?_drop, List.getElem?_set_ne (by omega)]

set_option maxHeartbeats 8000000 in
theorem c_small (w : World) (v : Value) (n d : Nat) (xs : List Nat) (hv : WU w v n xs) (hx : ∀ x ∈ xs, x < W32) (hd0 : 0 < d) (hd1 : d < 4294967296) (hn : n ≤ 1000000) :
    Calls Tryd.prog 60 #[v, uv d] w (Ret fun v w' => Kp [] w w' ∧ ∃ v1 N zs, v = .tuple #[v1, uv (val W32 xs % d)] ∧ New N w w' ∧ OwnU N v1 zs.length zs ∧ Dig W32 zs ∧ val W32 zs = val W32 xs / d) := by
  have hlx := hv.len
  refine calls_of_S [⟨7, 11, [], []⟩] [] (by simp) [] Tryd.func60 rfl mixed (by kernel_rfl) Tryd.ntmps60 Tryd.results60 rfl ⟨by simp, by simp⟩ (by simp) ?_
  simp only [toS, textOps, toSOp, kindAt, kindOf, odAt, sopsAt, ordOf, zipF]
  (repeat' (first | refine JC.seq ?_ | refine JC.ops ?_ | refine JO.nil ?_ | refine JX.thenN ?_ | (apply r_move; exact rfl; exact rfl; exact rfl) | (apply r_assign; exact rfl; exact rfl; exact rfl) | (apply r_lenU; exact rfl; exact rfl; exact rfl; (first | assumption | exact WU.rd (by assumption) rfl [] | exact OwnU.rd (by assumption)))))
  refine r_make (n := n) rfl rfl rfl rfl rfl (by omega) (by omega) (fun b5 => ?_)
  have hO := own_zerosU b5 n (by simp only [maxLen]; omega)
  (repeat' (first | refine JC.seq ?_ | refine JC.ops ?_ | refine JO.nil ?_ | refine JX.thenN ?_ | (apply r_move; exact rfl; exact rfl; exact rfl) | (apply r_assign; exact rfl; exact rfl; exact rfl) | (apply r_sub; exact rfl; exact rfl; exact rfl; exact rfl; omega) | (apply r_lenU; exact rfl; exact rfl; exact rfl; (first | assumption | exact WU.rd (by assumption) rfl [] | exact OwnU.rd (by assumption))) | refine JC.block ?_))
  refine JC.loopH (ι := Nat × Nat × SHeap × List Nat) ⟨fun z => [(8, iv ((z.1 : Int) - 1)), (7, uv z.2.1), (6, .slice (some ⟨b5, 0, none⟩) n n), (0, v), (1, uv d)], fun z => z.2.2.1 ++ [],
    fun z => z.1 ≤ n ∧ OwnU z.2.2.1 (.slice (some ⟨b5, 0, none⟩) n n) n z.2.2.2 ∧ (∀ x ∈ z.2.2.2, x < W32) ∧ z.2.1 < d ∧ val W32 (xs.drop z.1) = d * val W32 (z.2.2.2.drop z.1) + z.2.1, fun z => z.1⟩
    (n, 0, _, _) ⟨Nat.le_refl _, hO, fun x hx => by obtain ⟨a, _, rfl⟩ := List.mem_map.1 hx; decide, hd0, by
      show val W32 (xs.drop n) = d * val W32 ((tab n fun _ => 0).drop n) + 0
      rw [val_drop_nil (by omega), val_drop_nil (by simp [tab])]; rfl⟩ (by repeat first | exact trivial | refine ⟨rfl, ?_⟩) (by (first | exact HSub.refl _ | (repeat' first | exact HSub.nil _ | exact HSub.refl _ | refine HSub.at 0 rfl ?_ | refine HSub.at 1 rfl ?_ | refine HSub.at 2 rfl ?_ | refine HSub.at 3 rfl ?_ | refine HSub.at 4 rfl ?_ | refine HSub.at 5 rfl ?_ | refine HSub.at 6 rfl ?_ | refine HSub.at 7 rfl ?_))) (fun z hz => ?_)
  clear hO
  obtain ⟨j, r, N, zs⟩ := z
  obtain ⟨hj, hO, hz, hr, hval⟩ := hz
  dsimp only at hj hO hz hr hval ⊢
  have hlz := hO.len
  rcases j with _ | q
  · (repeat' (first | refine JC.seq ?_ | refine JC.ops ?_ | refine JO.nil ?_ | refine JX.thenN ?_ | (apply r_move; exact rfl; exact rfl; exact rfl) | (apply r_geq; exact rfl; exact rfl; exact rfl; exact rfl; all_goals intro hc; all_goals try (exfalso; omega)) | refine JX.thenE ?_ | refine JC.exit ?_ | refine JC.condF rfl ?_ | refine JX.blockE ?_))
    refine r_call0 trivial rfl rfl rfl (fun w hk hs => c_norm w _ _ _ _ (hO.rd.at hk hs (by (repeat' first | exact HSub.nil _ | exact HSub.hd | exact HSub.in0 | exact HSub.refl _ | refine HSub.skip ?_ | refine HSub.skipN ?_))) (by omega)) fun w v w' _ _ _ hR => ?_
    obtain ⟨q, hq, rfl, hnq⟩ := hR
    (repeat' (first | refine JO.nil ?_ | refine JX.thenN ?_ | (apply r_move; exact rfl; exact rfl; exact rfl) | (apply r_assign; exact rfl; exact rfl; exact rfl) | refine JC.ret ?_))
    have hown := hO.hd hq
    rw [← hnq] at hown
    have hql : (nrm zs).length = q := hown.len
    rw [List.drop_zero, List.drop_zero] at hval
    have hmod : val W32 xs % d = r := by rw [hval, Nat.mul_add_mod, Nat.mod_eq_of_lt hr]
    have hdiv : val W32 xs / d = val W32 zs := by rw [hval, Nat.mul_add_div hd0, Nat.div_eq_of_lt hr, Nat.add_zero]
    refine JX.ret2 rfl rfl (fun a w' st => ⟨st.kp, _, N, nrm zs, by rw [hmod], st.newOf rfl (by (repeat' first | exact HSub.nil _ | exact HSub.hd | exact HSub.in0 | exact HSub.refl _ | refine HSub.skip ?_ | refine HSub.skipN ?_)), by rw [hql]; exact hown, Dig.of hz, by rw [val_nrm, hdiv]⟩)
  · have hiv : iv (((q + 1 : Nat) : Int) - 1) = nv q := by
      show iv _ = iv _
      congr 1
      omega
    rw [hiv]
    have hxq : xs.getD q 0 < 4294967296 := mem_getD_lt (b := W32) (by decide) hx q
    (repeat' (first | refine JC.seq ?_ | refine JC.ops ?_ | refine JC.opsD ?_ | refine JO.nil ?_ | refine JX.thenN ?_ | (apply r_move; exact rfl; exact rfl; exact rfl) | (apply r_assign; exact rfl; exact rfl; exact rfl) | (apply r_shl32; exact rfl; exact rfl; exact rfl; exact rfl; (first | assumption | omega)) | (apply r_or32; exact rfl; exact rfl; exact rfl; exact rfl; (first | assumption | omega | exact ⟨by assumption, by assumption⟩)) | (apply r_idxU; exact rfl; exact rfl; exact rfl; exact rfl; (first | assumption | exact WU.rd (by assumption) rfl [] | exact OwnU.rd (by assumption)); (first | assumption | omega)) | (apply r_ldU; exact rfl; exact rfl; exact rfl; exact rfl; (first | assumption | exact WU.rd (by assumption) rfl [] | exact OwnU.rd (by assumption)); (repeat' first | exact HSub.nil _ | exact HSub.hd | exact HSub.in0 | exact HSub.refl _ | refine HSub.skip ?_ | refine HSub.skipN ?_); (first | assumption | omega)) | (apply r_quoU; exact rfl; exact rfl; exact rfl; exact rfl; (first | assumption | omega)) | (apply r_remU; exact rfl; exact rfl; exact rfl; exact rfl; (first | assumption | omega)) | (apply r_geq; exact rfl; exact rfl; exact rfl; exact rfl; all_goals intro hc; all_goals try (exfalso; omega)) | refine JC.skip ?_ | refine JC.condT rfl ?_ | refine JC.block ?_))
    refine r_stU (A := []) hO rfl rfl (by first | trivial | exact ⟨rfl, rfl⟩) rfl rfl (by omega) (fun N' hO' => ?_)
    (repeat' (first | refine JC.ops ?_ | refine JO.nil ?_ | refine JX.thenN ?_ | (apply r_move; exact rfl; exact rfl; exact rfl) | (apply r_assign; exact rfl; exact rfl; exact rfl) | (apply r_sub; exact rfl; exact rfl; exact rfl; exact rfl; omega) | refine JX.blockN ?_))
    refine JX.roundH (q, _, N', _) ⟨by dsimp only; omega, hO', set_lt hz ?_, Nat.mod_lt _ hd0, ?_⟩ (by dsimp only; omega) (by repeat first | exact trivial | refine ⟨rfl, ?_⟩) (by (first | exact HSub.refl _ | (repeat' first | exact HSub.nil _ | exact HSub.refl _ | refine HSub.at 0 rfl ?_ | refine HSub.at 1 rfl ?_ | refine HSub.at 2 rfl ?_ | refine HSub.at 3 rfl ?_ | refine HSub.at 4 rfl ?_ | refine HSub.at 5 rfl ?_ | refine HSub.at 6 rfl ?_ | refine HSub.at 7 rfl ?_)))
    · refine (Nat.div_lt_iff_lt_mul hd0).2 ?_
      show _ < 4294967296 * d
      omega
    · dsimp only
      rw [val_drop (by omega), val_drop (l := zs.set q _) (by simp; omega), drop_set, getD_set_self (by omega), hval]
      exact small_round rfl

end Go.Proofs.YtdehklhdjbkneaaDoor

/- Words shifted up. -/
namespace Go.Proofs.YtdehklhdjbkneaaDoor
open Go Go.RowKit
set_option linter.unusedSimpArgs false
set_option linter.unusedVariables false
set_option linter.unusedSectionVars false

/-- A word times a power, its lower half. -/
theorem low_shift (a n : Nat) (hn : n ≤ 32) : a * 2 ^ n % 4294967296 = 2 ^ n * (a % 2 ^ (32 - n)) := by
  have e : (4294967296 : Nat) = 2 ^ (32 - n) * 2 ^ n := by rw [← Nat.pow_add, show 32 - n + n = 32 by omega]
  rw [e, Nat.mul_mod_mul_right, Nat.mul_comm]
theorem or_low {c n a : Nat} (hn : n ≤ 32) (hc : c < 2 ^ n) : c ||| a * 2 ^ n % 4294967296 = c + a * 2 ^ n % 4294967296 := by
  rw [low_shift a n hn, Nat.or_comm, ← Nat.two_pow_add_eq_or_of_lt hc, Nat.add_comm]
theorem or32_lt {a b : Nat} (ha : a < 4294967296) (hb : b < 4294967296) : a ||| b < 4294967296 := Nat.or_lt_two_pow (n := 32) (by simpa using ha) (by simpa using hb)
theorem pow31 {n : Nat} (hn : n ≤ 31) : 2 ^ n ≤ 2147483648 := by
  have := Nat.pow_le_pow_right (n := 2) (by decide) hn
  simpa using this

set_option maxHeartbeats 8000000 in
theorem c_shift (w : World) (v : Value) (n s : Nat) (xs : List Nat) (hv : WU w v n xs) (hx : ∀ x ∈ xs, x < W32) (hs31 : s ≤ 31) (hn : n ≤ 1000000) :
    Calls Tryd.prog 65 #[v, nv s] w (Ret fun v w' => Kp [] w w' ∧ ∃ N zs, New N w w' ∧ OwnU N v (n + 1) zs ∧ (∀ x ∈ zs, x < W32) ∧ zs.getD n 0 < 2 ^ s ∧ val W32 zs = 2 ^ s * val W32 xs) := by
  have hlx := hv.len
  have hp := pow31 hs31
  have hp0 : 0 < 2 ^ s := Nat.pow_pos (by decide)
  refine calls_of_S [] [] (by simp) [] Tryd.func65 rfl mixed (by kernel_rfl) Tryd.ntmps65 Tryd.results65 rfl ⟨by simp, by simp⟩ (by simp) ?_
  simp only [toS, textOps, toSOp, kindAt, kindOf, odAt, sopsAt, ordOf, zipF]
  (repeat' (first | refine JC.seq ?_ | refine JC.ops ?_ | refine JO.nil ?_ | refine JX.thenN ?_ | (apply r_move; exact rfl; exact rfl; exact rfl) | (apply r_assign; exact rfl; exact rfl; exact rfl) | (apply r_add1; exact rfl; exact rfl; exact rfl; exact rfl; omega) | (apply r_lenU; exact rfl; exact rfl; exact rfl; (first | assumption | exact WU.rd (by assumption) rfl [] | exact OwnU.rd (by assumption)))))
  refine r_make (n := n + 1) rfl rfl rfl rfl rfl (by omega) (by omega) (fun b5 => ?_)
  have hO := own_zerosU b5 (n + 1) (by simp only [maxLen]; omega)
  (repeat' (first | refine JC.seq ?_ | refine JC.ops ?_ | refine JO.nil ?_ | refine JX.thenN ?_ | (apply r_move; exact rfl; exact rfl; exact rfl) | (apply r_assign; exact rfl; exact rfl; exact rfl) | (apply r_lenU; exact rfl; exact rfl; exact rfl; (first | assumption | exact WU.rd (by assumption) rfl [] | exact OwnU.rd (by assumption))) | refine JC.block ?_))
  refine JC.loopH (ι := Nat × SHeap × List Nat) ⟨fun z => [(14, nv z.1), (13, nv n), (12, v), (5, .slice (some ⟨b5, 0, none⟩) (n + 1) (n + 1)), (0, v), (1, nv s)], fun z => z.2.1 ++ [],
    fun z => z.1 ≤ n ∧ OwnU z.2.1 (.slice (some ⟨b5, 0, none⟩) (n + 1) (n + 1)) (n + 1) z.2.2 ∧ (∀ x ∈ z.2.2, x < W32) ∧ z.2.2.getD z.1 0 < 2 ^ s ∧ val W32 z.2.2 = 2 ^ s * val W32 (xs.take z.1) ∧ ∀ j, z.1 < j → z.2.2.getD j 0 = 0, fun z => n - z.1⟩
    (0, _, _) ⟨Nat.zero_le _, hO, fun x hx => by obtain ⟨a, _, rfl⟩ := List.mem_map.1 hx; decide, by
      show (tab (n + 1) fun _ => 0).getD 0 0 < 2 ^ s
      rw [tab_zero]; exact hp0, by
      show val W32 (tab (n + 1) fun _ => 0) = _
      rw [val_zeros]; simp [val], fun j _ => tab_zero _ j⟩ (by repeat first | exact trivial | refine ⟨rfl, ?_⟩) (by (first | exact HSub.refl _ | (repeat' first | exact HSub.nil _ | exact HSub.refl _ | refine HSub.at 0 rfl ?_ | refine HSub.at 1 rfl ?_ | refine HSub.at 2 rfl ?_ | refine HSub.at 3 rfl ?_ | refine HSub.at 4 rfl ?_ | refine HSub.at 5 rfl ?_ | refine HSub.at 6 rfl ?_ | refine HSub.at 7 rfl ?_))) (fun z hz => ?_)
  clear hO
  obtain ⟨i, N, zs⟩ := z
  obtain ⟨hi, hO, hz, hci, hval, hzero⟩ := hz
  dsimp only at hi hO hz hci hval hzero ⊢
  have hlz := hO.len
  by_cases hin : i < n
  · have hxi : xs.getD i 0 < 4294967296 := mem_getD_lt (b := W32) (by decide) hx i
    have hzi : zs.getD i 0 < 4294967296 := mem_getD_lt (b := W32) (by decide) hz i
    have hwb : xs.getD i 0 * 2 ^ s < 9223372036854775808 := by
      have := Nat.mul_le_mul (show xs.getD i 0 ≤ 4294967295 by omega) hp
      omega
    have hlow : xs.getD i 0 * 2 ^ s % 4294967296 < 4294967296 := Nat.mod_lt _ (by decide)
    have hor := or_low (c := zs.getD i 0) (n := s) (a := xs.getD i 0) (by omega) hci
    have horlt : zs.getD i 0 + xs.getD i 0 * 2 ^ s % 4294967296 < 4294967296 := by rw [← hor]; exact or32_lt hzi hlow
    (repeat' (first | refine JC.seq ?_ | refine JC.ops ?_ | refine JO.nil ?_ | refine JX.thenN ?_ | (apply r_move; exact rfl; exact rfl; exact rfl) | (apply r_assign; exact rfl; exact rfl; exact rfl) | (apply r_idxU; exact rfl; exact rfl; exact rfl; exact rfl; (first | assumption | exact WU.rd (by assumption) rfl [] | exact OwnU.rd (by assumption)); (first | assumption | omega)) | (apply r_ldU; exact rfl; exact rfl; exact rfl; exact rfl; (first | assumption | exact WU.rd (by assumption) rfl [] | exact OwnU.rd (by assumption)); (repeat' first | exact HSub.nil _ | exact HSub.hd | exact HSub.in0 | exact HSub.refl _ | refine HSub.skip ?_ | refine HSub.skipN ?_); (first | assumption | omega)) | (apply r_maskU; exact rfl; exact rfl; exact rfl; exact rfl; (first | assumption | omega)) | (apply r_shlU; exact rfl; exact rfl; exact rfl; exact rfl; (first | assumption | omega)) | (apply r_lss; exact rfl; exact rfl; exact rfl; exact rfl; all_goals intro hc; all_goals try (exfalso; omega)) | refine JC.skip ?_ | refine JC.condT rfl ?_ | refine JC.block ?_))
    rw [Nat.mod_eq_of_lt (show xs.getD i 0 * 2 ^ s < 18446744073709551616 by omega)]
    refine r_orV (zs.getD i 0 + xs.getD i 0 * 2 ^ s % 4294967296) rfl rfl rfl rfl (by omega) hor ?_
    (repeat' (first | (apply r_idxU; exact rfl; exact rfl; exact rfl; exact rfl; (first | assumption | exact WU.rd (by assumption) rfl [] | exact OwnU.rd (by assumption)); (first | assumption | omega))))
    refine r_stU (A := []) hO rfl rfl trivial rfl rfl (by omega) (fun N1 hO1 => ?_)
    (repeat' (first | refine JC.ops ?_ | refine JO.nil ?_ | refine JX.thenN ?_ | (apply r_move; exact rfl; exact rfl; exact rfl) | (apply r_add1; exact rfl; exact rfl; exact rfl; exact rfl; omega) | (apply r_shr32; exact rfl; exact rfl; exact rfl; exact rfl) | (apply r_idxU; exact rfl; exact rfl; exact rfl; exact rfl; (first | assumption | exact WU.rd (by assumption) rfl [] | exact OwnU.rd (by assumption)); (first | assumption | omega))))
    refine r_stU (A := []) hO1 rfl rfl trivial rfl rfl (by omega) (fun N2 hO2 => ?_)
    (repeat' (first | refine JC.ops ?_ | refine JO.nil ?_ | refine JX.thenN ?_ | (apply r_move; exact rfl; exact rfl; exact rfl) | (apply r_add1; exact rfl; exact rfl; exact rfl; exact rfl; omega) | refine JX.blockN ?_))
    refine JX.roundH (i + 1, N2, _) ⟨by dsimp only; omega, hO2, set_lt (set_lt hz horlt) (by show _ < 4294967296; omega), ?_, ?_, fun j hj => ?_⟩ (by dsimp only; omega) (by repeat first | exact trivial | refine ⟨rfl, ?_⟩) (by (first | exact HSub.refl _ | (repeat' first | exact HSub.nil _ | exact HSub.refl _ | refine HSub.at 0 rfl ?_ | refine HSub.at 1 rfl ?_ | refine HSub.at 2 rfl ?_ | refine HSub.at 3 rfl ?_ | refine HSub.at 4 rfl ?_ | refine HSub.at 5 rfl ?_ | refine HSub.at 6 rfl ?_ | refine HSub.at 7 rfl ?_)))
    · dsimp only
      rw [getD_set_self (by simp; omega)]
      refine (Nat.div_lt_iff_lt_mul (by decide)).2 ?_
      rw [Nat.mul_comm]
      exact Nat.mul_lt_mul_of_pos_left hxi hp0
    · dsimp only
      have e1 := val_set (b := W32) (l := zs) (j := i) (u := zs.getD i 0 + xs.getD i 0 * 2 ^ s % 4294967296) (by omega)
      have e2 := val_set (b := W32) (l := zs.set i (zs.getD i 0 + xs.getD i 0 * 2 ^ s % 4294967296)) (j := i + 1) (u := xs.getD i 0 * 2 ^ s / 4294967296) (by simp; omega)
      rw [getD_set_ne (by omega), hzero (i + 1) (by omega), Nat.mul_zero, Nat.add_zero] at e2
      rw [e2, val_take, Nat.mul_add, ← hval]
      have e3 : W32 ^ i * (xs.getD i 0 * 2 ^ s % 4294967296) + W32 ^ (i + 1) * (xs.getD i 0 * 2 ^ s / 4294967296) = W32 ^ i * (xs.getD i 0 * 2 ^ s) := by
        rw [Nat.pow_succ, Nat.mul_assoc, ← Nat.mul_add, Nat.mod_add_div]
      have e4 : 2 ^ s * (W32 ^ i * xs.getD i 0) = W32 ^ i * (xs.getD i 0 * 2 ^ s) := by
        rw [Nat.mul_left_comm, Nat.mul_comm (2 ^ s)]
      rw [e4, ← e3]
      rw [Nat.mul_add] at e1
      omega
    · dsimp only at hj ⊢
      rw [getD_set_ne (by omega), getD_set_ne (by omega)]
      exact hzero j (by omega)
  · (repeat' (first | refine JC.seq ?_ | refine JC.ops ?_ | refine JO.nil ?_ | refine JX.thenN ?_ | (apply r_move; exact rfl; exact rfl; exact rfl) | (apply r_assign; exact rfl; exact rfl; exact rfl) | (apply r_lss; exact rfl; exact rfl; exact rfl; exact rfl; all_goals intro hc; all_goals try (exfalso; omega)) | refine JX.thenE ?_ | refine JC.exit ?_ | refine JC.ret ?_ | refine JC.condF rfl ?_ | refine JX.blockE ?_))
    obtain rfl : i = n := by omega
    exact JX.ret1 rfl (fun a w' st => ⟨st.kp, N, zs, st.newOf rfl (by (repeat' first | exact HSub.nil _ | exact HSub.hd | exact HSub.in0 | exact HSub.refl _ | refine HSub.skip ?_ | refine HSub.skipN ?_)), hO, hz, hci, by rw [hval, List.take_of_length_le (by omega)]⟩)

end Go.Proofs.YtdehklhdjbkneaaDoor

/- Words shifted down. -/
namespace Go.Proofs.YtdehklhdjbkneaaDoor
open Go Go.RowKit
set_option linter.unusedSimpArgs false
set_option linter.unusedVariables false
set_option linter.unusedSectionVars false

theorem un_low {s : Nat} (hs : s ≤ 31) (x : Nat) (hx : x < 4294967296) : x * 2 ^ (32 - s) % 18446744073709551616 % 4294967296 = 2 ^ (32 - s) * (x % 2 ^ s) := by
  have h1 : x * 2 ^ (32 - s) < 18446744073709551616 := by
    have h2 : 2 ^ (32 - s) ≤ 4294967296 := by
      have := Nat.pow_le_pow_right (n := 2) (by decide) (show 32 - s ≤ 32 by omega)
      simpa using this
    have := Nat.mul_le_mul (show x ≤ 4294967295 by omega) h2
    omega
  rw [Nat.mod_eq_of_lt h1, low_shift x (32 - s) (by omega), show 32 - (32 - s) = s by omega]
/-- A round of unshift. -/
theorem un_round {s P A x : Nat} (hs : s ≤ 31) : (A + P * 4294967296 * x) / 2 ^ s = A / 2 ^ s + P * (2 ^ (32 - s) * (x % 2 ^ s)) + P * 4294967296 * (x / 2 ^ s) := by
  have hp : 0 < 2 ^ s := Nat.pow_pos (by decide)
  have e : (4294967296 : Nat) = 2 ^ (32 - s) * 2 ^ s := by rw [← Nat.pow_add, show 32 - s + s = 32 by omega]
  have e2 : A + P * 4294967296 * x = A + 2 ^ s * (P * (2 ^ (32 - s) * (x % 2 ^ s)) + P * 4294967296 * (x / 2 ^ s)) := by
    have h1 : x = x % 2 ^ s + 2 ^ s * (x / 2 ^ s) := (Nat.mod_add_div x (2 ^ s)).symm
    have h2 : P * 4294967296 * x = P * 4294967296 * (x % 2 ^ s) + 2 ^ s * (P * 4294967296 * (x / 2 ^ s)) := by
      conv => lhs; rw [h1]
      rw [Nat.mul_add, Nat.mul_left_comm]
    have h3 : P * 4294967296 * (x % 2 ^ s) = 2 ^ s * (P * (2 ^ (32 - s) * (x % 2 ^ s))) := by
      conv => lhs; rw [e]
      simp only [Nat.mul_left_comm, Nat.mul_comm, Nat.mul_assoc]
    rw [h2, h3, Nat.mul_add]
  rw [e2, Nat.add_mul_div_left _ _ hp, Nat.add_assoc]
theorem un_first {s x : Nat} : (0 + 1 * x) / 2 ^ s = 1 * (x / 2 ^ s) := by simp

set_option maxHeartbeats 8000000 in
theorem c_unshift (w : World) (v : Value) (n s : Nat) (xs : List Nat) (hv : WU w v n xs) (hx : ∀ x ∈ xs, x < W32) (hs31 : s ≤ 31) (hn : n ≤ 1000000) :
    Calls Tryd.prog 68 #[v, nv s] w (Ret fun v w' => Kp [] w w' ∧ ∃ N zs, New N w w' ∧ OwnU N v zs.length zs ∧ Dig W32 zs ∧ val W32 zs = val W32 xs / 2 ^ s) := by
  have hlx := hv.len
  have hp0 : 0 < 2 ^ s := Nat.pow_pos (by decide)
  refine calls_of_S [⟨5, 3, [], []⟩, ⟨7, 3, [], []⟩] [] (by simp) [] Tryd.func68 rfl mixed (by kernel_rfl) Tryd.ntmps68 Tryd.results68 rfl ⟨by simp, by simp⟩ (by simp) ?_
  simp only [toS, textOps, toSOp, kindAt, kindOf, odAt, sopsAt, ordOf, zipF]
  (repeat' (first | refine JC.seq ?_ | refine JC.ops ?_ | refine JO.nil ?_ | refine JX.thenN ?_ | (apply r_move; exact rfl; exact rfl; exact rfl) | (apply r_assign; exact rfl; exact rfl; exact rfl) | (apply r_lenU; exact rfl; exact rfl; exact rfl; (first | assumption | exact WU.rd (by assumption) rfl [] | exact OwnU.rd (by assumption)))))
  refine r_make (n := n) rfl rfl rfl rfl rfl (by omega) (by omega) (fun b5 => ?_)
  have hO := own_zerosU b5 n (by simp only [maxLen]; omega)
  (repeat' (first | refine JC.seq ?_ | refine JC.ops ?_ | refine JO.nil ?_ | refine JX.thenN ?_ | (apply r_move; exact rfl; exact rfl; exact rfl) | (apply r_assign; exact rfl; exact rfl; exact rfl) | (apply r_lenU; exact rfl; exact rfl; exact rfl; (first | assumption | exact WU.rd (by assumption) rfl [] | exact OwnU.rd (by assumption))) | refine JC.block ?_))
  refine JC.loopH (ι := Nat × SHeap × List Nat) ⟨fun z => [(13, nv z.1), (12, nv n), (11, v), (5, .slice (some ⟨b5, 0, none⟩) n n), (0, v), (1, nv s)], fun z => z.2.1 ++ [],
    fun z => z.1 ≤ n ∧ OwnU z.2.1 (.slice (some ⟨b5, 0, none⟩) n n) n z.2.2 ∧ (∀ x ∈ z.2.2, x < W32) ∧ (0 < z.1 → z.2.2.getD (z.1 - 1) 0 < 2 ^ (32 - s)) ∧ val W32 z.2.2 = val W32 (xs.take z.1) / 2 ^ s ∧ ∀ j, z.1 ≤ j → z.2.2.getD j 0 = 0, fun z => n - z.1⟩
    (0, _, _) ⟨Nat.zero_le _, hO, fun x hx => by obtain ⟨a, _, rfl⟩ := List.mem_map.1 hx; decide, fun h => absurd h (Nat.lt_irrefl 0), by
      show val W32 (tab n fun _ => 0) = _
      rw [val_zeros]; simp [val], fun j _ => tab_zero _ j⟩ (by repeat first | exact trivial | refine ⟨rfl, ?_⟩) (by (first | exact HSub.refl _ | (repeat' first | exact HSub.nil _ | exact HSub.refl _ | refine HSub.at 0 rfl ?_ | refine HSub.at 1 rfl ?_ | refine HSub.at 2 rfl ?_ | refine HSub.at 3 rfl ?_ | refine HSub.at 4 rfl ?_ | refine HSub.at 5 rfl ?_ | refine HSub.at 6 rfl ?_ | refine HSub.at 7 rfl ?_))) (fun z hz => ?_)
  clear hO
  obtain ⟨i, N, zs⟩ := z
  obtain ⟨hi, hO, hz, hci, hval, hzero⟩ := hz
  dsimp only at hi hO hz hci hval hzero ⊢
  have hlz := hO.len
  by_cases hin : i < n
  · have hxi : xs.getD i 0 < 4294967296 := mem_getD_lt (b := W32) (by decide) hx i
    have hsh : xs.getD i 0 / 2 ^ s < 4294967296 := Nat.lt_of_le_of_lt (Nat.div_le_self _ _) hxi
    have hlt32 : xs.getD i 0 / 2 ^ s < 2 ^ (32 - s) := by
      refine (Nat.div_lt_iff_lt_mul hp0).2 ?_
      rw [← Nat.pow_add, show 32 - s + s = 32 by omega]
      exact hxi
    have hor1 : zs.getD i 0 ||| xs.getD i 0 / 2 ^ s = xs.getD i 0 / 2 ^ s := by rw [hzero i (Nat.le_refl _), Nat.zero_or]
    have hzi : zs.getD i 0 < 4294967296 := mem_getD_lt (b := W32) (by decide) hz i
    (repeat' (first | refine JC.seq ?_ | refine JC.ops ?_ | refine JC.opsD ?_ | refine JO.nil ?_ | refine JX.thenN ?_ | (apply r_move; exact rfl; exact rfl; exact rfl) | (apply r_assign; exact rfl; exact rfl; exact rfl) | (apply r_idxU; exact rfl; exact rfl; exact rfl; exact rfl; (first | assumption | exact WU.rd (by assumption) rfl [] | exact OwnU.rd (by assumption)); (first | assumption | omega)) | (apply r_ldU; exact rfl; exact rfl; exact rfl; exact rfl; (first | assumption | exact WU.rd (by assumption) rfl [] | exact OwnU.rd (by assumption)); (repeat' first | exact HSub.nil _ | exact HSub.hd | exact HSub.in0 | exact HSub.refl _ | refine HSub.skip ?_ | refine HSub.skipN ?_); (first | assumption | omega)) | (apply r_shrU; exact rfl; exact rfl; exact rfl; exact rfl; (first | assumption | omega)) | (apply r_lss; exact rfl; exact rfl; exact rfl; exact rfl; all_goals intro hc; all_goals try (exfalso; omega)) | refine JC.skip ?_ | refine JC.condT rfl ?_ | refine JC.block ?_))
    refine r_orV (xs.getD i 0 / 2 ^ s) rfl rfl rfl rfl (by omega) hor1 ?_
    (repeat' (first | (apply r_idxU; exact rfl; exact rfl; exact rfl; exact rfl; (first | assumption | exact WU.rd (by assumption) rfl [] | exact OwnU.rd (by assumption)); (first | assumption | omega))))
    refine r_stU (A := []) hO rfl rfl (by first | trivial | exact ⟨rfl, rfl⟩) rfl rfl (by omega) (fun N1 hO1 => ?_)
    have e1 := val_set (b := W32) (l := zs) (j := i) (u := xs.getD i 0 / 2 ^ s) (by omega)
    rw [hzero i (Nat.le_refl _), Nat.mul_zero, Nat.add_zero] at e1
    by_cases hi0 : 0 < i
    · have hzp : zs.getD (i - 1) 0 < 4294967296 := mem_getD_lt (b := W32) (by decide) hz (i - 1)
      have hul := un_low hs31 _ hxi
      have hul2 : 2 ^ (32 - s) * (xs.getD i 0 % 2 ^ s) < 4294967296 := by rw [← hul]; exact Nat.mod_lt _ (by decide)
      have hor2 : zs.getD (i - 1) 0 ||| 2 ^ (32 - s) * (xs.getD i 0 % 2 ^ s) = zs.getD (i - 1) 0 + 2 ^ (32 - s) * (xs.getD i 0 % 2 ^ s) := by
        rw [Nat.or_comm, ← Nat.two_pow_add_eq_or_of_lt (hci hi0), Nat.add_comm]
      have hor3 : zs.getD (i - 1) 0 + 2 ^ (32 - s) * (xs.getD i 0 % 2 ^ s) < 4294967296 := by rw [← hor2]; exact or32_lt hzp hul2
      have hget : (zs.set i (xs.getD i 0 / 2 ^ s)).getD (i - 1) 0 = zs.getD (i - 1) 0 := getD_set_ne (by omega)
      have hsub : ((32 : Int) - (s : Int)) = ((32 - s : Nat) : Int) := by omega
      (repeat' (first | refine JC.seq ?_ | refine JC.ops ?_ | refine JC.opsD ?_ | refine JO.nil ?_ | refine JX.thenN ?_ | (apply r_move; exact rfl; exact rfl; exact rfl) | (apply r_sub1; exact rfl; exact rfl; exact rfl; exact rfl; omega) | (apply r_sub; exact rfl; exact rfl; exact rfl; exact rfl; omega) | (apply r_idxU; exact rfl; exact rfl; exact rfl; exact rfl; (first | assumption | exact WU.rd (by assumption) rfl [] | exact OwnU.rd (by assumption)); (first | assumption | omega)) | (apply r_ldU; exact rfl; exact rfl; exact rfl; exact rfl; (first | assumption | exact WU.rd (by assumption) rfl [] | exact OwnU.rd (by assumption)); (repeat' first | exact HSub.nil _ | exact HSub.hd | exact HSub.in0 | exact HSub.refl _ | refine HSub.skip ?_ | refine HSub.skipN ?_); (first | assumption | omega)) | (apply r_gtr; exact rfl; exact rfl; exact rfl; exact rfl; all_goals intro hc; all_goals try (exfalso; omega)) | refine JC.condT rfl ?_))
      refine r_shlU (j := 32 - s) rfl rfl rfl (by first | rfl | exact congrArg (fun z => some (Value.int .i64 z)) hsub) (by omega) ?_
      (repeat' (first | (apply r_maskU; exact rfl; exact rfl; exact rfl; exact rfl; (first | assumption | omega))))
      refine r_orV (zs.getD (i - 1) 0 + 2 ^ (32 - s) * (xs.getD i 0 % 2 ^ s)) rfl rfl rfl rfl (by rw [hget, hul]; omega) (by rw [hget, hul]; exact hor2) ?_
      (repeat' (first | (apply r_idxU; exact rfl; exact rfl; exact rfl; exact rfl; (first | assumption | exact WU.rd (by assumption) rfl [] | exact OwnU.rd (by assumption)); (first | assumption | omega))))
      refine r_stU (A := []) hO1 rfl rfl (by first | trivial | exact ⟨rfl, rfl⟩) rfl rfl (by omega) (fun N2 hO2 => ?_)
      (repeat' (first | refine JC.ops ?_ | refine JO.nil ?_ | refine JX.thenN ?_ | (apply r_move; exact rfl; exact rfl; exact rfl) | (apply r_add1; exact rfl; exact rfl; exact rfl; exact rfl; omega) | refine JX.blockN ?_))
      refine JX.roundH (i + 1, N2, _) ⟨by dsimp only; omega, hO2, set_lt (set_lt hz hsh) hor3, fun _ => ?_, ?_, fun j hj => ?_⟩ (by dsimp only; omega) (by repeat first | exact trivial | refine ⟨rfl, ?_⟩) (by (first | exact HSub.refl _ | (repeat' first | exact HSub.nil _ | exact HSub.refl _ | refine HSub.at 0 rfl ?_ | refine HSub.at 1 rfl ?_ | refine HSub.at 2 rfl ?_ | refine HSub.at 3 rfl ?_ | refine HSub.at 4 rfl ?_ | refine HSub.at 5 rfl ?_ | refine HSub.at 6 rfl ?_ | refine HSub.at 7 rfl ?_)))
      · dsimp only
        rw [Nat.add_sub_cancel, getD_set_ne (by omega), getD_set_self (by omega)]
        exact hlt32
      · dsimp only
        have e2 := val_set (b := W32) (l := zs.set i (xs.getD i 0 / 2 ^ s)) (j := i - 1) (u := zs.getD (i - 1) 0 + 2 ^ (32 - s) * (xs.getD i 0 % 2 ^ s)) (by simp; omega)
        rw [hget] at e2
        have e3 := un_round (s := s) (P := W32 ^ (i - 1)) (A := val W32 (xs.take i)) (x := xs.getD i 0) hs31
        have e4 : W32 ^ (i - 1) * 4294967296 = W32 ^ i := by
          conv => rhs; rw [show i = i - 1 + 1 by omega, Nat.pow_succ]
        rw [e4] at e3
        rw [val_take, e3, ← hval]
        rw [Nat.mul_add] at e2
        omega
      · dsimp only at hj ⊢
        rw [getD_set_ne (by omega), getD_set_ne (by omega)]
        exact hzero j (by omega)
    · obtain rfl : i = 0 := by omega
      (repeat' (first | refine JC.seq ?_ | refine JC.ops ?_ | refine JO.nil ?_ | refine JX.thenN ?_ | (apply r_move; exact rfl; exact rfl; exact rfl) | (apply r_add1; exact rfl; exact rfl; exact rfl; exact rfl; omega) | (apply r_gtr; exact rfl; exact rfl; exact rfl; exact rfl; all_goals intro hc; all_goals try (exfalso; omega)) | refine JC.skip ?_ | refine JC.condF rfl ?_ | refine JX.blockN ?_))
      refine JX.roundH (0 + 1, N1, _) ⟨by dsimp only; omega, hO1, set_lt hz hsh, fun _ => ?_, ?_, fun j hj => ?_⟩ (by dsimp only; omega) (by repeat first | exact trivial | refine ⟨rfl, ?_⟩) (by (first | exact HSub.refl _ | (repeat' first | exact HSub.nil _ | exact HSub.refl _ | refine HSub.at 0 rfl ?_ | refine HSub.at 1 rfl ?_ | refine HSub.at 2 rfl ?_ | refine HSub.at 3 rfl ?_ | refine HSub.at 4 rfl ?_ | refine HSub.at 5 rfl ?_ | refine HSub.at 6 rfl ?_ | refine HSub.at 7 rfl ?_)))
      · dsimp only
        rw [getD_set_self (by omega)]
        exact hlt32
      · dsimp only
        rw [e1, hval, val_take]
        simp [val]
      · dsimp only at hj ⊢
        rw [getD_set_ne (by omega)]
        exact hzero j (by omega)
  · (repeat' (first | refine JC.seq ?_ | refine JC.ops ?_ | refine JO.nil ?_ | refine JX.thenN ?_ | (apply r_move; exact rfl; exact rfl; exact rfl) | (apply r_lss; exact rfl; exact rfl; exact rfl; exact rfl; all_goals intro hc; all_goals try (exfalso; omega)) | refine JX.thenE ?_ | refine JC.exit ?_ | refine JC.condF rfl ?_ | refine JX.blockE ?_))
    refine r_call0 trivial rfl rfl rfl (fun w hk hs => c_norm w _ _ _ _ (hO.rd.at hk hs (by (repeat' first | exact HSub.nil _ | exact HSub.hd | exact HSub.in0 | exact HSub.refl _ | refine HSub.skip ?_ | refine HSub.skipN ?_))) (by omega)) fun w v w' _ _ _ hR => ?_
    obtain ⟨q, hq, rfl, hnq⟩ := hR
    (repeat' (first | refine JO.nil ?_ | refine JX.thenN ?_ | (apply r_assign; exact rfl; exact rfl; exact rfl) | refine JC.ret ?_))
    have hown := hO.hd hq
    rw [← hnq] at hown
    have hql : (nrm zs).length = q := hown.len
    refine JX.ret1 rfl (fun a w' st => ⟨st.kp, N, nrm zs, st.newOf rfl (by (repeat' first | exact HSub.nil _ | exact HSub.hd | exact HSub.in0 | exact HSub.refl _ | refine HSub.skip ?_ | refine HSub.skipN ?_)), by rw [hql]; exact hown, Dig.of hz, ?_⟩)
    rw [val_nrm, hval, List.take_of_length_le (by omega)]

end Go.Proofs.YtdehklhdjbkneaaDoor

/- Parts of words cloned, compared, and turned. -/
namespace Go.Proofs.YtdehklhdjbkneaaDoor
open Go Go.RowKit
set_option linter.unusedSimpArgs false
set_option linter.unusedVariables false
set_option linter.unusedSectionVars false

theorem hs_at {H : SHeap} {w : World} {b : Nat} {o : Obj} (h : Hsat H w) (k : Nat) (hk : H[k]? = some (b, o)) : w.heap[b]? = some o := h.blk (b, o) (List.mem_of_getElem? hk)
theorem WU.hd {w : World} {A : Option Addr} {n k cap : Nat} {xs : List Nat} (hv : WU w (.slice A n cap) n xs) (hk : k ≤ n) : WU w (.slice A k cap) k (xs.take k) := by
  have hl := hv.len
  obtain ⟨h1, A', cap', h2, h3, h4⟩ := hv
  simp only [Value.slice.injEq] at h2
  obtain ⟨rfl, _, rfl⟩ := h2
  refine ⟨by simp; omega, A, cap, rfl, by omega, fun h0 => ⟨(h4 (by omega)).1, fun j u hu => ?_⟩⟩
  obtain ⟨⟨b, o, rfl⟩, h5⟩ := h4 (by omega)
  refine h5 j u ?_
  rw [List.map_take, List.getElem?_take] at hu
  split at hu
  · exact hu
  · cases hu
theorem WU.monoM {w w' : World} {M : List Nat} {v : Value} {n : Nat} {xs : List Nat} (h : WU w v n xs) (hk : Kp M w w') (hne : 0 < n → (vAt v 0).block ∉ M) : WU w' v n xs := by
  obtain ⟨hl, A, cap, rfl, hn, h⟩ := h
  refine ⟨hl, A, cap, rfl, hn, fun h0 => ⟨(h h0).1, fun j u hu => ?_⟩⟩
  have h1 := (h h0).2 j u hu
  obtain ⟨b, o, rfl⟩ := (h h0).1
  have hb := hk.block _ (lt_of_cell h1) (hne h0)
  unfold World.cell? at h1 ⊢
  rw [hb]; exact h1
theorem WU.cap {w : World} {A : Option Addr} {n cap : Nat} {xs : List Nat} (h : WU w (.slice A n cap) n xs) : n ≤ cap := by
  obtain ⟨_, A', cap', h2, h3, _⟩ := h
  simp only [Value.slice.injEq] at h2
  obtain ⟨_, _, rfl⟩ := h2
  exact h3
theorem cmpV_neg {a b : Nat} : cmpV a b < 0 ↔ a < b := by
  unfold cmpV
  split
  · simp_all
  · split <;> simp_all
theorem val_one {b : Nat} (d : Nat) : val b [d] = d := by simp [val]
theorem val_nrm_one {d : Nat} : val W32 (nrm [d]) = d := by rw [val_nrm, val_one]

/-- k words from place i on are those of zs, then zeros. -/
def put (i k : Nat) (zs us : List Nat) : List Nat := us.take i ++ ((zs ++ List.replicate (k - zs.length) 0) ++ us.drop (i + k))
theorem put_seg {i k : Nat} {zs us : List Nat} (h : i + k ≤ us.length) (hz : zs.length ≤ k) : segSet i zs.length zs (segSet i k (List.replicate k 0) us) = put i k zs us := by
  have e1 : (us.take i).length = i := by simp; omega
  have e2 : (segSet i k (List.replicate k 0) us) = us.take i ++ (List.replicate k 0 ++ us.drop (i + k)) := by
    unfold segSet
    rw [List.take_of_length_le (l := List.replicate k 0) (i := k) (by simp)]
  rw [e2]
  unfold segSet put
  rw [List.take_append_of_le_length (by omega), List.take_of_length_le (l := us.take i) (by omega), List.drop_append, List.drop_eq_nil_of_le (by omega), List.take_of_length_le (l := zs) (Nat.le_refl _), e1, show i + zs.length - i = zs.length by omega, List.drop_append_of_le_length (by simp; omega), List.drop_replicate, List.nil_append, List.append_assoc]
theorem put_len {i k : Nat} {zs us : List Nat} (h : i + k ≤ us.length) (hz : zs.length ≤ k) : (put i k zs us).length = us.length := by
  unfold put
  simp
  omega
theorem put_drop {i k : Nat} {zs us : List Nat} (h : i + k ≤ us.length) : (put i k zs us).drop i = (zs ++ List.replicate (k - zs.length) 0) ++ us.drop (i + k) := by
  unfold put
  rw [List.drop_append, List.drop_eq_nil_of_le (by simp; omega), List.nil_append, show i - (us.take i).length = 0 by simp; omega, List.drop_zero]
theorem put_take {i k : Nat} {zs us : List Nat} (h : i + k ≤ us.length) : (put i k zs us).take i = us.take i := by
  unfold put
  rw [List.take_append_of_le_length (by simp; omega), List.take_of_length_le (by simp; omega)]
theorem put_lt {b i k : Nat} {zs us : List Nat} (hb : 0 < b) (hu : ∀ x ∈ us, x < b) (hz : ∀ x ∈ zs, x < b) : ∀ x ∈ put i k zs us, x < b := fun x hx => by
  unfold put at hx
  simp only [List.mem_append] at hx
  rcases hx with h | (h | h) | h
  · exact hu x (List.mem_of_mem_take h)
  · exact hz x h
  · rw [List.eq_of_mem_replicate h]; exact hb
  · exact hu x (List.mem_of_mem_drop h)
theorem val_rep0 (b n : Nat) : val b (List.replicate n 0) = 0 := by
  induction n with
  | zero => rfl
  | succ n ih => rw [List.replicate_succ, val, ih]; simp
theorem val_put {b i k : Nat} {zs us : List Nat} (h : i + k ≤ us.length) (h0 : val b (us.drop (i + k)) = 0) : val b ((put i k zs us).drop i) = val b zs := by
  rw [put_drop h, val_append, val_append, h0, val_rep0]
  simp

set_option maxHeartbeats 2000000 in
theorem c_CloneU (w : World) (v : Value) (n : Nat) (xs : List Nat) (hv : WU w v n xs) (hn : n ≤ 1000000) :
    Calls Tryd.prog 75 #[v] w (Ret fun u w' => Kp [] w w' ∧ ∃ N, New N w w' ∧ OwnU N u n xs) := by
  obtain ⟨A, cap, rfl⟩ := hv.form
  cases A with
  | none =>
    have h0 : n = 0 ∧ xs = [] := by
      have h1 := hv.len
      rcases Nat.eq_zero_or_pos n with h | h
      · subst h; exact ⟨rfl, List.eq_nil_of_length_eq_zero h1⟩
      · obtain ⟨_, A, cap', he, _, hA⟩ := hv
        cases he
        obtain ⟨⟨_, _, h2⟩, _⟩ := hA (by omega)
        cases h2
    obtain ⟨rfl, rfl⟩ := h0
    refine calls_of_S [] [] (by simp) [] Tryd.func75 rfl mixed (by kernel_rfl) Tryd.ntmps75 Tryd.results75 rfl ⟨by simp, by simp⟩ (by simp) ?_
    simp only [toS, textOps, toSOp, kindAt, kindOf, odAt, sopsAt, ordOf, zipF]
    (repeat' (first | refine JC.seq ?_ | refine JC.ops ?_ | refine JO.nil ?_ | refine JX.thenN ?_ | (apply r_move; exact rfl; exact rfl; exact rfl) | (apply r_assign; exact rfl; exact rfl; exact rfl) | (apply r_eqNil; exact rfl; exact rfl; exact rfl; exact rfl) | refine JX.thenR ?_ | refine JC.ret ?_ | refine JC.condT rfl ?_))
    exact JX.ret1 rfl (fun a w' st => ⟨st.kp, [], New.nil _ _, OwnU.nil⟩)
  | some ad =>
    refine calls_of_S [] [] (by simp) [] Tryd.func75 rfl mixed (by kernel_rfl) Tryd.ntmps75 Tryd.results75 rfl ⟨by simp, by simp⟩ (by simp) ?_
    simp only [toS, textOps, toSOp, kindAt, kindOf, odAt, sopsAt, ordOf, zipF]
    (repeat' (first | refine JC.seq ?_ | refine JC.ops ?_ | refine JO.nil ?_ | refine JX.thenN ?_ | (apply r_move; exact rfl; exact rfl; exact rfl) | (apply r_assign; exact rfl; exact rfl; exact rfl) | (apply r_eqNil; exact rfl; exact rfl; exact rfl; exact rfl) | refine JC.skip ?_ | refine JC.condF rfl ?_))
    refine r_buildSlice0 rfl rfl rfl (fun b => ?_)
    (repeat' (first | (apply r_move; exact rfl; exact rfl; exact rfl)))
    have hO : OwnU [(b, .cells #[] 68)] (.slice (some ⟨b, 0, none⟩) 0 0) 0 [] := own_litU b 0 [] [] rfl rfl (by omega)
    refine r_appendU (A := []) hO (WU.rd hv rfl []) (by (repeat' first | exact HSub.nil _ | exact HSub.hd | exact HSub.in0 | exact HSub.refl _ | refine HSub.skip ?_ | refine HSub.skipN ?_)) rfl trivial rfl rfl rfl rfl (by omega) (fun v' N' hO' => ?_)
    rw [Nat.zero_add, List.nil_append] at hO'
    (repeat' (first | refine JO.nil ?_ | refine JX.thenN ?_ | (apply r_assign; exact rfl; exact rfl; exact rfl) | refine JC.ret ?_))
    exact JX.ret1 rfl (fun a w' st => ⟨st.kp, N', st.newOf rfl (by (repeat' first | exact HSub.nil _ | exact HSub.hd | exact HSub.in0 | exact HSub.refl _ | refine HSub.skip ?_ | refine HSub.skipN ?_)), hO'⟩)

set_option maxHeartbeats 4000000 in
theorem c_less (w : World) (b o n cap m d : Nat) (xs ys : List Nat) (u : Value) (hv : WU w (.slice (some ⟨b, o, none⟩) n cap) n xs) (hu : WU w u m ys) (hm : m + 1 ≤ n) (hx : ∀ x ∈ xs, x < W32) (hy : ∀ x ∈ ys, x < W32) (hd : d < 4294967296) (hm6 : m ≤ 500000) :
    Calls Tryd.prog 66 #[.slice (some ⟨b, o, none⟩) n cap, u, uv d] w (Ret fun v w' => Kp [] w w' ∧ v = .bool (decide (val W32 (xs.take (m + 1)) < val W32 ys * d))) := by
  have hlx := hv.len
  have hly := hu.len
  have hcap := hv.cap
  have hxt : ∀ x ∈ xs.take (m + 1), x < W32 := fun x hx' => hx x (List.mem_of_mem_take hx')
  refine calls_of_S [] [] (by simp) [] Tryd.func66 rfl mixed (by kernel_rfl) Tryd.ntmps66 Tryd.results66 rfl ⟨by simp, by simp⟩ (by simp) ?_
  simp only [toS, textOps, toSOp, kindAt, kindOf, odAt, sopsAt, ordOf, zipF]
  (repeat' (first | refine JC.seq ?_ | refine JC.ops ?_ | refine JO.nil ?_ | refine JX.thenN ?_ | (apply r_move; exact rfl; exact rfl; exact rfl) | (apply r_assign; exact rfl; exact rfl; exact rfl) | (apply r_add1; exact rfl; exact rfl; exact rfl; exact rfl; omega) | (apply r_lenU; exact rfl; exact rfl; exact rfl; (first | assumption | exact WU.rd (by assumption) rfl [] | exact OwnU.rd (by assumption)))))
  refine r_head rfl rfl rfl rfl hm hcap ?_
  skip
  refine r_callA (A := []) rfl trivial rfl rfl rfl (fun w hk hs => c_CloneU w _ _ _ ((hv.mono hk).hd hm) (by omega)) fun w v w' _ _ _ hR => ?_
  obtain ⟨N1, hN1, hO1⟩ := hR
  refine ⟨N1, hN1, ?_⟩
  obtain ⟨A1, c1, rfl⟩ := hO1.form
  skip
  refine r_call0 trivial rfl rfl rfl (fun w hk hs => c_norm w _ _ _ _ (hO1.rd.at hk hs (by (repeat' first | exact HSub.nil _ | exact HSub.hd | exact HSub.in0 | exact HSub.refl _ | refine HSub.skip ?_ | refine HSub.skipN ?_))) (by omega)) fun w v w' _ _ _ hR => ?_
  obtain ⟨k1, hk1, rfl, hn1⟩ := hR
  have hO1' := hO1.hd hk1
  rw [← hn1] at hO1'
  (repeat' (first | (apply r_move; exact rfl; exact rfl; exact rfl) | (apply r_build1; exact rfl; exact rfl; exact rfl; exact rfl; exact rfl; (repeat first | exact trivial | refine ⟨rfl, ?_⟩); decide; decide; intro _)))
  rename_i b3
  have hO3 : OwnU [(b3, .cells ⟨[uv d]⟩ 68)] (.slice (some ⟨b3, 0, none⟩) 1 1) 1 [d] := own_litU b3 1 [d] _ rfl rfl (by omega)
  refine r_call0 trivial rfl rfl rfl (fun w hk hs => c_norm w _ _ _ _ (hO3.rd.at hk hs (by (repeat' first | exact HSub.nil _ | exact HSub.hd | exact HSub.in0 | exact HSub.refl _ | refine HSub.skip ?_ | refine HSub.skipN ?_))) (by omega)) fun w v w' _ _ _ hR => ?_
  obtain ⟨k3, hk3, rfl, hn3⟩ := hR
  have hO3' := hO3.hd hk3
  rw [← hn3] at hO3'
  have hd3 : ∀ x ∈ nrm [d], x < W32 := fun x hx => by
    have := nrm_mem x hx
    rw [List.mem_singleton] at this
    rw [this]; exact hd
  skip
  refine r_callA (A := []) rfl trivial rfl rfl rfl (fun w hk hs => c_mulW w _ _ _ _ _ _ (hu.mono hk) (hO3'.rd.at hk hs (by (repeat' first | exact HSub.nil _ | exact HSub.hd | exact HSub.in0 | exact HSub.refl _ | refine HSub.skip ?_ | refine HSub.skipN ?_))) hy hd3 (by omega) (by omega)) fun w v w' _ _ _ hR => ?_
  obtain ⟨N4, zs, hN4, hO4, hz, hval⟩ := hR
  refine ⟨N4, hN4, ?_⟩
  rw [val_nrm_one] at hval
  have hzl : zs.length ≤ m + 1 := by
    refine hz.len_le (by decide) ?_
    rw [hval, Nat.pow_succ]
    have h1 : val W32 ys < W32 ^ m := by have := val_lt hy; rwa [hly] at this
    exact Nat.lt_of_lt_of_le (Nat.mul_lt_mul_of_lt_of_le h1 (Nat.le_of_lt hd) (by decide)) (Nat.le_refl _)
  obtain ⟨A4, c4, rfl⟩ := hO4.form
  skip
  refine r_call0 trivial rfl rfl rfl (fun w hk hs => c_cmp w _ _ _ _ _ _ (hO1'.rd.at hk hs (by (repeat' first | exact HSub.nil _ | exact HSub.hd | exact HSub.in0 | exact HSub.refl _ | refine HSub.skip ?_ | refine HSub.skipN ?_))) (hO4.rd.at hk hs (by (repeat' first | exact HSub.nil _ | exact HSub.hd | exact HSub.in0 | exact HSub.refl _ | refine HSub.skip ?_ | refine HSub.skipN ?_))) (Dig.of hxt) hz (by omega) (by omega)) fun w v w' _ _ _ hR => ?_
  rw [val_nrm, hval] at hR
  subst hR
  (repeat' (first | refine JO.nil ?_ | refine JX.thenN ?_ | (apply r_assign; exact rfl; exact rfl; exact rfl) | (apply r_lss; exact rfl; exact rfl; exact rfl; exact rfl; all_goals intro hc; all_goals try (exfalso; omega)) | refine JC.ret ?_))
  · have h1 := cmpV_neg.1 hc
    exact JX.ret1 rfl (fun a w' st => ⟨st.kp, by rw [decide_eq_true h1]⟩)
  · have h1 := fun h => hc (cmpV_neg.2 h)
    exact JX.ret1 rfl (fun a w' st => ⟨st.kp, by rw [decide_eq_false h1]⟩)

set_option maxHeartbeats 4000000 in
theorem c_take (w : World) (b i cap m d capu : Nat) (us ys : List Nat) (Au : Option Addr) (rest : List Value) (hb : w.heap[b]? = some (.cells (rowCU us rest) 68 (0, 0))) (hc : us.length ≤ cap) (hu : WU w (.slice Au m capu) m ys) (hne : 0 < m → (vAt (.slice Au m capu) 0).block ∉ [b]) (hi : i + m + 1 ≤ us.length)
    (hx : ∀ x ∈ us, x < W32) (hy : ∀ x ∈ ys, x < W32) (hd : d < 4294967296) (hm6 : m ≤ 500000) (hle : val W32 ys * d ≤ val W32 ((us.drop i).take (m + 1))) (hL : us.length ≤ 1000000) :
    Calls Tryd.prog 67 #[.slice (some ⟨b, i, none⟩) (us.length - i) (cap - i), .slice Au m capu, uv d] w (Ret fun _ w' => Kp [b] w w' ∧ ∃ zs, zs.length ≤ m + 1 ∧ Dig W32 zs ∧ val W32 zs + val W32 ys * d = val W32 ((us.drop i).take (m + 1)) ∧ w'.heap[b]? = some (.cells (rowCU (put i (m + 1) zs us) rest) 68 (0, 0))) := by
  have hly := hu.len
  have hblt : b < w.heap.size := by
    rcases Nat.lt_or_ge b w.heap.size with h | h
    · exact h
    · rw [Array.getElem?_eq_none h] at hb; cases hb
  have hxt : ∀ x ∈ (us.drop i).take (m + 1), x < W32 := fun x hx' => hx x (List.mem_of_mem_drop (List.mem_of_mem_take hx'))
  refine calls_of_S [] [b] (by simpa using hblt) [(b, .cells (rowCU us rest) 68 (0, 0))] Tryd.func67 rfl mixed (by kernel_rfl) Tryd.ntmps67 Tryd.results67 rfl ⟨by simp, by simpa using hb⟩ (by simp) ?_
  simp only [toS, textOps, toSOp, kindAt, kindOf, odAt, sopsAt, ordOf, zipF]
  (repeat' (first | refine JC.seq ?_ | refine JC.ops ?_ | (apply r_move; exact rfl; exact rfl; exact rfl) | (apply r_len; exact rfl; exact rfl; exact rfl) | (apply r_add1; exact rfl; exact rfl; exact rfl; exact rfl; omega)))
  refine r_head rfl rfl rfl rfl (by omega) (by omega) ?_
  skip
  refine r_callA (A := [_]) rfl trivial rfl rfl rfl (fun w hk hs => c_CloneU w _ _ _ (WU.ofBlk (hs_at hs 0 rfl) (by omega) (by omega)) (by omega)) fun w v w' _ _ _ hR => ?_
  obtain ⟨N1, hN1, hO1⟩ := hR
  refine ⟨N1, hN1, ?_⟩
  obtain ⟨A1, c1, rfl⟩ := hO1.form
  (repeat' (first | (apply r_move; exact rfl; exact rfl; exact rfl) | (apply r_build1; exact rfl; exact rfl; exact rfl; exact rfl; exact rfl; (repeat first | exact trivial | refine ⟨rfl, ?_⟩); decide; decide; intro _)))
  rename_i b3
  have hO3 : OwnU [(b3, .cells ⟨[uv d]⟩ 68)] (.slice (some ⟨b3, 0, none⟩) 1 1) 1 [d] := own_litU b3 1 [d] _ rfl rfl (by omega)
  refine r_call0 trivial rfl rfl rfl (fun w hk hs => c_norm w _ _ _ _ (hO3.rd.at hk hs (by (repeat' first | exact HSub.nil _ | exact HSub.hd | exact HSub.in0 | exact HSub.refl _ | refine HSub.skip ?_ | refine HSub.skipN ?_))) (by omega)) fun w v w' _ _ _ hR => ?_
  obtain ⟨k3, hk3, rfl, hn3⟩ := hR
  have hO3' := hO3.hd hk3
  rw [← hn3] at hO3'
  have hd3 : ∀ x ∈ nrm [d], x < W32 := fun x hx => by
    have := nrm_mem x hx
    rw [List.mem_singleton] at this
    rw [this]; exact hd
  skip
  refine r_callA (A := [_, _]) rfl trivial rfl rfl rfl (fun w hk hs => c_mulW w _ _ _ _ _ _ (hu.monoM hk hne) (hO3'.rd.at hk hs (by (repeat' first | exact HSub.nil _ | exact HSub.hd | exact HSub.in0 | exact HSub.refl _ | refine HSub.skip ?_ | refine HSub.skipN ?_))) hy hd3 (by omega) (by omega)) fun w v w' _ _ _ hR => ?_
  obtain ⟨N4, zs, hN4, hO4, hz, hval⟩ := hR
  refine ⟨N4, hN4, ?_⟩
  rw [val_nrm_one] at hval
  have hlen1 : ((us.drop i).take (m + 1)).length = m + 1 := by simp; omega
  have hzl : zs.length ≤ m + 1 := by
    refine hz.len_le (by decide) ?_
    rw [hval]
    refine Nat.lt_of_le_of_lt hle ?_
    have := val_lt hxt
    rwa [hlen1] at this
  obtain ⟨A4, c4, rfl⟩ := hO4.form
  skip
  refine r_callA (A := [_, _]) rfl trivial rfl rfl rfl (fun w hk hs => c_sub w _ _ _ _ _ _ (hO1.rd.at hk hs (by (repeat' first | exact HSub.nil _ | exact HSub.hd | exact HSub.in0 | exact HSub.refl _ | refine HSub.skip ?_ | refine HSub.skipN ?_))) (hO4.rd.at hk hs (by (repeat' first | exact HSub.nil _ | exact HSub.hd | exact HSub.in0 | exact HSub.refl _ | refine HSub.skip ?_ | refine HSub.skipN ?_))) hxt hz.lt (by omega) hzl (by rw [hval]; exact hle)) fun w v w' _ _ _ hR => ?_
  obtain ⟨N5, rs, hN5, hO5, hr, hval5⟩ := hR
  refine ⟨N5, hN5, ?_⟩
  rw [hval] at hval5
  have hrl : rs.length ≤ m + 1 := by
    refine hr.len_le (by decide) ?_
    have := val_lt hxt
    rw [hlen1, ← hval5] at this
    exact Nat.lt_of_le_of_lt (Nat.le_add_right _ _) this
  obtain ⟨A5, c5, rfl⟩ := hO5.form
  (repeat' (first | refine JC.seq ?_ | refine JC.ops ?_ | refine JO.nil ?_ | refine JX.thenN ?_ | (apply r_move; exact rfl; exact rfl; exact rfl) | (apply r_assign; exact rfl; exact rfl; exact rfl) | (apply r_len; exact rfl; exact rfl; exact rfl) | (apply r_add1; exact rfl; exact rfl; exact rfl; exact rfl; omega)))
  refine r_head rfl rfl rfl rfl (by omega) (by omega) ?_
  refine r_clearU (A := [_]) rfl trivial rfl rfl (by omega) (by omega) ?_
  (repeat' (first | refine JC.ops ?_ | refine JO.nil ?_ | refine JX.thenN ?_ | (apply r_move; exact rfl; exact rfl; exact rfl)))
  refine r_copyU (A := [_]) rfl hO5.rd (by (repeat' first | exact HSub.nil _ | exact HSub.hd | exact HSub.in0 | exact HSub.refl _ | refine HSub.skip ?_ | refine HSub.skipN ?_)) trivial rfl rfl rfl rfl (by omega) (by rw [segSet_len (by simp) (by omega)]; omega) ?_
  (repeat' (first | refine JO.nil ?_))
  refine JX.end0 (fun a w' st => ⟨st.kp, rs, hrl, hr, hval5, ?_⟩)
  rw [← put_seg (by omega) hrl]
  exact hs_at st.hs 1 rfl

end Go.Proofs.YtdehklhdjbkneaaDoor

