/- norm and trim. -/
import Derived.Test.YtdehklhdjbkneaaDoorWidA
namespace Go.Proofs.YtdehklhdjbkneaaDoor
open Go Go.RowKit
set_option linter.unusedSimpArgs false
set_option linter.unusedVariables false
set_option linter.unusedSectionVars false

section
variable {c : Cx} {Q : Exit → Act → World → Prop} {m : Mode} {F : SFrame} {H : SHeap} {r : List SOp} {g : Option (Option Tmp × Bool)} {ns : Bool} {d : Tmp} {ty t t' : TypeId} {x y : Operand}
/-- 'a[:j]', as it stands. -/
theorem r_head {e : TypeId} {sz b o len cap j : Nat} {hi : Operand} [TSl c.P t e] [TSz c.P e sz] (hd : dstOk c.n (some d) = true) (hg : guardF F g = some true) (hx : ev F x = some (.slice (some ⟨b, o, none⟩) len cap)) (hhi : ev F hi = some (nv j)) (hj : j ≤ len) (hlc : len ≤ cap)
    (h : JO c Q m r ((d, (.slice (some ⟨b, o, none⟩) j cap)) :: F) H) : JO c Q m (⟨some d, .slice t x none (some hi) none, ty, g, .mov, ns⟩ :: r) F H :=
  r_mov hd hg (fun a w fr => by
    have e2 : (0 : Int) ≤ j ∧ (j : Int) ≤ cap := by omega
    have e3 : (if cap = 0 then some (⟨b, o, none⟩ : Addr) else some ((⟨b, o, none⟩ : Addr).add (0 * sz))) = some ⟨b, o, none⟩ := by
      split
      · rfl
      · simp [add_none]
    simp only [execOp, fr.ev hx, Option.map_some, fr.ev hhi, Option.map_none, Instr.sliceAt, Sem.run_bind, run_underlying (TSl.und (P := c.P) (t := t)), Result.andThen_ok, Instr.slice, Instr.sliceBounds,
      Instr.sliceBound, asIntOf, Sem.run_pure, e2, and_self, if_true, Int.toNat_natCast, TSz.size (e := e) (n := sz), if_false, Nat.sub_zero, e3]) h
end

theorem nrm_take {xs : List Nat} {k : Nat} (hk : k ≤ xs.length) (h : ∀ i, k ≤ i → i < xs.length → xs.getD i 0 = 0) (h0 : 0 < k → xs.getD (k - 1) 0 ≠ 0) : nrm xs = xs.take k := by
  have key : ∀ d, k + d ≤ xs.length → nrm (xs.take (k + d)) = xs.take k := fun d => by
    induction d with
    | zero =>
      intro _
      rcases Nat.eq_zero_or_pos k with h1 | h1
      · subst h1; rfl
      · have e : xs.take k = xs.take (k - 1) ++ [xs.getD (k - 1) 0] := by
          have h2 : xs[k - 1]? = some (xs.getD (k - 1) 0) := gD_lt (d := 0) (by omega)
          have h3 := List.take_add_one (l := xs) (i := k - 1)
          rw [show k - 1 + 1 = k by omega, h2] at h3
          exact h3
        rw [Nat.add_zero, e]
        exact nrm_snoc _ (h0 h1)
    | succ d ih =>
      intro hd
      have e : xs.take (k + (d + 1)) = xs.take (k + d) ++ [0] := by
        have h2 : xs[k + d]? = some 0 := by rw [gD_lt (d := 0) (by omega), h (k + d) (by omega) (by omega)]
        rw [← Nat.add_assoc, List.take_add_one, h2]; rfl
      rw [e, nrm_snoc0]
      exact ih (by omega)
  have := key (xs.length - k) (by omega)
  rw [show k + (xs.length - k) = xs.length by omega, List.take_length] at this
  exact this

set_option maxHeartbeats 2000000 in
theorem c_norm (w : World) (A : Option Addr) (n cap : Nat) (xs : List Nat) (hv : WU w (.slice A n cap) n xs) (hn : n ≤ 1000000000) :
    Calls Tryd.prog 57 #[.slice A n cap] w (Ret fun v w' => Kp [] w w' ∧ ∃ k, k ≤ n ∧ v = .slice A k cap ∧ nrm xs = xs.take k) := by
  have hlen := hv.len
  refine calls_of_S [] [] (by simp) [] Tryd.func57 rfl mixed (by kernel_rfl) Tryd.ntmps57 Tryd.results57 rfl ⟨by simp, by simp⟩ (by simp) ?_
  simp only [toS, textOps, toSOp, kindAt, kindOf, odAt, sopsAt, ordOf, zipF]
  (repeat' (first | refine JC.seq ?_ | refine JC.ops ?_ | refine JO.nil ?_ | refine JX.thenN ?_ | (apply r_assign; exact rfl; exact rfl; exact rfl) | refine JC.block ?_))
  refine JC.loopH (ι := Nat) ⟨fun k => [(0, .slice A k cap)], fun _ => [], fun k => k ≤ n ∧ ∀ i, k ≤ i → i < n → xs.getD i 0 = 0, fun k => k⟩ n ⟨Nat.le_refl _, fun i a b => by omega⟩ (by repeat first | exact trivial | refine ⟨rfl, ?_⟩) (by (first | exact HSub.refl _ | (repeat' first | exact HSub.nil _ | exact HSub.refl _ | refine HSub.at 0 rfl ?_ | refine HSub.at 1 rfl ?_ | refine HSub.at 2 rfl ?_ | refine HSub.at 3 rfl ?_ | refine HSub.at 4 rfl ?_ | refine HSub.at 5 rfl ?_ | refine HSub.at 6 rfl ?_ | refine HSub.at 7 rfl ?_))) (fun k hk => ?_)
  obtain ⟨hkn, hz⟩ := hk
  dsimp only at hkn hz ⊢
  have hrow : WU w (.slice A k cap) k (xs.take k) := by
    obtain ⟨h1, A', cap', h2, h3, h4⟩ := hv
    simp only [Value.slice.injEq] at h2
    obtain ⟨rfl, _, rfl⟩ := h2
    refine ⟨by simp; omega, A, cap, rfl, by omega, fun h0 => ⟨(h4 (by omega)).1, fun j u hu => ?_⟩⟩
    obtain ⟨⟨b, o, rfl⟩, h5⟩ := h4 (by omega)
    refine h5 j u ?_
    rw [List.map_take, List.getElem?_take] at hu
    split at hu
    · exact hu
    · cases hu
  have hcap : k ≤ cap := by
    obtain ⟨_, _, _, h2, h3, _⟩ := hrow
    simp only [Value.slice.injEq] at h2
    obtain ⟨_, _, rfl⟩ := h2
    exact h3
  have hget : 0 < k → (xs.take k).getD (k - 1) 0 = xs.getD (k - 1) 0 := fun h => by
    simp only [List.getD, List.getElem?_take, if_pos (show k - 1 < k by omega)]
  by_cases hk0 : 0 < k
  · have hg := hget hk0
    have hA : ∃ b o, A = some ⟨b, o, none⟩ := by
      obtain ⟨_, _, _, h2, _, h4⟩ := hrow
      simp only [Value.slice.injEq] at h2
      obtain ⟨rfl, _, rfl⟩ := h2
      exact (h4 hk0).1
    by_cases hx0 : xs.getD (k - 1) 0 = 0
    · (repeat' (first | refine JC.seq ?_ | refine JC.ops ?_ | refine JO.nil ?_ | refine JX.thenN ?_ | (apply r_move; exact rfl; exact rfl; exact rfl) | (apply r_len; exact rfl; exact rfl; exact rfl) | (apply r_sub1; exact rfl; exact rfl; exact rfl; exact rfl; omega) | (apply r_pickT; exact rfl; exact rfl; exact rfl; exact rfl) | (apply r_idxU; exact rfl; exact rfl; exact rfl; exact rfl; (first | assumption | exact WU.rd (by assumption) rfl [] | exact OwnU.rd (by assumption)); (first | assumption | omega)) | (apply r_ldU; exact rfl; exact rfl; exact rfl; exact rfl; (first | assumption | exact WU.rd (by assumption) rfl [] | exact OwnU.rd (by assumption)); (repeat' first | exact HSub.nil _ | exact HSub.hd | exact HSub.in0 | exact HSub.refl _ | refine HSub.skip ?_ | refine HSub.skipN ?_); (first | assumption | omega)) | (apply r_gtr; exact rfl; exact rfl; exact rfl; exact rfl; all_goals intro hc; all_goals try (exfalso; omega)) | (apply r_eql; exact rfl; exact rfl; exact rfl; exact rfl; all_goals intro hc; all_goals try (exfalso; omega)) | refine JC.skip ?_ | refine JC.condT rfl ?_ | refine JC.block ?_))
      obtain ⟨b, o, rfl⟩ := hA
      refine r_head rfl rfl rfl rfl (by omega) hcap ?_
      (repeat' (first | refine JO.nil ?_ | (apply r_assign; exact rfl; exact rfl; exact rfl) | refine JX.blockN ?_))
      exact JX.roundH (k - 1) ⟨by omega, fun i a b => by
        by_cases e : i = k - 1
        · subst e; exact hx0
        · exact hz i (by omega) b⟩ (by dsimp only; omega) (by repeat first | exact trivial | refine ⟨rfl, ?_⟩) (by (first | exact HSub.refl _ | (repeat' first | exact HSub.nil _ | exact HSub.refl _ | refine HSub.at 0 rfl ?_ | refine HSub.at 1 rfl ?_ | refine HSub.at 2 rfl ?_ | refine HSub.at 3 rfl ?_ | refine HSub.at 4 rfl ?_ | refine HSub.at 5 rfl ?_ | refine HSub.at 6 rfl ?_ | refine HSub.at 7 rfl ?_)))
    · (repeat' (first | refine JC.seq ?_ | refine JC.ops ?_ | refine JO.nil ?_ | refine JX.thenN ?_ | (apply r_move; exact rfl; exact rfl; exact rfl) | (apply r_assign; exact rfl; exact rfl; exact rfl) | (apply r_len; exact rfl; exact rfl; exact rfl) | (apply r_sub1; exact rfl; exact rfl; exact rfl; exact rfl; omega) | (apply r_pickT; exact rfl; exact rfl; exact rfl; exact rfl) | (apply r_idxU; exact rfl; exact rfl; exact rfl; exact rfl; (first | assumption | exact WU.rd (by assumption) rfl [] | exact OwnU.rd (by assumption)); (first | assumption | omega)) | (apply r_ldU; exact rfl; exact rfl; exact rfl; exact rfl; (first | assumption | exact WU.rd (by assumption) rfl [] | exact OwnU.rd (by assumption)); (repeat' first | exact HSub.nil _ | exact HSub.hd | exact HSub.in0 | exact HSub.refl _ | refine HSub.skip ?_ | refine HSub.skipN ?_); (first | assumption | omega)) | (apply r_gtr; exact rfl; exact rfl; exact rfl; exact rfl; all_goals intro hc; all_goals try (exfalso; omega)) | (apply r_eql; exact rfl; exact rfl; exact rfl; exact rfl; all_goals intro hc; all_goals try (exfalso; omega)) | refine JX.thenE ?_ | refine JC.exit ?_ | refine JC.ret ?_ | refine JC.condF rfl ?_ | refine JX.blockE ?_))
      exact JX.ret1 rfl (fun a w' st => ⟨st.kp, k, hkn, rfl, nrm_take (by omega) (fun i a b => hz i a (by omega)) (fun _ => hx0)⟩)
  · (repeat' (first | refine JC.seq ?_ | refine JC.ops ?_ | refine JO.nil ?_ | refine JX.thenN ?_ | (apply r_move; exact rfl; exact rfl; exact rfl) | (apply r_assign; exact rfl; exact rfl; exact rfl) | (apply r_len; exact rfl; exact rfl; exact rfl) | (apply r_pickF; exact rfl; exact rfl; exact rfl; exact rfl) | (apply r_gtr; exact rfl; exact rfl; exact rfl; exact rfl; all_goals intro hc; all_goals try (exfalso; omega)) | refine JX.thenE ?_ | refine JC.exit ?_ | refine JC.ret ?_ | refine JC.condF rfl ?_ | refine JX.blockE ?_ | (apply r_skip; exact rfl; exact rfl; (first | (intro h; cases h; done) | (intro _; rfl)))))
    exact JX.ret1 rfl (fun a w' st => ⟨st.kp, k, hkn, rfl, nrm_take (by omega) (fun i a b => hz i a (by omega)) (fun h => absurd h hk0)⟩)

set_option maxHeartbeats 2000000 in
theorem c_trim (w : World) (A : Option Addr) (n cap : Nat) (xs : List Nat) (hv : WN w (.slice A n cap) n xs) (hn : n ≤ 1000000000) :
    Calls Tryd.prog 59 #[.slice A n cap] w (Ret fun v w' => Kp [] w w' ∧ ∃ k, k ≤ n ∧ v = .slice A k cap ∧ nrm xs = xs.take k) := by
  have hlen := hv.len
  refine calls_of_S [] [] (by simp) [] Tryd.func59 rfl mixed (by kernel_rfl) Tryd.ntmps59 Tryd.results59 rfl ⟨by simp, by simp⟩ (by simp) ?_
  simp only [toS, textOps, toSOp, kindAt, kindOf, odAt, sopsAt, ordOf, zipF]
  (repeat' (first | refine JC.seq ?_ | refine JC.ops ?_ | refine JO.nil ?_ | refine JX.thenN ?_ | (apply r_assign; exact rfl; exact rfl; exact rfl) | refine JC.block ?_))
  refine JC.loopH (ι := Nat) ⟨fun k => [(0, .slice A k cap)], fun _ => [], fun k => k ≤ n ∧ ∀ i, k ≤ i → i < n → xs.getD i 0 = 0, fun k => k⟩ n ⟨Nat.le_refl _, fun i a b => by omega⟩ (by repeat first | exact trivial | refine ⟨rfl, ?_⟩) (by (first | exact HSub.refl _ | (repeat' first | exact HSub.nil _ | exact HSub.refl _ | refine HSub.at 0 rfl ?_ | refine HSub.at 1 rfl ?_ | refine HSub.at 2 rfl ?_ | refine HSub.at 3 rfl ?_ | refine HSub.at 4 rfl ?_ | refine HSub.at 5 rfl ?_ | refine HSub.at 6 rfl ?_ | refine HSub.at 7 rfl ?_))) (fun k hk => ?_)
  obtain ⟨hkn, hz⟩ := hk
  dsimp only at hkn hz ⊢
  have hrow : WN w (.slice A k cap) k (xs.take k) := by
    obtain ⟨h1, A', cap', h2, h3, h4⟩ := hv
    simp only [Value.slice.injEq] at h2
    obtain ⟨rfl, _, rfl⟩ := h2
    refine ⟨by simp; omega, A, cap, rfl, by omega, fun h0 => ⟨(h4 (by omega)).1, fun j u hu => ?_⟩⟩
    obtain ⟨⟨b, o, rfl⟩, h5⟩ := h4 (by omega)
    refine h5 j u ?_
    rw [List.map_take, List.getElem?_take] at hu
    split at hu
    · exact hu
    · cases hu
  have hcap : k ≤ cap := by
    obtain ⟨_, _, _, h2, h3, _⟩ := hrow
    simp only [Value.slice.injEq] at h2
    obtain ⟨_, _, rfl⟩ := h2
    exact h3
  have hget : 0 < k → (xs.take k).getD (k - 1) 0 = xs.getD (k - 1) 0 := fun h => by
    simp only [List.getD, List.getElem?_take, if_pos (show k - 1 < k by omega)]
  by_cases hk0 : 0 < k
  · have hg := hget hk0
    have hA : ∃ b o, A = some ⟨b, o, none⟩ := by
      obtain ⟨_, _, _, h2, _, h4⟩ := hrow
      simp only [Value.slice.injEq] at h2
      obtain ⟨rfl, _, rfl⟩ := h2
      exact (h4 hk0).1
    by_cases hx0 : xs.getD (k - 1) 0 = 0
    · (repeat' (first | refine JC.seq ?_ | refine JC.ops ?_ | refine JO.nil ?_ | refine JX.thenN ?_ | (apply r_move; exact rfl; exact rfl; exact rfl) | (apply r_idxN; exact rfl; exact rfl; exact rfl; exact rfl; (first | assumption | exact WN.rd (by assumption) rfl [] | exact OwnN.rd (by assumption)); (first | assumption | omega)) | (apply r_ldN; exact rfl; exact rfl; exact rfl; exact rfl; (first | assumption | exact WN.rd (by assumption) rfl [] | exact OwnN.rd (by assumption)); (repeat' first | exact HSub.nil _ | exact HSub.hd | exact HSub.in0 | exact HSub.refl _ | refine HSub.skip ?_ | refine HSub.skipN ?_); (first | assumption | omega)) | (apply r_len; exact rfl; exact rfl; exact rfl) | (apply r_sub1; exact rfl; exact rfl; exact rfl; exact rfl; omega) | (apply r_pickT; exact rfl; exact rfl; exact rfl; exact rfl) | (apply r_gtr; exact rfl; exact rfl; exact rfl; exact rfl; all_goals intro hc; all_goals try (exfalso; omega)) | (apply r_eql; exact rfl; exact rfl; exact rfl; exact rfl; all_goals intro hc; all_goals try (exfalso; omega)) | refine JC.skip ?_ | refine JC.condT rfl ?_ | refine JC.block ?_))
      obtain ⟨b, o, rfl⟩ := hA
      refine r_head rfl rfl rfl rfl (by omega) hcap ?_
      (repeat' (first | refine JO.nil ?_ | (apply r_assign; exact rfl; exact rfl; exact rfl) | refine JX.blockN ?_))
      exact JX.roundH (k - 1) ⟨by omega, fun i a b => by
        by_cases e : i = k - 1
        · subst e; exact hx0
        · exact hz i (by omega) b⟩ (by dsimp only; omega) (by repeat first | exact trivial | refine ⟨rfl, ?_⟩) (by (first | exact HSub.refl _ | (repeat' first | exact HSub.nil _ | exact HSub.refl _ | refine HSub.at 0 rfl ?_ | refine HSub.at 1 rfl ?_ | refine HSub.at 2 rfl ?_ | refine HSub.at 3 rfl ?_ | refine HSub.at 4 rfl ?_ | refine HSub.at 5 rfl ?_ | refine HSub.at 6 rfl ?_ | refine HSub.at 7 rfl ?_)))
    · (repeat' (first | refine JC.seq ?_ | refine JC.ops ?_ | refine JO.nil ?_ | refine JX.thenN ?_ | (apply r_move; exact rfl; exact rfl; exact rfl) | (apply r_assign; exact rfl; exact rfl; exact rfl) | (apply r_idxN; exact rfl; exact rfl; exact rfl; exact rfl; (first | assumption | exact WN.rd (by assumption) rfl [] | exact OwnN.rd (by assumption)); (first | assumption | omega)) | (apply r_ldN; exact rfl; exact rfl; exact rfl; exact rfl; (first | assumption | exact WN.rd (by assumption) rfl [] | exact OwnN.rd (by assumption)); (repeat' first | exact HSub.nil _ | exact HSub.hd | exact HSub.in0 | exact HSub.refl _ | refine HSub.skip ?_ | refine HSub.skipN ?_); (first | assumption | omega)) | (apply r_len; exact rfl; exact rfl; exact rfl) | (apply r_sub1; exact rfl; exact rfl; exact rfl; exact rfl; omega) | (apply r_pickT; exact rfl; exact rfl; exact rfl; exact rfl) | (apply r_gtr; exact rfl; exact rfl; exact rfl; exact rfl; all_goals intro hc; all_goals try (exfalso; omega)) | (apply r_eql; exact rfl; exact rfl; exact rfl; exact rfl; all_goals intro hc; all_goals try (exfalso; omega)) | refine JX.thenE ?_ | refine JC.exit ?_ | refine JC.ret ?_ | refine JC.condF rfl ?_ | refine JX.blockE ?_))
      exact JX.ret1 rfl (fun a w' st => ⟨st.kp, k, hkn, rfl, nrm_take (by omega) (fun i a b => hz i a (by omega)) (fun _ => hx0)⟩)
  · (repeat' (first | refine JC.seq ?_ | refine JC.ops ?_ | refine JO.nil ?_ | refine JX.thenN ?_ | (apply r_move; exact rfl; exact rfl; exact rfl) | (apply r_assign; exact rfl; exact rfl; exact rfl) | (apply r_len; exact rfl; exact rfl; exact rfl) | (apply r_pickF; exact rfl; exact rfl; exact rfl; exact rfl) | (apply r_gtr; exact rfl; exact rfl; exact rfl; exact rfl; all_goals intro hc; all_goals try (exfalso; omega)) | refine JX.thenE ?_ | refine JC.exit ?_ | refine JC.ret ?_ | refine JC.condF rfl ?_ | refine JX.blockE ?_ | (apply r_skip; exact rfl; exact rfl; (first | (intro h; cases h; done) | (intro _; rfl)))))
    exact JX.ret1 rfl (fun a w' st => ⟨st.kp, k, hkn, rfl, nrm_take (by omega) (fun i a b => hz i a (by omega)) (fun h => absurd h hk0)⟩)

end Go.Proofs.YtdehklhdjbkneaaDoor
