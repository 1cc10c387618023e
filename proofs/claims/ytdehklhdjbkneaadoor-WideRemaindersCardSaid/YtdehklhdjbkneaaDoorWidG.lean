/- Words compared. -/
import Derived.Test.YtdehklhdjbkneaaDoorWidF
namespace Go.Proofs.YtdehklhdjbkneaaDoor
open Go Go.RowKit
set_option linter.unusedSimpArgs false
set_option linter.unusedVariables false
set_option linter.unusedSectionVars false

def cmpV (a b : Nat) : Int := if a < b then -1 else if b < a then 1 else 0

theorem val_split {b : Nat} {l : List Nat} {i : Nat} (h : i < l.length) : val b l = val b (l.take i) + b ^ i * (l.getD i 0 + b * val b (l.drop (i + 1))) := by
  have e : l = l.take i ++ (l.getD i 0 :: l.drop (i + 1)) := by
    conv => lhs; rw [← List.take_append_drop i l]
    rw [List.drop_eq_getElem_cons h]
    simp [List.getD, h]
  have h2 := congrArg (val b) e
  rw [val_append, val] at h2
  rw [h2, List.length_take, Nat.min_eq_left (Nat.le_of_lt h)]
theorem val_cmp {b : Nat} {l r : List Nat} {i : Nat} (hl : i < l.length) (hr : i < r.length) (hlt : ∀ x ∈ l, x < b) (h : l.getD i 0 < r.getD i 0) (hd : l.drop (i + 1) = r.drop (i + 1)) : val b l < val b r := by
  rw [val_split hl, val_split hr, hd]
  have h1 := val_lt (b := b) (l := l.take i) fun x hx => hlt x (List.mem_of_mem_take hx)
  rw [List.length_take, Nat.min_eq_left (Nat.le_of_lt hl)] at h1
  have h2 : b ^ i * (l.getD i 0 + b * val b (r.drop (i + 1)) + 1) ≤ b ^ i * (r.getD i 0 + b * val b (r.drop (i + 1))) := Nat.mul_le_mul_left _ (by omega)
  rw [Nat.mul_add, Nat.mul_one] at h2
  omega
theorem len_cmp {b : Nat} {l r : List Nat} (hb : 0 < b) (hl : Dig b l) (hr : Dig b r) (h : l.length < r.length) : val b l < val b r := by
  have h1 := val_lt hl.lt
  have h2 := val_ge hb hr.nrm (fun e => by subst e; cases h)
  have h3 : b ^ l.length ≤ b ^ (r.length - 1) := Nat.pow_le_pow_right hb (by omega)
  omega

set_option maxHeartbeats 8000000 in
theorem c_cmp (w : World) (v u : Value) (n k : Nat) (xs ys : List Nat) (hv : WU w v n xs) (hu : WU w u k ys) (hx : Dig W32 xs) (hy : Dig W32 ys) (hn : n ≤ 1000000) (hk : k ≤ 1000000) :
    Calls Tryd.prog 55 #[v, u] w (Ret fun v w' => Kp [] w w' ∧ v = iv (cmpV (val W32 xs) (val W32 ys))) := by
  have hlx := hv.len
  have hly := hu.len
  refine calls_of_S [] [] (by simp) [] Tryd.func55 rfl mixed (by kernel_rfl) Tryd.ntmps55 Tryd.results55 rfl ⟨by simp, by simp⟩ (by simp) ?_
  simp only [toS, textOps, toSOp, kindAt, kindOf, odAt, sopsAt, ordOf, zipF]
  rcases Nat.lt_trichotomy n k with h | h | h
  · have hcc := len_cmp (by decide) hx hy (by omega)
    (repeat' (first | refine JC.seq ?_ | refine JC.ops ?_ | refine JO.nil ?_ | refine JX.thenN ?_ | (apply r_move; exact rfl; exact rfl; exact rfl) | (apply r_assign; exact rfl; exact rfl; exact rfl) | (apply r_lenU; exact rfl; exact rfl; exact rfl; (first | assumption | exact WU.rd (by assumption) rfl [] | exact OwnU.rd (by assumption))) | (apply r_lss; exact rfl; exact rfl; exact rfl; exact rfl; all_goals intro hc; all_goals try (exfalso; omega)) | refine JX.thenR ?_ | refine JC.ret ?_ | refine JC.condT rfl ?_ | refine JC.block ?_ | refine JX.blockR ?_))
    exact JX.ret1 rfl (fun a w' st => ⟨st.kp, by unfold cmpV; rw [if_pos hcc]⟩)
  · (repeat' (first | refine JC.seq ?_ | refine JC.ops ?_ | refine JO.nil ?_ | refine JX.thenN ?_ | (apply r_move; exact rfl; exact rfl; exact rfl) | (apply r_assign; exact rfl; exact rfl; exact rfl) | (apply r_sub; exact rfl; exact rfl; exact rfl; exact rfl; omega) | (apply r_lenU; exact rfl; exact rfl; exact rfl; (first | assumption | exact WU.rd (by assumption) rfl [] | exact OwnU.rd (by assumption))) | (apply r_lss; exact rfl; exact rfl; exact rfl; exact rfl; all_goals intro hc; all_goals try (exfalso; omega)) | (apply r_gtr; exact rfl; exact rfl; exact rfl; exact rfl; all_goals intro hc; all_goals try (exfalso; omega)) | refine JC.skip ?_ | refine JC.condF rfl ?_ | refine JC.block ?_ | refine JX.blockN ?_))
    refine JC.loopH (ι := Nat) ⟨fun q => [(5, iv ((q : Int) - 1)), (0, v), (1, u)], fun _ => [], fun q => q ≤ n ∧ xs.drop q = ys.drop q, fun q => q⟩ n ⟨Nat.le_refl _, by rw [List.drop_eq_nil_of_le (by omega), List.drop_eq_nil_of_le (by omega)]⟩ (by repeat first | exact trivial | refine ⟨rfl, ?_⟩) (by (first | exact HSub.refl _ | (repeat' first | exact HSub.nil _ | exact HSub.refl _ | refine HSub.at 0 rfl ?_ | refine HSub.at 1 rfl ?_ | refine HSub.at 2 rfl ?_ | refine HSub.at 3 rfl ?_ | refine HSub.at 4 rfl ?_ | refine HSub.at 5 rfl ?_ | refine HSub.at 6 rfl ?_ | refine HSub.at 7 rfl ?_))) (fun q hq => ?_)
    obtain ⟨hqn, hd⟩ := hq
    dsimp only at hqn hd ⊢
    rcases q with _ | q
    · (repeat' (first | refine JC.seq ?_ | refine JC.ops ?_ | refine JO.nil ?_ | refine JX.thenN ?_ | (apply r_move; exact rfl; exact rfl; exact rfl) | (apply r_assign; exact rfl; exact rfl; exact rfl) | (apply r_geq; exact rfl; exact rfl; exact rfl; exact rfl; all_goals intro hc; all_goals try (exfalso; omega)) | refine JX.thenE ?_ | refine JC.exit ?_ | refine JC.ret ?_ | refine JC.condF rfl ?_ | refine JX.blockE ?_))
      have : xs = ys := hd
      exact JX.ret1 rfl (fun a w' st => ⟨st.kp, by unfold cmpV; rw [this, if_neg (Nat.lt_irrefl _), if_neg (Nat.lt_irrefl _)]⟩)
    · have hiv : iv (((q + 1 : Nat) : Int) - 1) = nv q := by
        show iv _ = iv _
        congr 1
        omega
      rw [hiv]
      rcases Nat.lt_trichotomy (xs.getD q 0) (ys.getD q 0) with h1 | h1 | h1
      · have hcc := val_cmp (b := W32) (by omega) (by omega) hx.lt h1 hd
        (repeat' (first | refine JC.seq ?_ | refine JC.ops ?_ | refine JC.opsD ?_ | refine JO.nil ?_ | refine JX.thenN ?_ | (apply r_move; exact rfl; exact rfl; exact rfl) | (apply r_assign; exact rfl; exact rfl; exact rfl) | (apply r_idxU; exact rfl; exact rfl; exact rfl; exact rfl; (first | assumption | exact WU.rd (by assumption) rfl [] | exact OwnU.rd (by assumption)); (first | assumption | omega)) | (apply r_ldU; exact rfl; exact rfl; exact rfl; exact rfl; (first | assumption | exact WU.rd (by assumption) rfl [] | exact OwnU.rd (by assumption)); (repeat' first | exact HSub.nil _ | exact HSub.hd | exact HSub.in0 | exact HSub.refl _ | refine HSub.skip ?_ | refine HSub.skipN ?_); (first | assumption | omega)) | (apply r_lss; exact rfl; exact rfl; exact rfl; exact rfl; all_goals intro hc; all_goals try (exfalso; omega)) | (apply r_geq; exact rfl; exact rfl; exact rfl; exact rfl; all_goals intro hc; all_goals try (exfalso; omega)) | refine JX.thenR ?_ | refine JC.skip ?_ | refine JC.ret ?_ | refine JC.condT rfl ?_ | refine JC.block ?_ | refine JX.blockR ?_))
        exact JX.ret1 rfl (fun a w' st => ⟨st.kp, by unfold cmpV; rw [if_pos hcc]⟩)
      · (repeat' (first | refine JC.seq ?_ | refine JC.ops ?_ | refine JC.opsD ?_ | refine JO.nil ?_ | refine JX.thenN ?_ | (apply r_move; exact rfl; exact rfl; exact rfl) | (apply r_assign; exact rfl; exact rfl; exact rfl) | (apply r_sub; exact rfl; exact rfl; exact rfl; exact rfl; omega) | (apply r_idxU; exact rfl; exact rfl; exact rfl; exact rfl; (first | assumption | exact WU.rd (by assumption) rfl [] | exact OwnU.rd (by assumption)); (first | assumption | omega)) | (apply r_ldU; exact rfl; exact rfl; exact rfl; exact rfl; (first | assumption | exact WU.rd (by assumption) rfl [] | exact OwnU.rd (by assumption)); (repeat' first | exact HSub.nil _ | exact HSub.hd | exact HSub.in0 | exact HSub.refl _ | refine HSub.skip ?_ | refine HSub.skipN ?_); (first | assumption | omega)) | (apply r_lss; exact rfl; exact rfl; exact rfl; exact rfl; all_goals intro hc; all_goals try (exfalso; omega)) | (apply r_gtr; exact rfl; exact rfl; exact rfl; exact rfl; all_goals intro hc; all_goals try (exfalso; omega)) | (apply r_geq; exact rfl; exact rfl; exact rfl; exact rfl; all_goals intro hc; all_goals try (exfalso; omega)) | refine JC.skip ?_ | refine JC.condT rfl ?_ | refine JC.condF rfl ?_ | refine JC.block ?_ | refine JX.blockN ?_))
        refine JX.roundH q ⟨by omega, ?_⟩ (by dsimp only; omega) (by repeat first | exact trivial | refine ⟨rfl, ?_⟩) (by (first | exact HSub.refl _ | (repeat' first | exact HSub.nil _ | exact HSub.refl _ | refine HSub.at 0 rfl ?_ | refine HSub.at 1 rfl ?_ | refine HSub.at 2 rfl ?_ | refine HSub.at 3 rfl ?_ | refine HSub.at 4 rfl ?_ | refine HSub.at 5 rfl ?_ | refine HSub.at 6 rfl ?_ | refine HSub.at 7 rfl ?_)))
        rw [List.drop_eq_getElem_cons (show q < xs.length by omega), List.drop_eq_getElem_cons (show q < ys.length by omega), hd]
        have e : xs[q]'(by omega) = ys[q]'(by omega) := by
          simpa [List.getD, List.getElem?_eq_getElem (show q < xs.length by omega), List.getElem?_eq_getElem (show q < ys.length by omega)] using h1
        rw [e]
      · have hcc := val_cmp (b := W32) (by omega) (by omega) hy.lt h1 hd.symm
        (repeat' (first | refine JC.seq ?_ | refine JC.ops ?_ | refine JC.opsD ?_ | refine JO.nil ?_ | refine JX.thenN ?_ | (apply r_move; exact rfl; exact rfl; exact rfl) | (apply r_assign; exact rfl; exact rfl; exact rfl) | (apply r_idxU; exact rfl; exact rfl; exact rfl; exact rfl; (first | assumption | exact WU.rd (by assumption) rfl [] | exact OwnU.rd (by assumption)); (first | assumption | omega)) | (apply r_ldU; exact rfl; exact rfl; exact rfl; exact rfl; (first | assumption | exact WU.rd (by assumption) rfl [] | exact OwnU.rd (by assumption)); (repeat' first | exact HSub.nil _ | exact HSub.hd | exact HSub.in0 | exact HSub.refl _ | refine HSub.skip ?_ | refine HSub.skipN ?_); (first | assumption | omega)) | (apply r_lss; exact rfl; exact rfl; exact rfl; exact rfl; all_goals intro hc; all_goals try (exfalso; omega)) | (apply r_gtr; exact rfl; exact rfl; exact rfl; exact rfl; all_goals intro hc; all_goals try (exfalso; omega)) | (apply r_geq; exact rfl; exact rfl; exact rfl; exact rfl; all_goals intro hc; all_goals try (exfalso; omega)) | refine JX.thenR ?_ | refine JC.skip ?_ | refine JC.ret ?_ | refine JC.condT rfl ?_ | refine JC.condF rfl ?_ | refine JC.block ?_ | refine JX.blockR ?_))
        exact JX.ret1 rfl (fun a w' st => ⟨st.kp, by unfold cmpV; rw [if_neg (by omega), if_pos hcc]⟩)
  · have hcc := len_cmp (by decide) hy hx (by omega)
    (repeat' (first | refine JC.seq ?_ | refine JC.ops ?_ | refine JO.nil ?_ | refine JX.thenN ?_ | (apply r_move; exact rfl; exact rfl; exact rfl) | (apply r_assign; exact rfl; exact rfl; exact rfl) | (apply r_lenU; exact rfl; exact rfl; exact rfl; (first | assumption | exact WU.rd (by assumption) rfl [] | exact OwnU.rd (by assumption))) | (apply r_lss; exact rfl; exact rfl; exact rfl; exact rfl; all_goals intro hc; all_goals try (exfalso; omega)) | (apply r_gtr; exact rfl; exact rfl; exact rfl; exact rfl; all_goals intro hc; all_goals try (exfalso; omega)) | refine JX.thenR ?_ | refine JC.ret ?_ | refine JC.condT rfl ?_ | refine JC.condF rfl ?_ | refine JC.block ?_ | refine JX.blockR ?_))
    exact JX.ret1 rfl (fun a w' st => ⟨st.kp, by unfold cmpV; rw [if_neg (by omega), if_pos hcc]⟩)

end Go.Proofs.YtdehklhdjbkneaaDoor
