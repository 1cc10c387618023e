/- The quotient by a word. -/
import Derived.Test.YtdehklhdjbkneaaDoorExX
namespace Go.Proofs.YtdehklhdjbkneaaDoor
open Go Go.RowKit
set_option linter.unusedSimpArgs false
set_option linter.unusedVariables false
set_option linter.unusedSectionVars false

theorem small_round {d W r x Z cur : Nat} (hc : cur = r * W + x) : x + W * (d * Z + r) = d * (cur / d + W * Z) + cur % d := by
  have h1 := Nat.div_add_mod cur d
  rw [Nat.mul_add, Nat.mul_add, Nat.mul_left_comm W d Z, Nat.mul_comm W r]
  omega
theorem drop_set {l : List Nat} {i u : Nat} : (l.set i u).drop (i + 1) = l.drop (i + 1) := by
  apply List.ext_getElem?
  intro j
  rw [List.getElem?_drop, List.getElem?_drop, List.getElem?_set_ne (by omega)]

set_option maxHeartbeats 8000000 in
theorem c_small (w : World) (v : Value) (n d : Nat) (xs : List Nat) (hv : WU w v n xs) (hx : ∀ x ∈ xs, x < W32) (hd0 : 0 < d) (hd1 : d < 4294967296) (hn : n ≤ 1000000) :
    Calls Tryd.prog 60 #[v, uv d] w (Ret fun v w' => Kp [] w w' ∧ ∃ v1 N zs, v = .tuple #[v1, uv (val W32 xs % d)] ∧ New N w w' ∧ OwnU N v1 zs.length zs ∧ Dig W32 zs ∧ val W32 zs = val W32 xs / d) := by
  have hlx := hv.len
  refine calls_of_S [⟨7, 11, [], []⟩] [] (by simp) [] Tryd.func60 rfl mixed (by kernel_rfl) Tryd.ntmps60 Tryd.results60 rfl ⟨by simp, by simp⟩ (by simp) ?_
  simp only [toS, textOps, toSOp, kindAt, kindOf, odAt, sopsAt, ordOf, zipF]
  (repeat' (first | refine JC.seq ?_ | refine JC.ops ?_ | refine JO.nil ?_ | refine JX.thenN ?_ | (apply r_move; exact rfl; exact rfl; exact rfl) | (apply r_assign; exact rfl; exact rfl; exact rfl) | (apply r_lenU; exact rfl; exact rfl; exact rfl; (first | assumption | exact WU.rd (by assumption) rfl [] | exact OwnU.rd (by assumption)))))
  refine r_make (n := n) rfl rfl rfl rfl rfl (by omega) (by omega) (fun b5 => ?_)
  have hO := own_zerosU b5 n (by simp only [maxLen]; omega)
  (repeat' (first | refine JC.seq ?_ | refine JC.ops ?_ | refine JO.nil ?_ | refine JX.thenN ?_ | (apply r_move; exact rfl; exact rfl; exact rfl) | (apply r_assign; exact rfl; exact rfl; exact rfl) | (apply r_sub; exact rfl; exact rfl; exact rfl; exact rfl; omega) | (apply r_lenU; exact rfl; exact rfl; exact rfl; (first | assumption | exact WU.rd (by assumption) rfl [] | exact OwnU.rd (by assumption))) | refine JC.block ?_))
  refine JC.loopH (ι := Nat × Nat × SHeap × List Nat) ⟨fun z => [(8, iv ((z.1 : Int) - 1)), (7, uv z.2.1), (6, .slice (some ⟨b5, 0, none⟩) n n), (0, v), (1, uv d)], fun z => z.2.2.1 ++ [],
    fun z => z.1 ≤ n ∧ OwnU z.2.2.1 (.slice (some ⟨b5, 0, none⟩) n n) n z.2.2.2 ∧ (∀ x ∈ z.2.2.2, x < W32) ∧ z.2.1 < d ∧ val W32 (xs.drop z.1) = d * val W32 (z.2.2.2.drop z.1) + z.2.1, fun z => z.1⟩
    (n, 0, _, _) ⟨Nat.le_refl _, hO, fun x hx => by obtain ⟨a, _, rfl⟩ := List.mem_map.1 hx; decide, hd0, by
      show val W32 (xs.drop n) = d * val W32 ((tab n fun _ => 0).drop n) + 0
      rw [val_drop_nil (by omega), val_drop_nil (by simp [tab])]; rfl⟩ (by repeat first | exact trivial | refine ⟨rfl, ?_⟩) (by (first | exact HSub.refl _ | (repeat' first | exact HSub.nil _ | exact HSub.refl _ | refine HSub.at 0 rfl ?_ | refine HSub.at 1 rfl ?_ | refine HSub.at 2 rfl ?_ | refine HSub.at 3 rfl ?_ | refine HSub.at 4 rfl ?_ | refine HSub.at 5 rfl ?_ | refine HSub.at 6 rfl ?_ | refine HSub.at 7 rfl ?_))) (fun z hz => ?_)
  clear hO
  obtain ⟨j, r, N, zs⟩ := z
  obtain ⟨hj, hO, hz, hr, hval⟩ := hz
  dsimp only at hj hO hz hr hval ⊢
  have hlz := hO.len
  rcases j with _ | q
  · (repeat' (first | refine JC.seq ?_ | refine JC.ops ?_ | refine JO.nil ?_ | refine JX.thenN ?_ | (apply r_move; exact rfl; exact rfl; exact rfl) | (apply r_geq; exact rfl; exact rfl; exact rfl; exact rfl; all_goals intro hc; all_goals try (exfalso; omega)) | refine JX.thenE ?_ | refine JC.exit ?_ | refine JC.condF rfl ?_ | refine JX.blockE ?_))
    refine r_call0 trivial rfl rfl rfl (fun w hk hs => c_norm w _ _ _ _ (hO.rd.at hk hs (by (repeat' first | exact HSub.nil _ | exact HSub.hd | exact HSub.in0 | exact HSub.refl _ | refine HSub.skip ?_ | refine HSub.skipN ?_))) (by omega)) fun w v w' _ _ _ hR => ?_
    obtain ⟨q, hq, rfl, hnq⟩ := hR
    (repeat' (first | refine JO.nil ?_ | refine JX.thenN ?_ | (apply r_move; exact rfl; exact rfl; exact rfl) | (apply r_assign; exact rfl; exact rfl; exact rfl) | refine JC.ret ?_))
    have hown := hO.hd hq
    rw [← hnq] at hown
    have hql : (nrm zs).length = q := hown.len
    rw [List.drop_zero, List.drop_zero] at hval
    have hmod : val W32 xs % d = r := by rw [hval, Nat.mul_add_mod, Nat.mod_eq_of_lt hr]
    have hdiv : val W32 xs / d = val W32 zs := by rw [hval, Nat.mul_add_div hd0, Nat.div_eq_of_lt hr, Nat.add_zero]
    refine JX.ret2 rfl rfl (fun a w' st => ⟨st.kp, _, N, nrm zs, by rw [hmod], st.newOf rfl (by (repeat' first | exact HSub.nil _ | exact HSub.hd | exact HSub.in0 | exact HSub.refl _ | refine HSub.skip ?_ | refine HSub.skipN ?_)), by rw [hql]; exact hown, Dig.of hz, by rw [val_nrm, hdiv]⟩)
  · have hiv : iv (((q + 1 : Nat) : Int) - 1) = nv q := by
      show iv _ = iv _
      congr 1
      omega
    rw [hiv]
    have hxq : xs.getD q 0 < 4294967296 := mem_getD_lt (b := W32) (by decide) hx q
    (repeat' (first | refine JC.seq ?_ | refine JC.ops ?_ | refine JC.opsD ?_ | refine JO.nil ?_ | refine JX.thenN ?_ | (apply r_move; exact rfl; exact rfl; exact rfl) | (apply r_assign; exact rfl; exact rfl; exact rfl) | (apply r_shl32; exact rfl; exact rfl; exact rfl; exact rfl; (first | assumption | omega)) | (apply r_or32; exact rfl; exact rfl; exact rfl; exact rfl; (first | assumption | omega | exact ⟨by assumption, by assumption⟩)) | (apply r_idxU; exact rfl; exact rfl; exact rfl; exact rfl; (first | assumption | exact WU.rd (by assumption) rfl [] | exact OwnU.rd (by assumption)); (first | assumption | omega)) | (apply r_ldU; exact rfl; exact rfl; exact rfl; exact rfl; (first | assumption | exact WU.rd (by assumption) rfl [] | exact OwnU.rd (by assumption)); (repeat' first | exact HSub.nil _ | exact HSub.hd | exact HSub.in0 | exact HSub.refl _ | refine HSub.skip ?_ | refine HSub.skipN ?_); (first | assumption | omega)) | (apply r_quoU; exact rfl; exact rfl; exact rfl; exact rfl; (first | assumption | omega)) | (apply r_remU; exact rfl; exact rfl; exact rfl; exact rfl; (first | assumption | omega)) | (apply r_geq; exact rfl; exact rfl; exact rfl; exact rfl; all_goals intro hc; all_goals try (exfalso; omega)) | refine JC.skip ?_ | refine JC.condT rfl ?_ | refine JC.block ?_))
    refine r_stU (A := []) hO rfl rfl (by first | trivial | exact ⟨rfl, rfl⟩) rfl rfl (by omega) (fun N' hO' => ?_)
    (repeat' (first | refine JC.ops ?_ | refine JO.nil ?_ | refine JX.thenN ?_ | (apply r_move; exact rfl; exact rfl; exact rfl) | (apply r_assign; exact rfl; exact rfl; exact rfl) | (apply r_sub; exact rfl; exact rfl; exact rfl; exact rfl; omega) | refine JX.blockN ?_))
    refine JX.roundH (q, _, N', _) ⟨by dsimp only; omega, hO', set_lt hz ?_, Nat.mod_lt _ hd0, ?_⟩ (by dsimp only; omega) (by repeat first | exact trivial | refine ⟨rfl, ?_⟩) (by (first | exact HSub.refl _ | (repeat' first | exact HSub.nil _ | exact HSub.refl _ | refine HSub.at 0 rfl ?_ | refine HSub.at 1 rfl ?_ | refine HSub.at 2 rfl ?_ | refine HSub.at 3 rfl ?_ | refine HSub.at 4 rfl ?_ | refine HSub.at 5 rfl ?_ | refine HSub.at 6 rfl ?_ | refine HSub.at 7 rfl ?_)))
    · refine (Nat.div_lt_iff_lt_mul hd0).2 ?_
      show _ < 4294967296 * d
      omega
    · dsimp only
      rw [val_drop (by omega), val_drop (l := zs.set q _) (by simp; omega), drop_set, getD_set_self (by omega), hval]
      exact small_round rfl

end Go.Proofs.YtdehklhdjbkneaaDoor
