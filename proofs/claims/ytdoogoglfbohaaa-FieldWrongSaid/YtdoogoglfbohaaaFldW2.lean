/- Walks of field: inverses of numbers, copies of rows. -/
import Derived.Test.YtdoogoglfbohaaaFldW1
import Derived.Test.YtdoogoglfbohaaaExK
namespace Go.Proofs.Ytdoogoglfbohaaa
open Go Go.RowKit
set_option linter.unusedSimpArgs false
set_option linter.unusedVariables false
set_option linter.unusedSectionVars false

/-- What is kept of inverses: 0, or right. -/
structure Ovs (p : Nat) (ov : List Nat) : Prop where
  len : ov.length = 998
  ok : ∀ n, 0 < n → n < p → ov.getD n 0 = 0 ∨ ov.getD n 0 = invN p n

theorem Ovs.zero (p : Nat) : Ovs p (List.replicate 998 0) := ⟨List.length_replicate, fun n _ _ => .inl (by
  simp only [List.getD, List.getElem?_replicate]
  by_cases h : n < 998
  · rw [if_pos h]; rfl
  · rw [if_neg h]; rfl)⟩
theorem Ovs.set {p : Nat} {ov : List Nat} (h : Ovs p ov) {n : Nat} (hn : n < 998) : Ovs p (ov.set n (invN p n)) :=
  ⟨by simp [h.len], fun k h0 hk => by
    rw [set_getD (by rw [h.len]; exact hn)]
    split
    · rename_i e; subst e; exact .inr rfl
    · exact h.ok k h0 hk⟩

theorem pow_odd {o q e p : Nat} (he : e % 2 = 1) : (o * q % p) * (q * q % p) ^ (e / 2) % p = o * q ^ e % p := by
  have h1 : q ^ e = q * (q * q) ^ (e / 2) := by
    rw [← Nat.pow_two, ← Nat.pow_mul, Nat.mul_comm q, ← Nat.pow_succ]
    congr 1
    omega
  rw [Nat.mod_mul_mod, Nat.mul_mod, ← Nat.pow_mod, ← Nat.mul_mod, h1, Nat.mul_assoc]
theorem pow_even {o q e p : Nat} (he : e % 2 ≠ 1) : o * (q * q % p) ^ (e / 2) % p = o * q ^ e % p := by
  have h1 : q ^ e = (q * q) ^ (e / 2) := by
    rw [← Nat.pow_two, ← Nat.pow_mul]
    congr 1
    omega
  rw [Nat.mul_mod, ← Nat.pow_mod, ← Nat.mul_mod, h1]

theorem IsR.lt {w : World} {b p r c : Nat} {E : Value} {ov : List Nat} (h : IsR w b p r c E ov) : b < w.heap.size := by
  rcases Nat.lt_or_ge b w.heap.size with h' | h'
  · exact h'
  · unfold IsR at h; rw [Array.getElem?_eq_none h'] at h; cases h

section
variable {cx : Cx} {Q : Exit → Act → World → Prop} {m : Mode} {F : SFrame} {H : SHeap} {l : List SOp} {g : Option (Option Tmp × Bool)} {ns : Bool} {d : Tmp} {ty t : TypeId} {x y : Operand}
theorem r_ldOv {b n p r c : Nat} (k : Nat) {E : Value} {ov : List Nat} {T : TypeId} {fz : Nat × Nat} [T1 cx.P t] (hd : dstOk cx.n (some d) = true) (hg : guardF F g = some true) (hx : ev F x = some (.pointer (some ⟨b, 0 + 4 + n * 1, none⟩))) (hl : m.live = true)
    (hb : (m.src H)[k]? = some (b, .cells (rdC p r c E ov) T fz)) (hn : n < ov.length) (h : JO cx Q m l ((d, nv (ov.getD n 0)) :: F) H) : JO cx Q m (⟨some d, .load t x, ty, g, .ld, ns⟩ :: l) F H :=
  r_load k hd hg hx hl hb (by rw [Nat.mul_one, Nat.zero_add]; exact rdC4 hn) h
theorem r_stOv {b n p r c u : Nat} (k : Nat) {E : Value} {ov : List Nat} {T : TypeId} [T1 cx.P t] (hg : guardF F g = some true) (hm : m.mayStore ns l) (hx : ev F x = some (.pointer (some ⟨b, 0 + 4 + n * 1, none⟩))) (hy : ev F y = some (nv u))
    (hb : H[k]? = some (b, .cells (rdC p r c E ov) T (0, 0))) (hn : n < ov.length) (h : JO cx Q m.spent l F (H.set k (b, .cells (rdC p r c E (ov.set n u)) T (0, 0)))) :
    JO cx Q m (⟨none, .store t x y, ty, g, .seq, ns⟩ :: l) F H :=
  r_store k hg hm hx hy hb rfl rfl (by rw [rdC_size]; omega) (by rw [Nat.mul_one, Nat.zero_add, rdC_set]; exact h)
end

set_option maxHeartbeats 2000000 in
theorem c_invert (w : World) (b n p r c : Nat) (E : Value) (ov : List Nat) (hR : IsR w b p r c E ov) (hv : Ovs p ov) (hp : Pr p) (h0 : 0 < n) (hn : n < p) :
    Calls Try.prog 66 #[.pointer (some ⟨b, 0, none⟩), nv n] w (Ret fun v w' => Kp [b] w w' ∧ v = nv (invN p n) ∧ ∃ ov', Ovs p ov' ∧ IsR w' b p r c E ov') := by
  have hb := hR.lt
  have hl := hv.len
  have hp9 := hp.2.1
  have hp2 := hp.1
  refine calls_of_S [] [b] (by simpa using hb) [(b, .cells (rdC p r c E ov) 63 (0, 0))] Try.func66 rfl mixed (by kernel_rfl) Try.ntmps66 Try.results66 rfl ⟨by simp, by intro q hq; cases List.mem_singleton.1 hq; exact hR⟩ (by simp) ?_
  simp only [toS, textOps, toSOp, kindAt, kindOf, odAt, sopsAt, ordOf, zipF]
  (repeat' (first | refine JC.seq ?_ | refine JC.ops ?_ | refine JO.nil ?_ | refine JX.thenN ?_ | (apply r_move; exact rfl; exact rfl; exact rfl) | (apply r_fieldAddr; exact rfl; exact rfl; exact rfl) | (apply r_assign; exact rfl; exact rfl; exact rfl) | (apply r_nilCheck; exact rfl; exact rfl; exact rfl) | (apply r_idxArr; exact rfl; exact rfl; exact rfl; exact rfl; omega)))
  refine r_ldOv 0 rfl rfl rfl rfl rfl (by omega) ?_
  (repeat' (first | refine JC.seq ?_ | refine JC.ops ?_ | refine JO.nil ?_ | refine JX.thenN ?_ | (apply r_move; exact rfl; exact rfl; exact rfl) | (apply r_fieldAddr; exact rfl; exact rfl; exact rfl) | (apply r_assign; exact rfl; exact rfl; exact rfl) | (apply r_load; exact rfl; exact rfl; exact rfl; exact rfl; (first | exact at0 | exact at1 | exact at2 | exact at3 | exact at4 | exact at5 | exact at6 | exact at7); exact rfl) | (apply r_sub2; exact rfl; exact rfl; exact rfl; exact rfl; omega) | (apply r_nilCheck; exact rfl; exact rfl; exact rfl) | (apply r_gtr; exact rfl; exact rfl; exact rfl; exact rfl; all_goals intro hc; all_goals try (exfalso; omega)) | (apply r_idxArr; exact rfl; exact rfl; exact rfl; exact rfl; omega) | refine JC.skip ?_ | refine JC.condT rfl ?_ | refine JC.condF rfl ?_ | refine JC.block ?_))
  · refine r_ldOv 0 rfl rfl rfl rfl rfl (by omega) ?_
    (repeat' (first | refine JO.nil ?_ | refine JX.thenN ?_ | (apply r_assign; exact rfl; exact rfl; exact rfl) | refine JX.thenR ?_ | refine JC.ret ?_))
    refine JX.ret1 rfl (fun a w' st => ⟨st.kp, ?_, ov, hv, st.hs.blk _ (List.mem_cons_self ..)⟩)
    rcases hv.ok n h0 hn with h | h
    · rw [h] at hc; omega
    · rw [h]
  · refine JC.loopH (ι := Nat × Nat × Nat) ⟨fun z => [(7, nv z.1), (5, nv z.2.1), (6, nv z.2.2), (0, .pointer (some ⟨b, 0, none⟩)), (1, nv n)], fun _ => [(b, .cells (rdC p r c E ov) 63 (0, 0))],
      fun z => z.2.1 < p ∧ z.2.2 < p ∧ z.1 ≤ p ∧ z.2.1 * z.2.2 ^ z.1 % p = n ^ (p - 2) % p, fun z => z.1⟩ (p - 2, 1, n) ⟨by dsimp only; omega, hn, by dsimp only; omega, by rw [Nat.one_mul]⟩ (by repeat first | exact trivial | refine ⟨rfl, ?_⟩) (by (first | exact HSub.refl _ | (repeat' first | exact HSub.nil _ | exact HSub.refl _ | refine HSub.at 0 rfl ?_ | refine HSub.at 1 rfl ?_ | refine HSub.at 2 rfl ?_ | refine HSub.at 3 rfl ?_ | refine HSub.at 4 rfl ?_ | refine HSub.at 5 rfl ?_ | refine HSub.at 6 rfl ?_ | refine HSub.at 7 rfl ?_))) (fun z hz => ?_)
    obtain ⟨e, o, q⟩ := z
    obtain ⟨ho, hq, hep, hi⟩ := hz
    dsimp only at ho hq hep hi ⊢
    have hb1 := mul_bound ho hq hp9
    have hb2 := mul_bound hq hq hp9
    by_cases he : 0 < e
    · (repeat' (first | refine JC.seq ?_ | refine JC.ops ?_ | refine JO.nil ?_ | refine JX.thenN ?_ | (apply r_move; exact rfl; exact rfl; exact rfl) | (apply r_fieldAddr; exact rfl; exact rfl; exact rfl) | (apply r_assign; exact rfl; exact rfl; exact rfl) | (apply r_load; exact rfl; exact rfl; exact rfl; exact rfl; (first | exact at0 | exact at1 | exact at2 | exact at3 | exact at4 | exact at5 | exact at6 | exact at7); exact rfl) | (apply r_mulN; exact rfl; exact rfl; exact rfl; exact rfl; (first | assumption | omega)) | (apply r_modN; exact rfl; exact rfl; exact rfl; exact rfl; omega) | (apply r_nilCheck; exact rfl; exact rfl; exact rfl) | (apply r_and1; exact rfl; exact rfl; exact rfl; exact rfl) | (apply r_shr1; exact rfl; exact rfl; exact rfl; exact rfl) | (apply r_gtr; exact rfl; exact rfl; exact rfl; exact rfl; all_goals intro hc; all_goals try (exfalso; omega)) | (apply r_eql; exact rfl; exact rfl; exact rfl; exact rfl; all_goals intro hc; all_goals try (exfalso; omega)) | refine JC.skip ?_ | refine JC.condT rfl ?_ | refine JC.condF rfl ?_ | refine JC.block ?_ | refine JX.blockN ?_))
      · refine JX.roundH (e / 2, o * q % p, q * q % p) ⟨Nat.mod_lt _ (by omega), Nat.mod_lt _ (by omega), by dsimp only; omega, ?_⟩ (by dsimp only; omega) (by repeat first | exact trivial | refine ⟨rfl, ?_⟩) (by (first | exact HSub.refl _ | (repeat' first | exact HSub.nil _ | exact HSub.refl _ | refine HSub.at 0 rfl ?_ | refine HSub.at 1 rfl ?_ | refine HSub.at 2 rfl ?_ | refine HSub.at 3 rfl ?_ | refine HSub.at 4 rfl ?_ | refine HSub.at 5 rfl ?_ | refine HSub.at 6 rfl ?_ | refine HSub.at 7 rfl ?_)))
        rw [← hi]; exact pow_odd (by omega)
      · refine JX.roundH (e / 2, o, q * q % p) ⟨by dsimp only; omega, Nat.mod_lt _ (by omega), by dsimp only; omega, ?_⟩ (by dsimp only; omega) (by repeat first | exact trivial | refine ⟨rfl, ?_⟩) (by (first | exact HSub.refl _ | (repeat' first | exact HSub.nil _ | exact HSub.refl _ | refine HSub.at 0 rfl ?_ | refine HSub.at 1 rfl ?_ | refine HSub.at 2 rfl ?_ | refine HSub.at 3 rfl ?_ | refine HSub.at 4 rfl ?_ | refine HSub.at 5 rfl ?_ | refine HSub.at 6 rfl ?_ | refine HSub.at 7 rfl ?_)))
        rw [← hi]; exact pow_even (by omega)
    · have he0 : e = 0 := by omega
      subst he0
      rw [Nat.pow_zero, Nat.mul_one, Nat.mod_eq_of_lt ho] at hi
      subst hi
      (repeat' (first | refine JC.seq ?_ | refine JC.ops ?_ | refine JO.nil ?_ | refine JX.thenN ?_ | (apply r_move; exact rfl; exact rfl; exact rfl) | (apply r_fieldAddr; exact rfl; exact rfl; exact rfl) | (apply r_nilCheck; exact rfl; exact rfl; exact rfl) | (apply r_gtr; exact rfl; exact rfl; exact rfl; exact rfl; all_goals intro hc; all_goals try (exfalso; omega)) | (apply r_idxArr; exact rfl; exact rfl; exact rfl; exact rfl; omega) | refine JX.thenE ?_ | refine JC.exit ?_ | refine JC.condF rfl ?_ | refine JX.blockE ?_))
      refine r_stOv 0 rfl (by first | trivial | exact ⟨rfl, rfl⟩) rfl rfl rfl (by omega) ?_
      (repeat' (first | refine JC.seq ?_ | refine JC.ops ?_ | refine JO.nil ?_ | refine JX.thenN ?_ | (apply r_move; exact rfl; exact rfl; exact rfl) | (apply r_assign; exact rfl; exact rfl; exact rfl) | refine JC.ret ?_))
      exact JX.ret1 rfl (fun a w' st => ⟨st.kp, rfl, _, hv.set (by omega), st.hs.blk _ (List.mem_cons_self ..)⟩)

set_option maxHeartbeats 2000000 in
theorem c_Over (w : World) (n p : Nat) (hp : Pr p) (h0 : 0 < n) (hn : n < p) :
    Calls Try.prog 69 #[nv n, nv p] w (Ret fun v w' => Kp [] w w' ∧ v = nv (invN p n)) := by
  have hp9 := hp.2.1
  refine calls_of_S [] [] (by simp) [] Try.func69 rfl mixed (by kernel_rfl) Try.ntmps69 Try.results69 rfl ⟨by simp, by simp⟩ (by simp) ?_
  simp only [toS, textOps, toSOp, kindAt, kindOf, odAt, sopsAt, ordOf, zipF]
  (repeat' (first | refine JC.seq ?_ | refine JC.ops ?_ | refine JO.nil ?_ | refine JX.thenN ?_ | (apply r_assign; exact rfl; exact rfl; exact rfl) | refine JC.block ?_))
  refine JC.loopH (ι := Nat) ⟨fun k => [(5, nv k), (0, nv n), (1, nv p)], fun _ => [], fun k => 1 ≤ k ∧ k ≤ invN p n, fun k => p - k⟩ 1 ⟨by omega, invN_pos hp h0 hn⟩ (by repeat first | exact trivial | refine ⟨rfl, ?_⟩) (by (first | exact HSub.refl _ | (repeat' first | exact HSub.nil _ | exact HSub.refl _ | refine HSub.at 0 rfl ?_ | refine HSub.at 1 rfl ?_ | refine HSub.at 2 rfl ?_ | refine HSub.at 3 rfl ?_ | refine HSub.at 4 rfl ?_ | refine HSub.at 5 rfl ?_ | refine HSub.at 6 rfl ?_ | refine HSub.at 7 rfl ?_))) (fun k hk => ?_)
  obtain ⟨hk1, hk⟩ := hk
  dsimp only
  have hkp := invN_lt (n := n) hp
  have hb := mul_bound hn (show k < p by omega) hp9
  (repeat' (first | refine JC.seq ?_ | refine JC.ops ?_ | refine JO.nil ?_ | refine JX.thenN ?_ | (apply r_move; exact rfl; exact rfl; exact rfl) | (apply r_assign; exact rfl; exact rfl; exact rfl) | (apply r_add1; exact rfl; exact rfl; exact rfl; exact rfl; omega) | (apply r_mulN; exact rfl; exact rfl; exact rfl; exact rfl; (first | assumption | omega)) | (apply r_modN; exact rfl; exact rfl; exact rfl; exact rfl; omega) | (apply r_lss; exact rfl; exact rfl; exact rfl; exact rfl; all_goals intro hc; all_goals try (exfalso; omega)) | (apply r_eql; exact rfl; exact rfl; exact rfl; exact rfl; all_goals intro hc; all_goals try (exfalso; omega)) | refine JX.thenR ?_ | refine JC.skip ?_ | refine JC.ret ?_ | refine JC.condT rfl ?_ | refine JC.condF rfl ?_ | refine JC.block ?_ | refine JX.blockN ?_ | refine JX.blockR ?_))
  · refine JX.ret1 rfl (fun a w' st => ⟨st.kp, ?_⟩)
    rw [invN_unique hp h0 hn (by omega) (show n * k % p = 1 by omega)]
  · refine JX.roundH (k + 1) ⟨by omega, ?_⟩ (by dsimp only; omega) (by repeat first | exact trivial | refine ⟨rfl, ?_⟩) (by (first | exact HSub.refl _ | (repeat' first | exact HSub.nil _ | exact HSub.refl _ | refine HSub.at 0 rfl ?_ | refine HSub.at 1 rfl ?_ | refine HSub.at 2 rfl ?_ | refine HSub.at 3 rfl ?_ | refine HSub.at 4 rfl ?_ | refine HSub.at 5 rfl ?_ | refine HSub.at 6 rfl ?_ | refine HSub.at 7 rfl ?_)))
    rcases Nat.lt_or_ge k (invN p n) with h | h
    · exact h
    · have e : k = invN p n := by omega
      have := invN_mul hp h0 hn
      rw [← e, Nat.mul_comm] at this
      omega

set_option maxHeartbeats 2000000 in
theorem c_Clone (w : World) (v : Value) (n : Nat) (xs : List Nat) (hv : WN w v n xs) (hn : n ≤ 1000000) :
    Calls Try.prog 62 #[v] w (Ret fun u w' => Kp [] w w' ∧ ∃ N, New N w w' ∧ OwnN N u n xs) := by
  obtain ⟨A, cap, rfl⟩ := hv.form
  cases A with
  | none =>
    have h0 : n = 0 ∧ xs = [] := by
      have h1 := hv.len
      rcases Nat.eq_zero_or_pos n with h | h
      · subst h; exact ⟨rfl, List.eq_nil_of_length_eq_zero h1⟩
      · obtain ⟨_, A, cap', he, _, hA⟩ := hv
        cases he
        obtain ⟨⟨_, _, h2⟩, _⟩ := hA (by omega)
        cases h2
    obtain ⟨rfl, rfl⟩ := h0
    refine calls_of_S [] [] (by simp) [] Try.func62 rfl mixed (by kernel_rfl) Try.ntmps62 Try.results62 rfl ⟨by simp, by simp⟩ (by simp) ?_
    simp only [toS, textOps, toSOp, kindAt, kindOf, odAt, sopsAt, ordOf, zipF]
    (repeat' (first | refine JC.seq ?_ | refine JC.ops ?_ | refine JO.nil ?_ | refine JX.thenN ?_ | (apply r_move; exact rfl; exact rfl; exact rfl) | (apply r_assign; exact rfl; exact rfl; exact rfl) | (apply r_eqNil; exact rfl; exact rfl; exact rfl; exact rfl) | refine JX.thenR ?_ | refine JC.ret ?_ | refine JC.condT rfl ?_))
    exact JX.ret1 rfl (fun a w' st => ⟨st.kp, [], New.nil _ _, OwnN.nil⟩)
  | some ad =>
    refine calls_of_S [] [] (by simp) [] Try.func62 rfl mixed (by kernel_rfl) Try.ntmps62 Try.results62 rfl ⟨by simp, by simp⟩ (by simp) ?_
    simp only [toS, textOps, toSOp, kindAt, kindOf, odAt, sopsAt, ordOf, zipF]
    (repeat' (first | refine JC.seq ?_ | refine JC.ops ?_ | refine JO.nil ?_ | refine JX.thenN ?_ | (apply r_move; exact rfl; exact rfl; exact rfl) | (apply r_assign; exact rfl; exact rfl; exact rfl) | (apply r_eqNil; exact rfl; exact rfl; exact rfl; exact rfl) | refine JC.skip ?_ | refine JC.condF rfl ?_))
    refine r_buildSlice0 rfl rfl rfl (fun b => ?_)
    (repeat' (first | (apply r_move; exact rfl; exact rfl; exact rfl)))
    have hO : OwnN [(b, .cells #[] 3)] (.slice (some ⟨b, 0, none⟩) 0 0) 0 [] := own_lit b 0 [] [] rfl rfl (by omega)
    refine r_appendN (A := []) hO (WN.rd hv rfl []) (by (repeat' first | exact HSub.nil _ | exact HSub.hd | exact HSub.in0 | exact HSub.refl _ | refine HSub.skip ?_ | refine HSub.skipN ?_)) rfl trivial rfl rfl rfl rfl (by omega) (fun v' N' hO' => ?_)
    rw [Nat.zero_add, List.nil_append] at hO'
    (repeat' (first | refine JO.nil ?_ | refine JX.thenN ?_ | (apply r_assign; exact rfl; exact rfl; exact rfl) | refine JC.ret ?_))
    exact JX.ret1 rfl (fun a w' st => ⟨st.kp, N', st.newOf rfl (by (repeat' first | exact HSub.nil _ | exact HSub.hd | exact HSub.in0 | exact HSub.refl _ | refine HSub.skip ?_ | refine HSub.skipN ?_)), hO'⟩)

end Go.Proofs.Ytdoogoglfbohaaa
