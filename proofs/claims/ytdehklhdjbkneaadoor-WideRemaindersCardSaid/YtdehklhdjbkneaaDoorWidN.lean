/- Parts of words cloned, compared, and turned. -/
import Derived.Test.YtdehklhdjbkneaaDoorExY
import Derived.Test.YtdehklhdjbkneaaDoorWidJ
namespace Go.Proofs.YtdehklhdjbkneaaDoor
open Go Go.RowKit
set_option linter.unusedSimpArgs false
set_option linter.unusedVariables false
set_option linter.unusedSectionVars false

theorem hs_at {H : SHeap} {w : World} {b : Nat} {o : Obj} (h : Hsat H w) (k : Nat) (hk : H[k]? = some (b, o)) : w.heap[b]? = some o := h.blk (b, o) (List.mem_of_getElem? hk)
theorem WU.hd {w : World} {A : Option Addr} {n k cap : Nat} {xs : List Nat} (hv : WU w (.slice A n cap) n xs) (hk : k ≤ n) : WU w (.slice A k cap) k (xs.take k) := by
  have hl := hv.len
  obtain ⟨h1, A', cap', h2, h3, h4⟩ := hv
  simp only [Value.slice.injEq] at h2
  obtain ⟨rfl, _, rfl⟩ := h2
  refine ⟨by simp; omega, A, cap, rfl, by omega, fun h0 => ⟨(h4 (by omega)).1, fun j u hu => ?_⟩⟩
  obtain ⟨⟨b, o, rfl⟩, h5⟩ := h4 (by omega)
  refine h5 j u ?_
  rw [List.map_take, List.getElem?_take] at hu
  split at hu
  · exact hu
  · cases hu
theorem WU.monoM {w w' : World} {M : List Nat} {v : Value} {n : Nat} {xs : List Nat} (h : WU w v n xs) (hk : Kp M w w') (hne : 0 < n → (vAt v 0).block ∉ M) : WU w' v n xs := by
  obtain ⟨hl, A, cap, rfl, hn, h⟩ := h
  refine ⟨hl, A, cap, rfl, hn, fun h0 => ⟨(h h0).1, fun j u hu => ?_⟩⟩
  have h1 := (h h0).2 j u hu
  obtain ⟨b, o, rfl⟩ := (h h0).1
  have hb := hk.block _ (lt_of_cell h1) (hne h0)
  unfold World.cell? at h1 ⊢
  rw [hb]; exact h1
theorem WU.cap {w : World} {A : Option Addr} {n cap : Nat} {xs : List Nat} (h : WU w (.slice A n cap) n xs) : n ≤ cap := by
  obtain ⟨_, A', cap', h2, h3, _⟩ := h
  simp only [Value.slice.injEq] at h2
  obtain ⟨_, _, rfl⟩ := h2
  exact h3
theorem cmpV_neg {a b : Nat} : cmpV a b < 0 ↔ a < b := by
  unfold cmpV
  split
  · simp_all
  · split <;> simp_all
theorem val_one {b : Nat} (d : Nat) : val b [d] = d := by simp [val]
theorem val_nrm_one {d : Nat} : val W32 (nrm [d]) = d := by rw [val_nrm, val_one]

/-- k words from place i on are those of zs, then zeros. -/
def put (i k : Nat) (zs us : List Nat) : List Nat := us.take i ++ ((zs ++ List.replicate (k - zs.length) 0) ++ us.drop (i + k))
theorem put_seg {i k : Nat} {zs us : List Nat} (h : i + k ≤ us.length) (hz : zs.length ≤ k) : segSet i zs.length zs (segSet i k (List.replicate k 0) us) = put i k zs us := by
  have e1 : (us.take i).length = i := by simp; omega
  have e2 : (segSet i k (List.replicate k 0) us) = us.take i ++ (List.replicate k 0 ++ us.drop (i + k)) := by
    unfold segSet
    rw [List.take_of_length_le (l := List.replicate k 0) (i := k) (by simp)]
  rw [e2]
  unfold segSet put
  rw [List.take_append_of_le_length (by omega), List.take_of_length_le (l := us.take i) (by omega), List.drop_append, List.drop_eq_nil_of_le (by omega), List.take_of_length_le (l := zs) (Nat.le_refl _), e1, show i + zs.length - i = zs.length by omega, List.drop_append_of_le_length (by simp; omega), List.drop_replicate, List.nil_append, List.append_assoc]
theorem put_len {i k : Nat} {zs us : List Nat} (h : i + k ≤ us.length) (hz : zs.length ≤ k) : (put i k zs us).length = us.length := by
  unfold put
  simp
  omega
theorem put_drop {i k : Nat} {zs us : List Nat} (h : i + k ≤ us.length) : (put i k zs us).drop i = (zs ++ List.replicate (k - zs.length) 0) ++ us.drop (i + k) := by
  unfold put
  rw [List.drop_append, List.drop_eq_nil_of_le (by simp; omega), List.nil_append, show i - (us.take i).length = 0 by simp; omega, List.drop_zero]
theorem put_take {i k : Nat} {zs us : List Nat} (h : i + k ≤ us.length) : (put i k zs us).take i = us.take i := by
  unfold put
  rw [List.take_append_of_le_length (by simp; omega), List.take_of_length_le (by simp; omega)]
theorem put_lt {b i k : Nat} {zs us : List Nat} (hb : 0 < b) (hu : ∀ x ∈ us, x < b) (hz : ∀ x ∈ zs, x < b) : ∀ x ∈ put i k zs us, x < b := fun x hx => by
  unfold put at hx
  simp only [List.mem_append] at hx
  rcases hx with h | (h | h) | h
  · exact hu x (List.mem_of_mem_take h)
  · exact hz x h
  · rw [List.eq_of_mem_replicate h]; exact hb
  · exact hu x (List.mem_of_mem_drop h)
theorem val_rep0 (b n : Nat) : val b (List.replicate n 0) = 0 := by
  induction n with
  | zero => rfl
  | succ n ih => rw [List.replicate_succ, val, ih]; simp
theorem val_put {b i k : Nat} {zs us : List Nat} (h : i + k ≤ us.length) (h0 : val b (us.drop (i + k)) = 0) : val b ((put i k zs us).drop i) = val b zs := by
  rw [put_drop h, val_append, val_append, h0, val_rep0]
  simp

set_option maxHeartbeats 2000000 in
theorem c_CloneU (w : World) (v : Value) (n : Nat) (xs : List Nat) (hv : WU w v n xs) (hn : n ≤ 1000000) :
    Calls Tryd.prog 75 #[v] w (Ret fun u w' => Kp [] w w' ∧ ∃ N, New N w w' ∧ OwnU N u n xs) := by
  obtain ⟨A, cap, rfl⟩ := hv.form
  cases A with
  | none =>
    have h0 : n = 0 ∧ xs = [] := by
      have h1 := hv.len
      rcases Nat.eq_zero_or_pos n with h | h
      · subst h; exact ⟨rfl, List.eq_nil_of_length_eq_zero h1⟩
      · obtain ⟨_, A, cap', he, _, hA⟩ := hv
        cases he
        obtain ⟨⟨_, _, h2⟩, _⟩ := hA (by omega)
        cases h2
    obtain ⟨rfl, rfl⟩ := h0
    refine calls_of_S [] [] (by simp) [] Tryd.func75 rfl mixed (by kernel_rfl) Tryd.ntmps75 Tryd.results75 rfl ⟨by simp, by simp⟩ (by simp) ?_
    simp only [toS, textOps, toSOp, kindAt, kindOf, odAt, sopsAt, ordOf, zipF]
    (repeat' (first | refine JC.seq ?_ | refine JC.ops ?_ | refine JO.nil ?_ | refine JX.thenN ?_ | (apply r_move; exact rfl; exact rfl; exact rfl) | (apply r_assign; exact rfl; exact rfl; exact rfl) | (apply r_eqNil; exact rfl; exact rfl; exact rfl; exact rfl) | refine JX.thenR ?_ | refine JC.ret ?_ | refine JC.condT rfl ?_))
    exact JX.ret1 rfl (fun a w' st => ⟨st.kp, [], New.nil _ _, OwnU.nil⟩)
  | some ad =>
    refine calls_of_S [] [] (by simp) [] Tryd.func75 rfl mixed (by kernel_rfl) Tryd.ntmps75 Tryd.results75 rfl ⟨by simp, by simp⟩ (by simp) ?_
    simp only [toS, textOps, toSOp, kindAt, kindOf, odAt, sopsAt, ordOf, zipF]
    (repeat' (first | refine JC.seq ?_ | refine JC.ops ?_ | refine JO.nil ?_ | refine JX.thenN ?_ | (apply r_move; exact rfl; exact rfl; exact rfl) | (apply r_assign; exact rfl; exact rfl; exact rfl) | (apply r_eqNil; exact rfl; exact rfl; exact rfl; exact rfl) | refine JC.skip ?_ | refine JC.condF rfl ?_))
    refine r_buildSlice0 rfl rfl rfl (fun b => ?_)
    (repeat' (first | (apply r_move; exact rfl; exact rfl; exact rfl)))
    have hO : OwnU [(b, .cells #[] 68)] (.slice (some ⟨b, 0, none⟩) 0 0) 0 [] := own_litU b 0 [] [] rfl rfl (by omega)
    refine r_appendU (A := []) hO (WU.rd hv rfl []) (by (repeat' first | exact HSub.nil _ | exact HSub.hd | exact HSub.in0 | exact HSub.refl _ | refine HSub.skip ?_ | refine HSub.skipN ?_)) rfl trivial rfl rfl rfl rfl (by omega) (fun v' N' hO' => ?_)
    rw [Nat.zero_add, List.nil_append] at hO'
    (repeat' (first | refine JO.nil ?_ | refine JX.thenN ?_ | (apply r_assign; exact rfl; exact rfl; exact rfl) | refine JC.ret ?_))
    exact JX.ret1 rfl (fun a w' st => ⟨st.kp, N', st.newOf rfl (by (repeat' first | exact HSub.nil _ | exact HSub.hd | exact HSub.in0 | exact HSub.refl _ | refine HSub.skip ?_ | refine HSub.skipN ?_)), hO'⟩)

set_option maxHeartbeats 4000000 in
theorem c_less (w : World) (b o n cap m d : Nat) (xs ys : List Nat) (u : Value) (hv : WU w (.slice (some ⟨b, o, none⟩) n cap) n xs) (hu : WU w u m ys) (hm : m + 1 ≤ n) (hx : ∀ x ∈ xs, x < W32) (hy : ∀ x ∈ ys, x < W32) (hd : d < 4294967296) (hm6 : m ≤ 500000) :
    Calls Tryd.prog 66 #[.slice (some ⟨b, o, none⟩) n cap, u, uv d] w (Ret fun v w' => Kp [] w w' ∧ v = .bool (decide (val W32 (xs.take (m + 1)) < val W32 ys * d))) := by
  have hlx := hv.len
  have hly := hu.len
  have hcap := hv.cap
  have hxt : ∀ x ∈ xs.take (m + 1), x < W32 := fun x hx' => hx x (List.mem_of_mem_take hx')
  refine calls_of_S [] [] (by simp) [] Tryd.func66 rfl mixed (by kernel_rfl) Tryd.ntmps66 Tryd.results66 rfl ⟨by simp, by simp⟩ (by simp) ?_
  simp only [toS, textOps, toSOp, kindAt, kindOf, odAt, sopsAt, ordOf, zipF]
  (repeat' (first | refine JC.seq ?_ | refine JC.ops ?_ | refine JO.nil ?_ | refine JX.thenN ?_ | (apply r_move; exact rfl; exact rfl; exact rfl) | (apply r_assign; exact rfl; exact rfl; exact rfl) | (apply r_add1; exact rfl; exact rfl; exact rfl; exact rfl; omega) | (apply r_lenU; exact rfl; exact rfl; exact rfl; (first | assumption | exact WU.rd (by assumption) rfl [] | exact OwnU.rd (by assumption)))))
  refine r_head rfl rfl rfl rfl hm hcap ?_
  skip
  refine r_callA (A := []) rfl trivial rfl rfl rfl (fun w hk hs => c_CloneU w _ _ _ ((hv.mono hk).hd hm) (by omega)) fun w v w' _ _ _ hR => ?_
  obtain ⟨N1, hN1, hO1⟩ := hR
  refine ⟨N1, hN1, ?_⟩
  obtain ⟨A1, c1, rfl⟩ := hO1.form
  skip
  refine r_call0 trivial rfl rfl rfl (fun w hk hs => c_norm w _ _ _ _ (hO1.rd.at hk hs (by (repeat' first | exact HSub.nil _ | exact HSub.hd | exact HSub.in0 | exact HSub.refl _ | refine HSub.skip ?_ | refine HSub.skipN ?_))) (by omega)) fun w v w' _ _ _ hR => ?_
  obtain ⟨k1, hk1, rfl, hn1⟩ := hR
  have hO1' := hO1.hd hk1
  rw [← hn1] at hO1'
  (repeat' (first | (apply r_move; exact rfl; exact rfl; exact rfl) | (apply r_build1; exact rfl; exact rfl; exact rfl; exact rfl; exact rfl; (repeat first | exact trivial | refine ⟨rfl, ?_⟩); decide; decide; intro _)))
  rename_i b3
  have hO3 : OwnU [(b3, .cells ⟨[uv d]⟩ 68)] (.slice (some ⟨b3, 0, none⟩) 1 1) 1 [d] := own_litU b3 1 [d] _ rfl rfl (by omega)
  refine r_call0 trivial rfl rfl rfl (fun w hk hs => c_norm w _ _ _ _ (hO3.rd.at hk hs (by (repeat' first | exact HSub.nil _ | exact HSub.hd | exact HSub.in0 | exact HSub.refl _ | refine HSub.skip ?_ | refine HSub.skipN ?_))) (by omega)) fun w v w' _ _ _ hR => ?_
  obtain ⟨k3, hk3, rfl, hn3⟩ := hR
  have hO3' := hO3.hd hk3
  rw [← hn3] at hO3'
  have hd3 : ∀ x ∈ nrm [d], x < W32 := fun x hx => by
    have := nrm_mem x hx
    rw [List.mem_singleton] at this
    rw [this]; exact hd
  skip
  refine r_callA (A := []) rfl trivial rfl rfl rfl (fun w hk hs => c_mulW w _ _ _ _ _ _ (hu.mono hk) (hO3'.rd.at hk hs (by (repeat' first | exact HSub.nil _ | exact HSub.hd | exact HSub.in0 | exact HSub.refl _ | refine HSub.skip ?_ | refine HSub.skipN ?_))) hy hd3 (by omega) (by omega)) fun w v w' _ _ _ hR => ?_
  obtain ⟨N4, zs, hN4, hO4, hz, hval⟩ := hR
  refine ⟨N4, hN4, ?_⟩
  rw [val_nrm_one] at hval
  have hzl : zs.length ≤ m + 1 := by
    refine hz.len_le (by decide) ?_
    rw [hval, Nat.pow_succ]
    have h1 : val W32 ys < W32 ^ m := by have := val_lt hy; rwa [hly] at this
    exact Nat.lt_of_lt_of_le (Nat.mul_lt_mul_of_lt_of_le h1 (Nat.le_of_lt hd) (by decide)) (Nat.le_refl _)
  obtain ⟨A4, c4, rfl⟩ := hO4.form
  skip
  refine r_call0 trivial rfl rfl rfl (fun w hk hs => c_cmp w _ _ _ _ _ _ (hO1'.rd.at hk hs (by (repeat' first | exact HSub.nil _ | exact HSub.hd | exact HSub.in0 | exact HSub.refl _ | refine HSub.skip ?_ | refine HSub.skipN ?_))) (hO4.rd.at hk hs (by (repeat' first | exact HSub.nil _ | exact HSub.hd | exact HSub.in0 | exact HSub.refl _ | refine HSub.skip ?_ | refine HSub.skipN ?_))) (Dig.of hxt) hz (by omega) (by omega)) fun w v w' _ _ _ hR => ?_
  rw [val_nrm, hval] at hR
  subst hR
  (repeat' (first | refine JO.nil ?_ | refine JX.thenN ?_ | (apply r_assign; exact rfl; exact rfl; exact rfl) | (apply r_lss; exact rfl; exact rfl; exact rfl; exact rfl; all_goals intro hc; all_goals try (exfalso; omega)) | refine JC.ret ?_))
  · have h1 := cmpV_neg.1 hc
    exact JX.ret1 rfl (fun a w' st => ⟨st.kp, by rw [decide_eq_true h1]⟩)
  · have h1 := fun h => hc (cmpV_neg.2 h)
    exact JX.ret1 rfl (fun a w' st => ⟨st.kp, by rw [decide_eq_false h1]⟩)

set_option maxHeartbeats 4000000 in
theorem c_take (w : World) (b i cap m d capu : Nat) (us ys : List Nat) (Au : Option Addr) (rest : List Value) (hb : w.heap[b]? = some (.cells (rowCU us rest) 68 (0, 0))) (hc : us.length ≤ cap) (hu : WU w (.slice Au m capu) m ys) (hne : 0 < m → (vAt (.slice Au m capu) 0).block ∉ [b]) (hi : i + m + 1 ≤ us.length)
    (hx : ∀ x ∈ us, x < W32) (hy : ∀ x ∈ ys, x < W32) (hd : d < 4294967296) (hm6 : m ≤ 500000) (hle : val W32 ys * d ≤ val W32 ((us.drop i).take (m + 1))) (hL : us.length ≤ 1000000) :
    Calls Tryd.prog 67 #[.slice (some ⟨b, i, none⟩) (us.length - i) (cap - i), .slice Au m capu, uv d] w (Ret fun _ w' => Kp [b] w w' ∧ ∃ zs, zs.length ≤ m + 1 ∧ Dig W32 zs ∧ val W32 zs + val W32 ys * d = val W32 ((us.drop i).take (m + 1)) ∧ w'.heap[b]? = some (.cells (rowCU (put i (m + 1) zs us) rest) 68 (0, 0))) := by
  have hly := hu.len
  have hblt : b < w.heap.size := by
    rcases Nat.lt_or_ge b w.heap.size with h | h
    · exact h
    · rw [Array.getElem?_eq_none h] at hb; cases hb
  have hxt : ∀ x ∈ (us.drop i).take (m + 1), x < W32 := fun x hx' => hx x (List.mem_of_mem_drop (List.mem_of_mem_take hx'))
  refine calls_of_S [] [b] (by simpa using hblt) [(b, .cells (rowCU us rest) 68 (0, 0))] Tryd.func67 rfl mixed (by kernel_rfl) Tryd.ntmps67 Tryd.results67 rfl ⟨by simp, by simpa using hb⟩ (by simp) ?_
  simp only [toS, textOps, toSOp, kindAt, kindOf, odAt, sopsAt, ordOf, zipF]
  (repeat' (first | refine JC.seq ?_ | refine JC.ops ?_ | (apply r_move; exact rfl; exact rfl; exact rfl) | (apply r_len; exact rfl; exact rfl; exact rfl) | (apply r_add1; exact rfl; exact rfl; exact rfl; exact rfl; omega)))
  refine r_head rfl rfl rfl rfl (by omega) (by omega) ?_
  skip
  refine r_callA (A := [_]) rfl trivial rfl rfl rfl (fun w hk hs => c_CloneU w _ _ _ (WU.ofBlk (hs_at hs 0 rfl) (by omega) (by omega)) (by omega)) fun w v w' _ _ _ hR => ?_
  obtain ⟨N1, hN1, hO1⟩ := hR
  refine ⟨N1, hN1, ?_⟩
  obtain ⟨A1, c1, rfl⟩ := hO1.form
  (repeat' (first | (apply r_move; exact rfl; exact rfl; exact rfl) | (apply r_build1; exact rfl; exact rfl; exact rfl; exact rfl; exact rfl; (repeat first | exact trivial | refine ⟨rfl, ?_⟩); decide; decide; intro _)))
  rename_i b3
  have hO3 : OwnU [(b3, .cells ⟨[uv d]⟩ 68)] (.slice (some ⟨b3, 0, none⟩) 1 1) 1 [d] := own_litU b3 1 [d] _ rfl rfl (by omega)
  refine r_call0 trivial rfl rfl rfl (fun w hk hs => c_norm w _ _ _ _ (hO3.rd.at hk hs (by (repeat' first | exact HSub.nil _ | exact HSub.hd | exact HSub.in0 | exact HSub.refl _ | refine HSub.skip ?_ | refine HSub.skipN ?_))) (by omega)) fun w v w' _ _ _ hR => ?_
  obtain ⟨k3, hk3, rfl, hn3⟩ := hR
  have hO3' := hO3.hd hk3
  rw [← hn3] at hO3'
  have hd3 : ∀ x ∈ nrm [d], x < W32 := fun x hx => by
    have := nrm_mem x hx
    rw [List.mem_singleton] at this
    rw [this]; exact hd
  skip
  refine r_callA (A := [_, _]) rfl trivial rfl rfl rfl (fun w hk hs => c_mulW w _ _ _ _ _ _ (hu.monoM hk hne) (hO3'.rd.at hk hs (by (repeat' first | exact HSub.nil _ | exact HSub.hd | exact HSub.in0 | exact HSub.refl _ | refine HSub.skip ?_ | refine HSub.skipN ?_))) hy hd3 (by omega) (by omega)) fun w v w' _ _ _ hR => ?_
  obtain ⟨N4, zs, hN4, hO4, hz, hval⟩ := hR
  refine ⟨N4, hN4, ?_⟩
  rw [val_nrm_one] at hval
  have hlen1 : ((us.drop i).take (m + 1)).length = m + 1 := by simp; omega
  have hzl : zs.length ≤ m + 1 := by
    refine hz.len_le (by decide) ?_
    rw [hval]
    refine Nat.lt_of_le_of_lt hle ?_
    have := val_lt hxt
    rwa [hlen1] at this
  obtain ⟨A4, c4, rfl⟩ := hO4.form
  skip
  refine r_callA (A := [_, _]) rfl trivial rfl rfl rfl (fun w hk hs => c_sub w _ _ _ _ _ _ (hO1.rd.at hk hs (by (repeat' first | exact HSub.nil _ | exact HSub.hd | exact HSub.in0 | exact HSub.refl _ | refine HSub.skip ?_ | refine HSub.skipN ?_))) (hO4.rd.at hk hs (by (repeat' first | exact HSub.nil _ | exact HSub.hd | exact HSub.in0 | exact HSub.refl _ | refine HSub.skip ?_ | refine HSub.skipN ?_))) hxt hz.lt (by omega) hzl (by rw [hval]; exact hle)) fun w v w' _ _ _ hR => ?_
  obtain ⟨N5, rs, hN5, hO5, hr, hval5⟩ := hR
  refine ⟨N5, hN5, ?_⟩
  rw [hval] at hval5
  have hrl : rs.length ≤ m + 1 := by
    refine hr.len_le (by decide) ?_
    have := val_lt hxt
    rw [hlen1, ← hval5] at this
    exact Nat.lt_of_le_of_lt (Nat.le_add_right _ _) this
  obtain ⟨A5, c5, rfl⟩ := hO5.form
  (repeat' (first | refine JC.seq ?_ | refine JC.ops ?_ | refine JO.nil ?_ | refine JX.thenN ?_ | (apply r_move; exact rfl; exact rfl; exact rfl) | (apply r_assign; exact rfl; exact rfl; exact rfl) | (apply r_len; exact rfl; exact rfl; exact rfl) | (apply r_add1; exact rfl; exact rfl; exact rfl; exact rfl; omega)))
  refine r_head rfl rfl rfl rfl (by omega) (by omega) ?_
  refine r_clearU (A := [_]) rfl trivial rfl rfl (by omega) (by omega) ?_
  (repeat' (first | refine JC.ops ?_ | refine JO.nil ?_ | refine JX.thenN ?_ | (apply r_move; exact rfl; exact rfl; exact rfl)))
  refine r_copyU (A := [_]) rfl hO5.rd (by (repeat' first | exact HSub.nil _ | exact HSub.hd | exact HSub.in0 | exact HSub.refl _ | refine HSub.skip ?_ | refine HSub.skipN ?_)) trivial rfl rfl rfl rfl (by omega) (by rw [segSet_len (by simp) (by omega)]; omega) ?_
  (repeat' (first | refine JO.nil ?_))
  refine JX.end0 (fun a w' st => ⟨st.kp, rs, hrl, hr, hval5, ?_⟩)
  rw [← put_seg (by omega) hrl]
  exact hs_at st.hs 1 rfl

end Go.Proofs.YtdehklhdjbkneaaDoor
