/- Mod, Made, and the numbers of the laws' arguments. -/
import Derived.Test.YtdehklhdjbkneaaDoorWiA
namespace Go.Proofs.YtdehklhdjbkneaaDoor
open Go Go.RowKit
set_option linter.unusedSimpArgs false
set_option linter.unusedVariables false
set_option linter.unusedSectionVars false

theorem WY.hd {w : World} {A : Option Addr} {n k cap : Nat} {xs : List Nat} (hv : WY w (.slice A n cap) n xs) (hk : k ≤ n) : WY w (.slice A k cap) k (xs.take k) := by
  have hl := hv.len
  obtain ⟨h1, A', cap', h2, h3, h4⟩ := hv
  simp only [Value.slice.injEq] at h2
  obtain ⟨rfl, _, rfl⟩ := h2
  refine ⟨by simp; omega, A, cap, rfl, by omega, fun h0 => ⟨(h4 (by omega)).1, fun j u hu => ?_⟩⟩
  obtain ⟨⟨b, o, rfl⟩, h5⟩ := h4 (by omega)
  refine h5 j u ?_
  rw [List.map_take, List.getElem?_take] at hu
  split at hu
  · exact hu
  · cases hu
theorem WY.cap {w : World} {A : Option Addr} {n cap : Nat} {xs : List Nat} (h : WY w (.slice A n cap) n xs) : n ≤ cap := by
  obtain ⟨_, A', cap', h2, h3, _⟩ := h
  simp only [Value.slice.injEq] at h2
  obtain ⟨_, _, rfl⟩ := h2
  exact h3

section
variable {c : Cx} {Q : Exit → Act → World → Prop} {m : Mode} {F : SFrame} {H : SHeap} {r : List SOp} {g : Option (Option Tmp × Bool)} {ns : Bool} {d : Tmp} {ty t t' : TypeId} {x y : Operand}
/-- An append of bytes, as many as may be. -/
theorem r_appendYB {A B N N2 : SHeap} {v v2 : Value} {n k : Nat} {xs ys : List Nat} [TSl c.P t 5] [TE c.P 5 1 1 #[(.int .u8 0)]] (hO : OwnY N v n xs) (h2 : RdY c N2 v2 k ys) (hN2 : HSub N2 H) (hH : H = A ++ (N ++ B)) (hm : m.mayStore ns r) (hd : dstOk c.n (some d) = true) (hg : guardF F g = some true) (hx : ev F x = some v) (hy : ev F y = some v2)
    (hb : n + k ≤ 140737488355328) (h : ∀ v' N', OwnY N' v' (n + k) (xs ++ ys) → JO c Q m.spent r ((d, v') :: F) (A ++ (N' ++ B))) :
    JO c Q m (⟨some d, .call ⟨.builtin .append, #[x, y], #[t, t]⟩, ty, g, .seq, ns⟩ :: r) F H :=
  r_appendA (e := 5) (sz := 1) (bytes := 1) (zc := #[(.int .u8 0)]) (xs := xs.map yv) (news := ys.map yv) (n := n) (mm := k) rfl hO h2 hN2 hH hm hd hg hx hy (fun u hu => by obtain ⟨a, _, rfl⟩ := List.mem_map.1 hu; rfl) (by simp only [maxLen]; omega) (by omega) (fun v' N' h' => h v' N' (by unfold OwnY; rw [List.map_append]; exact h'))
theorem r_appendYBL {A B N N2 Hs : SHeap} {v v2 : Value} {n k : Nat} {xs ys : List Nat} [TSl c.P t 5] [TE c.P 5 1 1 #[(.int .u8 0)]] (hO : OwnY N v n xs) (h2 : RdY c N2 v2 k ys) (hN2 : HSub N2 H) (hH : H = A ++ (N ++ B)) (hm : HSub Hs (A ++ B)) (hd : dstOk c.n (some d) = true) (hg : guardF F g = some true) (hx : ev F x = some v) (hy : ev F y = some v2)
    (hb : n + k ≤ 140737488355328) (h : ∀ v' N', OwnY N' v' (n + k) (xs ++ ys) → JO c Q (.draw Hs true) r ((d, v') :: F) (A ++ (N' ++ B))) :
    JO c Q (.draw Hs true) (⟨some d, .call ⟨.builtin .append, #[x, y], #[t, t]⟩, ty, g, .seq, ns⟩ :: r) F H :=
  r_appendL (e := 5) (sz := 1) (bytes := 1) (zc := #[(.int .u8 0)]) (xs := xs.map yv) (news := ys.map yv) (n := n) (mm := k) rfl hO h2 hN2 hH hm hd hg hx hy (fun u hu => by obtain ⟨a, _, rfl⟩ := List.mem_map.1 hu; rfl) (by simp only [maxLen]; omega) (by omega) (fun v' N' h' => h v' N' (by unfold OwnY; rw [List.map_append]; exact h'))
end

theorem tmod_bd (n : Int) {m : Nat} (hm : 0 < m) : -(m : Int) < n.tmod m ∧ n.tmod m < m ∧ (n.tmod m + m).tmod m = ((n % m).toNat : Int) := by
  have e := Int.mul_tdiv_add_tmod n m
  have h1 : n.tmod m < m := Int.tmod_lt_of_pos _ (by omega)
  have h2 : -(m : Int) < n.tmod m := by
    have h := Int.tmod_lt_of_pos (-n) (show (0 : Int) < m by omega)
    rw [Int.neg_tmod] at h
    omega
  refine ⟨h2, h1, ?_⟩
  rw [Int.tmod_eq_emod_of_nonneg (by omega), Int.toNat_of_nonneg (Int.emod_nonneg _ (by omega))]
  have h3 : n.tmod m + m = n + m * (1 - n.tdiv m) := by rw [Int.mul_sub]; omega
  rw [h3, Int.add_mul_emod_self_left]

set_option maxHeartbeats 2000000 in
theorem c_Mod (w : World) (n : Int) (m : Nat) (hm : 0 < m) (hm2 : m < 1000) :
    Calls Tryd.prog 37 #[iv n, nv m] w (Ret fun v w' => Kp [] w w' ∧ v = nv (n % m).toNat ∧ (n % m).toNat < m) := by
  obtain ⟨b1, b2, b3⟩ := tmod_bd n hm
  have hlt : (n % m).toNat < m := by
    have h1 := Int.emod_nonneg n (show (m : Int) ≠ 0 by omega)
    have h2 := Int.emod_lt_of_pos n (show (0 : Int) < m by omega)
    omega
  refine calls_of_S [] [] (by simp) [] Tryd.func37 rfl mixed (by kernel_rfl) Tryd.ntmps37 Tryd.results37 rfl ⟨by simp, by simp⟩ (by simp) ?_
  simp only [toS, textOps, toSOp, kindAt, kindOf, odAt, sopsAt, ordOf, zipF]
  (repeat' (first | refine JC.seq ?_ | refine JC.ops ?_ | refine JO.nil ?_ | refine JX.thenN ?_ | (apply r_move; exact rfl; exact rfl; exact rfl) | (apply r_assign; exact rfl; exact rfl; exact rfl) | (apply r_add; exact rfl; exact rfl; exact rfl; exact rfl; omega) | (apply r_mod; exact rfl; exact rfl; exact rfl; exact rfl; omega) | refine JC.ret ?_))
  exact JX.ret1 rfl (fun a w' st => ⟨st.kp, by rw [b3], hlt⟩)

set_option maxHeartbeats 2000000 in
theorem c_Made (w : World) (v : Value) (n : Nat) (xs : List Nat) (neg : Bool) (hv : WY w v n xs) (hx : ∀ x ∈ xs, x < 256) (hn : n ≤ 140737488355328) :
    Calls Tryd.prog 41 #[v, .bool neg] w (Ret fun v w' => Kp [] w w' ∧ ∃ l, v = wv neg l ∧ l.length ≤ 40) := by
  have hlx := hv.len
  obtain ⟨k, hk, hk40, hmin⟩ : ∃ k : Nat, k ≤ n ∧ k ≤ 40 ∧ (if (40 : Int) < (n : Int) then (40 : Int) else (n : Int)) = (k : Int) := by
    by_cases h : 40 < n
    · exact ⟨40, by omega, by omega, by rw [if_pos (by omega)]; rfl⟩
    · exact ⟨n, by omega, by omega, by rw [if_neg (by omega)]⟩
  refine calls_of_S [⟨1, 0, [], [(6, .seq)]⟩] [] (by simp) [] Tryd.func41 rfl mixed (by kernel_rfl) Tryd.ntmps41 Tryd.results41 rfl ⟨by simp, by simp⟩ (by simp) ?_
  simp only [toS, textOps, toSOp, kindAt, kindOf, odAt, sopsAt, ordOf, zipF]
  (repeat' (first | refine JC.seq ?_ | refine JC.ops ?_ | refine JO.nil ?_ | refine JX.thenN ?_ | (apply r_move; exact rfl; exact rfl; exact rfl) | (apply r_min; exact rfl; exact rfl; exact rfl; exact rfl) | (apply r_lenY; exact rfl; exact rfl; exact rfl; (first | assumption | exact WY.rd (by assumption) rfl [] | exact OwnY.rd (by assumption))) | (apply r_allocZ; exact rfl; exact rfl; exact rfl; intro _)))
  rw [hmin]
  refine r_sliceY (l := 0) (h' := k) rfl rfl rfl (WY.rd hv rfl []) rfl rfl (.inr ⟨rfl, rfl⟩) rfl rfl (.inl rfl) (by omega) hk (fun v' hRd _ => ?_)
  rw [List.drop_zero, Nat.sub_zero] at hRd
  refine r_toStr (fun u hu => hx u (List.mem_of_mem_take hu)) hRd (by (repeat' first | exact HSub.nil _ | exact HSub.hd | exact HSub.in0 | exact HSub.refl _ | refine HSub.skip ?_ | refine HSub.skipN ?_)) trivial rfl rfl rfl (fun l hl => ?_)
  (repeat' (first | refine JO.nil ?_ | refine JX.thenN ?_ | (apply r_storeN; exact rfl; (first | exact trivial | exact ⟨rfl, rfl⟩); exact rfl; exact rfl; (first | exact at0 | exact at1 | exact at2 | exact at3 | exact at4 | exact at5 | exact at6 | exact at7 | exact at8 | exact at9); exact rfl; exact rfl; exact rfl) | (apply r_buildL; exact rfl; exact rfl; exact rfl; exact rfl; exact rfl) | (apply r_storeN; exact rfl; (first | exact trivial | exact ⟨rfl, rfl⟩); exact rfl; exact rfl; (first | exact at0 | exact at1 | exact at2 | exact at3 | exact at4 | exact at5 | exact at6 | exact at7 | exact at8 | exact at9); exact rfl; exact rfl; exact rfl) | refine JC.ret ?_))
  exact JX.retC 0 rfl rfl rfl (fun a w' st => ⟨st.kp, l, rfl, by rw [← bts_len, hl]; simp; omega⟩)

set_option maxHeartbeats 2000000 in
theorem c_NumWide (w : World) (neg : Bool) (vb : Value) (z : Int) (n : Nat) (xs : List Nat) (hv : WY w vb n xs) (hx : ∀ x ∈ xs, x < 256) (hn : n ≤ 140737488351232) :
    Calls Tryd.prog 13 #[.agg #[.bool neg, vb, iv z]] w (Ret fun v w' => Kp [] w w' ∧ ∃ a, IsZ v a 40) := by
  refine calls_of_S [⟨1, 1, [0, 1, 4, 5, 7, 8, 2, 3, 6, 9, 10], []⟩] [] (by simp) [] Tryd.func13 rfl mixed (by kernel_rfl) Tryd.ntmps13 Tryd.results13 rfl ⟨by simp, by simp⟩ (by simp) ?_
  simp only [toS, textOps, toSOp, kindAt, kindOf, odAt, sopsAt, ordOf, zipF]
  (repeat' (first | refine JC.seq ?_ | refine JC.ops ?_ | refine JC.opsD ?_ | refine JO.nil ?_ | refine JX.thenN ?_ | (apply r_fieldAddr; exact rfl; exact rfl; exact rfl) | (apply r_load; exact rfl; exact rfl; exact rfl; exact rfl; (first | exact at0 | exact at1 | exact at2 | exact at3 | exact at4 | exact at5 | exact at6 | exact at7 | exact at8 | exact at9); exact rfl) | (apply r_allocZ; exact rfl; exact rfl; exact rfl; intro _) | (apply r_boxA; exact rfl; exact rfl; exact rfl; exact rfl; intro _)))
  rename_i b1 b2
  refine r_call0 (by first | trivial | exact ⟨rfl, rfl⟩) rfl rfl rfl (fun w hk hs => c_Mod w z 4 (by decide) (by decide)) fun w v w' _ _ _ hR => ?_
  obtain ⟨rfl, h4⟩ := hR
  generalize (z % (4 : Nat)).toNat = k at h4
  skip
  refine r_make (n := k) rfl rfl rfl rfl rfl (by omega) (by omega) (fun bz => ?_)
  have hO := own_zerosY bz k (by simp only [maxLen]; omega)
  skip
  refine r_appendYBL (A := []) (N := [(bz, _)]) (B := [_, _]) hO (WY.rd hv rfl []) (by (repeat' first | exact HSub.nil _ | exact HSub.hd | exact HSub.in0 | exact HSub.refl _ | refine HSub.skip ?_ | refine HSub.skipN ?_)) rfl (by (repeat' first | exact HSub.refl _ | exact HSub.nil _ | refine HSub.at 0 rfl ?_ | refine HSub.at 1 rfl ?_ | refine HSub.at 2 rfl ?_ | refine HSub.at 3 rfl ?_ | refine HSub.at 4 rfl ?_ | refine HSub.at 5 rfl ?_ | refine HSub.at 6 rfl ?_ | refine HSub.at 7 rfl ?_ | refine HSub.at 8 rfl ?_ | refine HSub.at 9 rfl ?_ | refine HSub.at 10 rfl ?_ | refine HSub.at 11 rfl ?_ | refine HSub.at 12 rfl ?_ | refine HSub.at 13 rfl ?_ | refine HSub.at 14 rfl ?_ | refine HSub.at 15 rfl ?_ | refine HSub.at 16 rfl ?_ | refine HSub.at 17 rfl ?_ | refine HSub.at 18 rfl ?_ | refine HSub.at 19 rfl ?_ | refine HSub.segH ?_ | refine HSub.skip ?_ | refine HSub.skipN ?_)) rfl rfl rfl rfl (by omega) (fun v' N' hO' => ?_)
  have hxs : ∀ u ∈ (tab k fun _ => 0) ++ xs, u < 256 := fun u hu => by
    rcases List.mem_append.1 hu with h | h
    · obtain ⟨a, _, rfl⟩ := List.mem_map.1 h; decide
    · exact hx u h
  skip
  refine r_callA (A := []) rfl (by first | trivial | exact ⟨rfl, rfl⟩) rfl rfl rfl (fun w hk hs => c_Made w _ _ _ neg (hO'.rd.at hk hs (by (repeat' first | exact HSub.nil _ | exact HSub.hd | exact HSub.in0 | exact HSub.refl _ | refine HSub.skip ?_ | refine HSub.skipN ?_))) hxs (by omega)) fun w v w' _ _ _ hR => ?_
  obtain ⟨l, rfl, hl⟩ := hR
  refine ⟨[], New.nil _ _, ?_⟩
  refine r_storeN (b := b2) (cs := #[.bool false, .string ⟨#[]⟩]) (T := 27) (vs := #[.bool neg, sv l]) N'.length rfl (by first | trivial | exact ⟨rfl, rfl⟩) rfl rfl (by simp) rfl rfl rfl ?_
  (repeat' (first | refine JO.nil ?_ | refine JX.thenN ?_ | refine JC.ret ?_))
  exact JX.retC (b := b2) (cs := #[.bool neg, sv l]) (T := 27) (fz := (0, 0)) N'.length rfl (by simp) rfl (fun a w' st => ⟨st.kp, _, neg, l, rfl, hl, rfl⟩)

end Go.Proofs.YtdehklhdjbkneaaDoor
