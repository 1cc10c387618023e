/- The rules of the judgement, continued: a word less one, the tail of a slice. -/
import Derived.Test.YtdehklhdjbkneaaDoorExY
namespace Go.Proofs.YtdehklhdjbkneaaDoor
open Go Go.RowKit
set_option linter.unusedSimpArgs false
set_option linter.unusedVariables false
set_option linter.unusedSectionVars false

theorem hs_ne {H : SHeap} {w : World} {b b' : Nat} {o o' : Obj} (h : Hsat H w) (k k' : Nat) (hk : H[k]? = some (b, o)) (hk' : H[k']? = some (b', o')) (hne : k ≠ k') : b ≠ b' := by
  intro e
  subst e
  have e1 : (H.map (·.1))[k]? = some b := by simp [hk]
  have e2 : (H.map (·.1))[k']? = some b := by simp [hk']
  have hl := (List.getElem?_eq_some_iff.1 e1).1
  exact hne ((List.getElem?_inj hl h.nd).1 (e1.trans e2.symm))

section
variable {c : Cx} {Q : Exit → Act → World → Prop} {m : Mode} {F : SFrame} {H : SHeap} {r : List SOp} {g : Option (Option Tmp × Bool)} {ns : Bool} {d : Tmp} {ty t t' : TypeId} {x y : Operand} {i j : Nat}
theorem r_decU (hd : dstOk c.n (some d) = true) (hg : guardF F g = some true) (hx : ev F x = some (uv i)) (hy : ev F y = some (.int .u64 1)) (hb : 1 ≤ i ∧ i < 18446744073709551616)
    (h : JO c Q m r ((d, uv (i - 1)) :: F) H) : JO c Q m (⟨some d, .binOp .sub t x y t', ty, g, .mov, ns⟩ :: r) F H :=
  r_subU (j := 1) hd hg hx hy (by omega) (by rw [show (i + (18446744073709551616 - 1)) % 18446744073709551616 = i - 1 by omega]; exact h)
/-- 's[l:]'. -/
theorem r_tail {e : TypeId} {b o o' len cap l : Nat} {lo : Operand} [TSl c.P t e] [TSz c.P e 1] (hd : dstOk c.n (some d) = true) (hg : guardF F g = some true)
    (hx : ev F x = some (.slice (some ⟨b, o, none⟩) len cap)) (hlo : ev F lo = some (nv l)) (ho : o + l = o') (hlh : l < len) (hlc : len ≤ cap)
    (h : JO c Q m r ((d, (.slice (some ⟨b, o', none⟩) (len - l) (cap - l))) :: F) H) : JO c Q m (⟨some d, .slice t x (some lo) none none, ty, g, .mov, ns⟩ :: r) F H :=
  r_slice (b := b) (o := o) (h' := len) (vh := none) hd hg hx (fun _ => rfl) hlo rfl (.inl rfl) rfl rfl (.inr ⟨rfl, rfl⟩) (by omega) (Nat.le_refl _) hlc (fun A' hA' => by
    obtain rfl := hA' hlh
    rw [Nat.mul_one, ho]
    exact h)
end

/-- The names of a row that is not empty. -/
theorem OwnU.blk {N : SHeap} {v : Value} {n : Nat} {xs : List Nat} (h : OwnU N v n xs) (hn : 0 < n) : ∃ b cap rest, v = .slice (some ⟨b, 0, none⟩) n cap ∧ N = [(b, .cells (rowCU xs rest) 68 (0, 0))] ∧ n ≤ cap ∧ rest.length = cap - n ∧ cap ≤ maxLen := h.named hn

/-- The rest of a division that was scaled. -/
theorem div_final {p X Y Q R : Nat} (hp : 0 < p) (h : R + p * Y * Q = p * X) (hR : R < p * Y) : X = Q * Y + R / p ∧ R / p < Y := by
  rw [Nat.mul_assoc] at h
  have h1 : p * (Y * Q) ≤ p * X := by omega
  have h2 : Y * Q ≤ X := Nat.le_of_mul_le_mul_left h1 hp
  have h3 : R = p * (X - Y * Q) := by rw [Nat.mul_sub]; omega
  have h4 : R / p = X - Y * Q := by rw [h3, Nat.mul_div_cancel_left _ hp]
  rw [h4, Nat.mul_comm Q Y]
  refine ⟨by omega, ?_⟩
  rw [h3] at hR
  exact Nat.lt_of_mul_lt_mul_left hR
/-- The length of the divisor behind the shift. -/
theorem shift_len {s k : Nat} {ys vs : List Nat} (hs : s ≤ 31) (hk : ys.length = k) (hk0 : 0 < k) (hy : Dig 4294967296 ys) (ht : ys.getD (k - 1) 0 * 2 ^ s < 4294967296) (hv : Dig 4294967296 vs) (h : val 4294967296 vs = 2 ^ s * val 4294967296 ys) : vs.length = k ∧ 2 ^ s * 4294967296 ^ (k - 1) ≤ val 4294967296 vs := by
  have hp0 : 0 < 2 ^ s := Nat.pow_pos (by decide)
  have hne : ys ≠ [] := fun e => by subst e; simp at hk; omega
  have h1 := val_ge (b := 4294967296) (by decide) hy.nrm hne
  rw [hk] at h1
  have h2 : 2 ^ s * 4294967296 ^ (k - 1) ≤ val 4294967296 vs := by rw [h]; exact Nat.mul_le_mul_left _ h1
  refine ⟨?_, h2⟩
  have htop : ys.getD (k - 1) 0 < 2 ^ (32 - s) := by
    refine Nat.lt_of_mul_lt_mul_right (a := 2 ^ s) ?_
    rw [← Nat.pow_add, show 32 - s + s = 32 by omega]
    exact ht
  have h3 : val 4294967296 ys < (ys.getD (k - 1) 0 + 1) * 4294967296 ^ (k - 1) := by
    have e := val_cut 4294967296 ys (k - 1) (by omega)
    rw [val_drop (by omega), val_drop_nil (by omega), Nat.mul_zero, Nat.add_zero] at e
    have h4 := val_take_lt hy.lt (k := k - 1) (by omega)
    rw [e, Nat.add_mul, Nat.one_mul, Nat.mul_comm (ys.getD (k - 1) 0)]
    omega
  have h5 : val 4294967296 vs < 4294967296 ^ k := by
    rw [h]
    have h6 : 2 ^ s * val 4294967296 ys < 2 ^ s * ((ys.getD (k - 1) 0 + 1) * 4294967296 ^ (k - 1)) := Nat.mul_lt_mul_of_pos_left h3 hp0
    refine Nat.lt_of_lt_of_le h6 ?_
    have h7 : 2 ^ s * (ys.getD (k - 1) 0 + 1) ≤ 4294967296 := by
      have : (ys.getD (k - 1) 0 + 1) * 2 ^ s ≤ 2 ^ (32 - s) * 2 ^ s := Nat.mul_le_mul_right _ htop
      rw [← Nat.pow_add, show 32 - s + s = 32 by omega] at this
      rw [Nat.mul_comm]
      exact this
    rw [← Nat.mul_assoc]
    have e : (4294967296 : Nat) ^ k = 4294967296 * 4294967296 ^ (k - 1) := by
      conv => lhs; rw [show k = k - 1 + 1 by omega, Nat.pow_succ, Nat.mul_comm]
    rw [e]
    exact Nat.mul_le_mul_right _ h7
  have h8 := hv.len_le (by decide) h5
  refine Nat.le_antisymm h8 ?_
  refine Decidable.byContradiction fun hlt => ?_
  have h9 : val 4294967296 vs < 4294967296 ^ (k - 1) := by
    refine Nat.lt_of_lt_of_le (val_lt hv.lt) (Nat.pow_le_pow_right (by decide) (by omega))
  have h10 : 4294967296 ^ (k - 1) ≤ 2 ^ s * 4294967296 ^ (k - 1) := Nat.le_mul_of_pos_left _ hp0
  omega
/-- At the start, the dividend's top is less than the divisor. -/
theorem shift_top {s k n V : Nat} {us : List Nat} (hu : ∀ x ∈ us, x < 4294967296) (hl : us.length = n + 1) (hk : 1 ≤ k) (hkn : k ≤ n) (ht : us.getD n 0 < 2 ^ s) (hV : 2 ^ s * 4294967296 ^ (k - 1) ≤ V) : val 4294967296 (us.drop (n + 1 - k)) < V := by
  have hd : ∀ x ∈ us.drop (n + 1 - k), x < 4294967296 := fun x hx => hu x (List.mem_of_mem_drop hx)
  have hlen : (us.drop (n + 1 - k)).length = k := by simp; omega
  have e := val_cut 4294967296 (us.drop (n + 1 - k)) (k - 1) (by omega)
  rw [val_drop (l := us.drop (n + 1 - k)) (k := k - 1) (by omega), val_drop_nil (l := us.drop (n + 1 - k)) (k := k - 1 + 1) (by omega), getD_drop, show n + 1 - k + (k - 1) = n by omega] at e
  simp only [Nat.mul_zero, Nat.add_zero] at e
  have h1 := val_take_lt hd (k := k - 1) (by omega)
  rw [e]
  have h2 : 4294967296 ^ (k - 1) * (us.getD n 0 + 1) ≤ 4294967296 ^ (k - 1) * 2 ^ s := Nat.mul_le_mul_left _ ht
  rw [Nat.mul_add, Nat.mul_one, Nat.mul_comm _ (2 ^ s)] at h2
  omega

end Go.Proofs.YtdehklhdjbkneaaDoor
