/- The rules of the judgement, continued: words shifted and joined. -/
import Derived.Test.YtdehklhdjbkneaaDoorWidI
namespace Go.Proofs.YtdehklhdjbkneaaDoor
open Go Go.RowKit
set_option linter.unusedSimpArgs false
set_option linter.unusedVariables false
set_option linter.unusedSectionVars false

section
variable {c : Cx} {Q : Exit → Act → World → Prop} {m : Mode} {F : SFrame} {H : SHeap} {r : List SOp} {g : Option (Option Tmp × Bool)} {ns : Bool} {d : Tmp} {ty t t' : TypeId} {x y : Operand} {i j : Nat}

theorem r_shr32 {k : IntKind} (hd : dstOk c.n (some d) = true) (hg : guardF F g = some true) (hx : ev F x = some (uv i)) (hy : ev F y = some (.int k 32))
    (h : JO c Q m r ((d, uv (i / 4294967296)) :: F) H) : JO c Q m (⟨some d, .binOp .shr t x y t', ty, g, .mov, ns⟩ :: r) F H :=
  r_shrU (j := 32) hd hg hx hy (by omega) (by rw [show (2 : Nat) ^ 32 = 4294967296 from rfl]; exact h)
theorem r_shl32 {k : IntKind} (hd : dstOk c.n (some d) = true) (hg : guardF F g = some true) (hx : ev F x = some (uv i)) (hy : ev F y = some (.int k 32)) (hb : i < 4294967296)
    (h : JO c Q m r ((d, uv (i * 4294967296)) :: F) H) : JO c Q m (⟨some d, .binOp .shl t x y t', ty, g, .mov, ns⟩ :: r) F H :=
  r_shlU (j := 32) hd hg hx hy (by omega) (by rw [show (2 : Nat) ^ 32 = 4294967296 from rfl, Nat.mod_eq_of_lt (by omega)]; exact h)
theorem or32 {i j : Nat} (hj : j < 4294967296) : i * 4294967296 ||| j = i * 4294967296 + j := by
  have := Nat.two_pow_add_eq_or_of_lt (i := 32) (b := j) (by simpa using hj) i
  rw [show (2 : Nat) ^ 32 = 4294967296 from rfl, Nat.mul_comm] at this
  exact this.symm
theorem r_or32 (hd : dstOk c.n (some d) = true) (hg : guardF F g = some true) (hx : ev F x = some (uv (i * 4294967296))) (hy : ev F y = some (uv j)) (hb : i < 4294967296 ∧ j < 4294967296)
    (h : JO c Q m r ((d, uv (i * 4294967296 + j)) :: F) H) : JO c Q m (⟨some d, .binOp .or t x y t', ty, g, .mov, ns⟩ :: r) F H :=
  r_orU hd hg hx hy (by omega) (by rw [or32 hb.2]; exact h)
/-- A word shifted, the result given. -/
theorem r_shlV {k : IntKind} (s : Nat) (hd : dstOk c.n (some d) = true) (hg : guardF F g = some true) (hx : ev F x = some (uv i)) (hy : ev F y = some (.int k j)) (hj : j ≤ 64) (hs : i * 2 ^ j % 18446744073709551616 = s)
    (h : JO c Q m r ((d, uv s) :: F) H) : JO c Q m (⟨some d, .binOp .shl t x y t', ty, g, .mov, ns⟩ :: r) F H :=
  r_shlU hd hg hx hy hj (by rw [hs]; exact h)
/-- Words joined, the result given. -/
theorem r_orV (s : Nat) (hd : dstOk c.n (some d) = true) (hg : guardF F g = some true) (hx : ev F x = some (uv i)) (hy : ev F y = some (uv j)) (hb : i < 18446744073709551616 ∧ j < 18446744073709551616) (hs : i ||| j = s)
    (h : JO c Q m r ((d, uv s) :: F) H) : JO c Q m (⟨some d, .binOp .or t x y t', ty, g, .mov, ns⟩ :: r) F H :=
  r_orU hd hg hx hy hb (by rw [hs]; exact h)
end

/-- The first places of an owned row. -/
theorem OwnU.hd {N : SHeap} {A : Option Addr} {n k cap : Nat} {xs : List Nat} (h : OwnU N (.slice A n cap) n xs) (hk : k ≤ n) : OwnU N (.slice A k cap) k (xs.take k) := by
  have hl := h.len
  obtain ⟨h1, ⟨h2, h3, h4⟩ | ⟨b, cap', cur, h2, h3, h4, h5, h6, h7⟩⟩ := h
  · subst h4
    subst h3
    obtain rfl : k = 0 := by omega
    have h0 : xs = [] := List.eq_nil_of_length_eq_zero hl
    subst h0
    rw [h2]
    exact OwnU.nil
  · simp only [Value.slice.injEq, true_and] at h2
    obtain ⟨rfl, rfl⟩ := h2
    refine ⟨by simp; omega, .inr ⟨b, cap, cur, rfl, h3, by omega, h5, h6, ?_⟩⟩
    rw [Nat.mul_one] at h7 ⊢
    rw [List.map_take, ← h7, List.take_take, Nat.min_eq_left hk]

theorem mul_round {W P V V' x y c z s A : Nat} (hV : V' + P * z = V + P * (s % W)) (hs : s = z + x * y + c) (h : V + P * c = A) : V' + P * W * (s / W) = A + P * (x * y) := by
  have h1 : P * (s % W) + P * W * (s / W) = P * s := by rw [Nat.mul_assoc, ← Nat.mul_add, Nat.mod_add_div]
  have h2 : P * s = P * z + P * (x * y) + P * c := by rw [hs, Nat.mul_add, Nat.mul_add]
  omega
theorem mul_bound {x y : Nat} (hx : x < 4294967296) (hy : y < 4294967296) : x * y ≤ 18446744065119617025 := by
  have := Nat.mul_le_mul (show x ≤ 4294967295 by omega) (show y ≤ 4294967295 by omega)
  omega
theorem getD_set_ne {l : List Nat} {i j u : Nat} (h : i ≠ j) : (l.set i u).getD j 0 = l.getD j 0 := by
  rw [List.getD, List.getElem?_set_ne h]; rfl
theorem set_lt {b : Nat} {l : List Nat} {i u : Nat} (hl : ∀ x ∈ l, x < b) (hu : u < b) : ∀ x ∈ l.set i u, x < b := fun x hx => by
  rcases List.mem_or_eq_of_mem_set hx with h | rfl
  · exact hl x h
  · exact hu
theorem getD_over {l : List Nat} {i : Nat} (h : l.length ≤ i) : l.getD i 0 = 0 := by rw [List.getD, List.getElem?_eq_none h]; rfl
theorem val_zeros (b n : Nat) : val b (tab n fun _ => 0) = 0 := by
  have key : ∀ l : List Nat, (∀ x ∈ l, x = 0) → val b l = 0 := by
    intro l
    induction l with
    | nil => intro _; rfl
    | cons x l ih => intro h; rw [val, h x (by simp), ih fun y hy => h y (List.mem_cons_of_mem _ hy)]; simp
  refine key _ fun x hx => ?_
  obtain ⟨a, _, rfl⟩ := List.mem_map.1 hx
  rfl

end Go.Proofs.YtdehklhdjbkneaaDoor
