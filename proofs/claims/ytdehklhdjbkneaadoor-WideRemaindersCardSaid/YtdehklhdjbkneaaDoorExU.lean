/- The rules of the judgement, continued: words (uint64) and conversions of integers. -/
import Derived.Test.YtdehklhdjbkneaaDoorExN
import Derived.Laws.Bits64b
namespace Go.Proofs.YtdehklhdjbkneaaDoor
open Go Go.RowKit
set_option linter.unusedSimpArgs false
set_option linter.unusedVariables false
set_option linter.unusedSectionVars false

/-- A word. -/
abbrev uv (n : Nat) : Value := .int .u64 (n : Int)

theorem u64_in {n : Nat} (h : n < 18446744073709551616) : IntKind.u64.wrap (n : Int) = (n : Int) := by rw [IntKind.wrap_u64]; omega

section
variable {c : Cx} {Q : Exit → Act → World → Prop} {m : Mode} {F : SFrame} {H : SHeap} {r : List SOp} {g : Option (Option Tmp × Bool)} {ns : Bool} {d : Tmp} {ty t t' : TypeId} {x y : Operand} {i j : Nat}

theorem r_addU (hd : dstOk c.n (some d) = true) (hg : guardF F g = some true) (hx : ev F x = some (uv i)) (hy : ev F y = some (uv j)) (hb : i + j < 18446744073709551616)
    (h : JO c Q m r ((d, uv (i + j)) :: F) H) : JO c Q m (⟨some d, .binOp .add t x y t', ty, g, .mov, ns⟩ :: r) F H :=
  r_arith hd hg hx hy (fun w => by
    rw [binOp_add]
    simp only [Op.intArith, show (i : Int) + (j : Int) = ((i + j : Nat) : Int) by omega, u64_in hb, Sem.run_pure]) h
/-- A difference that may wrap. -/
theorem r_subU (hd : dstOk c.n (some d) = true) (hg : guardF F g = some true) (hx : ev F x = some (uv i)) (hy : ev F y = some (uv j)) (hb : i < 18446744073709551616 ∧ j < 18446744073709551616)
    (h : JO c Q m r ((d, uv ((i + (18446744073709551616 - j)) % 18446744073709551616)) :: F) H) : JO c Q m (⟨some d, .binOp .sub t x y t', ty, g, .mov, ns⟩ :: r) F H :=
  r_arith hd hg hx hy (fun w => by
    rw [binOp_sub]
    simp only [Op.intArith, Sem.run_pure, IntKind.wrap_u64]
    rw [show ((i : Int) - (j : Int)) % 18446744073709551616 = (((i + (18446744073709551616 - j)) % 18446744073709551616 : Nat) : Int) by omega]) h
theorem r_mulU (hd : dstOk c.n (some d) = true) (hg : guardF F g = some true) (hx : ev F x = some (uv i)) (hy : ev F y = some (uv j)) (hb : i * j < 18446744073709551616)
    (h : JO c Q m r ((d, uv (i * j)) :: F) H) : JO c Q m (⟨some d, .binOp .mul t x y t', ty, g, .mov, ns⟩ :: r) F H :=
  r_arith hd hg hx hy (fun w => by
    rw [binOp_mul]
    simp only [Op.intArith, show (i : Int) * (j : Int) = ((i * j : Nat) : Int) by simp, u64_in hb, Sem.run_pure]) h
theorem r_quoU (hd : dstOk c.n (some d) = true) (hg : guardF F g = some true) (hx : ev F x = some (uv i)) (hy : ev F y = some (uv j)) (hb : 0 < j ∧ i < 18446744073709551616)
    (h : JO c Q m r ((d, uv (i / j)) :: F) H) : JO c Q m (⟨some d, .binOp .quo t x y t', ty, g, .mov, ns⟩ :: r) F H :=
  r_arith hd hg hx hy (fun w => by
    have h0 : ¬ ((j : Int) = 0) := by omega
    have h1 : i / j < 18446744073709551616 := Nat.lt_of_le_of_lt (Nat.div_le_self _ _) hb.2
    rw [binOp_quo]; simp only [Op.intDiv, h0, if_false, ← Int.ofNat_tdiv, u64_in h1, Sem.run_pure]) h
theorem r_remU (hd : dstOk c.n (some d) = true) (hg : guardF F g = some true) (hx : ev F x = some (uv i)) (hy : ev F y = some (uv j)) (hb : 0 < j)
    (h : JO c Q m r ((d, uv (i % j)) :: F) H) : JO c Q m (⟨some d, .binOp .rem t x y t', ty, g, .mov, ns⟩ :: r) F H :=
  r_arith hd hg hx hy (fun w => by
    have h0 : ¬ ((j : Int) = 0) := by omega
    have h1 : (i : Int).tmod j = ((i % j : Nat) : Int) := (Int.ofNat_tmod i j).symm
    rw [binOp_rem]; simp only [Op.intDiv, h0, if_false, Sem.run_pure, h1]) h
theorem r_andU (hd : dstOk c.n (some d) = true) (hg : guardF F g = some true) (hx : ev F x = some (uv i)) (hy : ev F y = some (uv j)) (hb : i < 18446744073709551616 ∧ j < 18446744073709551616)
    (h : JO c Q m r ((d, uv (i &&& j)) :: F) H) : JO c Q m (⟨some d, .binOp .and t x y t', ty, g, .mov, ns⟩ :: r) F H :=
  r_arith hd hg hx hy (fun w => by rw [binOp_and, intBits_and, bits_and_u64_nat _ _ hb.1 hb.2]; rfl) h
/-- The lower half. -/
theorem r_maskU (hd : dstOk c.n (some d) = true) (hg : guardF F g = some true) (hx : ev F x = some (uv i)) (hy : ev F y = some (.int .u64 4294967295)) (hb : i < 18446744073709551616)
    (h : JO c Q m r ((d, uv (i % 4294967296)) :: F) H) : JO c Q m (⟨some d, .binOp .and t x y t', ty, g, .mov, ns⟩ :: r) F H :=
  r_arith hd hg hx hy (fun w => by
    rw [binOp_and, intBits_and, show (4294967295 : Int) = ((2 ^ 32 - 1 : Nat) : Int) from rfl, bits_and_u64_nat _ _ hb (by decide), Nat.and_two_pow_sub_one_eq_mod]; rfl) h
theorem r_orU (hd : dstOk c.n (some d) = true) (hg : guardF F g = some true) (hx : ev F x = some (uv i)) (hy : ev F y = some (uv j)) (hb : i < 18446744073709551616 ∧ j < 18446744073709551616)
    (h : JO c Q m r ((d, uv (i ||| j)) :: F) H) : JO c Q m (⟨some d, .binOp .or t x y t', ty, g, .mov, ns⟩ :: r) F H :=
  r_arith hd hg hx hy (fun w => by rw [binOp_or, intBits_or, bits_or_u64_nat _ _ hb.1 hb.2]; rfl) h
theorem r_shlU {k : IntKind} (hd : dstOk c.n (some d) = true) (hg : guardF F g = some true) (hx : ev F x = some (uv i)) (hy : ev F y = some (.int k j)) (hj : j ≤ 64)
    (h : JO c Q m r ((d, uv (i * 2 ^ j % 18446744073709551616)) :: F) H) : JO c Q m (⟨some d, .binOp .shl t x y t', ty, g, .mov, ns⟩ :: r) F H :=
  r_mov hd hg (fun a w fr => by
    have h1 : ¬ ((j : Int) < 0) := by omega
    have h2 : min j 64 = j := by omega
    have h3 : IntKind.u64.wrap ((i : Int) * 2 ^ j) = ((i * 2 ^ j % 18446744073709551616 : Nat) : Int) := by
      rw [IntKind.wrap_u64, show (i : Int) * 2 ^ j = ((i * 2 ^ j : Nat) : Int) by simp]
      generalize i * 2 ^ j = z
      omega
    simp only [execOp, fr.ev hx, fr.ev hy, eqGuard_shl, binOp_shl, Op.shift, h1, if_false, Int.toNat_natCast]
    simp [IntKind.bits, h2, h3, uv]) h
theorem r_shrU {k : IntKind} (hd : dstOk c.n (some d) = true) (hg : guardF F g = some true) (hx : ev F x = some (uv i)) (hy : ev F y = some (.int k j)) (hj : j ≤ 64)
    (h : JO c Q m r ((d, uv (i / 2 ^ j)) :: F) H) : JO c Q m (⟨some d, .binOp .shr t x y t', ty, g, .mov, ns⟩ :: r) F H :=
  r_mov hd hg (fun a w fr => by
    have h1 : ¬ ((j : Int) < 0) := by omega
    have h2 : min j 64 = j := by omega
    simp only [execOp, fr.ev hx, fr.ev hy, eqGuard_shr, binOp_shr, Op.shift, h1, if_false, Int.toNat_natCast]
    have h3 : ((i : Int).fdiv (2 ^ j)) = ((i / 2 ^ j : Nat) : Int) := by
      rw [Int.fdiv_eq_ediv_of_nonneg _ (by exact_mod_cast Nat.zero_le (2 ^ j))]; norm_cast
    simp [IntKind.bits, h2, h3, uv]) h
end

/-- An integer type. -/
class TI (P : Program) (t : TypeId) (k : outParam IntKind) : Prop where
  und : P.underlying t = some (.int k)
theorem TI.kind {P : Program} {t : TypeId} {k : IntKind} [h : TI P t k] : P.intKind t = k := by
  unfold Program.intKind
  rw [h.und]

section
variable {c : Cx} {Q : Exit → Act → World → Prop} {m : Mode} {F : SFrame} {H : SHeap} {r : List SOp} {g : Option (Option Tmp × Bool)} {ns : Bool} {d : Tmp} {ty t t' : TypeId} {x y : Operand}

/-- An integer of one kind made one of another. -/
theorem r_convK {k k' : IntKind} {i : Int} (j : Int) [TI c.P t k] [TI c.P t' k'] (hd : dstOk c.n (some d) = true) (hg : guardF F g = some true) (hx : ev F x = some (.int k i)) (hj : k'.wrap i = j)
    (h : JO c Q m r ((d, .int k' j) :: F) H) : JO c Q m (⟨some d, .convert t t' x, ty, g, .mov, ns⟩ :: r) F H :=
  r_mov hd hg (fun a w fr => by
    have h1 := run_convert_int w t t' k i (by rw [TI.und (P := c.P) (t := t)]; rfl) (by rw [TI.kind (k := k')]; exact TI.und)
    rw [TI.kind (k := k'), hj] at h1
    simp only [execOp, fr.ev hx, Sem.run_bind, h1, Result.andThen_ok, Sem.run_pure]) h
end

section
variable {c : Cx} {Q : Exit → Act → World → Prop} {m : Mode} {F : SFrame} {H : SHeap} {r : List SOp} {g : Option (Option Tmp × Bool)} {ns : Bool} {d : Tmp} {ty t t' : TypeId} {x y : Operand}

/-- An integer that is made an int. -/
theorem r_convN {k : IntKind} {i : Nat} [TI c.P t k] [TI c.P t' .i64] (hd : dstOk c.n (some d) = true) (hg : guardF F g = some true) (hx : ev F x = some (.int k i)) (hb : i < 9223372036854775808)
    (h : JO c Q m r ((d, .int .i64 i) :: F) H) : JO c Q m (⟨some d, .convert t t' x, ty, g, .mov, ns⟩ :: r) F H := r_convK (k' := .i64) i hd hg hx (in64N hb) h
theorem r_neBS {b : Bool} [TB c.P t] (hd : dstOk c.n (some d) = true) (hg : guardF F g = some true) (hx : ev F x = some (.bool b)) (hy : ev F y = some (.bool b)) (h : JO c Q m r ((d, .bool false) :: F) H) : JO c Q m (⟨some d, .binOp .neq t x y t', ty, g, .mov, ns⟩ :: r) F H :=
  r_neB hd hg hx hy (by rw [bne_self_eq_false]; exact h)
theorem r_eqBS {b : Bool} [TB c.P t] (hd : dstOk c.n (some d) = true) (hg : guardF F g = some true) (hx : ev F x = some (.bool b)) (hy : ev F y = some (.bool b)) (h : JO c Q m r ((d, .bool true) :: F) H) : JO c Q m (⟨some d, .binOp .eql t x y t', ty, g, .mov, ns⟩ :: r) F H :=
  r_eqB hd hg hx hy (by rw [beq_self_eq_true]; exact h)
end

instance : TI Tryd.prog 3 .i64 := ⟨Tryd.underlying3⟩
instance : TI Tryd.prog 5 .u8 := ⟨Tryd.underlying5⟩
instance : TI Tryd.prog 68 .u64 := ⟨Tryd.underlying68⟩

end Go.Proofs.YtdehklhdjbkneaaDoor
