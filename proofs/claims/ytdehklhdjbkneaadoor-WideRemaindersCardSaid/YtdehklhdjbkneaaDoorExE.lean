/- The rules of the judgement, an operation each. -/
import Derived.Test.YtdehklhdjbkneaaDoorExD
import Derived.Laws.Bits
namespace Go.Proofs.YtdehklhdjbkneaaDoor
open Go Go.RowKit
set_option linter.unusedSimpArgs false
set_option linter.unusedVariables false
set_option linter.unusedSectionVars false

/-! ## What the rules ask of types -/

/-- One cell. -/
class T1 (P : Program) (t : TypeId) : Prop where
  agg : ∀ w, (isAgg t).run P w = .ok false w
  size : ∀ w, (sizeOf t).run P w = .ok 1 w
/-- A struct or an array of n cells. -/
class TN (P : Program) (t : TypeId) (n : outParam Nat) : Prop where
  agg : ∀ w, (isAgg t).run P w = .ok true w
  size : ∀ w, (sizeOf t).run P w = .ok n w
class TSl (P : Program) (t : TypeId) (e : outParam TypeId) : Prop where
  und : P.underlying t = some (.slice e)
class TSz (P : Program) (e : TypeId) (n : outParam Nat) : Prop where
  size : ∀ w, (sizeOf e).run P w = .ok n w
class TB (P : Program) (t : TypeId) : Prop where
  und : P.underlying t = some .bool
class TZ (P : Program) (t : TypeId) (z : outParam Value) : Prop where
  zero : (P.info? t).bind (·.zero) = some z
class FA (P : Program) (s : TypeId) (f : Nat) (off : outParam Nat) : Prop where
  run : ∀ a w, (Instr.fieldAt s (.pointer (some a)) f).run P w = .ok (.pointer (some (a.add off))) w
class TF (P : Program) (f : FuncId) : Prop where
  run : ∀ args w, (callFunc f args).run P w = .ok (.enter f args) w

theorem T1.mk' {P : Program} {t : TypeId} {d : TypeDesc} (hu : P.underlying t = some d) (hd : (match d with | .struct _ | .array _ _ => true | _ => false) = false) (hi : (P.info? t).map (·.size) = some 1) : T1 P t := by
  refine ⟨fun w => ?_, fun w => ?_⟩
  · unfold isAgg underlying
    simp only [Sem.run_bind, run_program, Result.andThen_ok, hu, Sem.run_pure]
    cases d <;> first | rfl | cases hd
  · unfold sizeOf typeInfo
    cases h : P.info? t with
    | none => rw [h] at hi; cases hi
    | some i => rw [h] at hi; simp at hi; simp [h, hi]
theorem TN.mk' {P : Program} {t : TypeId} {d : TypeDesc} {n : Nat} (hu : P.underlying t = some d) (hd : (match d with | .struct _ | .array _ _ => true | _ => false) = true) (hi : (P.info? t).map (·.size) = some n) : TN P t n := by
  refine ⟨fun w => ?_, fun w => ?_⟩
  · unfold isAgg underlying
    simp only [Sem.run_bind, run_program, Result.andThen_ok, hu, Sem.run_pure]
    cases d <;> first | rfl | cases hd
  · unfold sizeOf typeInfo
    cases h : P.info? t with
    | none => rw [h] at hi; cases hi
    | some i => rw [h] at hi; simp at hi; simp [h, hi]
theorem TSz.mk' {P : Program} {t : TypeId} {n : Nat} (hi : (P.info? t).map (·.size) = some n) : TSz P t n := by
  refine ⟨fun w => ?_⟩
  unfold sizeOf typeInfo
  cases h : P.info? t with
  | none => rw [h] at hi; cases hi
  | some i => rw [h] at hi; simp at hi; simp [h, hi]
theorem FA.mk' {P : Program} {s : TypeId} {fs : Array Field} {f : Nat} {fl : Field} (hu : P.underlying s = some (.struct fs)) (hf : fs[f]? = some fl) (hs : ((P.info? fl.type).map (·.size)).any (fun n => n != 0) = true) : FA P s f fl.offset := by
  refine ⟨fun a w => ?_⟩
  unfold Instr.fieldAt underlying fieldPlace sizeOf typeInfo Instr.sureAddr
  cases h : P.info? fl.type with
  | none => rw [h] at hs; cases hs
  | some i =>
    rw [h] at hs
    have : i.size ≠ 0 := by simpa using hs
    simp [hu, hf, h, this]
theorem TF.mk' {P : Program} {f : FuncId} {fn : Func} {s : Code} (hf : P.funcs[f]? = some fn) (hn : (fn.name == "runtime.NumGoroutine") = false) (hb : fn.body = some s) : TF P f := by
  refine ⟨fun args w => ?_⟩
  unfold callFunc
  simp only [Sem.run_bind, run_program, Result.andThen_ok, hf, hn, hb, Bool.false_eq_true, if_false, Option.isNone_some, Sem.run_pure]

section
variable {c : Cx} {Q : Exit → Act → World → Prop} {m : Mode} {F : SFrame} {H : SHeap} {r : List SOp} {g : Option (Option Tmp × Bool)} {ns : Bool} {d : Option Tmp} {ty : TypeId}

theorem r_skip {op : Op} {k : Kind} (hd : dstOk c.n d = true) (hg : guardF F g = some false) (hl : k = .ld → m.live = true) (h : JO c Q m r (putF F d undef) H) : JO c Q m (⟨d, op, ty, g, k, ns⟩ :: r) F H :=
  ⟨⟨hd, .inl ⟨hg, hl, h.h⟩⟩⟩

theorem r_mov {op : Op} {v : Value} (hd : dstOk c.n d = true) (hg : guardF F g = some true) (hr : ∀ a w, FrOK c.n F a → (execOp a.eval ⟨d, op, ty, "", #[], none⟩).run c.P w = .ok (.value v) w) (h : JO c Q m r (putF F d v) H) :
    JO c Q m (⟨d, op, ty, g, .mov, ns⟩ :: r) F H := ⟨⟨hd, .inr ⟨hg, v, hr, h.h⟩⟩⟩

theorem r_move {d : Tmp} {x : Operand} {v : Value} (hd : dstOk c.n (some d) = true) (hg : guardF F g = some true) (hx : ev F x = some v) (h : JO c Q m r ((d, v) :: F) H) : JO c Q m (⟨some d, .move x, ty, g, .mov, ns⟩ :: r) F H :=
  r_mov hd hg (fun a w fr => by simp [execOp, fr.ev hx]) h
theorem r_assign {d : Tmp} {x : Operand} {v : Value} (hd : dstOk c.n (some d) = true) (hg : guardF F g = some true) (hx : ev F x = some v) (h : JO c Q m r ((d, v) :: F) H) : JO c Q m (⟨some d, .assign x, ty, g, .mov, ns⟩ :: r) F H :=
  r_mov hd hg (fun a w fr => by simp [execOp, fr.ev hx]) h
theorem r_pickT {d : Tmp} {x y z : Operand} {v : Value} (hd : dstOk c.n (some d) = true) (hg : guardF F g = some true) (hx : ev F x = some (.bool true)) (hy : ev F y = some v) (h : JO c Q m r ((d, v) :: F) H) : JO c Q m (⟨some d, .pick x y z, ty, g, .mov, ns⟩ :: r) F H :=
  r_mov hd hg (fun a w fr => by simp [execOp, fr.ev hx, fr.ev hy, asBool]) h
theorem r_pickF {d : Tmp} {x y z : Operand} {v : Value} (hd : dstOk c.n (some d) = true) (hg : guardF F g = some true) (hx : ev F x = some (.bool false)) (hz : ev F z = some v) (h : JO c Q m r ((d, v) :: F) H) : JO c Q m (⟨some d, .pick x y z, ty, g, .mov, ns⟩ :: r) F H :=
  r_mov hd hg (fun a w fr => by simp [execOp, fr.ev hx, fr.ev hz, asBool]) h
theorem r_not {d : Tmp} {x : Operand} {b : Bool} (hd : dstOk c.n (some d) = true) (hg : guardF F g = some true) (hx : ev F x = some (.bool b)) {t : TypeId} (h : JO c Q m r ((d, (.bool (!b))) :: F) H) : JO c Q m (⟨some d, .unOp .not t x, ty, g, .mov, ns⟩ :: r) F H :=
  r_mov hd hg (fun a w fr => by simp [execOp, fr.ev hx, Op.unary]) h
theorem r_extract {d : Tmp} {x : Operand} {vs : Array Value} {i : Nat} {v : Value} (hd : dstOk c.n (some d) = true) (hg : guardF F g = some true) (hx : ev F x = some (.tuple vs)) (hv : vs[i]? = some v) (h : JO c Q m r ((d, v) :: F) H) :
    JO c Q m (⟨some d, .extract x i, ty, g, .mov, ns⟩ :: r) F H :=
  r_mov hd hg (fun a w fr => by simp [execOp, fr.ev hx, Instr.extract, hv]) h

/-! ### Integers -/

theorem r_arith {d : Tmp} {op : BinOp} {t t' : TypeId} {x y : Operand} {k : IntKind} {i j : Int} {v : Value} (hd : dstOk c.n (some d) = true) (hg : guardF F g = some true) (hx : ev F x = some (.int k i)) (hy : ev F y = some (.int k j))
    (hr : ∀ w, (binOp op t (.int k i) (.int k j)).run c.P w = .ok v w) (h : JO c Q m r ((d, v) :: F) H) : JO c Q m (⟨some d, .binOp op t x y t', ty, g, .mov, ns⟩ :: r) F H :=
  r_mov hd hg (fun a w fr => by simp [execOp, fr.ev hx, fr.ev hy, eqGuard_at_int, hr]) h

variable {t t' : TypeId} {x y : Operand}

theorem in64 {n : Int} (h : -9223372036854775808 ≤ n ∧ n ≤ 9223372036854775807) : IntKind.i64.wrap n = n := Go.IntWalk.i64_in n h
theorem in64N {n : Nat} (h : n < 9223372036854775808) : IntKind.i64.wrap (n : Int) = n := Go.IntWalk.i64_in n (by omega)

theorem r_add {d : Tmp} {i j : Int} (hd : dstOk c.n (some d) = true) (hg : guardF F g = some true) (hx : ev F x = some (.int .i64 i)) (hy : ev F y = some (.int .i64 j)) (hb : -9223372036854775808 ≤ i + j ∧ i + j ≤ 9223372036854775807)
    (h : JO c Q m r ((d, (.int .i64 (i + j))) :: F) H) : JO c Q m (⟨some d, .binOp .add t x y t', ty, g, .mov, ns⟩ :: r) F H :=
  r_arith hd hg hx hy (fun w => by rw [binOp_add]; simp [Op.intArith, in64 hb]) h
theorem r_addN {d : Tmp} {i j : Nat} (hd : dstOk c.n (some d) = true) (hg : guardF F g = some true) (hx : ev F x = some (.int .i64 i)) (hy : ev F y = some (.int .i64 j)) (hb : i + j < 9223372036854775808)
    (h : JO c Q m r ((d, (.int .i64 ((i + j : Nat) : Int))) :: F) H) : JO c Q m (⟨some d, .binOp .add t x y t', ty, g, .mov, ns⟩ :: r) F H :=
  r_arith hd hg hx hy (fun w => by rw [binOp_add]; simp only [Op.intArith, ← Int.natCast_add, in64N hb, Sem.run_pure]) h
theorem r_sub {d : Tmp} {i j : Int} (hd : dstOk c.n (some d) = true) (hg : guardF F g = some true) (hx : ev F x = some (.int .i64 i)) (hy : ev F y = some (.int .i64 j)) (hb : -9223372036854775808 ≤ i - j ∧ i - j ≤ 9223372036854775807)
    (h : JO c Q m r ((d, (.int .i64 (i - j))) :: F) H) : JO c Q m (⟨some d, .binOp .sub t x y t', ty, g, .mov, ns⟩ :: r) F H :=
  r_arith hd hg hx hy (fun w => by rw [binOp_sub]; simp [Op.intArith, in64 hb]) h
theorem r_subN {d : Tmp} {i j : Nat} (hd : dstOk c.n (some d) = true) (hg : guardF F g = some true) (hx : ev F x = some (.int .i64 i)) (hy : ev F y = some (.int .i64 j)) (hb : j ≤ i ∧ i < 9223372036854775808)
    (h : JO c Q m r ((d, (.int .i64 ((i - j : Nat) : Int))) :: F) H) : JO c Q m (⟨some d, .binOp .sub t x y t', ty, g, .mov, ns⟩ :: r) F H :=
  r_arith hd hg hx hy (fun w => by
    have : (i : Int) - j = ((i - j : Nat) : Int) := by omega
    rw [binOp_sub]; simp only [Op.intArith, this, in64N (show i - j < 9223372036854775808 by omega), Sem.run_pure]) h
theorem r_mul {d : Tmp} {i j : Int} (hd : dstOk c.n (some d) = true) (hg : guardF F g = some true) (hx : ev F x = some (.int .i64 i)) (hy : ev F y = some (.int .i64 j)) (hb : -9223372036854775808 ≤ i * j ∧ i * j ≤ 9223372036854775807)
    (h : JO c Q m r ((d, (.int .i64 (i * j))) :: F) H) : JO c Q m (⟨some d, .binOp .mul t x y t', ty, g, .mov, ns⟩ :: r) F H :=
  r_arith hd hg hx hy (fun w => by rw [binOp_mul]; simp [Op.intArith, in64 hb]) h
theorem r_mulN {d : Tmp} {i j : Nat} (hd : dstOk c.n (some d) = true) (hg : guardF F g = some true) (hx : ev F x = some (.int .i64 i)) (hy : ev F y = some (.int .i64 j)) (hb : i * j < 9223372036854775808)
    (h : JO c Q m r ((d, (.int .i64 ((i * j : Nat) : Int))) :: F) H) : JO c Q m (⟨some d, .binOp .mul t x y t', ty, g, .mov, ns⟩ :: r) F H :=
  r_arith hd hg hx hy (fun w => by rw [binOp_mul]; simp only [Op.intArith, ← Int.natCast_mul, in64N hb, Sem.run_pure]) h
theorem r_modN {d : Tmp} {i j : Nat} (hd : dstOk c.n (some d) = true) (hg : guardF F g = some true) (hx : ev F x = some (.int .i64 i)) (hy : ev F y = some (.int .i64 j)) (hb : 0 < j)
    (h : JO c Q m r ((d, (.int .i64 ((i % j : Nat) : Int))) :: F) H) : JO c Q m (⟨some d, .binOp .rem t x y t', ty, g, .mov, ns⟩ :: r) F H :=
  r_arith hd hg hx hy (fun w => by
    have h0 : ¬ ((j : Int) = 0) := by omega
    rw [binOp_rem]; simp only [Op.intDiv, h0, if_false, Sem.run_pure, Int.ofNat_tmod]) h
theorem r_mod {d : Tmp} {i j : Int} (hd : dstOk c.n (some d) = true) (hg : guardF F g = some true) (hx : ev F x = some (.int .i64 i)) (hy : ev F y = some (.int .i64 j)) (hb : j ≠ 0)
    (h : JO c Q m r ((d, (.int .i64 (i.tmod j))) :: F) H) : JO c Q m (⟨some d, .binOp .rem t x y t', ty, g, .mov, ns⟩ :: r) F H :=
  r_arith hd hg hx hy (fun w => by rw [binOp_rem]; simp only [Op.intDiv, hb, if_false, Sem.run_pure]) h
theorem r_divN {d : Tmp} {i j : Nat} (hd : dstOk c.n (some d) = true) (hg : guardF F g = some true) (hx : ev F x = some (.int .i64 i)) (hy : ev F y = some (.int .i64 j)) (hb : 0 < j ∧ i < 9223372036854775808)
    (h : JO c Q m r ((d, (.int .i64 ((i / j : Nat) : Int))) :: F) H) : JO c Q m (⟨some d, .binOp .quo t x y t', ty, g, .mov, ns⟩ :: r) F H :=
  r_arith hd hg hx hy (fun w => by
    have h0 : ¬ ((j : Int) = 0) := by omega
    have h1 : i / j < 9223372036854775808 := Nat.lt_of_le_of_lt (Nat.div_le_self _ _) hb.2
    rw [binOp_quo]; simp only [Op.intDiv, h0, if_false, ← Int.ofNat_tdiv, in64N h1, Sem.run_pure]) h
theorem r_shrN {d : Tmp} {k : IntKind} {i j : Nat} (hd : dstOk c.n (some d) = true) (hg : guardF F g = some true) (hx : ev F x = some (.int .i64 i)) (hy : ev F y = some (.int k j)) (hb : j ≤ 64)
    (h : JO c Q m r ((d, (.int .i64 ((i / 2 ^ j : Nat) : Int))) :: F) H) : JO c Q m (⟨some d, .binOp .shr t x y t', ty, g, .mov, ns⟩ :: r) F H :=
  r_mov hd hg (fun a w fr => by
    have h1 : ¬ ((j : Int) < 0) := by omega
    have h2 : min j 64 = j := by omega
    simp only [execOp, fr.ev hx, fr.ev hy, eqGuard_shr, binOp_shr, Op.shift, h1, if_false, Int.toNat_natCast]
    have h3 : ((i : Int).fdiv (2 ^ j)) = ((i / 2 ^ j : Nat) : Int) := by
      rw [Int.fdiv_eq_ediv_of_nonneg _ (by exact_mod_cast Nat.zero_le (2 ^ j))]; norm_cast
    simp [IntKind.bits, h2, h3]) h

/-- A test: parted. -/
theorem r_cmp {d : Tmp} {op : BinOp} {k : IntKind} {i j : Int} {p : Prop} [Decidable p] (hd : dstOk c.n (some d) = true) (hg : guardF F g = some true) (hx : ev F x = some (.int k i)) (hy : ev F y = some (.int k j))
    (hr : ∀ w, (binOp op t (.int k i) (.int k j)).run c.P w = .ok (.bool (decide p)) w) (h1 : p → JO c Q m r ((d, (.bool true)) :: F) H) (h2 : ¬ p → JO c Q m r ((d, (.bool false)) :: F) H) :
    JO c Q m (⟨some d, .binOp op t x y t', ty, g, .mov, ns⟩ :: r) F H := by
  by_cases hp : p
  · exact r_arith hd hg hx hy (fun w => by rw [hr w, decide_eq_true hp]) (h1 hp)
  · exact r_arith hd hg hx hy (fun w => by rw [hr w, decide_eq_false hp]) (h2 hp)

theorem r_lss {d : Tmp} {k : IntKind} {i j : Int} (hd : dstOk c.n (some d) = true) (hg : guardF F g = some true) (hx : ev F x = some (.int k i)) (hy : ev F y = some (.int k j))
    (h1 : i < j → JO c Q m r ((d, (.bool true)) :: F) H) (h2 : ¬ i < j → JO c Q m r ((d, (.bool false)) :: F) H) : JO c Q m (⟨some d, .binOp .lss t x y t', ty, g, .mov, ns⟩ :: r) F H :=
  r_cmp hd hg hx hy (fun w => by rw [binOp_lss]; rfl) h1 h2
theorem r_leq {d : Tmp} {k : IntKind} {i j : Int} (hd : dstOk c.n (some d) = true) (hg : guardF F g = some true) (hx : ev F x = some (.int k i)) (hy : ev F y = some (.int k j))
    (h1 : i ≤ j → JO c Q m r ((d, (.bool true)) :: F) H) (h2 : ¬ i ≤ j → JO c Q m r ((d, (.bool false)) :: F) H) : JO c Q m (⟨some d, .binOp .leq t x y t', ty, g, .mov, ns⟩ :: r) F H :=
  r_cmp hd hg hx hy (fun w => by rw [binOp_leq]; rfl) h1 h2
theorem r_gtr {d : Tmp} {k : IntKind} {i j : Int} (hd : dstOk c.n (some d) = true) (hg : guardF F g = some true) (hx : ev F x = some (.int k i)) (hy : ev F y = some (.int k j))
    (h1 : j < i → JO c Q m r ((d, (.bool true)) :: F) H) (h2 : ¬ j < i → JO c Q m r ((d, (.bool false)) :: F) H) : JO c Q m (⟨some d, .binOp .gtr t x y t', ty, g, .mov, ns⟩ :: r) F H :=
  r_cmp hd hg hx hy (fun w => by rw [binOp_gtr]; rfl) h1 h2
theorem r_geq {d : Tmp} {k : IntKind} {i j : Int} (hd : dstOk c.n (some d) = true) (hg : guardF F g = some true) (hx : ev F x = some (.int k i)) (hy : ev F y = some (.int k j))
    (h1 : j ≤ i → JO c Q m r ((d, (.bool true)) :: F) H) (h2 : ¬ j ≤ i → JO c Q m r ((d, (.bool false)) :: F) H) : JO c Q m (⟨some d, .binOp .geq t x y t', ty, g, .mov, ns⟩ :: r) F H :=
  r_cmp hd hg hx hy (fun w => by rw [binOp_geq]; rfl) h1 h2
theorem r_eql {d : Tmp} {k : IntKind} {i j : Int} (hd : dstOk c.n (some d) = true) (hg : guardF F g = some true) (hx : ev F x = some (.int k i)) (hy : ev F y = some (.int k j))
    (h1 : i = j → JO c Q m r ((d, (.bool true)) :: F) H) (h2 : ¬ i = j → JO c Q m r ((d, (.bool false)) :: F) H) : JO c Q m (⟨some d, .binOp .eql t x y t', ty, g, .mov, ns⟩ :: r) F H :=
  r_cmp hd hg hx hy (fun w => by rw [binOp_eql]; simp only [Sem.run_pure]; congr 2) h1 h2
theorem r_neq {d : Tmp} {k : IntKind} {i j : Int} (hd : dstOk c.n (some d) = true) (hg : guardF F g = some true) (hx : ev F x = some (.int k i)) (hy : ev F y = some (.int k j))
    (h1 : i ≠ j → JO c Q m r ((d, (.bool true)) :: F) H) (h2 : i = j → JO c Q m r ((d, (.bool false)) :: F) H) : JO c Q m (⟨some d, .binOp .neq t x y t', ty, g, .mov, ns⟩ :: r) F H :=
  r_cmp (p := i ≠ j) hd hg hx hy (fun w => by
    rw [binOp_neq]; simp only [Sem.run_pure]
    congr 2
    by_cases h : i = j <;> simp [h, bne]) h1 (fun h => h2 (Decidable.not_not.1 h))

theorem run_equalIn_bool {P : Program} (n : Nat) {t : TypeId} (ht : P.underlying t = some .bool) (a b : Bool) (w : World) : (Op.equalIn (n + 1) t (.bool a) (.bool b)).run P w = .ok (a == b) w := by
  simp [Op.equalIn, run_underlying ht]
theorem run_equal_bool {P : Program} {t : TypeId} (ht : P.underlying t = some .bool) (a b : Bool) (w : World) : (Op.equal t (.bool a) (.bool b)).run P w = .ok (a == b) w := run_equalIn_bool 9999 ht a b w

theorem r_eqB {d : Tmp} {b b' : Bool} [TB c.P t] (hd : dstOk c.n (some d) = true) (hg : guardF F g = some true) (hx : ev F x = some (.bool b)) (hy : ev F y = some (.bool b')) (h : JO c Q m r ((d, (.bool (b == b'))) :: F) H) :
    JO c Q m (⟨some d, .binOp .eql t x y t', ty, g, .mov, ns⟩ :: r) F H :=
  r_mov hd hg (fun a w fr => by
    simp only [execOp, fr.ev hx, fr.ev hy, eqGuard_at_bool, binOp]
    simp only [Sem.run_bind, Sem.run_pure, Result.andThen_ok, run_equal_bool (TB.und (P := c.P) (t := t))]) h
theorem r_neB {d : Tmp} {b b' : Bool} [TB c.P t] (hd : dstOk c.n (some d) = true) (hg : guardF F g = some true) (hx : ev F x = some (.bool b)) (hy : ev F y = some (.bool b')) (h : JO c Q m r ((d, (.bool (b != b'))) :: F) H) :
    JO c Q m (⟨some d, .binOp .neq t x y t', ty, g, .mov, ns⟩ :: r) F H :=
  r_mov hd hg (fun a w fr => by
    simp only [execOp, fr.ev hx, fr.ev hy, eqGuard_at_bool, binOp]
    simp only [Sem.run_bind, Sem.run_pure, Result.andThen_ok, run_equal_bool (TB.und (P := c.P) (t := t)), bne]) h

/-! ### Addresses, loads, stores -/

theorem add_none (b o n : Nat) : Addr.add ⟨b, o, none⟩ n = ⟨b, o + n, none⟩ := Addr.add_lit b o n

theorem r_fieldAddr {d : Tmp} {s : TypeId} {f off : Nat} [FA c.P s f off] {b o : Nat} (hd : dstOk c.n (some d) = true) (hg : guardF F g = some true) (hx : ev F x = some (.pointer (some ⟨b, o, none⟩)))
    (h : JO c Q m r ((d, (.pointer (some ⟨b, o + off, none⟩))) :: F) H) : JO c Q m (⟨some d, .fieldAddr s x f, ty, g, .mov, ns⟩ :: r) F H :=
  r_mov hd hg (fun a w fr => by
    simp only [execOp, fr.ev hx, Sem.run_bind, FA.run, Result.andThen_ok, Sem.run_pure, add_none]) h

theorem cell_of_blk {w : World} {b o : Nat} {cs : Array Value} {T : TypeId} {fz : Nat × Nat} {v : Value} (h : w.heap[b]? = some (.cells cs T fz)) (hv : cs[o]? = some v) : w.cell? ⟨b, o, none⟩ = some v := by
  simp [World.cell?, h, hv]

theorem run_load1 {P : Program} {t : TypeId} [T1 P t] {w : World} {p : Addr} {v : Value} (h : w.cell? p = some v) : (Instr.loadAt t (.pointer (some p))).run P w = .ok v w := by
  simp only [Instr.loadAt, Instr.sureAddr, loadVar, Sem.run_bind, Sem.run_pure, Result.andThen_ok, T1.agg, Bool.false_eq_true, if_false]
  simp [h]

theorem run_loadCells {P : Program} {w : World} {b : Nat} : ∀ (n o i : Nat) (acc vs : Array Value), vs.size = n → (∀ j, j < n → w.cell? ⟨b, o + (i + j), none⟩ = vs[j]?) →
    (loadCellsFrom ⟨b, o, none⟩ i n acc).run P w = .ok (acc ++ vs) w
  | 0, o, i, acc, vs, hs, _ => by
    have : vs = #[] := Array.eq_empty_of_size_eq_zero hs
    simp [loadCellsFrom, this]
  | n + 1, o, i, acc, vs, hs, hc => by
    have h0 := hc 0 (by omega)
    have hlt : 0 < vs.size := by omega
    rw [Array.getElem?_eq_getElem hlt] at h0
    simp only [loadCellsFrom, add_none, Sem.run_bind]
    rw [show o + (i + 0) = o + i from by omega] at h0
    have hl : (load (⟨b, o + i, none⟩ : Addr)).run P w = .ok vs[0] w := by simp [h0]
    rw [hl]
    simp only [Result.andThen_ok]
    rw [run_loadCells n o (i + 1) _ (vs.extract 1 (n + 1)) (by simp; omega) (fun j hj => by
      have := hc (j + 1) (by omega)
      rw [show o + (i + 1 + j) = o + (i + (j + 1)) from by omega, this]
      rw [Array.getElem?_extract]
      simp [Nat.add_comm]; omega)]
    congr 1
    apply Array.ext
    · simp; omega
    · intro k h1 h2
      simp only [Array.getElem_append, Array.size_push, Array.getElem_push]
      by_cases hk : k < acc.size
      · simp [hk, Nat.lt_succ_of_lt hk]
      · by_cases hk2 : k = acc.size
        · subst hk2; simp
        · have : ¬ k < acc.size + 1 := by omega
          simp only [this, dif_neg, not_false_eq_true, hk]
          simp only [Array.getElem_extract]
          congr 1; omega

theorem run_loadN {P : Program} {t : TypeId} {n : Nat} [TN P t n] {w : World} {b o : Nat} {vs : Array Value} (hs : vs.size = n) (h : ∀ j, j < n → w.cell? ⟨b, o + j, none⟩ = vs[j]?) :
    (Instr.loadAt t (.pointer (some ⟨b, o, none⟩))).run P w = .ok (.agg vs) w := by
  simp only [Instr.loadAt, Instr.sureAddr, loadVar, loadCells, Sem.run_bind, Sem.run_pure, Result.andThen_ok, TN.agg, TN.size (t := t) (n := n), if_true]
  rw [run_loadCells n o 0 #[] vs hs (fun j hj => by rw [Nat.zero_add]; exact h j hj)]
  simp

theorem r_ld {op : Op} {v : Value} (hd : dstOk c.n d = true) (hg : guardF F g = some true) (hl : m.live = true) (hr : ∀ a w, FrOK c.n F a → Src c (m.src H) w → (execOp a.eval ⟨d, op, ty, "", #[], none⟩).run c.P w = .ok (.value v) w)
    (h : JO c Q m r (putF F d v) H) : JO c Q m (⟨d, op, ty, g, .ld, ns⟩ :: r) F H := ⟨⟨hd, .inr ⟨hg, hl, v, hr, h.h⟩⟩⟩

theorem src_cell {w : World} {S : SHeap} (h : Src c S w) {k : Nat} {b o : Nat} {cs : Array Value} {T : TypeId} {fz : Nat × Nat} {v : Value} (hb : S[k]? = some (b, .cells cs T fz)) (hv : cs[o]? = some v) : w.cell? ⟨b, o, none⟩ = some v :=
  cell_of_blk (h.2.blk _ (List.mem_of_getElem? hb)) hv

theorem lt_of_cell {w : World} {p : Addr} {v : Value} (h : w.cell? p = some v) : p.block < w.heap.size := by
  unfold World.cell? at h
  cases hb : w.heap[p.block]? with
  | none => rw [hb] at h; cases h
  | some o => exact (Array.getElem?_eq_some_iff.1 hb).1

theorem old_cell {w : World} (h : Kp c.M c.w0 w) {p : Addr} {v : Value} (hc : c.w0.cell? p = some v) (hm : p.block ∉ c.M) : w.cell? p = some v := by
  have := h.block p.block (lt_of_cell hc) hm
  unfold World.cell? at hc ⊢
  rw [this]; exact hc

/-- A load of one cell of an owned block: place k of the heap. -/
theorem r_load {d : Tmp} {b o : Nat} (k : Nat) {cs : Array Value} {T : TypeId} {fz : Nat × Nat} {v : Value} [T1 c.P t] (hd : dstOk c.n (some d) = true) (hg : guardF F g = some true) (hx : ev F x = some (.pointer (some ⟨b, o, none⟩))) (hl : m.live = true)
    (hb : (m.src H)[k]? = some (b, .cells cs T fz)) (hv : cs[o]? = some v) (h : JO c Q m r ((d, v) :: F) H) : JO c Q m (⟨some d, .load t x, ty, g, .ld, ns⟩ :: r) F H :=
  r_ld hd hg hl (fun a w fr hs => by simp only [execOp, fr.ev hx, Sem.run_bind, run_load1 (src_cell hs hb hv), Result.andThen_ok, Sem.run_pure]) h
/-- A load of one cell that was there at the start. -/
theorem r_loadO {d : Tmp} {p : Addr} {v : Value} [T1 c.P t] (hd : dstOk c.n (some d) = true) (hg : guardF F g = some true) (hx : ev F x = some (.pointer (some p))) (hl : m.live = true)
    (hc : c.w0.cell? p = some v) (hm : p.block ∉ c.M) (h : JO c Q m r ((d, v) :: F) H) : JO c Q m (⟨some d, .load t x, ty, g, .ld, ns⟩ :: r) F H :=
  r_ld hd hg hl (fun a w fr hs => by simp only [execOp, fr.ev hx, Sem.run_bind, run_load1 (old_cell hs.1 hc hm), Result.andThen_ok, Sem.run_pure]) h
/-- A load of an owned block that is one struct. -/
theorem r_loadN {d : Tmp} {b n : Nat} (k : Nat) {cs : Array Value} {T : TypeId} {fz : Nat × Nat} [TN c.P t n] (hd : dstOk c.n (some d) = true) (hg : guardF F g = some true) (hx : ev F x = some (.pointer (some ⟨b, 0, none⟩))) (hl : m.live = true)
    (hb : (m.src H)[k]? = some (b, .cells cs T fz)) (hn : cs.size = n) (h : JO c Q m r ((d, (.agg cs)) :: F) H) : JO c Q m (⟨some d, .load t x, ty, g, .ld, ns⟩ :: r) F H :=
  r_ld hd hg hl (fun a w fr hs => by
    have := run_loadN (P := c.P) (t := t) (n := n) (w := w) (b := b) (o := 0) (vs := cs) hn (fun j hj => by
      have hj' : j < cs.size := by omega
      rw [Nat.zero_add, Array.getElem?_eq_getElem hj']
      exact src_cell hs hb (Array.getElem?_eq_getElem hj'))
    simp only [execOp, fr.ev hx, Sem.run_bind, this, Result.andThen_ok, Sem.run_pure]) h
/-- A load of a struct within an owned block. -/
theorem r_loadM {d : Tmp} {b o n : Nat} (k : Nat) {cs vs : Array Value} {T : TypeId} {fz : Nat × Nat} [TN c.P t n] (hd : dstOk c.n (some d) = true) (hg : guardF F g = some true) (hx : ev F x = some (.pointer (some ⟨b, o, none⟩))) (hl : m.live = true)
    (hb : (m.src H)[k]? = some (b, .cells cs T fz)) (hn : vs.size = n) (hv : ∀ j, j < n → cs[o + j]? = vs[j]?) (h : JO c Q m r ((d, (.agg vs)) :: F) H) : JO c Q m (⟨some d, .load t x, ty, g, .ld, ns⟩ :: r) F H :=
  r_ld hd hg hl (fun a w fr hs => by
    have := run_loadN (P := c.P) (t := t) (n := n) (w := w) (b := b) (o := o) (vs := vs) hn (fun j hj => by
      have hj' : j < vs.size := by omega
      have := hv j hj
      rw [Array.getElem?_eq_getElem hj'] at this ⊢
      exact src_cell hs hb this)
    simp only [execOp, fr.ev hx, Sem.run_bind, this, Result.andThen_ok, Sem.run_pure]) h
theorem r_loadMO {d : Tmp} {b o n : Nat} {vs : Array Value} [TN c.P t n] (hd : dstOk c.n (some d) = true) (hg : guardF F g = some true) (hx : ev F x = some (.pointer (some ⟨b, o, none⟩))) (hl : m.live = true)
    (hn : vs.size = n) (hv : ∀ j, j < n → c.w0.cell? ⟨b, o + j, none⟩ = vs[j]?) (hm : b ∉ c.M) (h : JO c Q m r ((d, (.agg vs)) :: F) H) : JO c Q m (⟨some d, .load t x, ty, g, .ld, ns⟩ :: r) F H :=
  r_ld hd hg hl (fun a w fr hs => by
    have := run_loadN (P := c.P) (t := t) (n := n) (w := w) (b := b) (o := o) (vs := vs) hn (fun j hj => by
      have hj' : j < vs.size := by omega
      have := hv j hj
      rw [Array.getElem?_eq_getElem hj'] at this ⊢
      exact old_cell hs.1 this hm)
    simp only [execOp, fr.ev hx, Sem.run_bind, this, Result.andThen_ok, Sem.run_pure]) h

theorem run_indexAt {P : Program} {t e : TypeId} {sz : Nat} [TSl P t e] [TSz P e sz] (b o len cap : Nat) (k : IntKind) (j : Nat) (hj : j < len) (w : World) :
    (Instr.indexAt t (.slice (some ⟨b, o, none⟩) len cap) (.int k j)).run P w = .ok (.pointer (some ⟨b, o + j * sz, none⟩)) w := by
  have h1 : (0 : Int) ≤ j ∧ (j : Int) < len := by omega
  simp only [Instr.indexAt, asIntOf, Sem.run_bind, Sem.run_pure, Result.andThen_ok, run_underlying (TSl.und (P := P) (t := t)), h1, and_self, if_true, TSz.size (e := e) (n := sz), Int.toNat_natCast, add_none]

theorem r_index {d : Tmp} {e : TypeId} {sz b o len cap j : Nat} {A : Option Addr} {k : IntKind} [TSl c.P t e] [TSz c.P e sz] (hd : dstOk c.n (some d) = true) (hg : guardF F g = some true) (hx : ev F x = some (.slice A len cap)) (hA : 0 < len → A = some ⟨b, o, none⟩) (hy : ev F y = some (.int k j)) (hj : j < len)
    (h : JO c Q m r ((d, (.pointer (some ⟨b, o + j * sz, none⟩))) :: F) H) : JO c Q m (⟨some d, .indexAddr t x y, ty, g, .mov, ns⟩ :: r) F H := by
  have hA' := hA (by omega)
  subst hA'
  exact r_mov hd hg (fun a w fr => by simp only [execOp, fr.ev hx, fr.ev hy, Sem.run_bind, run_indexAt b o len cap k j hj, Result.andThen_ok, Sem.run_pure]) h
theorem r_index1 {d : Tmp} {e : TypeId} {b o len cap j : Nat} {A : Option Addr} {k : IntKind} [TSl c.P t e] [TSz c.P e 1] (hd : dstOk c.n (some d) = true) (hg : guardF F g = some true) (hx : ev F x = some (.slice A len cap)) (hA : 0 < len → A = some ⟨b, o, none⟩) (hy : ev F y = some (.int k j)) (hj : j < len)
    (h : JO c Q m r ((d, (.pointer (some ⟨b, o + j, none⟩))) :: F) H) : JO c Q m (⟨some d, .indexAddr t x y, ty, g, .mov, ns⟩ :: r) F H :=
  r_index hd hg hx hA hy hj (by rw [Nat.mul_one]; exact h)

theorem run_len {P : Program} {t e ty : TypeId} [TSl P t e] (b : Option Addr) (len cap : Nat) (w : World) : (Builtin.len_ #[t] ty #[.slice b len cap]).run P w = .ok (.int .i64 len) w := by
  simp [Builtin.len_, run_underlying (TSl.und (P := P) (t := t)), goInt]

theorem r_len {d : Tmp} {e : TypeId} {b : Option Addr} {len cap : Nat} [TSl c.P t e] (hd : dstOk c.n (some d) = true) (hg : guardF F g = some true) (hx : ev F x = some (.slice b len cap))
    (h : JO c Q m r ((d, (.int .i64 len)) :: F) H) : JO c Q m (⟨some d, .call ⟨.builtin .len, #[x], #[t]⟩, ty, g, .mov, ns⟩ :: r) F H :=
  r_mov hd hg (fun a w fr => by
    simp only [execOp, resolve, Sem.run_bind, Sem.run_pure, Result.andThen_ok, invoke, builtin, Array.map, List.map_toArray, List.map_cons, List.map_nil, fr.ev hx]
    have : (#[x].map a.eval) = #[Value.slice b len cap] := by simp [fr.ev hx]
    simp [fr.ev hx, run_len]) h

theorem r_min {d : Tmp} {i j : Int} {k : IntKind} {ts : Array TypeId} (hd : dstOk c.n (some d) = true) (hg : guardF F g = some true) (hx : ev F x = some (.int k i)) (hy : ev F y = some (.int k j))
    (h : JO c Q m r ((d, (.int k (if j < i then j else i))) :: F) H) : JO c Q m (⟨some d, .call ⟨.builtin .min, #[x, y], ts⟩, ty, g, .mov, ns⟩ :: r) F H :=
  r_mov hd hg (fun a w fr => by
    simp [execOp, resolve, invoke, builtin, fr.ev hx, fr.ev hy, Builtin.min_, Builtin.min2]) h
theorem r_max {d : Tmp} {i j : Int} {k : IntKind} {ts : Array TypeId} (hd : dstOk c.n (some d) = true) (hg : guardF F g = some true) (hx : ev F x = some (.int k i)) (hy : ev F y = some (.int k j))
    (h : JO c Q m r ((d, (.int k (if i < j then j else i))) :: F) H) : JO c Q m (⟨some d, .call ⟨.builtin .max, #[x, y], ts⟩, ty, g, .mov, ns⟩ :: r) F H :=
  r_mov hd hg (fun a w fr => by
    simp [execOp, resolve, invoke, builtin, fr.ev hx, fr.ev hy, Builtin.max_, Builtin.max2]) h

end
end Go.Proofs.YtdehklhdjbkneaaDoor
