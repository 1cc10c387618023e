/- The canonical number of words: (nat).wide, its parts. -/
import Derived.Test.YtdehklhdjbkneaaDoorExR
import Derived.Test.YtdehklhdjbkneaaDoorWidS
namespace Go.Proofs.YtdehklhdjbkneaaDoor
open Go Go.RowKit
set_option linter.unusedSimpArgs false
set_option linter.unusedVariables false
set_option linter.unusedSectionVars false

/-- The canonical bytes of a number, as bytes. -/
def magU (n : Nat) : List UInt8 := (mag n).map UInt8.ofNat
theorem bts_magU (n : Nat) : bts (magU n) = mag n := bts_of mag_lt
theorem magU_of {l : List UInt8} : l.dropWhile (· == 0) = magU (bval (bts l)) := by
  apply bts_inj
  rw [bts_magU, ← mag_of (fun x hx => by
    obtain ⟨a, _, rfl⟩ := List.mem_map.1 hx
    exact UInt8.toNat_lt a)]
  unfold bts
  induction l with
  | nil => rfl
  | cons a l ih =>
    rw [List.map_cons, List.dropWhile, List.dropWhile]
    by_cases h : a = 0
    · subst h; exact ih
    · have h1 : (a == 0) = false := by simpa using h
      have h2 : (a.toNat == 0) = false := by
        simp only [beq_eq_false_iff_ne]
        exact fun e => h (UInt8.toNat.inj e)
      rw [h1, h2]; rfl
theorem magU_nil {n : Nat} : magU n = [] ↔ n = 0 := by
  rw [← mag_nil]
  exact ⟨fun h => by rw [← bts_magU, h]; rfl, fun h => by unfold magU; rw [h]; rfl⟩
theorem magU_len {n k : Nat} (h : n < 256 ^ k) : (magU n).length ≤ k := by unfold magU; rw [List.length_map]; exact mag_len h
theorem magU_inj {n m : Nat} (h : magU n = magU m) : n = m := mag_inj (by rw [← bts_magU, h, bts_magU])
theorem bval_magU (n : Nat) : bval (bts (magU n)) = n := by rw [bts_magU, bval_mag]

/-- A Wide value. -/
abbrev wv (p : Bool) (l : List UInt8) : Value := .agg #[.bool p, sv l]
/-- The canonical Wide value of a number. -/
def Wv (z : Int) : Value := wv (decide (z < 0)) (magU z.natAbs)
theorem Wv_sgn (p : Bool) (n : Nat) : Wv (sgn p n) = wv (p && decide (magU n ≠ [])) (magU n) := by
  unfold Wv
  have h : decide (n ≠ 0) = decide (magU n ≠ []) := by simp [magU_nil]
  rw [sgn_natAbs, sgn_neg, h]

section
variable {c : Cx} {Q : Exit → Act → World → Prop} {m : Mode} {F : SFrame} {H : SHeap} {r : List SOp} {g : Option (Option Tmp × Bool)} {ns : Bool} {d : Tmp} {ty t t' : TypeId} {x y : Operand} {i : Nat}
/-- 'make([]T, n, k)'. -/
theorem r_makeC {e : TypeId} {sz bytes n k : Nat} {zc : Array Value} [TSl c.P t e] [TE c.P e sz bytes zc] (hd : dstOk c.n (some d) = true) (hg : guardF F g = some true) (hl : m.live = true)
    (hx : ev F x = some (.int .i64 n)) (hy : ev F y = some (.int .i64 k)) (hnk : n ≤ k) (hn : k * bytes ≤ 140737488355328) (hn' : k < 9223372036854775808)
    (h : ∀ b, JO c Q m r ((d, (.slice (some ⟨b, 0, none⟩) n k)) :: F) ((b, .cells (zerosOf zc (k * sz)) e) :: H)) : JO c Q m (⟨some d, .makeSlice t x y, ty, g, .alloc, ns⟩ :: r) F H :=
  r_alloc (mk := fun b => .slice (some ⟨b, 0, none⟩) n k) hd hg hl (fun a fr => by
    obtain ⟨i, z, hi, rfl, rfl, hz, rfl⟩ := TE.info (P := c.P) (e := e) (sz := sz) (bytes := bytes) (zc := zc)
    have h1 : a.eval x = .int .i64 (Int.ofNat n) := fr.ev hx
    have h2 : a.eval y = .int .i64 (Int.ofNat k) := fr.ev hy
    simp only [allocOf, TSl.und (P := c.P) (t := t), h1, h2, hi, hz, Option.map_some]
    rw [if_pos ⟨hnk, hn, hn'⟩]
    by_cases h0 : k * i.size = 0
    · simp [h0, zerosOf]
    · simp [h0, zerosOf]) h
theorem r_shr24 {k : IntKind} (hd : dstOk c.n (some d) = true) (hg : guardF F g = some true) (hx : ev F x = some (uv i)) (hy : ev F y = some (.int k 24)) (h : JO c Q m r ((d, uv (i / 16777216)) :: F) H) : JO c Q m (⟨some d, .binOp .shr t x y t', ty, g, .mov, ns⟩ :: r) F H := r_shrU (j := 24) hd hg hx hy (by omega) h
theorem r_shr16 {k : IntKind} (hd : dstOk c.n (some d) = true) (hg : guardF F g = some true) (hx : ev F x = some (uv i)) (hy : ev F y = some (.int k 16)) (h : JO c Q m r ((d, uv (i / 65536)) :: F) H) : JO c Q m (⟨some d, .binOp .shr t x y t', ty, g, .mov, ns⟩ :: r) F H := r_shrU (j := 16) hd hg hx hy (by omega) h
theorem r_shr8 {k : IntKind} (hd : dstOk c.n (some d) = true) (hg : guardF F g = some true) (hx : ev F x = some (uv i)) (hy : ev F y = some (.int k 8)) (h : JO c Q m r ((d, uv (i / 256)) :: F) H) : JO c Q m (⟨some d, .binOp .shr t x y t', ty, g, .mov, ns⟩ :: r) F H := r_shrU (j := 8) hd hg hx hy (by omega) h
theorem r_toU8 {k : IntKind} [TI c.P t k] [TI c.P t' .u8] (hd : dstOk c.n (some d) = true) (hg : guardF F g = some true) (hx : ev F x = some (.int k i)) (h : JO c Q m r ((d, yv (i % 256)) :: F) H) : JO c Q m (⟨some d, .convert t t' x, ty, g, .mov, ns⟩ :: r) F H :=
  r_convK (k' := .u8) ((i % 256 : Nat) : Int) hd hg hx (by rw [IntKind.wrap_u8]; omega) h
end

/-- The bytes of words, as they come. -/
def wbs (l : List (Nat × Nat)) : List Nat := l.flatMap fun x => [x.2 / 16777216 % 256, x.2 / 65536 % 256, x.2 / 256 % 256, x.2 % 256]
theorem wbs_snoc (l : List (Nat × Nat)) (x : Nat × Nat) : wbs (l ++ [x]) = wbs l ++ [x.2 / 16777216 % 256, x.2 / 65536 % 256, x.2 / 256 % 256, x.2 % 256] := by simp [wbs]
theorem wbs_len (l : List (Nat × Nat)) : (wbs l).length = 4 * l.length := by
  induction l with
  | nil => rfl
  | cons x l ih => simp only [wbs, List.flatMap_cons, List.length_append, List.length_cons, List.length_nil] at ih ⊢; omega
theorem wbs_lt (l : List (Nat × Nat)) : ∀ u ∈ wbs l, u < 256 := by
  intro u hu
  obtain ⟨x, _, hx⟩ := List.mem_flatMap.1 hu
  simp only [List.mem_cons, List.mem_nil_iff, or_false] at hx
  omega
theorem bval_wbs {xs : List Nat} (hx : ∀ x ∈ xs, x < 4294967296) : ∀ k, k ≤ xs.length → bval (wbs (bk xs k)) = val 4294967296 (xs.drop (xs.length - k))
  | 0, _ => by rw [Nat.sub_zero, val_drop_nil (Nat.le_refl _)]; rfl
  | k + 1, h => by
    have ih := bval_wbs hx k (by omega)
    rw [bk_succ, wbs_snoc]
    dsimp only
    have e : wbs (bk xs k) ++ [xs[xs.length - 1 - k]?.getD 0 / 16777216 % 256, xs[xs.length - 1 - k]?.getD 0 / 65536 % 256, xs[xs.length - 1 - k]?.getD 0 / 256 % 256, xs[xs.length - 1 - k]?.getD 0 % 256] = (((wbs (bk xs k) ++ [xs[xs.length - 1 - k]?.getD 0 / 16777216 % 256]) ++ [xs[xs.length - 1 - k]?.getD 0 / 65536 % 256]) ++ [xs[xs.length - 1 - k]?.getD 0 / 256 % 256]) ++ [xs[xs.length - 1 - k]?.getD 0 % 256] := by simp
    rw [e, bval_snoc, bval_snoc, bval_snoc, bval_snoc, ih, show xs.length - (k + 1) = xs.length - 1 - k by omega, val_drop (k := xs.length - 1 - k) (by omega), show xs.length - 1 - k + 1 = xs.length - k by omega]
    have hlt : xs.getD (xs.length - 1 - k) 0 < 4294967296 := hx _ (mem_getD (by omega))
    have e2 : xs[xs.length - 1 - k]?.getD 0 = xs.getD (xs.length - 1 - k) 0 := rfl
    rw [e2]
    omega

set_option maxHeartbeats 2000000 in
theorem c_Back (w : World) (v : Value) (A : Option Addr) (n cap : Nat) (hv : v = .slice A n cap) :
    Calls Tryd.prog 62 #[v] w (Ret fun u w' => Kp [] w w' ∧ ∃ b, u = .func (.func 70) #[] #[.pointer (some ⟨b, 0, none⟩)] ∧ New [(b, .cells #[v] 57)] w w') := by
  subst hv
  refine calls_of_S [] [] (by simp) [] Tryd.func62 rfl mixed (by kernel_rfl) Tryd.ntmps62 Tryd.results62 rfl ⟨by simp, by simp⟩ (by simp) ?_
  simp only [toS, textOps, toSOp, kindAt, kindOf, odAt, sopsAt, ordOf, zipF]
  (repeat' (first | refine JC.seq ?_ | refine JC.ops ?_ | refine JO.nil ?_ | refine JX.thenN ?_ | (apply r_assign; exact rfl; exact rfl; exact rfl) | (apply r_box; exact rfl; exact rfl; exact rfl; exact rfl; exact rfl; intro _) | (apply r_makeFunc; exact rfl; exact rfl; exact rfl; exact rfl) | refine JC.ret ?_))
  rename_i b
  exact JX.ret1 rfl (fun a w' st => ⟨st.kp, b, rfl, st.newOf rfl (by (repeat' first | exact HSub.nil _ | exact HSub.hd | exact HSub.in0 | exact HSub.refl _ | refine HSub.skip ?_ | refine HSub.skipN ?_))⟩)

end Go.Proofs.YtdehklhdjbkneaaDoor
