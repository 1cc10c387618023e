/- The rules of the judgement, continued: strings. -/
import Derived.Test.YtdehklhdjbkneaaDoorExV
import Derived.Laws.Strings
import Derived.Laws.Strings2
import Derived.Laws.Strings3
import Derived.Laws.Concat
import Derived.Laws.Slices
import Derived.Laws.IdiomStrings
namespace Go.Proofs.YtdehklhdjbkneaaDoor
open Go Go.RowKit
set_option linter.unusedSimpArgs false
set_option linter.unusedVariables false
set_option linter.unusedSectionVars false

/-- A string of bytes. -/
abbrev sv (l : List UInt8) : Value := .string ⟨l.toArray⟩
/-- The bytes as numbers. -/
def bts (l : List UInt8) : List Nat := l.map UInt8.toNat
theorem bts_len (l : List UInt8) : (bts l).length = l.length := by simp [bts]
theorem bts_lt {l : List UInt8} {i : Nat} : (bts l).getD i 0 < 256 := by
  simp only [bts, List.getD, List.getElem?_map]
  cases l[i]? with
  | none => decide
  | some b => exact UInt8.toNat_lt b
theorem bts_inj {a b : List UInt8} (h : bts a = bts b) : a = b := by
  unfold bts at h
  exact (List.map_inj_right (fun x y e => UInt8.toNat.inj e)).1 h

class TStr (P : Program) (t : TypeId) : Prop where
  und : P.underlying t = some .string

theorem size_sv (l : List UInt8) : (ByteArray.mk l.toArray).size = l.length := by simp [ByteArray.size]
theorem toList_sv (l : List UInt8) : (ByteArray.mk l.toArray).toList = l := by
  simp

section
variable {c : Cx} {Q : Exit → Act → World → Prop} {m : Mode} {F : SFrame} {H : SHeap} {r : List SOp} {g : Option (Option Tmp × Bool)} {ns : Bool} {d : Tmp} {ty t t' : TypeId} {x y : Operand} {l l' : List UInt8}

theorem r_lenS [TStr c.P t] (hd : dstOk c.n (some d) = true) (hg : guardF F g = some true) (hx : ev F x = some (sv l))
    (h : JO c Q m r ((d, .int .i64 l.length) :: F) H) : JO c Q m (⟨some d, .call ⟨.builtin .len, #[x], #[t]⟩, ty, g, .mov, ns⟩ :: r) F H :=
  r_mov hd hg (fun a w fr => by
    simp [execOp, resolve, invoke, builtin, fr.ev hx, run_len_string w t ty _ (TStr.und (P := c.P)), goInt, size_sv]) h

theorem r_idxS {k : IntKind} {j : Nat} [TStr c.P t] (hd : dstOk c.n (some d) = true) (hg : guardF F g = some true) (hx : ev F x = some (sv l)) (hy : ev F y = some (.int k j)) (hj : j < l.length)
    (h : JO c Q m r ((d, yv ((bts l).getD j 0)) :: F) H) : JO c Q m (⟨some d, .index t x y, ty, g, .mov, ns⟩ :: r) F H :=
  r_mov hd hg (fun a w fr => by
    have h1 : (0 : Int) ≤ j ∧ (j : Int) < (ByteArray.mk l.toArray).size := by rw [size_sv]; omega
    have h2 : (bts l).getD j 0 = l[j].toNat := by simp [bts, List.getD, hj]
    simp only [execOp, fr.ev hx, fr.ev hy, Sem.run_bind, run_index_string w t _ k j (TStr.und (P := c.P)), h1, and_self, dite_true, Result.andThen_ok, Sem.run_pure, h2]
    rfl) h

theorem r_eqS [TStr c.P t] (hd : dstOk c.n (some d) = true) (hg : guardF F g = some true) (hx : ev F x = some (sv l)) (hy : ev F y = some (sv l')) (h : JO c Q m r ((d, .bool (decide (l = l'))) :: F) H) :
    JO c Q m (⟨some d, .binOp .eql t x y t', ty, g, .mov, ns⟩ :: r) F H :=
  r_mov hd hg (fun a w fr => by
    simp [execOp, fr.ev hx, fr.ev hy, eqGuard, binOp_string_eql, toList_sv]
    by_cases h : l = l' <;> simp [h]) h
theorem r_neS [TStr c.P t] (hd : dstOk c.n (some d) = true) (hg : guardF F g = some true) (hx : ev F x = some (sv l)) (hy : ev F y = some (sv l')) (h : JO c Q m r ((d, .bool (decide (l ≠ l'))) :: F) H) :
    JO c Q m (⟨some d, .binOp .neq t x y t', ty, g, .mov, ns⟩ :: r) F H :=
  r_mov hd hg (fun a w fr => by
    simp [execOp, fr.ev hx, fr.ev hy, eqGuard, binOp_string_neq, toList_sv]
    by_cases h : l = l' <;> simp [h]) h
theorem r_addS [TStr c.P t] (hd : dstOk c.n (some d) = true) (hg : guardF F g = some true) (hx : ev F x = some (sv l)) (hy : ev F y = some (sv l')) (hb : l.length + l'.length ≤ 9223372036854775807) (h : JO c Q m r ((d, sv (l ++ l')) :: F) H) :
    JO c Q m (⟨some d, .binOp .add t x y t', ty, g, .mov, ns⟩ :: r) F H :=
  r_mov hd hg (fun a w fr => by
    simp only [execOp, fr.ev hx, fr.ev hy, eqGuard, binOp_string_add, Sem.run_bind, Sem.run_pure, Result.andThen_ok, Bool.not_false, if_true]
    rw [run_string_add_sum w _ _ (by simp only [size_sv]; omega), ByteArray.mk_append_mk]
    rfl) h
/-- 's[i:]'. -/
theorem r_fromS {k : IntKind} {i : Nat} {lo : Operand} [TStr c.P t] (hd : dstOk c.n (some d) = true) (hg : guardF F g = some true) (hx : ev F x = some (sv l)) (hy : ev F lo = some (.int k i)) (hi : i ≤ l.length)
    (h : JO c Q m r ((d, sv (l.drop i)) :: F) H) : JO c Q m (⟨some d, .slice t x (some lo) none none, ty, g, .mov, ns⟩ :: r) F H :=
  r_mov hd hg (fun a w fr => by
    have h1 : (0 : Int) ≤ i := by omega
    have h2 : (i : Int) ≤ (l.length : Int) := by omega
    simp only [execOp, fr.ev hx, Option.map_some, Option.map_none, fr.ev hy, Sem.run_bind, run_sliceAt_string w t _ _ _ _ (TStr.und (P := c.P)), run_slice_string_from_if w t _ k i (TStr.und (P := c.P)), h1, size_sv, h2, and_self, if_true, Result.andThen_ok, Sem.run_pure, Int.toNat_natCast, ByteArray.extract_mk]
    try rw [List.take_of_length_le (by simp)]) h
/-- 's[:j]'. -/
theorem r_toS {k : IntKind} {j : Nat} {hi : Operand} [TStr c.P t] (hd : dstOk c.n (some d) = true) (hg : guardF F g = some true) (hx : ev F x = some (sv l)) (hy : ev F hi = some (.int k j)) (hj : j ≤ l.length)
    (h : JO c Q m r ((d, sv (l.take j)) :: F) H) : JO c Q m (⟨some d, .slice t x none (some hi) none, ty, g, .mov, ns⟩ :: r) F H :=
  r_mov hd hg (fun a w fr => by
    have h1 : (0 : Int) ≤ j := by omega
    have h2 : (j : Int) ≤ (l.length : Int) := by omega
    simp only [execOp, fr.ev hx, Option.map_some, Option.map_none, fr.ev hy, Sem.run_bind, run_sliceAt_string w t _ _ _ _ (TStr.und (P := c.P)), run_slice_string_to_if w t _ k j (TStr.und (P := c.P)), h1, size_sv, h2, and_self, if_true, Result.andThen_ok, Sem.run_pure, Int.toNat_natCast, ByteArray.extract_mk, List.drop_zero, Nat.sub_zero]) h
end

section
variable {c : Cx} {Q : Exit → Act → World → Prop} {m : Mode} {F : SFrame} {H : SHeap} {r : List SOp} {g : Option (Option Tmp × Bool)} {ns : Bool} {d : Tmp} {ty t t' : TypeId} {x y : Operand}

theorem bts_of {xs : List Nat} (h : ∀ u ∈ xs, u < 256) : bts (xs.map UInt8.ofNat) = xs := by
  unfold bts
  rw [List.map_map]
  conv => rhs; rw [← List.map_id xs]
  refine List.map_congr_left fun u hu => ?_
  have := h u hu
  simp [Function.comp]
  omega

theorem run_bytes_none {P : Program} (w : World) (src dst e : TypeId) (cap : Nat) (hs : P.underlying src = some (.slice e)) (he : P.underlying e = some (.int .u8)) (hd : P.underlying dst = some .string) :
    (convert src dst (.slice none 0 cap)).run P w = .ok (sv []) w := by
  rw [run_convert_bytes_string w src dst e none 0 cap hs he hd]
  simp [Conv.bytesToString]
  rfl

/-- 'string(b)', of bytes that can be read. -/
theorem r_toStr {N : SHeap} {v : Value} {n : Nat} {xs : List Nat} {e : TypeId} [TSl c.P t e] [TI c.P e .u8] [TStr c.P t'] (hxs : ∀ u ∈ xs, u < 256) (hv : RdY c N v n xs) (hN : HSub N H) (hm : m.mayCall ns r) (hd : dstOk c.n (some d) = true) (hg : guardF F g = some true) (hx : ev F x = some v)
    (h : ∀ l, bts l = xs → JO c Q m r ((d, sv l) :: F) H) : JO c Q m (⟨some d, .convert t t' x, ty, g, .seq, ns⟩ :: r) F H := by
  refine r_seqR (v := sv (xs.map UInt8.ofNat)) hm hd hg (fun a w fr hs => ?_) (h _ (bts_of hxs))
  have hlen := hv.len
  obtain ⟨_, A, cap, rfl, _, hrd⟩ := hv
  rcases Nat.eq_zero_or_pos n with h0 | h0
  · subst h0
    have hx0 : xs = [] := List.eq_nil_of_length_eq_zero hlen
    subst hx0
    cases A with
    | none =>
      simp only [execOp, fr.ev hx, Sem.run_bind, run_bytes_none w t t' e cap TSl.und TI.und TStr.und, Result.andThen_ok, Sem.run_pure]
      rfl
    | some ad =>
      have h1 := run_convert_bytes_back (P := c.P) w t t' e ad cap [] TSl.und TI.und TStr.und (fun j hj => by simp at hj)
      simp only [List.length_nil] at h1
      simp only [execOp, fr.ev hx, Sem.run_bind, h1, Result.andThen_ok, Sem.run_pure]
      rfl
  · obtain ⟨⟨b, o, rfl⟩, hcell⟩ := hrd h0
    have h1 := run_convert_bytes_back (P := c.P) w t t' e ⟨b, o, none⟩ cap (xs.map UInt8.ofNat) TSl.und TI.und TStr.und (fun j hj => by
      have hj' : j < xs.length := by simpa using hj
      have h2 := hcell w ⟨hs.1, hN.hsat hs.2⟩ j (yv xs[j]) (by simp [hj'])
      rw [add_none]
      have h3 := hxs xs[j] (List.getElem_mem hj')
      simp only [vAt] at h2
      rw [h2]
      simp only [List.getElem_map]
      congr 2
      simp
      omega)
    have h4 : (xs.map UInt8.ofNat).length = n := by simpa using hlen
    rw [h4] at h1
    simp only [execOp, fr.ev hx, Sem.run_bind, h1, Result.andThen_ok, Sem.run_pure]
end

end Go.Proofs.YtdehklhdjbkneaaDoor
