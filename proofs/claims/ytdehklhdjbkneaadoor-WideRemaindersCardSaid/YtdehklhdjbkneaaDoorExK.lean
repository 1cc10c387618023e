/- The rules of the judgement, continued: slices that are written down. -/
import Derived.Test.YtdehklhdjbkneaaDoorExJ
import Derived.Laws.Cover3
namespace Go.Proofs.YtdehklhdjbkneaaDoor
open Go Go.RowKit
set_option linter.unusedSimpArgs false
set_option linter.unusedVariables false
set_option linter.unusedSectionVars false

theorem storeL_list : ∀ (l : List Value) (cs : Array Value) (o : Nat), o + l.length ≤ cs.size → (storeL cs o l).toList = cs.toList.take o ++ (l ++ cs.toList.drop (o + l.length))
  | [], cs, o, h => by rw [storeL]; simp
  | v :: l, cs, o, h => by
    simp only [List.length_cons] at h
    rw [storeL, storeL_list l _ _ (by rw [Array.size_setIfInBounds]; omega), Array.toList_setIfInBounds]
    have hlt : o < (cs.toList.set o v).length := by simp; omega
    rw [List.take_succ_eq_append_getElem hlt, List.take_set_of_le (Nat.le_refl _), List.drop_set_of_lt (by omega)]
    simp only [List.getElem_set_self, List.append_assoc, List.singleton_append, List.length_cons, List.cons_append, List.nil_append]
    rw [show o + 1 + l.length = o + (l.length + 1) by omega]

theorem foldl_storeL (off : Nat) : ∀ (l : List Value) (k : Nat) (cs : Array Value), (l.zipIdx k).foldl (fun (cs : Array Value) (x : Value × Nat) => cs.setIfInBounds (off + x.2) x.1) cs = storeL cs (off + k) l
  | [], k, cs => rfl
  | v :: l, k, cs => by
    rw [List.zipIdx_cons, List.foldl_cons, foldl_storeL off l, storeL]
    rfl

def flat (vs : List Value) : List Value := (vs.map fun v => v.cells.toList).flatten

theorem fill_go (sz : Nat) : ∀ (l : List (Nat × Value)) (vs : List Value) (k : Nat) (cs : Array Value), l.map (·.2) = vs → l.map (·.1) = List.range' k l.length → (∀ v ∈ vs, v.cells.size = sz) → cs.size = (k + l.length) * sz →
    ∃ cs', Instr.fill (fun j => some (j * sz, sz)) cs l = some cs' ∧ cs'.toList = cs.toList.take (k * sz) ++ flat vs
  | [], vs, k, cs, h1, _, _, h4 => by
    simp only [List.map_nil] at h1
    subst h1
    refine ⟨cs, rfl, ?_⟩
    rw [List.take_of_length_le (by simp at h4 ⊢; omega)]
    simp [flat]
  | (i, v) :: l, vs, k, cs, h1, h2, h3, h4 => by
    simp only [List.map_cons] at h1
    subst h1
    simp only [List.map_cons, List.length_cons, List.range'_succ, List.cons.injEq] at h2
    obtain ⟨rfl, h2⟩ := h2
    have hv : v.cells.size = sz := h3 v (by simp)
    have e1 : (i + (l.length + 1)) * sz = i * sz + sz + l.length * sz := by rw [Nat.add_mul, Nat.add_mul, Nat.one_mul]; omega
    simp only [List.length_cons] at h4
    rw [e1] at h4
    have hst : v.cells.zipIdx.foldl (fun (cs : Array Value) (x : Value × Nat) => cs.setIfInBounds (i * sz + x.2) x.1) cs = storeL cs (i * sz) v.cells.toList := by
      rw [← Array.foldl_toList, Array.toList_zipIdx, foldl_storeL]; rfl
    obtain ⟨cs', h5, h6⟩ := fill_go sz l (l.map (·.2)) (i + 1) (storeL cs (i * sz) v.cells.toList) rfl h2 (fun u hu => h3 u (List.mem_cons_of_mem _ hu)) (by rw [storeL_size, h4, Nat.add_mul, Nat.add_mul, Nat.one_mul])
    refine ⟨cs', ?_, ?_⟩
    · have hg : ¬ ((v.cells.size ≠ sz || decide (i * sz + v.cells.size > cs.size)) = true) := by
        simp only [hv, ne_eq, not_true_eq_false, decide_false, Bool.false_or, decide_eq_true_eq]
        omega
      show (if (v.cells.size ≠ sz || decide (i * sz + v.cells.size > cs.size)) = true then none else Instr.fill _ (v.cells.zipIdx.foldl (fun (cs : Array Value) (x : Value × Nat) => cs.setIfInBounds (i * sz + x.2) x.1) cs) l) = _
      rw [if_neg hg, hst, h5]
    · rw [h6, storeL_list _ _ _ (by simp [hv]; omega)]
      have hlen : (cs.toList.take (i * sz) ++ v.cells.toList).length = (i + 1) * sz := by simp [hv, Nat.add_mul]; omega
      rw [← List.append_assoc, List.take_left' hlen]
      simp [flat]

def ones : List Value → Prop
  | [] => True
  | v :: r => v.cells = #[v] ∧ ones r
theorem ones_flat : ∀ {vs : List Value}, ones vs → flat vs = vs ∧ ∀ v ∈ vs, v.cells.size = 1
  | [], _ => ⟨rfl, by simp⟩
  | v :: r, ⟨h1, h2⟩ => by
    obtain ⟨h3, h4⟩ := ones_flat h2
    refine ⟨?_, fun u hu => ?_⟩
    · have : flat (v :: r) = v.cells.toList ++ flat r := by simp [flat]
      rw [this, h3, h1]; rfl
    · rcases List.mem_cons.1 hu with rfl | hu
      · rw [h1]; rfl
      · exact h4 u hu

theorem evParts_map2 {F : SFrame} : ∀ {ps : List (Nat × Operand)} {vs : List Value}, evArgs F (ps.map (·.2)) = some vs → ∃ l, evParts F ps = some l ∧ l.map (·.1) = ps.map (·.1) ∧ l.map (·.2) = vs
  | [], vs, h => by simp only [List.map_nil, evArgs, Option.some.injEq] at h; subst h; exact ⟨[], rfl, rfl, rfl⟩
  | (i, x) :: r, vs, h => by
    simp only [List.map_cons, evArgs] at h
    split at h
    · rename_i v vs' h1 h2
      simp only [Option.some.injEq] at h
      subst h
      obtain ⟨l, h3, h4, h5⟩ := evParts_map2 h2
      exact ⟨(i, v) :: l, by simp only [evParts, h1, h3], by simp [h4], by simp [h5]⟩
    · cases h

section
variable {c : Cx} {Q : Exit → Act → World → Prop} {m : Mode} {F : SFrame} {H : SHeap} {r : List SOp} {g : Option (Option Tmp × Bool)} {ns : Bool} {d : Tmp} {ty t t' : TypeId} {x y : Operand}

theorem r_sub1 {i : Nat} (hd : dstOk c.n (some d) = true) (hg : guardF F g = some true) (hx : ev F x = some (.int .i64 i)) (hy : ev F y = some (.int .i64 1)) (hb : 1 ≤ i ∧ i < 9223372036854775808)
    (h : JO c Q m r ((d, .int .i64 ((i - 1 : Nat) : Int)) :: F) H) : JO c Q m (⟨some d, .binOp .sub t x y t', ty, g, .mov, ns⟩ :: r) F H := r_subN (j := 1) hd hg hx hy hb h
theorem r_sub2 {i : Nat} (hd : dstOk c.n (some d) = true) (hg : guardF F g = some true) (hx : ev F x = some (.int .i64 i)) (hy : ev F y = some (.int .i64 2)) (hb : 2 ≤ i ∧ i < 9223372036854775808)
    (h : JO c Q m r ((d, .int .i64 ((i - 2 : Nat) : Int)) :: F) H) : JO c Q m (⟨some d, .binOp .sub t x y t', ty, g, .mov, ns⟩ :: r) F H := r_subN (j := 2) hd hg hx hy hb h
theorem r_shr1 {k : IntKind} {i : Nat} (hd : dstOk c.n (some d) = true) (hg : guardF F g = some true) (hx : ev F x = some (.int .i64 i)) (hy : ev F y = some (.int k 1))
    (h : JO c Q m r ((d, .int .i64 ((i / 2 : Nat) : Int)) :: F) H) : JO c Q m (⟨some d, .binOp .shr t x y t', ty, g, .mov, ns⟩ :: r) F H := r_shrN (j := 1) hd hg hx hy (by omega) h

/-- '[]T{a, b, ..}'. -/
theorem r_buildG {e : TypeId} {sz bytes n : Nat} {zc : Array Value} {parts : Array (Nat × Operand)} {vs cl : List Value} [TSl c.P t e] [TE c.P e sz bytes zc] (hd : dstOk c.n (some d) = true) (hg : guardF F g = some true) (hl : m.live = true)
    (hp : evArgs F (parts.toList.map (·.2)) = some vs) (hi : parts.toList.map (·.1) = List.range n) (hs : ∀ v ∈ vs, v.cells.size = sz) (hf : flat vs = cl) (hn : n * sz ≤ 1000) (hn0 : n * sz ≠ 0)
    (h : ∀ b, JO c Q m r ((d, (.slice (some ⟨b, 0, none⟩) n n)) :: F) ((b, .cells ⟨cl⟩ e) :: H)) : JO c Q m (⟨some d, .buildSlice t n parts, ty, g, .alloc, ns⟩ :: r) F H := by
  obtain ⟨l, h1, h2, h3⟩ := evParts_map2 hp
  have hln : l.length = n := by
    have := congrArg List.length h2
    rw [hi] at this
    simpa using this
  obtain ⟨cs', h4, h5⟩ := fill_go sz l vs 0 (zerosOf zc (n * sz)) h3 (by rw [h2, hi, hln, List.range_eq_range']) hs (by simp [zerosOf, hln])
  have h6 : cs' = ⟨cl⟩ := by apply Array.ext'; rw [h5, ← hf]; simp
  subst h6
  exact r_buildSlice hd hg hl h1 (by omega) hn0 h4 h

theorem r_build1 {e : TypeId} {bytes n : Nat} {zc : Array Value} {parts : Array (Nat × Operand)} {vs : List Value} [TSl c.P t e] [TE c.P e 1 bytes zc] (hd : dstOk c.n (some d) = true) (hg : guardF F g = some true) (hl : m.live = true)
    (hp : evArgs F (parts.toList.map (·.2)) = some vs) (hi : parts.toList.map (·.1) = List.range n) (ho : ones vs) (hn : n * 1 ≤ 1000) (hn0 : n * 1 ≠ 0)
    (h : ∀ b, JO c Q m r ((d, (.slice (some ⟨b, 0, none⟩) n n)) :: F) ((b, .cells ⟨vs⟩ e) :: H)) : JO c Q m (⟨some d, .buildSlice t n parts, ty, g, .alloc, ns⟩ :: r) F H :=
  r_buildG hd hg hl hp hi (ones_flat ho).2 (ones_flat ho).1 hn hn0 h

theorem r_eqNil {A : Option Addr} {len cap : Nat} {e : TypeId} [TSl c.P t e] (hd : dstOk c.n (some d) = true) (hg : guardF F g = some true) (hx : ev F x = some (.slice A len cap)) (hy : ev F y = some (.slice none 0 0)) (h : JO c Q m r ((d, (.bool A.isNone)) :: F) H) :
    JO c Q m (⟨some d, .binOp .eql t x y t', ty, g, .mov, ns⟩ :: r) F H :=
  r_mov hd hg (fun a w fr => by
    simp only [execOp, fr.ev hx, fr.ev hy, binOp]
    have hs : eqGuard .eql t x y (.slice A len cap) (.slice none 0 0) = pure () := rfl
    simp only [hs, Sem.run_bind, Sem.run_pure, Result.andThen_ok, run_equal_slice_nil w t e A len cap (TSl.und (P := c.P) (t := t))]) h

end

theorem own_lit (b n : Nat) (xs : List Nat) (vs : List Value) (hv : vs = xs.map nv) (hn : xs.length = n) (h : n ≤ 1000) : OwnN [(b, .cells ⟨vs⟩ 3)] (.slice (some ⟨b, 0, none⟩) n n) n xs := by
  subst hv
  have := OwnRow.mk' (e := 3) (sz := 1) (n := n) (b := b) (cs := ⟨xs.map nv⟩) (by simp [hn]) (by simp only [maxLen]; omega)
  exact this

end Go.Proofs.YtdehklhdjbkneaaDoor
