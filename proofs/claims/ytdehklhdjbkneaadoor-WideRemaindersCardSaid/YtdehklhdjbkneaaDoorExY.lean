/- The rules of the judgement, continued: clear and copy over a part of a block of words; blocks of words read. -/
import Derived.Test.YtdehklhdjbkneaaDoorExX
import Derived.Test.YtdehklhdjbkneaaDoorExL
namespace Go.Proofs.YtdehklhdjbkneaaDoor
open Go Go.RowKit
set_option linter.unusedSimpArgs false
set_option linter.unusedVariables false
set_option linter.unusedSectionVars false

/-- A slice of a block of words, read. -/
theorem WU.ofBlk {w : World} {b o k cc : Nat} {us : List Nat} {rest : List Value} {T : TypeId} {fz : Nat × Nat} (h : w.heap[b]? = some (.cells (rowCU us rest) T fz)) (ho : o + k ≤ us.length) (hc : k ≤ cc) : WU w (.slice (some ⟨b, o, none⟩) k cc) k ((us.drop o).take k) := by
  refine ⟨by simp; omega, _, cc, rfl, hc, fun h0 => ⟨⟨b, o, rfl⟩, fun j u hu => ?_⟩⟩
  rw [vAt_lit]
  refine cell_of_blk h ?_
  rw [List.map_take, List.map_drop, List.getElem?_take] at hu
  split at hu
  · rw [List.getElem?_drop] at hu
    have e : (rowCU us rest)[o + j]? = (us.map uv ++ rest)[o + j]? := by simp [rowCU]
    rw [e]
    rw [List.getElem?_append_left (by simp; omega)]
    exact hu
  · cases hu

section
variable {c : Cx} {Q : Exit → Act → World → Prop} {m : Mode} {F : SFrame} {H : SHeap} {r : List SOp} {g : Option (Option Tmp × Bool)} {ns : Bool} {d : Tmp} {ty t t' : TypeId} {x y : Operand}

/-- An operation that turns the cells of one block. -/
theorem r_turn {A B : SHeap} {b : Nat} {cur new : Array Value} {T : TypeId} {op : Op} {dd : Option Tmp} {v : Value} (hH : H = A ++ ([(b, .cells cur T (0, 0))] ++ B)) (hm : m.mayStore ns r) (hd : dstOk c.n dd = true) (hg : guardF F g = some true)
    (hx : ∀ a w, St c F H a w → (execOp a.eval ⟨dd, op, ty, "", #[], none⟩).run c.P w = .ok (.value v) (w.setRow b new))
    (h : JO c Q m.spent r (putF F dd v) (A ++ ([(b, .cells new T (0, 0))] ++ B))) : JO c Q m (⟨dd, op, ty, g, .seq, ns⟩ :: r) F H := by
  subst hH
  refine ⟨⟨hd, .inr ⟨hg, fun a w st hs => ?_⟩⟩⟩
  unfold Oper.wp SOp.oper
  rw [hx a w st]
  have hp : (A ++ ([(b, Obj.cells cur T (0, 0))] ++ B)).Perm ((A ++ B) ++ [(b, Obj.cells cur T (0, 0))]) := (perm_mid A _ B).symm
  have hbw : w.heap[b]? = some (.cells cur T (0, 0)) := st.hs.blk (b, .cells cur T (0, 0)) (by simp)
  obtain ⟨st', hstep, hkk⟩ := turn_step (w' := w.setRow b new) (N' := [(b, .cells new T (0, 0))]) st hp (by simp) (fun q hq => by cases List.mem_singleton.1 hq; exact setRow_heap w b _ _ _ _ hbw) (fun k hk => .inl hk) (fun q _ hq => setRow_other w b q _ (fun e => hq (by subst e; simp [keys]))) (by simp [World.setRow]) rfl rfl rfl
  refine ⟨hstep, _, _, m.spent, (st'.perm (perm_mid A _ B)).put v hd, fun k hk' => hkk k ?_, Mode.after_spent hm, h.h⟩
  obtain ⟨q, hq, rfl⟩ := List.mem_map.1 hk'
  exact List.mem_map.2 ⟨q, (perm_mid A _ B).mem_iff.2 hq, rfl⟩

theorem rowCU_seg {us ys : List Nat} {rest : List Value} {o k : Nat} (ho : o + k ≤ us.length) : ((rowCU us rest).toList.take o ++ (ys.take k).map uv ++ (rowCU us rest).toList.drop (o + k)).toArray = rowCU (segSet o k ys us) rest := by
  apply Array.ext'
  show (us.map uv ++ rest).take o ++ (ys.take k).map uv ++ (us.map uv ++ rest).drop (o + k) = (segSet o k ys us).map uv ++ rest
  rw [List.take_append_of_le_length (by simp; omega), List.drop_append_of_le_length (by simp; omega)]
  simp [segSet, List.map_take, List.map_drop]

/-- 'clear(s)', s a part of a block of words. -/
theorem r_clearU {A B : SHeap} {b o n cc : Nat} {us : List Nat} {rest : List Value} {T : TypeId} [TSl c.P t 68] [TE c.P 68 1 8 #[(.int .u64 0)]] (hH : H = A ++ ([(b, .cells (rowCU us rest) T (0, 0))] ++ B)) (hm : m.mayStore ns r) (hg : guardF F g = some true) (hx : ev F x = some (.slice (some ⟨b, o, none⟩) n cc))
    (hn : 0 < n) (ho : o + n ≤ us.length) (h : JO c Q m.spent r F (A ++ ([(b, .cells (rowCU (segSet o n (List.replicate n 0) us) rest) T (0, 0))] ++ B))) :
    JO c Q m (⟨none, .call ⟨.builtin .clear, #[x], #[t]⟩, ty, g, .seq, ns⟩ :: r) F H := by
  refine r_turn (v := .tuple #[]) hH hm rfl hg (fun a w st => ?_) h
  obtain ⟨i, z, hi, hi1, hi2, hz, hzc⟩ := TE.info (P := c.P) (e := 68) (sz := 1) (bytes := 8) (zc := #[(.int .u64 0)])
  have hbw : w.heap[b]? = some (.cells (rowCU us rest) T (0, 0)) := st.hs.blk (b, _) (by rw [hH]; simp)
  have hargs : (#[x] : Array Operand).map a.eval = #[.slice (some ⟨b, o, none⟩) n cc] := by simp [st.fr.ev hx]
  have hst := run_storeCells_at c.P b o T ((List.replicate n 0).map uv) 0 (rowCU us rest) w hbw (by rw [rowCU_size]; simp; omega) (fun u hu => by obtain ⟨q, _, rfl⟩ := List.mem_map.1 hu; rfl)
  have e := rowCU_seg (ys := List.replicate n 0) (rest := rest) ho
  rw [List.take_of_length_le (l := List.replicate n 0) (i := n) (by simp)] at e
  rw [List.length_map, List.length_replicate, Nat.add_zero, e] at hst
  rw [List.map_replicate] at hst
  have hzl : (Builtin.zeroCells #[(.int .u64 0)] n).toList = List.replicate n (uv 0) := by
    simp only [Builtin.zeroCells]
    apply List.ext_getElem
    · simp
    · intro i h1 h2
      simp [Nat.mod_one]
  obtain ⟨k, rfl⟩ : ∃ k, n = k + 1 := ⟨n - 1, by omega⟩
  have ht := TSl.und (P := c.P) (t := t) (e := 68)
  have hzv : (zeroValue 68).run c.P w = .ok z w := by simp [zeroValue, typeInfo, hi, hz]
  have hrun : (Builtin.clear_ #[t] ty #[.slice (some ⟨b, o, none⟩) (k + 1) cc]).run c.P w = .ok (.tuple #[]) (w.setRow b (rowCU (segSet o (k + 1) (List.replicate (k + 1) 0) us) rest)) := by
    simp [Builtin.clear_, run_underlying ht, hzv, hzc, hzl, hst]
  show (do let d ← resolve a.eval ⟨.builtin .clear, #[x], #[t]⟩ ty; invoke d.target d.args).run c.P w = _
  simp only [resolve, Sem.run_bind, Sem.run_pure, Result.andThen_ok, invoke, builtin, hargs]
  simp [hrun]

/-- 'copy(s, src)', s a part of a block of words. -/
theorem r_copyU {A B N2 : SHeap} {b o n cc k : Nat} {us ys : List Nat} {rest : List Value} {T : TypeId} {vs : Value} [TSl c.P t 68] [TE c.P 68 1 8 #[(.int .u64 0)]] (hH : H = A ++ ([(b, .cells (rowCU us rest) T (0, 0))] ++ B)) (h2 : RdU c N2 vs k ys) (hN2 : HSub N2 H) (hm : m.mayStore ns r) (hd : dstOk c.n (some d) = true) (hg : guardF F g = some true)
    (hx : ev F x = some (.slice (some ⟨b, o, none⟩) n cc)) (hy : ev F y = some vs) (hk : k ≤ n) (ho : o + n ≤ us.length) (h : JO c Q m.spent r ((d, goInt k) :: F) (A ++ ([(b, .cells (rowCU (segSet o k ys us) rest) T (0, 0))] ++ B))) :
    JO c Q m (⟨some d, .call ⟨.builtin .copy, #[x, y], #[t, t]⟩, ty, g, .seq, ns⟩ :: r) F H := by
  refine r_turn (v := goInt k) hH hm hd hg (fun a w st => ?_) h
  obtain ⟨i, z, hi, hi1, _⟩ := TE.info (P := c.P) (e := 68) (sz := 1) (bytes := 8) (zc := #[(.int .u64 0)])
  have hyl := h2.len
  obtain ⟨_, A2, c2, rfl, _, hrd⟩ := h2
  have hbw : w.heap[b]? = some (.cells (rowCU us rest) T (0, 0)) := st.hs.blk (b, _) (by rw [hH]; simp)
  have hargs : (#[x, y] : Array Operand).map a.eval = #[.slice (some ⟨b, o, none⟩) n cc, .slice A2 k c2] := by simp [st.fr.ev hx, st.fr.ev hy]
  have hrun : (Builtin.copy_ #[t, t] ty #[.slice (some ⟨b, o, none⟩) n cc, .slice A2 k c2]).run c.P w = .ok (goInt k) (w.setRow b (rowCU (segSet o k ys us) rest)) := by
    rcases Nat.eq_zero_or_pos k with h0 | h0
    · subst h0
      rw [segSet_zero, setRow_self w b _ _ _ hbw]
      cases A2 <;> simp [Builtin.copy_, run_underlying (TSl.und (P := c.P) (t := t)), Builtin.lenOf, Builtin.firstCells, sizeOf, typeInfo, hi, loadCells, loadCellsFrom, storeCells]
    · obtain ⟨⟨b2, o2, rfl⟩, hcell⟩ := hrd h0
      have hlt : (ys.take k).length = k := by simp; omega
      have hr := run_copy_row (P := c.P) w t t ty 68 b o n cc ⟨b2, o2, none⟩ k c2 (rowCU us rest) T ((ys.take k).map uv) (TSl.und (P := c.P) (t := t)) (by rw [hi]; simp [hi1]) hbw (by rw [List.length_map, hlt]; exact (Nat.min_eq_left hk).symm)
        (fun j u hu => by
          rw [add_none]
          refine hcell w ⟨st.kp, hN2.hsat st.hs⟩ j u ?_
          rw [List.map_take, List.getElem?_take] at hu
          split at hu
          · exact hu
          · cases hu) (by rw [List.length_map, hlt, rowCU_size]; omega) (fun u hu => by obtain ⟨q, _, rfl⟩ := List.mem_map.1 hu; rfl)
      rw [List.length_map, hlt, rowCU_seg (by omega)] at hr
      exact hr
  show (do let d ← resolve a.eval ⟨.builtin .copy, #[x, y], #[t, t]⟩ ty; invoke d.target d.args).run c.P w = _
  simp only [resolve, Sem.run_bind, Sem.run_pure, Result.andThen_ok, invoke, builtin, hargs]
  simp [hrun]
end

end Go.Proofs.YtdehklhdjbkneaaDoor
