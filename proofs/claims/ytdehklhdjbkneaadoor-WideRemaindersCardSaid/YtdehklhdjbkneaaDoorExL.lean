/- The rules of the judgement, continued: copies into owned rows. -/
import Derived.Test.YtdehklhdjbkneaaDoorExK
import Derived.Laws.CopyRow
namespace Go.Proofs.YtdehklhdjbkneaaDoor
open Go Go.RowKit
set_option linter.unusedSimpArgs false
set_option linter.unusedVariables false
set_option linter.unusedSectionVars false

/-- k numbers from place o on are those of ys. -/
def segSet (o k : Nat) (ys xs : List Nat) : List Nat := xs.take o ++ (ys.take k ++ xs.drop (o + k))

theorem segSet_zero (o : Nat) (ys xs : List Nat) : segSet o 0 ys xs = xs := by simp [segSet]
theorem segSet_len {o k : Nat} {ys xs : List Nat} (hk : k ≤ ys.length) (ho : o + k ≤ xs.length) : (segSet o k ys xs).length = xs.length := by simp [segSet]; omega
theorem segSet_getD {o k : Nat} {ys xs : List Nat} (hk : k ≤ ys.length) (ho : o + k ≤ xs.length) (i : Nat) : (segSet o k ys xs).getD i 0 = if o ≤ i ∧ i < o + k then ys.getD (i - o) 0 else xs.getD i 0 := by
  simp only [segSet, List.getD, List.getElem?_append, List.length_take, List.getElem?_take, List.getElem?_drop]
  have e1 : min o xs.length = o := by omega
  have e2 : min k ys.length = k := by omega
  rw [e1, e2]
  by_cases h1 : i < o
  · rw [if_pos h1, if_pos h1, if_neg (by omega)]
  · rw [if_neg h1]
    by_cases h2 : i - o < k
    · rw [if_pos h2, if_pos h2, if_pos (by omega)]
    · rw [if_neg h2, if_neg (by omega), show o + k + (i - o - k) = i by omega]

section
variable {c : Cx} {Q : Exit → Act → World → Prop} {m : Mode} {F : SFrame} {H : SHeap} {r : List SOp} {g : Option (Option Tmp × Bool)} {ns : Bool} {d : Tmp} {ty t t' : TypeId} {x y : Operand}

/-- 'copy(out[o:o+k], src)': out is owned (the blocks N); the source can be read. Loads may come behind it: they do not read N. -/
theorem r_copyNL {v vd vs : Value} {n k k' o : Nat} {xs ys zs : List Nat} {A B N N2 Nd Hs : SHeap} [TSl c.P t 3] [TE c.P 3 1 8 #[iv 0]]
    (hO : OwnN N v n xs) (hv : RdN c Nd vd k zs) (hat : ∀ j, j < k → vAt vd j = vAt v (o + j)) (ho : o + k ≤ n) (h2 : RdN c N2 vs k' ys) (hk : k ≤ k') (hN2 : HSub N2 H) (hH : H = A ++ (N ++ B)) (hHs : HSub Hs (A ++ B))
    (hd : dstOk c.n (some d) = true) (hg : guardF F g = some true) (hx : ev F x = some vd) (hy : ev F y = some vs)
    (h : ∀ u N', OwnN N' v n (segSet o k ys xs) → JO c Q (.draw Hs true) r ((d, u) :: F) (A ++ (N' ++ B))) :
    JO c Q (.draw Hs true) (⟨some d, .call ⟨.builtin .copy, #[x, y], #[t, t]⟩, ty, g, .seq, ns⟩ :: r) F H := by
  subst hH
  refine ⟨⟨hd, .inr ⟨hg, fun a w st hlive => ?_⟩⟩⟩
  obtain ⟨i, z, hi, hi1, _⟩ := TE.info (P := c.P) (e := 3) (sz := 1) (bytes := 8) (zc := #[iv 0])
  obtain ⟨_, D, capd, rfl, _, hvd⟩ := hv
  have hyl := h2.len
  obtain ⟨_, A2, cc, rfl, _, hrd⟩ := h2
  have hp : (A ++ (N ++ B)).Perm ((A ++ B) ++ N) := (perm_mid A N B).symm
  have hargs : (#[x, y] : Array Operand).map a.eval = #[.slice D k capd, .slice A2 k' cc] := by simp [st.fr.ev hx, st.fr.ev hy]
  obtain ⟨w', N', hrun, hN', hb', hkeys, ho', hs', e1, e2, e3⟩ : ∃ w' N', (Builtin.copy_ #[t, t] ty #[.slice D k capd, .slice A2 k' cc]).run c.P w = .ok (goInt k) w' ∧ OwnN N' v n (segSet o k ys xs) ∧ (∀ p ∈ N', w'.heap[p.1]? = some p.2) ∧ (∀ k ∈ keys N', k ∈ keys N ∨ w.heap.size ≤ k) ∧
      (∀ k, k < w.heap.size → k ∉ keys N → w'.heap[k]? = w.heap[k]?) ∧ w.heap.size ≤ w'.heap.size ∧ w'.os = w.os ∧ w'.tape = w.tape ∧ w'.output = w.output := by
    rcases Nat.eq_zero_or_pos k with h0 | h0
    · subst h0
      refine ⟨w, N, ?_, by rw [segSet_zero]; exact hO, fun p hp' => st.hs.blk p (List.mem_append.2 (.inr (List.mem_append.2 (.inl hp')))), fun k hk => .inl hk, fun _ _ _ => rfl, Nat.le_refl _, rfl, rfl, rfl⟩
      cases D <;> cases A2 <;> simp [Builtin.copy_, run_underlying (TSl.und (P := c.P) (t := t)), Builtin.lenOf, Builtin.firstCells, sizeOf, typeInfo, hi, loadCells, loadCellsFrom, storeCells]
    · have hxl := hO.len
      obtain ⟨b, cap, rest, rfl, rfl, h3, h4, h5⟩ := hO.named (by omega)
      have hm : (b, Obj.cells (rowC xs rest) 3 (0, 0)) ∈ A ++ ([(b, Obj.cells (rowC xs rest) 3 (0, 0))] ++ B) := by simp
      have hbw := st.hs.blk _ hm
      obtain ⟨⟨b', o', rfl⟩, _⟩ := hvd h0
      have h6 := hat 0 h0
      simp only [vAt, Nat.add_zero, Nat.zero_add, Addr.mk.injEq] at h6
      obtain ⟨rfl, rfl, _⟩ := h6
      obtain ⟨⟨b2, o2, rfl⟩, hcell⟩ := hrd (by omega)
      have hlt : (ys.take k).length = k := by simp; omega
      have hr := run_copy_row (P := c.P) w t t ty 3 b' o' k capd ⟨b2, o2, none⟩ k' cc (rowC xs rest) 3 ((ys.take k).map nv) (TSl.und (P := c.P) (t := t)) (by rw [hi]; simp [hi1]) hbw (by rw [List.length_map, hlt]; exact (Nat.min_eq_right hk).symm)
        (fun j u hu => by
          rw [add_none]
          refine hcell w ⟨st.kp, hN2.hsat st.hs⟩ j u ?_
          rw [List.map_take, List.getElem?_take] at hu
          split at hu
          · exact hu
          · cases hu) (by rw [List.length_map, hlt, rowC_size]; omega) (fun u hu => by obtain ⟨q, _, rfl⟩ := List.mem_map.1 hu; rfl)
      rw [List.length_map, hlt] at hr
      have hcs : ((rowC xs rest).toList.take o' ++ (ys.take k).map nv ++ (rowC xs rest).toList.drop (o' + k)).toArray = rowC (segSet o' k ys xs) rest := by
        apply Array.ext'
        show (xs.map nv ++ rest).take o' ++ (ys.take k).map nv ++ (xs.map nv ++ rest).drop (o' + k) = (segSet o' k ys xs).map nv ++ rest
        rw [List.take_append_of_le_length (by simp; omega), List.drop_append_of_le_length (by simp; omega)]
        simp [segSet, List.map_take, List.map_drop]
      rw [hcs] at hr
      refine ⟨w.setRow b' (rowC (segSet o' k ys xs) rest), [(b', .cells (rowC (segSet o' k ys xs) rest) 3 (0, 0))], hr, OwnN.ofNamed (by rw [segSet_len (by omega) (by omega)]; exact hxl) h3 h4 h5, fun q hq => ?_, fun q hq => .inl hq, fun q _ hq => setRow_other w b' q _ (fun e => hq (by subst e; simp [keys])), by simp [World.setRow], rfl, rfl, rfl⟩
      cases List.mem_singleton.1 hq
      exact setRow_heap w b' _ _ _ _ hbw
  have hexec : (execOp a.eval ⟨some d, .call ⟨.builtin .copy, #[x, y], #[t, t]⟩, ty, "", #[], none⟩).run c.P w = .ok (.value (goInt k)) w' := by
    show (do let d ← resolve a.eval ⟨.builtin .copy, #[x, y], #[t, t]⟩ ty; invoke d.target d.args).run c.P w = _
    simp only [resolve, Sem.run_bind, Sem.run_pure, Result.andThen_ok, invoke, builtin, hargs]
    simp [hrun]
  unfold Oper.wp SOp.oper
  rw [hexec]
  obtain ⟨st', hstep, hkk⟩ := turn_step st hp (OwnRow.nodup hN') hb' hkeys ho' hs' e1 e2 e3
  have hAB : Hsat (A ++ B) w' := ⟨by have := st'.hs.nd; rw [List.map_append, List.nodup_append] at this; exact this.1, fun p hp => st'.hs.blk p (List.mem_append.2 (.inl hp))⟩
  refine ⟨hstep, (d, goInt k) :: F, A ++ (N' ++ B), .draw Hs true, (st'.perm (perm_mid A N' B)).put (goInt k) hd, fun k hk => hkk k ?_, ⟨rfl, fun _ => ⟨rfl, hHs.hsat hAB⟩, fun _ => rfl, .inl rfl⟩, (h _ N' hN').h⟩
  obtain ⟨q, hq, rfl⟩ := List.mem_map.1 hk
  exact List.mem_map.2 ⟨q, (perm_mid A N' B).mem_iff.2 hq, rfl⟩

end
end Go.Proofs.YtdehklhdjbkneaaDoor
