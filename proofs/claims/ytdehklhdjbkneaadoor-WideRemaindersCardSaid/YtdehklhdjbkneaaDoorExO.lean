/- The rules of the judgement, continued: stores ahead of loads that may come later. -/
import Derived.Test.YtdehklhdjbkneaaDoorExZ
namespace Go.Proofs.YtdehklhdjbkneaaDoor
open Go Go.RowKit
set_option linter.unusedSimpArgs false
set_option linter.unusedVariables false
set_option linter.unusedSectionVars false

section
variable {c : Cx} {Q : Exit → Act → World → Prop} {m : Mode} {F : SFrame} {H Hs : SHeap} {r : List SOp} {g : Option (Option Tmp × Bool)} {ns : Bool} {d : Tmp} {ty t t' : TypeId} {x y : Operand}

theorem storeL_full {vs cs : Array Value} (h : vs.size = cs.size) : storeL cs 0 vs.toList = vs := by
  have key : ∀ (l : List Value) (cs : Array Value) (o : Nat), o + l.length = cs.size → (storeL cs o l).toList = cs.toList.take o ++ l := by
    intro l
    induction l with
    | nil =>
      intro cs o h
      simp only [List.length_nil, Nat.add_zero] at h
      rw [storeL, List.append_nil, List.take_of_length_le (by simp [h])]
    | cons v l ih =>
      intro cs o h
      simp only [List.length_cons] at h
      rw [storeL, ih _ _ (by rw [Array.size_setIfInBounds]; omega), Array.toList_setIfInBounds]
      have hlt : o < (cs.toList.set o v).length := by simp; omega
      rw [List.take_succ_eq_append_getElem hlt, List.take_set_of_le (Nat.le_refl _)]
      simp
  have := key vs.toList cs 0 (by simp; omega)
  apply Array.ext'
  simpa using this

/-- A struct stored over a whole block, while loads may come later: what they read is a part of the heap behind it. -/
theorem r_storeKN {b n : Nat} (k : Nat) {cs vs : Array Value} {T : TypeId} [TN c.P t n] (hg : guardF F g = some true) (hx : ev F x = some (.pointer (some ⟨b, 0, none⟩))) (hy : ev F y = some (.agg vs))
    (hb : H[k]? = some (b, .cells cs T (0, 0))) (hn : vs.size = n) (hn' : cs.size = n) (hv : (vs.toList.all (·.oneCell')) = true) (hHs : HSub Hs (H.set k (b, .cells vs T (0, 0)))) (h : JO c Q (.draw Hs true) r F (H.set k (b, .cells vs T (0, 0)))) :
    JO c Q (.draw Hs true) (⟨none, .store t x y, ty, g, .seq, ns⟩ :: r) F H := by
  refine ⟨⟨rfl, .inr ⟨hg, fun a w st _ => ?_⟩⟩⟩
  have hm' : (b, Obj.cells cs T (0, 0)) ∈ H := List.mem_of_getElem? hb
  obtain ⟨w', h1, h2, h3, h4, h5, h6, h7⟩ := run_storeAt (P := c.P) (t := t) (n := n) TN.size (o := 0) (v := .agg vs) (w := w) (by show vs.size = n; exact hn) (by show ∀ u ∈ vs.toList, _; exact List.all_eq_true.1 hv) (st.hs.blk _ hm') (by omega)
  have h2 : w'.heap[b]? = some (.cells (storeL cs 0 vs.toList) T (0, 0)) := h2
  rw [storeL_full (by omega)] at h2
  obtain ⟨st', hstep⟩ := setBlk st hb h2 h3 h4 h5 h6 h7
  unfold Oper.wp SOp.oper
  simp only [execOp, st.fr.ev hx, st.fr.ev hy, Sem.run_bind, h1, Result.andThen_ok, Sem.run_pure]
  exact ⟨hstep, F, _, .draw Hs true, st', fun j hj => .inl (keys_set hb j hj), ⟨rfl, fun _ => ⟨rfl, hHs.hsat st'.hs⟩, fun _ => rfl, .inl rfl⟩, h.h⟩

/-- A load of a struct, as a step of its own. -/
theorem r_ldNS {b n : Nat} (k : Nat) {cs : Array Value} {T : TypeId} {fz : Nat × Nat} [TN c.P t n] (hm : m.mayCall ns r) (hd : dstOk c.n (some d) = true) (hg : guardF F g = some true) (hx : ev F x = some (.pointer (some ⟨b, 0, none⟩)))
    (hb : H[k]? = some (b, .cells cs T fz)) (hn : cs.size = n) (h : JO c Q m r ((d, (.agg cs)) :: F) H) : JO c Q m (⟨some d, .load t x, ty, g, .seq, ns⟩ :: r) F H :=
  r_seqR (v := .agg cs) hm hd hg (fun a w fr hs => by
    have := run_loadN (P := c.P) (t := t) (n := n) (w := w) (b := b) (o := 0) (vs := cs) hn (fun j hj => by
      have hj' : j < cs.size := by omega
      rw [Nat.zero_add, Array.getElem?_eq_getElem hj']
      exact src_cell hs hb (Array.getElem?_eq_getElem hj'))
    simp only [execOp, fr.ev hx, Sem.run_bind, this, Result.andThen_ok, Sem.run_pure]) h
end

/-- A region in which i and j may come up in either order, of whose heap the part Hs stays while it loads. -/
theorem JC.forkS {c : Cx} {Q : Exit → Act → World → Prop} {F : SFrame} {H : SHeap} {id : Nat} {ops : Array Oper} (Hs : SHeap) (hHs : HSub Hs H) (i j : Nat) (kd : Nat → Op → Kind) (t1 t2 : Nat) (o1 o2 : List Nat) (hij : i ≠ j) (hm : c.P.follows .mixedOrders = true)
    (hB1 : canonB c.P kd (edge ops i j) o1 t1 = true) (hB2 : canonB c.P kd (edge ops j i) o2 t2 = true)
    (h1 : JO c Q (.draw Hs true) (sopsAt kd ops t1 o1) F H) (h2 : JO c Q (.draw Hs true) (sopsAt kd ops t2 o2) F H) : JC c Q (.raw (.region id ops true)) F H := ⟨fun a w st => by
  show (Code.region id ops true).wp c.P Q a w
  refine wp_mono ?_ (fun e a w h => Only.up e a w h)
  have a1 := any_of_canon (Q := Q) hB1 st (hHs.hsat st.hs) (by rw [sopsAt_edge]; exact h1.h)
  have a2 := any_of_canon (Q := Q) hB2 st (hHs.hsat st.hs) (by rw [sopsAt_edge]; exact h2.h)
  rw [edge_size] at a1 a2
  refine wp_region_draw fun t => ?_
  simp only [Region.schedule, hm, Bool.true_or, if_true]
  rcases ordr_fork hij _ _ _ (ordr_go (ops := ops) ops.size t (Array.replicate ops.size false)) with h | h
  · obtain ⟨t', ht⟩ := go_ordr _ _ _ h
    have := wpAny_sound ops.size t' _ a _ a1
    rw [ht] at this
    exact wpOps_edge _ _ _ this
  · obtain ⟨t', ht⟩ := go_ordr _ _ _ h
    have := wpAny_sound ops.size t' _ a _ a2
    rw [ht] at this
    exact wpOps_edge _ _ _ this⟩

end Go.Proofs.YtdehklhdjbkneaaDoor
