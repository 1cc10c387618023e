import Derived.Test.YtemdknkghacheaaDoorMj
namespace Go.Proofs.YtemdknkghacheaaDoor
open Go Go.RowKit
set_option linter.unusedSimpArgs false
set_option linter.unusedVariables false
set_option linter.unusedSectionVars false

section
variable {c : Cx} {Q : Exit → Act → World → Prop} {m : Mode} {F : SFrame} {H : SHeap} {r : List SOp} {g : Option (Option Tmp × Bool)} {ns : Bool} {d : Tmp} {ty t t' : TypeId} {x y : Operand} {N : SHeap} {n : Nat} {v : Value}
theorem r_appendTL {A B N2 Hs : SHeap} {v2 u : Value} {ss : List Value} [TSl c.P t 22] [TE c.P 22 1 24 #[.slice none 0 0]] (hO : OwnRow 22 1 N v n ss) (h2 : Rd c N2 1 v2 1 [u]) (hu : u.oneCell' = true) (hN2 : HSub N2 H) (hH : H = A ++ (N ++ B)) (hm : HSub Hs (A ++ B)) (hd : dstOk c.n (some d) = true) (hg : guardF F g = some true) (hx : ev F x = some v) (hy : ev F y = some v2)
    (hb : n + 1 ≤ 1000000000) (h : ∀ v' N', OwnRow 22 1 N' v' (n + 1) (ss ++ [u]) → JO c Q (.draw Hs true) r ((d, v') :: F) (A ++ (N' ++ B))) :
    JO c Q (.draw Hs true) (⟨some d, .call ⟨.builtin .append, #[x, y], #[t, t]⟩, ty, g, .seq, ns⟩ :: r) F H :=
  r_appendL (e := 22) (sz := 1) (bytes := 24) (zc := #[.slice none 0 0]) (n := n) (mm := 1) rfl hO h2 hN2 hH hm hd hg hx hy (fun w hw => by cases List.mem_singleton.1 hw; exact hu) (by simp only [maxLen]; omega) (by omega) h
end
theorem own_oneT (b : Nat) (u : Value) : OwnRow 22 1 [(b, .cells ⟨[u]⟩ 22)] (.slice (some ⟨b, 0, none⟩) 1 1) 1 [u] :=
  OwnRow.mk' (e := 22) (sz := 1) (n := 1) (b := b) (cs := ⟨[u]⟩) (by simp) (by simp only [maxLen]; omega)
theorem OwnRow.form' {e : TypeId} {sz n : Nat} {N : SHeap} {v : Value} {cs : List Value} (h : OwnRow e sz N v n cs) : ∃ A cap, v = .slice A n cap := by
  obtain ⟨_, ⟨rfl, rfl, rfl⟩ | ⟨b, cap, cur, rfl, _⟩⟩ := h
  · exact ⟨_, _, rfl⟩
  · exact ⟨_, _, rfl⟩

end Go.Proofs.YtemdknkghacheaaDoor

namespace Go.Proofs.YtemdknkghacheaaDoor
open Go Go.RowKit Go.ChangeShapes Go.WideShapes Go.ChangeAt
set_option linter.unusedSimpArgs false
set_option linter.unusedVariables false
set_option linter.unusedSectionVars false

theorem cells9 : Tryd.prog.cellsOf 51 = 9 := by kernel_rfl
theorem cells1n : Tryd.prog.cellsOf 3 = 1 := by kernel_rfl

theorem okWide_arrayN {P : Program} {w : World} {r : Reach} {base : Nat} {t : TypeId} {v : Value} {n : Nat} {e : TypeId} (ht : P.underlying t = some (.array n e)) (h : Value.okWide P w r base t v) : ∃ cs, v = .agg cs ∧ cs.size = P.cellsOf t := by
  unfold Value.okWide at h
  rw [ht] at h
  cases v <;> simp at h
  exact ⟨_, rfl, h.1⟩

set_option maxRecDepth 100000 in
theorem open_nine {H : Type} {enc : TypeId × Value → H} {w : World} {r : Reach} {b0 : Nat} {held : Bool} {v : Value} {d : DataW H} {ps : List MemPlace} (hv : Value.okWide Tryd.prog w r b0 51 v)
    (h : DataW.Trod enc Tryd.prog w 0 (fun _ => true) held 51 v d ps) : ∃ L : List Int, v = .agg ⟨L.map iv⟩ ∧ L.length = 9 ∧ ∀ i, I64 (L.getD i 0) := by
  obtain ⟨cs, rfl, hsz⟩ := okWide_arrayN Tryd.underlying51 hv
  rw [cells9] at hsz
  obtain ⟨l⟩ := cs
  obtain ⟨c0, c1, c2, c3, c4, c5, c6, c7, c8, rfl⟩ : ∃ c0 c1 c2 c3 c4 c5 c6 c7 c8, l = [c0, c1, c2, c3, c4, c5, c6, c7, c8] := by
    match l, hsz with
    | [x0, x1, x2, x3, x4, x5, x6, x7, x8], _ => exact ⟨x0, x1, x2, x3, x4, x5, x6, x7, x8, rfl⟩
  obtain ⟨fuel, hf⟩ := h
  obtain ⟨xs, m, _, _, _, hx, hall⟩ := DataW.trod_array Tryd.underlying51 hf
  have a0 := hall 0 (by omega)
  have a1 := hall 1 (by omega)
  have a2 := hall 2 (by omega)
  have a3 := hall 3 (by omega)
  have a4 := hall 4 (by omega)
  have a5 := hall 5 (by omega)
  have a6 := hall 6 (by omega)
  have a7 := hall 7 (by omega)
  have a8 := hall 8 (by omega)
  rw [cells1n] at a0 a1 a2 a3 a4 a5 a6 a7 a8
  rw [List.getElem?_eq_getElem (by omega)] at a0 a1 a2 a3 a4 a5 a6 a7 a8
  obtain ⟨n0, e0, _, w0⟩ := DataW.trod_int Tryd.underlying3 (show DataW.trod enc Tryd.prog w 0 (fun _ => true) held m 3 [c0] = some _ from a0)
  obtain ⟨n1, e1, _, w1⟩ := DataW.trod_int Tryd.underlying3 (show DataW.trod enc Tryd.prog w 0 (fun _ => true) held m 3 [c1] = some _ from a1)
  obtain ⟨n2, e2, _, w2⟩ := DataW.trod_int Tryd.underlying3 (show DataW.trod enc Tryd.prog w 0 (fun _ => true) held m 3 [c2] = some _ from a2)
  obtain ⟨n3, e3, _, w3⟩ := DataW.trod_int Tryd.underlying3 (show DataW.trod enc Tryd.prog w 0 (fun _ => true) held m 3 [c3] = some _ from a3)
  obtain ⟨n4, e4, _, w4⟩ := DataW.trod_int Tryd.underlying3 (show DataW.trod enc Tryd.prog w 0 (fun _ => true) held m 3 [c4] = some _ from a4)
  obtain ⟨n5, e5, _, w5⟩ := DataW.trod_int Tryd.underlying3 (show DataW.trod enc Tryd.prog w 0 (fun _ => true) held m 3 [c5] = some _ from a5)
  obtain ⟨n6, e6, _, w6⟩ := DataW.trod_int Tryd.underlying3 (show DataW.trod enc Tryd.prog w 0 (fun _ => true) held m 3 [c6] = some _ from a6)
  obtain ⟨n7, e7, _, w7⟩ := DataW.trod_int Tryd.underlying3 (show DataW.trod enc Tryd.prog w 0 (fun _ => true) held m 3 [c7] = some _ from a7)
  obtain ⟨n8, e8, _, w8⟩ := DataW.trod_int Tryd.underlying3 (show DataW.trod enc Tryd.prog w 0 (fun _ => true) held m 3 [c8] = some _ from a8)
  simp only [List.cons.injEq, and_true] at e0 e1 e2 e3 e4 e5 e6 e7 e8
  subst e0 e1 e2 e3 e4 e5 e6 e7 e8
  refine ⟨[n0, n1, n2, n3, n4, n5, n6, n7, n8], rfl, rfl, i64_getD fun n hn => ?_⟩
  simp only [List.mem_cons, List.not_mem_nil, or_false] at hn
  rcases hn with rfl | rfl | rfl | rfl | rfl | rfl | rfl | rfl | rfl
  · exact i64_wf w0
  · exact i64_wf w1
  · exact i64_wf w2
  · exact i64_wf w3
  · exact i64_wf w4
  · exact i64_wf w5
  · exact i64_wf w6
  · exact i64_wf w7
  · exact i64_wf w8

end Go.Proofs.YtemdknkghacheaaDoor

