/- Pairs of ints as arguments. -/
import Derived.Test.YtdoogoglfbohaaaFldP
namespace Go.Proofs.Ytdoogoglfbohaaa
open Go Go.RowKit Go.ChangeShapes Go.WideShapes Go.ChangeAt
set_option linter.unusedSimpArgs false
set_option linter.unusedVariables false
set_option linter.unusedSectionVars false

theorem cells2 : Try.prog.cellsOf 47 = 2 := by kernel_rfl
theorem cells1 : Try.prog.cellsOf 3 = 1 := by kernel_rfl

theorem okWide_array {P : Program} {w : World} {r : Reach} {base : Nat} {t : TypeId} {v : Value} {n : Nat} {e : TypeId} (ht : P.underlying t = some (.array n e)) (h : Value.okWide P w r base t v) : ∃ cs, v = .agg cs ∧ cs.size = P.cellsOf t := by
  unfold Value.okWide at h
  rw [ht] at h
  cases v <;> simp at h
  exact ⟨_, rfl, h.1⟩

theorem open_pair {H : Type} {enc : TypeId × Value → H} {w : World} {r : Reach} {b0 : Nat} {held : Bool} {v : Value} {d : DataW H} {ps : List MemPlace} (hv : Value.okWide Try.prog w r b0 47 v)
    (h : DataW.Trod enc Try.prog w 0 (fun _ => true) held 47 v d ps) : ∃ q0 q1 : Int, v = .agg #[iv q0, iv q1] := by
  obtain ⟨cs, rfl, hsz⟩ := okWide_array Try.underlying47 hv
  rw [cells2] at hsz
  obtain ⟨l⟩ := cs
  obtain ⟨c0, c1, rfl⟩ : ∃ c0 c1, l = [c0, c1] := by
    match l, hsz with
    | [a, b], _ => exact ⟨a, b, rfl⟩
  obtain ⟨fuel, hf⟩ := h
  obtain ⟨xs, m, _, _, _, hx, hall⟩ := DataW.trod_array Try.underlying47 hf
  have a0 := hall 0 (by omega)
  have a1 := hall 1 (by omega)
  rw [cells1] at a0 a1
  rw [List.getElem?_eq_getElem (by omega)] at a0 a1
  obtain ⟨n0, e0, _, _⟩ := DataW.trod_int Try.underlying3 (show DataW.trod enc Try.prog w 0 (fun _ => true) held m 3 [c0] = some _ from a0)
  obtain ⟨n1, e1, _, _⟩ := DataW.trod_int Try.underlying3 (show DataW.trod enc Try.prog w 0 (fun _ => true) held m 3 [c1] = some _ from a1)
  simp only [List.cons.injEq, and_true] at e0 e1
  subst e0 e1
  exact ⟨n0, n1, rfl⟩

end Go.Proofs.Ytdoogoglfbohaaa
