/- The arguments of the laws of field: shapes. -/
import Derived.Test.YtdoogoglfbohaaaFldY0
import Derived.Test.YtdoogoglfbohaaaRows
import Derived.WalkKit
import Derived.ProofKit
import Derived.OpenShut
import Derived.ShutString
import Derived.ChangeOld
import Derived.Below
import Derived.Lib.SmallJoins
namespace Go.Proofs.Ytdoogoglfbohaaa
open Go Go.RowKit Go.ChangeShapes Go.WideShapes Go.ChangeAt
set_option linter.unusedSimpArgs false
set_option linter.unusedVariables false
set_option linter.unusedSectionVars false

theorem own : ownKnob Try.prog.godebug = none := by kernel_rfl
theorem laidOut : laidOutB Try.prog = true := by kernel_rfl
theorem cellsS : Try.prog.cellsOf 24 = 4 := by kernel_rfl

theorem u8_nat {n : Int} (h : (Lit.int .u8 n).wf = true) : ∃ m : Nat, n = m ∧ m < 256 := by
  have h1 : 0 ≤ n ∧ n < 256 := by
    have hmin : IntKind.u8.min = 0 := by decide
    have hmax : IntKind.u8.max = 255 := by decide
    simp only [Lit.wf, Bool.and_eq_true, decide_eq_true_eq, hmin, hmax] at h
    omega
  exact ⟨n.toNat, by omega, by omega⟩

theorem WI.of_row {w : World} {a : Addr} {len cap : Nat} {zs : List Int} (hl : len ≤ cap) (hz : zs.length = cap) (hc : ∀ i, i < zs.length → w.cell? (a.add i) = some (.int .i64 (zs.getD i 0))) : WI w (.slice (some a) len cap) len (zs.take len) := by
  refine ⟨by simp [hz]; omega, some a, cap, rfl, hl, fun h0 => ?_⟩
  obtain ⟨b, o, sp⟩ := a
  have hsp : sp = none := by
    have := hc 0 (by omega)
    cases sp with
    | none => rfl
    | some s =>
      simp only [Addr.add, if_true, World.cell?] at this
      split at this <;> simp at this
  subst hsp
  refine ⟨⟨b, o, rfl⟩, fun j u hu => ?_⟩
  simp only [vAt]
  rw [List.getElem?_map, List.getElem?_take] at hu
  split at hu
  · rename_i hj
    have hjz : j < zs.length := by omega
    rw [gD_lt (d := 0) hjz] at hu
    cases hu
    rw [← add_none]
    exact hc j hjz
  · cases hu

theorem open_shape {H : Type} {enc : TypeId × Value → H} {w : World} {r : Reach} {b0 : Nat} {held : Bool} {v : Value} {d : DataW H} {ps : List MemPlace} (hv : Value.okWide Try.prog w r b0 24 v)
    (h : DataW.Trod enc Try.prog w 0 (fun _ => true) held 24 v d ps) : ∃ P R C L, IsS w v P R C L := by
  obtain ⟨v0, v1, v2, v3, y0, y1, y2, y3, n, rfl, _, _, h0, h1, h2, h3⟩ := Joins.open_agg4 Try.underlying24 (by kernel_rfl) cellsS hv h
  obtain ⟨n0, e0, _, w0⟩ := DataW.trod_int Try.underlying5 h0
  obtain ⟨n1, e1, _, w1⟩ := DataW.trod_int Try.underlying5 h1
  obtain ⟨n2, e2, _, w2⟩ := DataW.trod_int Try.underlying5 h2
  simp only [List.cons.injEq, and_true] at e0 e1 e2
  subst e0 e1 e2
  obtain ⟨m0, rfl, l0⟩ := u8_nat w0
  obtain ⟨m1, rfl, l1⟩ := u8_nat w1
  obtain ⟨m2, rfl, l2⟩ := u8_nat w2
  rcases open_ints Try.underlying22 Try.underlying3 (by kernel_rfl) h3 with ⟨hcs, _⟩ | ⟨x, l, c, zs, hcs, _, hl, hm, hz, _, hcell, hwz⟩
  · simp only [List.cons.injEq, and_true] at hcs
    subst hcs
    exact ⟨m0, m1, m2, [], l0, l1, l2, _, rfl, ⟨rfl, none, 0, rfl, Nat.le_refl _, fun h => absurd h (Nat.lt_irrefl _)⟩⟩
  · simp only [List.cons.injEq, and_true] at hcs
    subst hcs
    have hzl : zs.length = c := by simpa using hz
    have hW := WI.of_row hl hzl hcell
    have hlen : (zs.take l).length = l := by simp [hzl]; omega
    exact ⟨m0, m1, m2, zs.take l, l0, l1, l2, _, rfl, by rw [hlen]; exact hW⟩

end Go.Proofs.Ytdoogoglfbohaaa
