/- The arguments of the laws of wide: numbers. -/
import Derived.Test.YtdehklhdjbkneaaDoorWiD
import Derived.Test.YtdehklhdjbkneaaDoorRows
import Derived.WalkKit
import Derived.ProofKit
import Derived.OpenShut
import Derived.ShutString
import Derived.ChangeOld
import Derived.Below
import Derived.Lib.SmallJoins
import Derived.SizedLaws
namespace Go.Proofs.YtdehklhdjbkneaaDoor
open Go Go.RowKit Go.ChangeShapes Go.WideShapes Go.ChangeAt
set_option linter.unusedSimpArgs false
set_option linter.unusedVariables false
set_option linter.unusedSectionVars false

theorem own : ownKnob Tryd.prog.godebug = none := by kernel_rfl
theorem laidOut : laidOutB Tryd.prog = true := by kernel_rfl
theorem cellsNum : Tryd.prog.cellsOf 24 = 3 := by kernel_rfl

/-- An argument of the laws. -/
def IsNum (w : World) (v : Value) : Prop := ∃ (neg : Bool) (vb : Value) (z : Int) (n : Nat) (xs : List Nat), v = .agg #[.bool neg, vb, iv z] ∧ WY w vb n xs ∧ (∀ x ∈ xs, x < 256) ∧ n ≤ 140737488351232

theorem u8s_nat : ∀ {zs : List Int}, (∀ n ∈ zs, (Lit.int .u8 n).wf = true) → ∃ xs : List Nat, zs = xs.map (fun n : Nat => (n : Int)) ∧ ∀ x ∈ xs, x < 256
  | [], _ => ⟨[], rfl, fun _ h => nomatch h⟩
  | z :: zs, h => by
    obtain ⟨xs, rfl, hx⟩ := u8s_nat (zs := zs) fun n hn => h n (List.mem_cons_of_mem _ hn)
    have h1 : 0 ≤ z ∧ z < 256 := by
      have hmin : IntKind.u8.min = 0 := by decide
      have hmax : IntKind.u8.max = 255 := by decide
      have := h z (List.mem_cons_self ..)
      simp only [Lit.wf, Bool.and_eq_true, decide_eq_true_eq, hmin, hmax] at this
      omega
    refine ⟨z.toNat :: xs, ?_, fun x hxx => ?_⟩
    · rw [List.map_cons, Int.toNat_of_nonneg h1.1]
    · rcases List.mem_cons.1 hxx with rfl | h2
      · omega
      · exact hx x h2

theorem WY.of_row {w : World} {a : Addr} {len cap : Nat} {xs : List Nat} (hl : len ≤ cap) (hz : xs.length = cap) (hc : ∀ i, i < xs.length → w.cell? (a.add i) = some (.int .u8 ((xs.map fun n : Nat => (n : Int)).getD i 0))) : WY w (.slice (some a) len cap) len (xs.take len) := by
  refine ⟨by simp [hz]; omega, some a, cap, rfl, hl, fun h0 => ?_⟩
  obtain ⟨b, o, sp⟩ := a
  have hsp : sp = none := by
    have := hc 0 (by omega)
    cases sp with
    | none => rfl
    | some s =>
      simp only [Addr.add, if_true, World.cell?] at this
      split at this <;> simp at this
  subst hsp
  refine ⟨⟨b, o, rfl⟩, fun j u hu => ?_⟩
  simp only [vAt]
  rw [List.getElem?_map, List.getElem?_take] at hu
  split at hu
  · rename_i hj
    have hjz : j < xs.length := by omega
    rw [gD_lt (d := 0) hjz] at hu
    cases hu
    rw [← add_none]
    have := hc j hjz
    rw [List.getD_eq_getElem?_getD, List.getElem?_map, gD_lt (d := 0) hjz] at this
    exact this
  · cases hu

set_option maxRecDepth 100000 in
theorem open_num {H : Type} {enc : TypeId × Value → H} {w : World} {r : Reach} {b0 : Nat} {held : Bool} {v : Value} {d : DataW H} {ps : List MemPlace} (hv : Value.okWide Tryd.prog w r b0 24 v)
    (h : DataW.Trod enc Tryd.prog w 0 (fun _ => true) held 24 v d ps) (hwt : ∀ n ∈ d.weights Tryd.prog 24, n ≤ reachBytes) : IsNum w v := by
  obtain ⟨v0, v1, v2, y0, y1, y2, n, rfl, rfl, _, h0, h1, h2⟩ := Joins.open_agg3 Tryd.underlying24 (by kernel_rfl) cellsNum hv h
  obtain ⟨b, e0, _⟩ := DataW.trod_bool Tryd.underlying4 h0
  obtain ⟨z, e2, _, _⟩ := DataW.trod_int Tryd.underlying3 h2
  simp only [List.cons.injEq, and_true] at e0 e2
  subst e0 e2
  rcases open_ints Tryd.underlying22 Tryd.underlying5 (by kernel_rfl) h1 with ⟨hcs, _⟩ | ⟨x, l, c, zs, hcs, _, hl, hm, hz, hy, hcell, hwz⟩
  · simp only [List.cons.injEq, and_true] at hcs
    subst hcs
    exact ⟨b, _, z, 0, [], rfl, ⟨rfl, none, 0, rfl, Nat.le_refl _, fun h => absurd h (Nat.lt_irrefl _)⟩, fun _ h => absurd h (List.not_mem_nil), Nat.zero_le _⟩
  · simp only [List.cons.injEq, and_true] at hcs
    subst hcs
    obtain ⟨xs, rfl, hx⟩ := u8s_nat hwz
    have hzl : xs.length = c := by simpa using hz
    have hW := WY.of_row hl hzl fun i hi => hcell i (by simpa using hi)
    refine ⟨b, _, z, l, xs.take l, rfl, hW, fun x hx2 => hx x (List.mem_of_mem_take hx2), ?_⟩
    subst hy
    have h9 := hwt (((lits (H := H) .u8 (List.take l (xs.map fun n : Nat => (n : Int)))).length + (lits (H := H) .u8 (List.drop l (xs.map fun n : Nat => (n : Int)))).length) * Tryd.prog.bytesOf 5) (by
      simp only [DataW.weights, Tryd.underlying24]
      refine DataW.weights_mem_each (j := 1) rfl rfl _ ?_
      simp only [DataW.weights, Tryd.underlying22]
      exact List.mem_cons_self ..)
    have hb : Tryd.prog.bytesOf 5 = 1 := by kernel_rfl
    rw [hb] at h9
    simp [lits, reachBytes] at h9
    omega

/-- The number of an argument. -/
theorem c_Num (w : World) (v : Value) (hv : IsNum w v) : Calls Tryd.prog 13 #[v] w (Ret fun v w' => Kp [] w w' ∧ ∃ a, IsZ v a 40) := by
  obtain ⟨neg, vb, z, n, xs, rfl, hW, hx, hn⟩ := hv
  exact c_NumWide w neg vb z n xs hW hx hn
theorem IsNum.mono {w w' : World} {v : Value} (h : IsNum w v) (hk : Kp [] w w') : IsNum w' v := by
  obtain ⟨neg, vb, z, n, xs, rfl, hW, hx, hn⟩ := h
  exact ⟨neg, vb, z, n, xs, rfl, hW.mono hk, hx, hn⟩
theorem IsNum.form {w : World} {v : Value} (h : IsNum w v) : ∃ a b c, v = .agg #[a, b, c] := by
  obtain ⟨neg, vb, z, n, xs, rfl, _⟩ := h
  exact ⟨_, _, _, rfl⟩
theorem IsZ.neg {v : Value} {a : Int} {k : Nat} (h : IsZ v a k) : IsZ (Wv (-a)) (-a) k := IsZ.can (by rw [Int.natAbs_neg]; exact h.lt)
theorem IsZ.canon {v : Value} {a : Int} {k : Nat} (h : IsZ v a k) : IsZ (Wv a) a k := IsZ.can h.lt
theorem IsZ.sum {v u : Value} {a b : Int} {k : Nat} (h : IsZ v a k) (h' : IsZ u b k) : IsZ (Wv (a + b)) (a + b) (k + 1) := IsZ.add h.lt h'.lt
theorem IsZ.sub {v u : Value} {a b : Int} {k : Nat} (h : IsZ v a k) (h' : IsZ u b k) : IsZ (Wv (a - b)) (a - b) (k + 1) := by
  rw [Int.sub_eq_add_neg]
  exact IsZ.add h.lt (by rw [Int.natAbs_neg]; exact h'.lt)
theorem IsZ.mul {v u : Value} {a b : Int} {k j : Nat} (h : IsZ v a k) (h' : IsZ u b j) : IsZ (Wv (a * b)) (a * b) (k + j) := IsZ.can (by
  rw [Int.natAbs_mul, Nat.pow_add]
  exact Nat.mul_lt_mul'' h.lt h'.lt)
theorem Wv_zero : Wv 0 = wv false [] := by
  show wv false (magU 0) = _
  rfl

end Go.Proofs.YtdehklhdjbkneaaDoor
