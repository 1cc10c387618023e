/- Contracts for all matrices, right or not: what both, the program and the reference, give. -/
import Derived.Test.YtdoogoglfbohaaaFldX3
namespace Go.Proofs.Ytdoogoglfbohaaa
open Go Go.RowKit
set_option linter.unusedSimpArgs false
set_option linter.unusedVariables false
set_option linter.unusedSectionVars false

theorem Ret.mono {P : Program} {f : FuncId} {args : Array Value} {w : World} {R R' : Value → World → Prop} (h : Calls P f args w (Ret R)) (hR : ∀ v w', R v w' → R' v w') : Calls P f args w (Ret R') :=
  h.mono fun e w' he => by
    cases e with
    | returned v => exact hR v w' he
    | panicked _ => exact he
    | outgrown => exact he

def oF : Option NM → FM
  | some m => m.fm
  | none => zeroF
def lift1 {α : Type} (f : NM → Option α) (a : FM) : Option α := match toN a with
  | some m => f m
  | none => none
def lift2 (f : NM → NM → Option NM) (a b : FM) : Option NM := match toN a, toN b with
  | some m, some n => f m n
  | _, _ => none
theorem lift1_fm {α : Type} {f : NM → Option α} {m : NM} (hm : Rt m) : lift1 f m.fm = f m := by unfold lift1; rw [toN_fm hm]
theorem lift2_fm {f : NM → NM → Option NM} {m n : NM} (hm : Rt m) (hn : Rt n) : lift2 f m.fm n.fm = f m n := by unfold lift2; rw [toN_fm hm, toN_fm hn]
theorem lift1_n {α : Type} {f : NM → Option α} {a : FM} (h : ¬ RF a) : lift1 f a = none := by unfold lift1; rw [toN_nrf h]
theorem lift2_n1 {f : NM → NM → Option NM} {a b : FM} (h : ¬ RF a) : lift2 f a b = none := by unfold lift2; rw [toN_nrf h]
theorem lift2_n2 {f : NM → NM → Option NM} {a b : FM} (h : ¬ RF b) : lift2 f a b = none := by
  unfold lift2; rw [toN_nrf h]
  cases toN a <;> rfl

/-- A result that is a matrix, and whether there is one. -/
def GivesOF (o : Option NM) (w : World) (v : Value) (w' : World) : Prop := ∃ N u, v = .tuple #[u, .bool o.isSome] ∧ New N w w' ∧ OwnF N u (oF o)
theorem GivesOF.some {m : NM} {w w' : World} {v : Value} (h : GivesMB m w v w') : GivesOF (some m) w v w' := by
  obtain ⟨N, u, rfl, hN, hO⟩ := h
  exact ⟨N, u, rfl, hN, hO.int⟩
theorem GivesOF.none {w w' : World} {v : Value} (h : v = .tuple #[zeroV, .bool false]) : GivesOF none w v w' := ⟨[], zeroV, h, New.nil _ _, OwnF.zero⟩
theorem GivesO.of {o : Option NM} {w w' : World} {v : Value} (h : GivesO o w v w') : GivesOF o w v w' := by
  cases o with
  | some m => exact GivesOF.some h
  | none => exact GivesOF.none h
theorem GivesM.of {m : NM} {w w' : World} {v : Value} (h : GivesM m w v w') : GivesF m.fm w v w' := by
  obtain ⟨N, hN, hO⟩ := h
  exact ⟨N, hN, hO.int⟩
theorem GivesF.zero {w w' : World} {v : Value} (h : v = zeroV) : GivesF zeroF w v w' := ⟨[], New.nil _ _, by rw [h]; exact OwnF.zero⟩

def addO (m n : NM) : Option NM := if m.p = n.p ∧ m.r = n.r ∧ m.c = n.c then some (addM m n) else none
def mulO (m n : NM) : Option NM := if m.p = n.p ∧ m.c = n.r then some (mulM m n) else none
def joinO (m n : NM) : Option NM := if m.p = n.p ∧ m.r = n.r ∧ m.c + n.c ≤ 400 then some (joinM m n) else none
def solO (m n : NM) : Option NM := if m.p = n.p ∧ m.r = n.r then solM m n else none

theorem oneF_fm {m n : NM} : OneF m.fm n.fm → m.p = n.p := fun h => by
  have : (m.p : Int) = n.p := h.2.2
  omega
theorem fmR {m n : NM} (h : m.fm.R = n.fm.R) : m.r = n.r := by
  have : (m.r : Int) = n.r := h
  omega
theorem fmC {m n : NM} (h : m.fm.C = n.fm.C) : m.c = n.c := by
  have : (m.c : Int) = n.c := h
  omega
theorem fmCR {m n : NM} (h : m.fm.C = n.fm.R) : m.c = n.r := by
  have : (m.c : Int) = n.r := h
  omega
theorem fmCC {m n : NM} (h : m.fm.C + n.fm.C ≤ 400) : m.c + n.c ≤ 400 := by
  have : (m.c : Int) + n.c ≤ 400 := h
  omega

section
variable (w : World) (v u : Value) (a b : FM) (ha : IsF w v a) (hb : IsF w u b) (hl : a.E.length < 1000000000) (hl' : b.E.length < 1000000000)
include ha hb hl hl'

theorem c_AddG : Calls Try.prog 39 #[v, u] w (Ret fun v w' => Kp [] w w' ∧ GivesOF (lift2 addO a b) w v w') := by
  by_cases h : RF a ∧ RF b
  · obtain ⟨⟨m, hm, rfl⟩, ⟨n, hn, rfl⟩⟩ := h
    rw [lift2_fm hm hn]
    unfold addO
    split
    · rename_i h
      exact Ret.mono (c_Add w v u m n hm hn h.1 h.2.1 h.2.2 ha.nat hb.nat) fun v w' h => ⟨h.1, GivesOF.some h.2⟩
    · rename_i h
      exact Ret.mono (c_AddF w v u _ _ (fun q => h ⟨oneF_fm q.1, fmR q.2.1, fmC q.2.2⟩) ha hb hl hl') fun v w' h => ⟨h.1, GivesOF.none h.2⟩
  · have e : lift2 addO a b = none := by
      by_cases h1 : RF a
      · exact lift2_n2 fun h2 => h ⟨h1, h2⟩
      · exact lift2_n1 h1
    rw [e]
    exact Ret.mono (c_AddF w v u _ _ (fun q => h ⟨q.1.1, q.1.2.1⟩) ha hb hl hl') fun v w' h => ⟨h.1, GivesOF.none h.2⟩
theorem c_refAddG : Calls Try.prog 40 #[v, u] w (Ret fun v w' => Kp [] w w' ∧ GivesOF (lift2 addO a b) w v w') := by
  by_cases h : RF a ∧ RF b
  · obtain ⟨⟨m, hm, rfl⟩, ⟨n, hn, rfl⟩⟩ := h
    rw [lift2_fm hm hn]
    unfold addO
    split
    · rename_i h
      exact Ret.mono (c_refAdd w v u m n hm hn h.1 h.2.1 h.2.2 ha.nat hb.nat) fun v w' h => ⟨h.1, GivesOF.some h.2⟩
    · rename_i h
      exact Ret.mono (c_refAddF w v u _ _ (fun q => h ⟨oneF_fm q.1, fmR q.2.1, fmC q.2.2⟩) ha hb hl hl') fun v w' h => ⟨h.1, GivesOF.none h.2⟩
  · have e : lift2 addO a b = none := by
      by_cases h1 : RF a
      · exact lift2_n2 fun h2 => h ⟨h1, h2⟩
      · exact lift2_n1 h1
    rw [e]
    exact Ret.mono (c_refAddF w v u _ _ (fun q => h ⟨q.1.1, q.1.2.1⟩) ha hb hl hl') fun v w' h => ⟨h.1, GivesOF.none h.2⟩
theorem c_MulG : Calls Try.prog 19 #[v, u] w (Ret fun v w' => Kp [] w w' ∧ GivesOF (lift2 mulO a b) w v w') := by
  by_cases h : RF a ∧ RF b
  · obtain ⟨⟨m, hm, rfl⟩, ⟨n, hn, rfl⟩⟩ := h
    rw [lift2_fm hm hn]
    unfold mulO
    split
    · rename_i h
      exact Ret.mono (c_Mul w v u m n hm hn h.1 h.2 ha.nat hb.nat) fun v w' h => ⟨h.1, GivesOF.some h.2⟩
    · rename_i h
      exact Ret.mono (c_MulF w v u _ _ (fun q => h ⟨oneF_fm q.1, fmCR q.2⟩) ha hb hl hl') fun v w' h => ⟨h.1, GivesOF.none h.2⟩
  · have e : lift2 mulO a b = none := by
      by_cases h1 : RF a
      · exact lift2_n2 fun h2 => h ⟨h1, h2⟩
      · exact lift2_n1 h1
    rw [e]
    exact Ret.mono (c_MulF w v u _ _ (fun q => h ⟨q.1.1, q.1.2.1⟩) ha hb hl hl') fun v w' h => ⟨h.1, GivesOF.none h.2⟩
theorem c_refMulG : Calls Try.prog 43 #[v, u] w (Ret fun v w' => Kp [] w w' ∧ GivesOF (lift2 mulO a b) w v w') := by
  by_cases h : RF a ∧ RF b
  · obtain ⟨⟨m, hm, rfl⟩, ⟨n, hn, rfl⟩⟩ := h
    rw [lift2_fm hm hn]
    unfold mulO
    split
    · rename_i h
      exact Ret.mono (c_refMul w v u m n hm hn h.1 h.2 ha.nat hb.nat) fun v w' h => ⟨h.1, GivesOF.some h.2⟩
    · rename_i h
      exact Ret.mono (c_refMulF w v u _ _ (fun q => h ⟨oneF_fm q.1, fmCR q.2⟩) ha hb hl hl') fun v w' h => ⟨h.1, GivesOF.none h.2⟩
  · have e : lift2 mulO a b = none := by
      by_cases h1 : RF a
      · exact lift2_n2 fun h2 => h ⟨h1, h2⟩
      · exact lift2_n1 h1
    rw [e]
    exact Ret.mono (c_refMulF w v u _ _ (fun q => h ⟨q.1.1, q.1.2.1⟩) ha hb hl hl') fun v w' h => ⟨h.1, GivesOF.none h.2⟩
theorem c_JoinG : Calls Try.prog 23 #[v, u] w (Ret fun v w' => Kp [] w w' ∧ GivesOF (lift2 joinO a b) w v w') := by
  by_cases h : RF a ∧ RF b
  · obtain ⟨⟨m, hm, rfl⟩, ⟨n, hn, rfl⟩⟩ := h
    rw [lift2_fm hm hn]
    unfold joinO
    split
    · rename_i h
      exact Ret.mono (c_Join w v u m n hm hn h.1 h.2.1 h.2.2 ha.nat hb.nat) fun v w' h => ⟨h.1, GivesOF.some h.2⟩
    · rename_i h
      exact Ret.mono (c_JoinF w v u _ _ (fun q => h ⟨oneF_fm q.1, fmR q.2.1, fmCC q.2.2⟩) ha hb hl hl') fun v w' h => ⟨h.1, GivesOF.none h.2⟩
  · have e : lift2 joinO a b = none := by
      by_cases h1 : RF a
      · exact lift2_n2 fun h2 => h ⟨h1, h2⟩
      · exact lift2_n1 h1
    rw [e]
    exact Ret.mono (c_JoinF w v u _ _ (fun q => h ⟨q.1.1, q.1.2.1⟩) ha hb hl hl') fun v w' h => ⟨h.1, GivesOF.none h.2⟩
theorem c_refJoinG : Calls Try.prog 41 #[v, u] w (Ret fun v w' => Kp [] w w' ∧ GivesOF (lift2 joinO a b) w v w') := by
  by_cases h : RF a ∧ RF b
  · obtain ⟨⟨m, hm, rfl⟩, ⟨n, hn, rfl⟩⟩ := h
    rw [lift2_fm hm hn]
    unfold joinO
    split
    · rename_i h
      exact Ret.mono (c_refJoin w v u m n hm hn h.1 h.2.1 h.2.2 ha.nat hb.nat) fun v w' h => ⟨h.1, GivesOF.some h.2⟩
    · rename_i h
      exact Ret.mono (c_refJoinF w v u _ _ (fun q => h ⟨oneF_fm q.1, fmR q.2.1, fmCC q.2.2⟩) ha hb hl hl') fun v w' h => ⟨h.1, GivesOF.none h.2⟩
  · have e : lift2 joinO a b = none := by
      by_cases h1 : RF a
      · exact lift2_n2 fun h2 => h ⟨h1, h2⟩
      · exact lift2_n1 h1
    rw [e]
    exact Ret.mono (c_refJoinF w v u _ _ (fun q => h ⟨q.1.1, q.1.2.1⟩) ha hb hl hl') fun v w' h => ⟨h.1, GivesOF.none h.2⟩
theorem c_SolveG : Calls Try.prog 24 #[v, u] w (Ret fun v w' => Kp [] w w' ∧ GivesOF (lift2 solO a b) w v w') := by
  by_cases h : RF a ∧ RF b
  · obtain ⟨⟨m, hm, rfl⟩, ⟨n, hn, rfl⟩⟩ := h
    rw [lift2_fm hm hn]
    unfold solO
    split
    · rename_i h
      exact Ret.mono (c_Solve w v u m n hm hn h.1 h.2 ha.nat hb.nat) fun v w' h => ⟨h.1, GivesO.of h.2⟩
    · rename_i h
      exact Ret.mono (c_SolveF w v u _ _ (fun q => h ⟨oneF_fm q.1, fmR q.2⟩) ha hb hl hl') fun v w' h => ⟨h.1, GivesOF.none h.2⟩
  · have e : lift2 solO a b = none := by
      by_cases h1 : RF a
      · exact lift2_n2 fun h2 => h ⟨h1, h2⟩
      · exact lift2_n1 h1
    rw [e]
    exact Ret.mono (c_SolveF w v u _ _ (fun q => h ⟨q.1.1, q.1.2.1⟩) ha hb hl hl') fun v w' h => ⟨h.1, GivesOF.none h.2⟩
theorem c_refSolveG : Calls Try.prog 25 #[v, u] w (Ret fun v w' => Kp [] w w' ∧ GivesOF (lift2 solO a b) w v w') := by
  by_cases h : RF a ∧ RF b
  · obtain ⟨⟨m, hm, rfl⟩, ⟨n, hn, rfl⟩⟩ := h
    rw [lift2_fm hm hn]
    unfold solO
    split
    · rename_i h
      exact Ret.mono (c_refSolve w v u m n hm hn h.1 h.2 ha.nat hb.nat) fun v w' h => ⟨h.1, GivesO.of h.2⟩
    · rename_i h
      exact Ret.mono (c_refSolveF w v u _ _ (fun q => h ⟨oneF_fm q.1, fmR q.2⟩) ha hb hl hl') fun v w' h => ⟨h.1, GivesOF.none h.2⟩
  · have e : lift2 solO a b = none := by
      by_cases h1 : RF a
      · exact lift2_n2 fun h2 => h ⟨h1, h2⟩
      · exact lift2_n1 h1
    rw [e]
    exact Ret.mono (c_refSolveF w v u _ _ (fun q => h ⟨q.1.1, q.1.2.1⟩) ha hb hl hl') fun v w' h => ⟨h.1, GivesOF.none h.2⟩
theorem c_SameT (h : a = b) : Calls Try.prog 26 #[v, u] w (Ret fun v w' => Kp [] w w' ∧ v = .bool true) :=
  Ret.mono (c_Same w v u a b ha hb hl hl') fun v w' q => by
    obtain ⟨hk, x, rfl, hx⟩ := q
    exact ⟨hk, by rw [hx.2 h]⟩
end

/-- A result that is a matrix, and a list of numbers. -/
def GivesFL (a : FM) (l : List Nat) (w : World) (v : Value) (w' : World) : Prop := ∃ N N2 u x, v = .tuple #[u, x] ∧ New (N ++ N2) w w' ∧ OwnF N u a ∧ OwnN N2 x l.length l
def pivG (a : FM) : List Nat := (lift1 (fun m => some (pivM m)) a).getD []

section
variable (w : World) (v : Value) (a : FM) (ha : IsF w v a) (hl : a.E.length < 1000000000)
include ha hl

theorem c_EchelonG : Calls Try.prog 13 #[v] w (Ret fun v w' => Kp [] w w' ∧ GivesFL (oF (lift1 (fun m => some (echM m)) a)) (pivG a) w v w') := by
  unfold pivG
  by_cases h : RF a
  · obtain ⟨m, hm, rfl⟩ := h
    rw [lift1_fm hm, lift1_fm hm]
    refine Ret.mono (c_Echelon w v m hm ha.nat) fun v w' h => ⟨h.1, ?_⟩
    obtain ⟨N, N2, u, x, rfl, hN, hO, hO2⟩ := h.2
    exact ⟨N, N2, u, x, rfl, hN, hO.int, hO2⟩
  · rw [lift1_n h, lift1_n h]
    exact Ret.mono (c_EchelonF w v a h ha hl) fun v w' h => ⟨h.1, [], [], _, _, h.2, New.nil _ _, OwnF.zero, OwnN.nil⟩
theorem c_refEchelonG : Calls Try.prog 31 #[v] w (Ret fun v w' => Kp [] w w' ∧ GivesFL (oF (lift1 (fun m => some (echM m)) a)) (pivG a) w v w') := by
  unfold pivG
  by_cases h : RF a
  · obtain ⟨m, hm, rfl⟩ := h
    rw [lift1_fm hm, lift1_fm hm]
    refine Ret.mono (c_refEchelon w v m hm ha.nat) fun v w' h => ⟨h.1, ?_⟩
    obtain ⟨N, N2, u, x, rfl, hN, hO, hO2⟩ := h.2
    exact ⟨N, N2, u, x, rfl, hN, hO.int, hO2⟩
  · rw [lift1_n h, lift1_n h]
    exact Ret.mono (c_refEchelonF w v a h ha hl) fun v w' h => ⟨h.1, [], [], _, _, h.2, New.nil _ _, OwnF.zero, OwnN.nil⟩
theorem c_TransposeG : Calls Try.prog 28 #[v] w (Ret fun v w' => Kp [] w w' ∧ GivesF (oF (lift1 (fun m => some (trM m)) a)) w v w') := by
  by_cases h : RF a
  · obtain ⟨m, hm, rfl⟩ := h
    rw [lift1_fm hm]
    exact Ret.mono (c_Transpose w v m hm ha.nat) fun v w' h => ⟨h.1, h.2.of⟩
  · rw [lift1_n h]
    exact Ret.mono (c_TransposeF w v a h ha hl) fun v w' h => ⟨h.1, GivesF.zero h.2⟩
theorem c_refTransposeG : Calls Try.prog 35 #[v] w (Ret fun v w' => Kp [] w w' ∧ GivesF (oF (lift1 (fun m => some (trM m)) a)) w v w') := by
  by_cases h : RF a
  · obtain ⟨m, hm, rfl⟩ := h
    rw [lift1_fm hm]
    exact Ret.mono (c_refTranspose w v m hm ha.nat) fun v w' h => ⟨h.1, h.2.of⟩
  · rw [lift1_n h]
    exact Ret.mono (c_refTransposeF w v a h ha hl) fun v w' h => ⟨h.1, GivesF.zero h.2⟩
theorem c_KernelG : Calls Try.prog 27 #[v] w (Ret fun v w' => Kp [] w w' ∧ GivesF (oF (lift1 (fun m => some (kerM m)) a)) w v w') := by
  by_cases h : RF a
  · obtain ⟨m, hm, rfl⟩ := h
    rw [lift1_fm hm]
    exact Ret.mono (c_Kernel w v m hm ha.nat) fun v w' h => ⟨h.1, h.2.of⟩
  · rw [lift1_n h]
    exact Ret.mono (c_KernelF w v a h ha hl) fun v w' h => ⟨h.1, GivesF.zero h.2⟩
theorem c_refKernelG : Calls Try.prog 36 #[v] w (Ret fun v w' => Kp [] w w' ∧ GivesF (oF (lift1 (fun m => some (kerM m)) a)) w v w') := by
  by_cases h : RF a
  · obtain ⟨m, hm, rfl⟩ := h
    rw [lift1_fm hm]
    exact Ret.mono (c_refKernel w v m hm ha.nat) fun v w' h => ⟨h.1, h.2.of⟩
  · rw [lift1_n h]
    exact Ret.mono (c_refKernelF w v a h ha hl) fun v w' h => ⟨h.1, GivesF.zero h.2⟩
theorem c_ImageG : Calls Try.prog 22 #[v] w (Ret fun v w' => Kp [] w w' ∧ GivesF (oF (lift1 (fun m => some (imgM m)) a)) w v w') := by
  by_cases h : RF a
  · obtain ⟨m, hm, rfl⟩ := h
    rw [lift1_fm hm]
    exact Ret.mono (c_Image w v m hm ha.nat) fun v w' h => ⟨h.1, h.2.of⟩
  · rw [lift1_n h]
    exact Ret.mono (c_ImageF w v a h ha hl) fun v w' h => ⟨h.1, GivesF.zero h.2⟩
theorem c_refImageG : Calls Try.prog 37 #[v] w (Ret fun v w' => Kp [] w w' ∧ GivesF (oF (lift1 (fun m => some (imgM m)) a)) w v w') := by
  by_cases h : RF a
  · obtain ⟨m, hm, rfl⟩ := h
    rw [lift1_fm hm]
    exact Ret.mono (c_refImage w v m hm ha.nat) fun v w' h => ⟨h.1, h.2.of⟩
  · rw [lift1_n h]
    exact Ret.mono (c_refImageF w v a h ha hl) fun v w' h => ⟨h.1, GivesF.zero h.2⟩
theorem c_InverseG : Calls Try.prog 18 #[v] w (Ret fun v w' => Kp [] w w' ∧ GivesOF (lift1 invM a) w v w') := by
  by_cases h : RF a
  · obtain ⟨m, hm, rfl⟩ := h
    rw [lift1_fm hm]
    exact Ret.mono (c_Inverse w v m hm ha.nat) fun v w' h => ⟨h.1, GivesO.of h.2⟩
  · rw [lift1_n h]
    exact Ret.mono (c_InverseF w v a h ha hl) fun v w' h => ⟨h.1, GivesOF.none h.2⟩
theorem c_refInverseG : Calls Try.prog 32 #[v] w (Ret fun v w' => Kp [] w w' ∧ GivesOF (lift1 invM a) w v w') := by
  by_cases h : RF a
  · obtain ⟨m, hm, rfl⟩ := h
    rw [lift1_fm hm]
    exact Ret.mono (c_refInverse w v m hm ha.nat) fun v w' h => ⟨h.1, GivesO.of h.2⟩
  · rw [lift1_n h]
    exact Ret.mono (c_refInverseF w v a h ha hl) fun v w' h => ⟨h.1, GivesOF.none h.2⟩
end

section
variable {c : Cx} {Q : Exit → Act → World → Prop} {m : Mode} {F : SFrame} {H : SHeap} {r : List SOp} {g : Option (Option Tmp × Bool)} {ns : Bool} {d : Tmp} {ty t t' : TypeId} {x y : Operand}
theorem r_neBS {b : Bool} [TB c.P t] (hd : dstOk c.n (some d) = true) (hg : guardF F g = some true) (hx : ev F x = some (.bool b)) (hy : ev F y = some (.bool b)) (h : JO c Q m r ((d, .bool false) :: F) H) : JO c Q m (⟨some d, .binOp .neq t x y t', ty, g, .mov, ns⟩ :: r) F H :=
  r_neB hd hg hx hy (by rw [bne_self_eq_false]; exact h)
theorem r_eqBS {b : Bool} [TB c.P t] (hd : dstOk c.n (some d) = true) (hg : guardF F g = some true) (hx : ev F x = some (.bool b)) (hy : ev F y = some (.bool b)) (h : JO c Q m r ((d, .bool true) :: F) H) : JO c Q m (⟨some d, .binOp .eql t x y t', ty, g, .mov, ns⟩ :: r) F H :=
  r_eqB hd hg hx hy (by rw [beq_self_eq_true]; exact h)
end

end Go.Proofs.Ytdoogoglfbohaaa
