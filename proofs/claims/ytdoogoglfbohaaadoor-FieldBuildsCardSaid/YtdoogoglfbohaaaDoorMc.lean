import Derived.Test.YtdoogoglfbohaaaDoorMa
import Derived.Test.YtdoogoglfbohaaaDoorProg
import Derived.KernelRfl
import Derived.Test.YtdoogoglfbohaaaDoorMb
namespace Go.Proofs.YtdoogoglfbohaaaDoor
open Go
set_option linter.unusedSimpArgs false
set_option linter.unusedVariables false

instance : T1 Tryd.prog 3 := T1.mk' Tryd.underlying3 rfl (by kernel_rfl)
instance : TE Tryd.prog 3 1 8 (#[.int .i64 0]) := TE.mk' (z := .int .i64 0) (by kernel_rfl)
instance : TSz Tryd.prog 3 1 := TSz.mk' (by kernel_rfl)
instance : T1 Tryd.prog 4 := T1.mk' Tryd.underlying4 rfl (by kernel_rfl)
instance : TB Tryd.prog 4 := ⟨Tryd.underlying4⟩
instance : T1 Tryd.prog 5 := T1.mk' Tryd.underlying5 rfl (by kernel_rfl)
instance : TE Tryd.prog 5 1 1 (#[.int .u8 0]) := TE.mk' (z := .int .u8 0) (by kernel_rfl)
instance : T1 Tryd.prog 9 := T1.mk' Tryd.underlying9 rfl (by kernel_rfl)
instance : TSl Tryd.prog 22 23 := ⟨Tryd.underlying22⟩
instance : T1 Tryd.prog 23 := T1.mk' Tryd.underlying23 rfl (by kernel_rfl)
instance : TE Tryd.prog 23 1 24 (#[.slice none 0 0]) := TE.mk' (z := .slice none 0 0) (by kernel_rfl)
instance : TSz Tryd.prog 23 1 := TSz.mk' (by kernel_rfl)
instance : TSl Tryd.prog 23 3 := ⟨Tryd.underlying23⟩
instance : TN Tryd.prog 25 3 := TN.mk' Tryd.underlying25 rfl (by kernel_rfl)
instance : FA Tryd.prog 25 0 0 := FA.mk' (f := 0) Tryd.underlying25 rfl (by kernel_rfl)
instance : FA Tryd.prog 25 1 1 := FA.mk' (f := 1) Tryd.underlying25 rfl (by kernel_rfl)
instance : FA Tryd.prog 25 2 2 := FA.mk' (f := 2) Tryd.underlying25 rfl (by kernel_rfl)
instance : TN Tryd.prog 30 4 := TN.mk' Tryd.underlying30 rfl (by kernel_rfl)
instance : TSt Tryd.prog 30 (#[.int .i64 0, .int .i64 0, .int .i64 0, .slice none 0 0]) #[(0, 1), (1, 1), (2, 1), (3, 1)] := TSt.mk' (z := .agg #[.int .i64 0, .int .i64 0, .int .i64 0, .slice none 0 0]) Tryd.underlying30 (by kernel_rfl) (by kernel_rfl)
instance : TZ0 Tryd.prog 30 (#[.int .i64 0, .int .i64 0, .int .i64 0, .slice none 0 0]) := TZ0.mk' (z := .agg #[.int .i64 0, .int .i64 0, .int .i64 0, .slice none 0 0]) (by kernel_rfl)
instance : FA Tryd.prog 30 0 0 := FA.mk' (f := 0) Tryd.underlying30 rfl (by kernel_rfl)
instance : FA Tryd.prog 30 1 1 := FA.mk' (f := 1) Tryd.underlying30 rfl (by kernel_rfl)
instance : FA Tryd.prog 30 2 2 := FA.mk' (f := 2) Tryd.underlying30 rfl (by kernel_rfl)
instance : FA Tryd.prog 30 3 3 := FA.mk' (f := 3) Tryd.underlying30 rfl (by kernel_rfl)
instance : T1 Tryd.prog 34 := T1.mk' Tryd.underlying34 rfl (by kernel_rfl)
instance : TSl Tryd.prog 34 56 := ⟨Tryd.underlying34⟩
instance : TN Tryd.prog 36 3 := TN.mk' Tryd.underlying36 rfl (by kernel_rfl)
instance : TSt Tryd.prog 36 (#[.int .i64 0, .int .i64 0, .slice none 0 0]) #[(0, 1), (1, 1), (2, 1)] := TSt.mk' (z := .agg #[.int .i64 0, .int .i64 0, .slice none 0 0]) Tryd.underlying36 (by kernel_rfl) (by kernel_rfl)
instance : TZ0 Tryd.prog 36 (#[.int .i64 0, .int .i64 0, .slice none 0 0]) := TZ0.mk' (z := .agg #[.int .i64 0, .int .i64 0, .slice none 0 0]) (by kernel_rfl)
instance : FA Tryd.prog 36 0 0 := FA.mk' (f := 0) Tryd.underlying36 rfl (by kernel_rfl)
instance : FA Tryd.prog 36 1 1 := FA.mk' (f := 1) Tryd.underlying36 rfl (by kernel_rfl)
instance : FA Tryd.prog 36 2 2 := FA.mk' (f := 2) Tryd.underlying36 rfl (by kernel_rfl)
instance : TAr Tryd.prog 39 3 3 := ⟨Tryd.underlying39⟩
instance : TZ0 Tryd.prog 46 (#[.int .i64 0, .int .i64 0]) := TZ0.mk' (z := .agg #[.int .i64 0, .int .i64 0]) (by kernel_rfl)
instance : TAr Tryd.prog 46 2 3 := ⟨Tryd.underlying46⟩
instance : TN Tryd.prog 56 2 := TN.mk' Tryd.underlying56 rfl (by kernel_rfl)
instance : TSt Tryd.prog 56 (#[.bool false, .string ⟨#[]⟩]) #[(0, 1), (1, 1)] := TSt.mk' (z := .agg #[.bool false, .string ⟨#[]⟩]) Tryd.underlying56 (by kernel_rfl) (by kernel_rfl)
instance : TZ0 Tryd.prog 56 (#[.bool false, .string ⟨#[]⟩]) := TZ0.mk' (z := .agg #[.bool false, .string ⟨#[]⟩]) (by kernel_rfl)
instance : TE Tryd.prog 56 2 24 (#[.bool false, .string ⟨#[]⟩]) := TE.mk' (z := .agg #[.bool false, .string ⟨#[]⟩]) (by kernel_rfl)
instance : TSz Tryd.prog 56 2 := TSz.mk' (by kernel_rfl)
instance : FA Tryd.prog 56 0 0 := FA.mk' (f := 0) Tryd.underlying56 rfl (by kernel_rfl)
instance : FA Tryd.prog 56 1 1 := FA.mk' (f := 1) Tryd.underlying56 rfl (by kernel_rfl)
instance : T1 Tryd.prog 71 := T1.mk' Tryd.underlying71 rfl (by kernel_rfl)
instance : TE Tryd.prog 71 1 8 (#[.int .u64 0]) := TE.mk' (z := .int .u64 0) (by kernel_rfl)
instance : TSz Tryd.prog 71 1 := TSz.mk' (by kernel_rfl)
instance : TSl Tryd.prog 74 71 := ⟨Tryd.underlying74⟩
instance : TAr Tryd.prog 91 998 3 := ⟨Tryd.underlying91⟩
instance : FA Tryd.prog 93 0 0 := FA.mk' (f := 0) Tryd.underlying93 rfl (by kernel_rfl)
instance : FA Tryd.prog 93 1 4 := FA.mk' (f := 1) Tryd.underlying93 rfl (by kernel_rfl)
instance : TSt Tryd.prog 99 (#[.slice none 0 0, .int .i64 0, .int .i64 0]) #[(0, 1), (1, 1), (2, 1)] := TSt.mk' (z := .agg #[.slice none 0 0, .int .i64 0, .int .i64 0]) Tryd.underlying99 (by kernel_rfl) (by kernel_rfl)
instance : FA Tryd.prog 99 0 0 := FA.mk' (f := 0) Tryd.underlying99 rfl (by kernel_rfl)
instance : FA Tryd.prog 99 1 1 := FA.mk' (f := 1) Tryd.underlying99 rfl (by kernel_rfl)
instance : FA Tryd.prog 99 2 2 := FA.mk' (f := 2) Tryd.underlying99 rfl (by kernel_rfl)
instance : T1 Tryd.prog 102 := T1.mk' Tryd.underlying102 rfl (by kernel_rfl)
instance : TZ0 Tryd.prog 102 (#[.slice none 0 0]) := TZ0.mk' (z := .slice none 0 0) (by kernel_rfl)
instance : TSl Tryd.prog 102 5 := ⟨Tryd.underlying102⟩
instance : TF Tryd.prog 5 := TF.mk' Tryd.func5 (by kernel_rfl) rfl
instance : TF Tryd.prog 6 := TF.mk' Tryd.func6 (by kernel_rfl) rfl
instance : TF Tryd.prog 7 := TF.mk' Tryd.func7 (by kernel_rfl) rfl
instance : TF Tryd.prog 8 := TF.mk' Tryd.func8 (by kernel_rfl) rfl
instance : TF Tryd.prog 9 := TF.mk' Tryd.func9 (by kernel_rfl) rfl
instance : TF Tryd.prog 10 := TF.mk' Tryd.func10 (by kernel_rfl) rfl
instance : TF Tryd.prog 11 := TF.mk' Tryd.func11 (by kernel_rfl) rfl
instance : TF Tryd.prog 12 := TF.mk' Tryd.func12 (by kernel_rfl) rfl
instance : TF Tryd.prog 13 := TF.mk' Tryd.func13 (by kernel_rfl) rfl
instance : TF Tryd.prog 14 := TF.mk' Tryd.func14 (by kernel_rfl) rfl
instance : TF Tryd.prog 15 := TF.mk' Tryd.func15 (by kernel_rfl) rfl
instance : TF Tryd.prog 16 := TF.mk' Tryd.func16 (by kernel_rfl) rfl
instance : TF Tryd.prog 17 := TF.mk' Tryd.func17 (by kernel_rfl) rfl
instance : TF Tryd.prog 18 := TF.mk' Tryd.func18 (by kernel_rfl) rfl
instance : TF Tryd.prog 19 := TF.mk' Tryd.func19 (by kernel_rfl) rfl
instance : TF Tryd.prog 20 := TF.mk' Tryd.func20 (by kernel_rfl) rfl
instance : TF Tryd.prog 21 := TF.mk' Tryd.func21 (by kernel_rfl) rfl
instance : TF Tryd.prog 22 := TF.mk' Tryd.func22 (by kernel_rfl) rfl
instance : TF Tryd.prog 23 := TF.mk' Tryd.func23 (by kernel_rfl) rfl
instance : TF Tryd.prog 24 := TF.mk' Tryd.func24 (by kernel_rfl) rfl
instance : TF Tryd.prog 25 := TF.mk' Tryd.func25 (by kernel_rfl) rfl
instance : TF Tryd.prog 26 := TF.mk' Tryd.func26 (by kernel_rfl) rfl
instance : TF Tryd.prog 27 := TF.mk' Tryd.func27 (by kernel_rfl) rfl
instance : TF Tryd.prog 28 := TF.mk' Tryd.func28 (by kernel_rfl) rfl
instance : TF Tryd.prog 29 := TF.mk' Tryd.func29 (by kernel_rfl) rfl
instance : TF Tryd.prog 30 := TF.mk' Tryd.func30 (by kernel_rfl) rfl
instance : TF Tryd.prog 31 := TF.mk' Tryd.func31 (by kernel_rfl) rfl
instance : TF Tryd.prog 32 := TF.mk' Tryd.func32 (by kernel_rfl) rfl
instance : TF Tryd.prog 33 := TF.mk' Tryd.func33 (by kernel_rfl) rfl
instance : TF Tryd.prog 34 := TF.mk' Tryd.func34 (by kernel_rfl) rfl
instance : TF Tryd.prog 35 := TF.mk' Tryd.func35 (by kernel_rfl) rfl
instance : TF Tryd.prog 36 := TF.mk' Tryd.func36 (by kernel_rfl) rfl
instance : TF Tryd.prog 37 := TF.mk' Tryd.func37 (by kernel_rfl) rfl
instance : TF Tryd.prog 38 := TF.mk' Tryd.func38 (by kernel_rfl) rfl
instance : TF Tryd.prog 39 := TF.mk' Tryd.func39 (by kernel_rfl) rfl
instance : TF Tryd.prog 40 := TF.mk' Tryd.func40 (by kernel_rfl) rfl
instance : TF Tryd.prog 41 := TF.mk' Tryd.func41 (by kernel_rfl) rfl
instance : TF Tryd.prog 42 := TF.mk' Tryd.func42 (by kernel_rfl) rfl
instance : TF Tryd.prog 43 := TF.mk' Tryd.func43 (by kernel_rfl) rfl
instance : TF Tryd.prog 44 := TF.mk' Tryd.func44 (by kernel_rfl) rfl
instance : TF Tryd.prog 45 := TF.mk' Tryd.func45 (by kernel_rfl) rfl
instance : TF Tryd.prog 46 := TF.mk' Tryd.func46 (by kernel_rfl) rfl
instance : TF Tryd.prog 47 := TF.mk' Tryd.func47 (by kernel_rfl) rfl
instance : TF Tryd.prog 48 := TF.mk' Tryd.func48 (by kernel_rfl) rfl
instance : TF Tryd.prog 49 := TF.mk' Tryd.func49 (by kernel_rfl) rfl
instance : TF Tryd.prog 50 := TF.mk' Tryd.func50 (by kernel_rfl) rfl
instance : TF Tryd.prog 51 := TF.mk' Tryd.func51 (by kernel_rfl) rfl
instance : TF Tryd.prog 52 := TF.mk' Tryd.func52 (by kernel_rfl) rfl
instance : TF Tryd.prog 53 := TF.mk' Tryd.func53 (by kernel_rfl) rfl
instance : TF Tryd.prog 54 := TF.mk' Tryd.func54 (by kernel_rfl) rfl
instance : TF Tryd.prog 55 := TF.mk' Tryd.func55 (by kernel_rfl) rfl
instance : TF Tryd.prog 56 := TF.mk' Tryd.func56 (by kernel_rfl) rfl
instance : TF Tryd.prog 57 := TF.mk' Tryd.func57 (by kernel_rfl) rfl
instance : TF Tryd.prog 58 := TF.mk' Tryd.func58 (by kernel_rfl) rfl
instance : TF Tryd.prog 59 := TF.mk' Tryd.func59 (by kernel_rfl) rfl
instance : TF Tryd.prog 60 := TF.mk' Tryd.func60 (by kernel_rfl) rfl
instance : TF Tryd.prog 61 := TF.mk' Tryd.func61 (by kernel_rfl) rfl
instance : TF Tryd.prog 62 := TF.mk' Tryd.func62 (by kernel_rfl) rfl
instance : TF Tryd.prog 63 := TF.mk' Tryd.func63 (by kernel_rfl) rfl
instance : TF Tryd.prog 64 := TF.mk' Tryd.func64 (by kernel_rfl) rfl
instance : TF Tryd.prog 65 := TF.mk' Tryd.func65 (by kernel_rfl) rfl
instance : TF Tryd.prog 66 := TF.mk' Tryd.func66 (by kernel_rfl) rfl
instance : TF Tryd.prog 67 := TF.mk' Tryd.func67 (by kernel_rfl) rfl
instance : TF Tryd.prog 68 := TF.mk' Tryd.func68 (by kernel_rfl) rfl
instance : TF Tryd.prog 69 := TF.mk' Tryd.func69 (by kernel_rfl) rfl
instance : TF Tryd.prog 70 := TF.mk' Tryd.func70 (by kernel_rfl) rfl
instance : TF Tryd.prog 71 := TF.mk' Tryd.func71 (by kernel_rfl) rfl
instance : TF Tryd.prog 72 := TF.mk' Tryd.func72 (by kernel_rfl) rfl
instance : TF Tryd.prog 73 := TF.mk' Tryd.func73 (by kernel_rfl) rfl
instance : TF Tryd.prog 74 := TF.mk' Tryd.func74 (by kernel_rfl) rfl
instance : TF Tryd.prog 75 := TF.mk' Tryd.func75 (by kernel_rfl) rfl
instance : TF Tryd.prog 76 := TF.mk' Tryd.func76 (by kernel_rfl) rfl
instance : TF Tryd.prog 77 := TF.mk' Tryd.func77 (by kernel_rfl) rfl
instance : TF Tryd.prog 78 := TF.mk' Tryd.func78 (by kernel_rfl) rfl
instance : TF Tryd.prog 79 := TF.mk' Tryd.func79 (by kernel_rfl) rfl
instance : TF Tryd.prog 80 := TF.mk' Tryd.func80 (by kernel_rfl) rfl
instance : TF Tryd.prog 81 := TF.mk' Tryd.func81 (by kernel_rfl) rfl
instance : TF Tryd.prog 82 := TF.mk' Tryd.func82 (by kernel_rfl) rfl
instance : TF Tryd.prog 83 := TF.mk' Tryd.func83 (by kernel_rfl) rfl
instance : TF Tryd.prog 84 := TF.mk' Tryd.func84 (by kernel_rfl) rfl
instance : TF Tryd.prog 85 := TF.mk' Tryd.func85 (by kernel_rfl) rfl
instance : TF Tryd.prog 86 := TF.mk' Tryd.func86 (by kernel_rfl) rfl
instance : TF Tryd.prog 87 := TF.mk' Tryd.func87 (by kernel_rfl) rfl
instance : TF Tryd.prog 89 := TF.mk' Tryd.func89 (by kernel_rfl) rfl
instance : TF Tryd.prog 93 := TF.mk' Tryd.func93 (by kernel_rfl) rfl
instance : TF Tryd.prog 94 := TF.mk' Tryd.func94 (by kernel_rfl) rfl

theorem mixed : Tryd.prog.follows .mixedOrders = true := by kernel_rfl

end Go.Proofs.YtdoogoglfbohaaaDoor

namespace Go.Proofs.YtdoogoglfbohaaaDoor
open Go Go.RowKit
set_option linter.unusedSimpArgs false
set_option linter.unusedVariables false
set_option linter.unusedSectionVars false

abbrev iv (x : Int) : Value := .int .i64 x
abbrev nv (x : Nat) : Value := .int .i64 (x : Int)

def tab {α : Type} (n : Nat) (g : Nat → α) : List α := (List.range n).map g

@[simp] theorem tab_len {α : Type} (n : Nat) (g : Nat → α) : (tab n g).length = n := by simp [tab]
theorem tab_get {α : Type} {n : Nat} {g : Nat → α} {i : Nat} (h : i < n) : (tab n g)[i]? = some (g i) := by simp [tab, h]
theorem tab_getD {α : Type} {n : Nat} {g : Nat → α} {i : Nat} {d : α} (h : i < n) : (tab n g).getD i d = g i := by simp [List.getD, tab_get h]
theorem tab_congr {α : Type} {n : Nat} {g g' : Nat → α} (h : ∀ i, i < n → g i = g' i) : tab n g = tab n g' := by
  apply List.map_congr_left
  intro i hi
  exact h i (List.mem_range.1 hi)
theorem tab_ext {α : Type} {n : Nat} {xs : List α} {g : Nat → α} (hl : xs.length = n) (h : ∀ i, i < n → xs[i]? = some (g i)) : xs = tab n g := by
  apply List.ext_getElem?
  intro i
  rcases Nat.lt_or_ge i n with hi | hi
  · rw [h i hi, tab_get hi]
  · rw [List.getElem?_eq_none (by omega), List.getElem?_eq_none (by simp; omega)]
theorem tab_of {α : Type} {n : Nat} {xs : List α} {d : α} (hl : xs.length = n) : tab n (fun i => xs.getD i d) = xs := by
  refine (tab_ext hl fun i hi => ?_).symm
  rw [List.getElem?_eq_getElem (by omega)]; simp [List.getD, List.getElem?_eq_getElem (show i < xs.length by omega)]
theorem tab_set {α : Type} {n : Nat} {g : Nat → α} {i : Nat} {x : α} : (tab n g).set i x = tab n (fun j => if j = i then x else g j) := by
  refine tab_ext (by simp) fun j hj => ?_
  rw [List.getElem?_set]
  by_cases h : i = j
  · subst h; simp [hj]
  · rw [if_neg h, tab_get hj, if_neg (fun e => h e.symm)]
theorem set_getD {α : Type} {xs : List α} {i j : Nat} {x d : α} (hi : i < xs.length) : (xs.set i x).getD j d = if j = i then x else xs.getD j d := by
  simp only [List.getD, List.getElem?_set]
  by_cases h : i = j
  · subst h; simp [hi]
  · rw [if_neg h, if_neg (fun e => h e.symm)]
theorem gD_lt {α : Type} {xs : List α} {i : Nat} {d : α} (h : i < xs.length) : xs[i]? = some (xs.getD i d) := by simp [List.getD, List.getElem?_eq_getElem h]
theorem ext_getD {α : Type} {xs ys : List α} {d : α} (hl : xs.length = ys.length) (h : ∀ i, i < xs.length → xs.getD i d = ys.getD i d) : xs = ys := by
  apply List.ext_getElem?
  intro i
  rcases Nat.lt_or_ge i xs.length with hi | hi
  · rw [gD_lt hi (d := d), gD_lt (by omega) (d := d), h i hi]
  · rw [List.getElem?_eq_none (by omega), List.getElem?_eq_none (by omega)]
theorem mem_getD {α : Type} {xs : List α} {i : Nat} {d : α} (h : i < xs.length) : xs.getD i d ∈ xs := by
  have := gD_lt (d := d) h
  exact List.mem_of_getElem? this

def WI (w : World) (v : Value) (n : Nat) (xs : List Int) : Prop := RdW w 1 v n (xs.map iv)
def RdI (c : Cx) (N : SHeap) (v : Value) (n : Nat) (xs : List Int) : Prop := Rd c N 1 v n (xs.map iv)
def OwnI (N : SHeap) (v : Value) (n : Nat) (xs : List Int) : Prop := OwnRow 3 1 N v n (xs.map iv)
def WN (w : World) (v : Value) (n : Nat) (xs : List Nat) : Prop := RdW w 1 v n (xs.map nv)
def RdN (c : Cx) (N : SHeap) (v : Value) (n : Nat) (xs : List Nat) : Prop := Rd c N 1 v n (xs.map nv)
def OwnN (N : SHeap) (v : Value) (n : Nat) (xs : List Nat) : Prop := OwnRow 3 1 N v n (xs.map nv)

theorem WI.len {w : World} {v : Value} {n : Nat} {xs : List Int} (h : WI w v n xs) : xs.length = n := by simpa using h.1
theorem RdI.len {c : Cx} {N : SHeap} {v : Value} {n : Nat} {xs : List Int} (h : RdI c N v n xs) : xs.length = n := by simpa using h.1
theorem OwnI.len {N : SHeap} {v : Value} {n : Nat} {xs : List Int} (h : OwnI N v n xs) : xs.length = n := by simpa using h.1
theorem WN.len {w : World} {v : Value} {n : Nat} {xs : List Nat} (h : WN w v n xs) : xs.length = n := by simpa using h.1
theorem RdN.len {c : Cx} {N : SHeap} {v : Value} {n : Nat} {xs : List Nat} (h : RdN c N v n xs) : xs.length = n := by simpa using h.1
theorem OwnN.len {N : SHeap} {v : Value} {n : Nat} {xs : List Nat} (h : OwnN N v n xs) : xs.length = n := by simpa using h.1

theorem WI.mono {w w' : World} {v : Value} {n : Nat} {xs : List Int} (h : WI w v n xs) (hk : Kp [] w w') : WI w' v n xs := RdW.mono h hk
theorem WN.mono {w w' : World} {v : Value} {n : Nat} {xs : List Nat} (h : WN w v n xs) (hk : Kp [] w w') : WN w' v n xs := RdW.mono h hk
theorem WI.rd {c : Cx} {v : Value} {n : Nat} {xs : List Int} (h : WI c.w0 v n xs) (hM : c.M = []) (N : SHeap) : RdI c N v n xs := RdW.rd h hM N
theorem WN.rd {c : Cx} {v : Value} {n : Nat} {xs : List Nat} (h : WN c.w0 v n xs) (hM : c.M = []) (N : SHeap) : RdN c N v n xs := RdW.rd h hM N
theorem RdI.at {c : Cx} {N H : SHeap} {w : World} {v : Value} {n : Nat} {xs : List Int} (h : RdI c N v n xs) (hk : Kp c.M c.w0 w) (hs : Hsat H w) (hN : HSub N H) : WI w v n xs := Rd.at h hk hs hN
theorem RdN.at {c : Cx} {N H : SHeap} {w : World} {v : Value} {n : Nat} {xs : List Nat} (h : RdN c N v n xs) (hk : Kp c.M c.w0 w) (hs : Hsat H w) (hN : HSub N H) : WN w v n xs := Rd.at h hk hs hN
theorem OwnI.rd {c : Cx} {N : SHeap} {v : Value} {n : Nat} {xs : List Int} (h : OwnI N v n xs) : RdI c N v n xs := OwnRow.rd h
theorem OwnN.rd {c : Cx} {N : SHeap} {v : Value} {n : Nat} {xs : List Nat} (h : OwnN N v n xs) : RdN c N v n xs := OwnRow.rd h
theorem OwnI.new {N : SHeap} {v : Value} {n : Nat} {xs : List Int} {w w' : World} (h : OwnI N v n xs) (hn : New N w w') : WI w' v n xs := New.rd (c := ⟨Tryd.prog, 0, w, [], by simp⟩) h hn
theorem OwnN.new {N : SHeap} {v : Value} {n : Nat} {xs : List Nat} {w w' : World} (h : OwnN N v n xs) (hn : New N w w') : WN w' v n xs := New.rd (c := ⟨Tryd.prog, 0, w, [], by simp⟩) h hn

def ints (xs : List Nat) : List Int := xs.map Int.ofNat
@[simp] theorem ints_len (xs : List Nat) : (ints xs).length = xs.length := by simp [ints]
theorem OwnN.form {N : SHeap} {v : Value} {n : Nat} {xs : List Nat} (h : OwnN N v n xs) : ∃ A cap, v = .slice A n cap := by
  obtain ⟨_, ⟨rfl, rfl, rfl⟩ | ⟨b, cap, cur, rfl, _⟩⟩ := h
  · exact ⟨_, _, rfl⟩
  · exact ⟨_, _, rfl⟩
theorem OwnI.form {N : SHeap} {v : Value} {n : Nat} {xs : List Int} (h : OwnI N v n xs) : ∃ A cap, v = .slice A n cap := by
  obtain ⟨_, ⟨rfl, rfl, rfl⟩ | ⟨b, cap, cur, rfl, _⟩⟩ := h
  · exact ⟨_, _, rfl⟩
  · exact ⟨_, _, rfl⟩
theorem WN.form {w : World} {v : Value} {n : Nat} {xs : List Nat} (h : WN w v n xs) : ∃ A cap, v = .slice A n cap := by
  obtain ⟨_, A, cap, rfl, _⟩ := h
  exact ⟨_, _, rfl⟩
theorem WI.form {w : World} {v : Value} {n : Nat} {xs : List Int} (h : WI w v n xs) : ∃ A cap, v = .slice A n cap := by
  obtain ⟨_, A, cap, rfl, _⟩ := h
  exact ⟨_, _, rfl⟩
theorem map_nv (xs : List Nat) : (ints xs).map iv = xs.map nv := by simp [ints, Function.comp_def]
theorem WI.nat {w : World} {v : Value} {n : Nat} {xs : List Nat} (h : WI w v n (ints xs)) : WN w v n xs := by unfold WI at h; rw [map_nv] at h; exact h
theorem WN.int {w : World} {v : Value} {n : Nat} {xs : List Nat} (h : WN w v n xs) : WI w v n (ints xs) := by unfold WI; rw [map_nv]; exact h
theorem OwnN.int {N : SHeap} {v : Value} {n : Nat} {xs : List Nat} (h : OwnN N v n xs) : OwnI N v n (ints xs) := by unfold OwnI; rw [map_nv]; exact h
theorem OwnI.nat {N : SHeap} {v : Value} {n : Nat} {xs : List Nat} (h : OwnI N v n (ints xs)) : OwnN N v n xs := by unfold OwnI at h; rw [map_nv] at h; exact h
theorem RdI.nat {c : Cx} {N : SHeap} {v : Value} {n : Nat} {xs : List Nat} (h : RdI c N v n (ints xs)) : RdN c N v n xs := by unfold RdI at h; rw [map_nv] at h; exact h
theorem RdN.int {c : Cx} {N : SHeap} {v : Value} {n : Nat} {xs : List Nat} (h : RdN c N v n xs) : RdI c N v n (ints xs) := by unfold RdI; rw [map_nv]; exact h

theorem OwnN.nil : OwnN [] (.slice none 0 0) 0 [] := OwnRow.nil _ 1
theorem OwnI.nil : OwnI [] (.slice none 0 0) 0 [] := OwnRow.nil _ 1

section
variable {c : Cx} {Q : Exit → Act → World → Prop} {m : Mode} {F : SFrame} {H : SHeap} {r : List SOp} {g : Option (Option Tmp × Bool)} {ns : Bool} {d : Tmp} {ty t t' : TypeId} {x y : Operand} {N : SHeap} {n : Nat} {v : Value}

theorem r_lenI {e : TypeId} {xs : List Int} [TSl c.P t e] (hd : dstOk c.n (some d) = true) (hg : guardF F g = some true) (hx : ev F x = some v) (hv : RdI c N v n xs)
    (h : JO c Q m r ((d, .int .i64 n) :: F) H) : JO c Q m (⟨some d, .call ⟨.builtin .len, #[x], #[t]⟩, ty, g, .mov, ns⟩ :: r) F H := r_lenR hd hg hx hv h
theorem r_lenN {e : TypeId} {xs : List Nat} [TSl c.P t e] (hd : dstOk c.n (some d) = true) (hg : guardF F g = some true) (hx : ev F x = some v) (hv : RdN c N v n xs)
    (h : JO c Q m r ((d, .int .i64 n) :: F) H) : JO c Q m (⟨some d, .call ⟨.builtin .len, #[x], #[t]⟩, ty, g, .mov, ns⟩ :: r) F H := r_lenR hd hg hx hv h
theorem r_idxI {e : TypeId} {xs : List Int} {j : Nat} {k : IntKind} [TSl c.P t e] [TSz c.P e 1] (hd : dstOk c.n (some d) = true) (hg : guardF F g = some true) (hx : ev F x = some v) (hy : ev F y = some (.int k j)) (hv : RdI c N v n xs) (hj : j < n)
    (h : JO c Q m r ((d, .pointer (some (vAt v j))) :: F) H) : JO c Q m (⟨some d, .indexAddr t x y, ty, g, .mov, ns⟩ :: r) F H := r_idxR1 hd hg hx hy hv hj h
theorem r_idxN {e : TypeId} {xs : List Nat} {j : Nat} {k : IntKind} [TSl c.P t e] [TSz c.P e 1] (hd : dstOk c.n (some d) = true) (hg : guardF F g = some true) (hx : ev F x = some v) (hy : ev F y = some (.int k j)) (hv : RdN c N v n xs) (hj : j < n)
    (h : JO c Q m r ((d, .pointer (some (vAt v j))) :: F) H) : JO c Q m (⟨some d, .indexAddr t x y, ty, g, .mov, ns⟩ :: r) F H := r_idxR1 hd hg hx hy hv hj h
theorem r_ldI {xs : List Int} {i : Nat} [T1 c.P t] (hd : dstOk c.n (some d) = true) (hg : guardF F g = some true) (hx : ev F x = some (.pointer (some (vAt v i)))) (hl : m.live = true) (hv : RdI c N v n xs) (hN : HSub N (m.src H)) (hi : i < n)
    (h : JO c Q m r ((d, iv (xs.getD i 0)) :: F) H) : JO c Q m (⟨some d, .load t x, ty, g, .ld, ns⟩ :: r) F H :=
  r_ldR hd hg hx hl hv hN (by rw [List.getElem?_map, gD_lt (d := 0) (by have := hv.len; omega)]; rfl) h
theorem r_ldN {xs : List Nat} {i : Nat} [T1 c.P t] (hd : dstOk c.n (some d) = true) (hg : guardF F g = some true) (hx : ev F x = some (.pointer (some (vAt v i)))) (hl : m.live = true) (hv : RdN c N v n xs) (hN : HSub N (m.src H)) (hi : i < n)
    (h : JO c Q m r ((d, nv (xs.getD i 0)) :: F) H) : JO c Q m (⟨some d, .load t x, ty, g, .ld, ns⟩ :: r) F H :=
  r_ldR hd hg hx hl hv hN (by rw [List.getElem?_map, gD_lt (d := 0) (by have := hv.len; omega)]; rfl) h

theorem r_stN {A B : SHeap} {i u : Nat} {xs : List Nat} [T1 c.P t] (hO : OwnN N v n xs) (hH : H = A ++ (N ++ B)) (hg : guardF F g = some true) (hm : m.mayStore ns r) (hx : ev F x = some (.pointer (some (vAt v i)))) (hy : ev F y = some (nv u))
    (hi : i < n) (h : ∀ N', OwnN N' v n (xs.set i u) → JO c Q m.spent r F (A ++ (N' ++ B))) : JO c Q m (⟨none, .store t x y, ty, g, .seq, ns⟩ :: r) F H :=
  r_stO hO hH hg hm hx hy rfl rfl (by omega) (fun N' h' => h N' (by unfold OwnN; rw [List.map_set]; exact h'))

theorem own_zeros (b n : Nat) (hn : n ≤ maxLen) : OwnN [(b, .cells (zerosOf #[iv 0] (n * 1)) 3)] (.slice (some ⟨b, 0, none⟩) n n) n (tab n fun _ => 0) := by
  have h := OwnRow.mk' (e := 3) (sz := 1) (n := n) (b := b) (cs := zerosOf #[iv 0] (n * 1)) (by rw [zeros1]; simp) hn
  rw [zeros1] at h ⊢
  have e : (Array.replicate (n * 1) (iv 0)).toList = (tab n fun _ => 0).map nv := by
    apply List.ext_getElem?
    intro i
    simp only [Array.toList_replicate, List.getElem?_map, List.getElem?_replicate, Nat.mul_one]
    by_cases hi : i < n
    · rw [if_pos hi, tab_get hi]; rfl
    · rw [if_neg hi, List.getElem?_eq_none (by simp; omega)]; rfl
  rw [e] at h
  exact h

theorem r_sliceN {e : TypeId} {l h' : Nat} {xs : List Nat} {lo hi : Option Operand} {vl vh : Option Value} [TSl c.P t e] [TSz c.P e 1] (hd : dstOk c.n (some d) = true) (hg : guardF F g = some true)
    (hx : ev F x = some v) (hv : RdN c N v n xs)
    (hlo : (lo.bind (ev F)) = vl) (hlo' : lo.isSome = vl.isSome) (hl : vl = some (.int .i64 l) ∨ (vl = none ∧ l = 0)) (hhi : (hi.bind (ev F)) = vh) (hhi' : hi.isSome = vh.isSome) (hh : vh = some (.int .i64 h') ∨ (vh = none ∧ h' = n))
    (hlh : l ≤ h') (hhl : h' ≤ n)
    (h : ∀ v', RdN c N v' (h' - l) ((xs.drop l).take (h' - l)) → (∀ i, l < h' → vAt v' i = vAt v (l + i)) → JO c Q m r ((d, v') :: F) H) : JO c Q m (⟨some d, .slice t x lo hi none, ty, g, .mov, ns⟩ :: r) F H :=
  r_sliceR hd hg hx hv hlo hlo' hl hhi hhi' hh hlh hhl (fun v' h1 h2 => h v' (by
    unfold RdN
    rw [List.map_take, List.map_drop]
    simpa using h1) (by simpa using h2))

def rowOf (c : Nat) (xs : List Nat) (i : Nat) : List Nat := (xs.drop (i * c)).take c
theorem rowOf_getD {c : Nat} {xs : List Nat} {i j : Nat} (hj : j < c) : (rowOf c xs i).getD j 0 = xs.getD (i * c + j) 0 := by
  simp only [rowOf, List.getD, List.getElem?_take, if_pos hj, List.getElem?_drop]

theorem r_rowN {e : TypeId} {i k : Nat} {xs : List Nat} {lo hi : Operand} [TSl c.P t e] [TSz c.P e 1] (hd : dstOk c.n (some d) = true) (hg : guardF F g = some true)
    (hx : ev F x = some v) (hv : RdN c N v n xs) (hlo : ev F lo = some (nv (i * k))) (hhi : ev F hi = some (nv ((i + 1) * k))) (hle : (i + 1) * k ≤ n)
    (h : ∀ v', RdN c N v' k (rowOf k xs i) → (∀ j, j < k → vAt v' j = vAt v (i * k + j)) → JO c Q m r ((d, v') :: F) H) : JO c Q m (⟨some d, .slice t x (some lo) (some hi) none, ty, g, .mov, ns⟩ :: r) F H := by
  have e1 : (i + 1) * k - i * k = k := by rw [Nat.add_mul]; omega
  refine r_sliceN (l := i * k) (h' := (i + 1) * k) hd hg hx hv hlo rfl (.inl rfl) hhi rfl (.inl rfl) (Nat.mul_le_mul_right k (by omega)) hle (fun v' h1 h2 => h v' (by rw [e1] at h1; exact h1) (fun j hj => h2 j (by rw [Nat.add_mul]; omega)))

theorem r_add1 {i : Nat} (hd : dstOk c.n (some d) = true) (hg : guardF F g = some true) (hx : ev F x = some (.int .i64 i)) (hy : ev F y = some (.int .i64 1)) (hb : i + 1 < 9223372036854775808)
    (h : JO c Q m r ((d, .int .i64 ((i + 1 : Nat) : Int)) :: F) H) : JO c Q m (⟨some d, .binOp .add t x y t', ty, g, .mov, ns⟩ :: r) F H := r_addN (j := 1) hd hg hx hy hb h

theorem r_appendN {A B N2 : SHeap} {v2 : Value} {k : Nat} {xs ys : List Nat} [TSl c.P t 3] [TE c.P 3 1 8 #[iv 0]] (hO : OwnN N v n xs) (h2 : RdN c N2 v2 k ys) (hN2 : HSub N2 H) (hH : H = A ++ (N ++ B)) (hm : m.mayStore ns r) (hd : dstOk c.n (some d) = true) (hg : guardF F g = some true) (hx : ev F x = some v) (hy : ev F y = some v2)
    (hb : n + k ≤ 10000000000000) (h : ∀ v' N', OwnN N' v' (n + k) (xs ++ ys) → JO c Q m.spent r ((d, v') :: F) (A ++ (N' ++ B))) :
    JO c Q m (⟨some d, .call ⟨.builtin .append, #[x, y], #[t, t]⟩, ty, g, .seq, ns⟩ :: r) F H :=
  r_appendA (e := 3) (sz := 1) (bytes := 8) (zc := #[iv 0]) (xs := xs.map nv) (news := ys.map nv) (n := n) (mm := k) rfl hO h2 hN2 hH hm hd hg hx hy (fun u hu => by obtain ⟨a, _, rfl⟩ := List.mem_map.1 hu; rfl) (by simp only [maxLen]; omega) (by omega) (fun v' N' h' => h v' N' (by unfold OwnN; rw [List.map_append]; exact h'))

theorem r_appendNL {A B N2 Hs : SHeap} {v2 : Value} {k : Nat} {xs ys : List Nat} [TSl c.P t 3] [TE c.P 3 1 8 #[iv 0]] (hO : OwnN N v n xs) (h2 : RdN c N2 v2 k ys) (hN2 : HSub N2 H) (hH : H = A ++ (N ++ B)) (hm : HSub Hs (A ++ B)) (hd : dstOk c.n (some d) = true) (hg : guardF F g = some true) (hx : ev F x = some v) (hy : ev F y = some v2)
    (hb : n + k ≤ 10000000000000) (h : ∀ v' N', OwnN N' v' (n + k) (xs ++ ys) → JO c Q (.draw Hs true) r ((d, v') :: F) (A ++ (N' ++ B))) :
    JO c Q (.draw Hs true) (⟨some d, .call ⟨.builtin .append, #[x, y], #[t, t]⟩, ty, g, .seq, ns⟩ :: r) F H :=
  r_appendL (e := 3) (sz := 1) (bytes := 8) (zc := #[iv 0]) (xs := xs.map nv) (news := ys.map nv) (n := n) (mm := k) rfl hO h2 hN2 hH hm hd hg hx hy (fun u hu => by obtain ⟨a, _, rfl⟩ := List.mem_map.1 hu; rfl) (by simp only [maxLen]; omega) (by omega) (fun v' N' h' => h v' N' (by unfold OwnN; rw [List.map_append]; exact h'))

theorem r_boxA {vs : Array Value} (hd : dstOk c.n (some d) = true) (hg : guardF F g = some true) (hx : ev F x = some (.agg vs)) (hl : m.live = true) (h : ∀ b, JO c Q m r ((d, (.pointer (some ⟨b, 0, none⟩))) :: F) ((b, .cells vs t) :: H)) :
    JO c Q m (⟨some d, .box t x, ty, g, .alloc, ns⟩ :: r) F H := r_box hd hg hx hl rfl h

theorem r_nilCheck {A : Addr} (hd : dstOk c.n (some d) = true) (hg : guardF F g = some true) (hx : ev F x = some (.pointer (some A))) (h : JO c Q m r ((d, .pointer (some A)) :: F) H) : JO c Q m (⟨some d, .nilCheck x, ty, g, .mov, ns⟩ :: r) F H :=
  r_mov hd hg (fun a w fr => by simp only [execOp, fr.ev hx, Sem.run_pure]) h

theorem r_idxArr {len e sz b o j : Nat} {k : IntKind} [TAr c.P t len e] [TSz c.P e sz] (hd : dstOk c.n (some d) = true) (hg : guardF F g = some true) (hx : ev F x = some (.pointer (some ⟨b, o, none⟩))) (hy : ev F y = some (.int k j)) (hj : j < len)
    (h : JO c Q m r ((d, .pointer (some ⟨b, o + j * sz, none⟩)) :: F) H) : JO c Q m (⟨some d, .indexAddr t x y, ty, g, .mov, ns⟩ :: r) F H :=
  r_mov hd hg (fun a w fr => by
    have h1 : (0 : Int) ≤ j ∧ (j : Int) < len := by omega
    simp only [execOp, fr.ev hx, fr.ev hy, Instr.indexAt, Instr.sureAddr, asIntOf, Sem.run_bind, Sem.run_pure, Result.andThen_ok, run_underlying (TAr.und (P := c.P) (t := t)), h1, and_self, if_true, TSz.size (e := e) (n := sz), Int.toNat_natCast, add_none]) h

theorem bits_and1 (n : Int) : bits .and .i64 n 1 = n % 2 := by
  have h1 : (BitVec.ofInt 64 1).toNat = 2 ^ 1 - 1 := by decide
  have key : (BitVec.ofInt 64 n &&& BitVec.ofInt 64 1).toNat = (n % ((2 ^ 64 : Nat) : Int)).toNat % 2 ^ 1 := by
    rw [BitVec.toNat_and, BitVec.toNat_ofInt, h1, Nat.and_two_pow_sub_one_eq_mod]
  show IntKind.i64.wrap ((BitVec.ofInt 64 n &&& BitVec.ofInt 64 1).toNat : Nat) = n % 2
  rw [key, IntKind.wrap_i64]
  omega

theorem r_and1 {i : Nat} (hd : dstOk c.n (some d) = true) (hg : guardF F g = some true) (hx : ev F x = some (.int .i64 i)) (hy : ev F y = some (.int .i64 1))
    (h : JO c Q m r ((d, .int .i64 ((i % 2 : Nat) : Int)) :: F) H) : JO c Q m (⟨some d, .binOp .and t x y t', ty, g, .mov, ns⟩ :: r) F H :=
  r_arith hd hg hx hy (fun w => by rw [binOp_and, intBits_and, bits_and1]; simp) h
end

structure FM where
  P : Int
  R : Int
  C : Int
  E : List Int
  deriving DecidableEq

structure NM where
  p : Nat
  r : Nat
  c : Nat
  e : List Nat
  deriving DecidableEq

def NM.fm (m : NM) : FM := ⟨m.p, m.r, m.c, ints m.e⟩

def zeroF : FM := ⟨0, 0, 0, []⟩

def Pr (p : Nat) : Prop := 2 ≤ p ∧ p ≤ 997 ∧ ∀ d, 2 ≤ d → d < p → p % d ≠ 0

instance (p : Nat) : Decidable (Pr p) :=
  decidable_of_iff (2 ≤ p ∧ p ≤ 997 ∧ ∀ d, d < p → 2 ≤ d → p % d ≠ 0) (by unfold Pr; exact ⟨fun h => ⟨h.1, h.2.1, fun d a b => h.2.2 d b a⟩, fun h => ⟨h.1, h.2.1, fun d a b => h.2.2 d b a⟩⟩)

structure Rt (m : NM) : Prop where
  pr : Pr m.p
  r : m.r ≤ 400
  c : m.c ≤ 400
  len : m.e.length = m.r * m.c
  lt : ∀ x ∈ m.e, x < m.p

instance (m : NM) : Decidable (Rt m) :=
  decidable_of_iff (Pr m.p ∧ m.r ≤ 400 ∧ m.c ≤ 400 ∧ m.e.length = m.r * m.c ∧ ∀ x ∈ m.e, x < m.p) ⟨fun ⟨a, b, c, d, e⟩ => ⟨a, b, c, d, e⟩, fun ⟨a, b, c, d, e⟩ => ⟨a, b, c, d, e⟩⟩

def toN (a : FM) : Option NM := if NM.fm ⟨a.P.toNat, a.R.toNat, a.C.toNat, a.E.map Int.toNat⟩ = a ∧ Rt ⟨a.P.toNat, a.R.toNat, a.C.toNat, a.E.map Int.toNat⟩ then some ⟨a.P.toNat, a.R.toNat, a.C.toNat, a.E.map Int.toNat⟩ else none

theorem toN_some {a : FM} {m : NM} (h : toN a = some m) : a = m.fm ∧ Rt m := by
  unfold toN at h
  split at h
  · rename_i h1
    cases h
    exact ⟨h1.1.symm, h1.2⟩
  · cases h

theorem toN_fm {m : NM} (h : Rt m) : toN m.fm = some m := by
  have e : (⟨m.fm.P.toNat, m.fm.R.toNat, m.fm.C.toNat, m.fm.E.map Int.toNat⟩ : NM) = m := by
    obtain ⟨p, r, c, l⟩ := m
    simp [NM.fm, ints, Function.comp_def]
  unfold toN
  rw [e, if_pos ⟨rfl, h⟩]

def Fits (p r c : Int) : Prop := ∃ p' r' c' : Nat, p = p' ∧ r = r' ∧ c = c' ∧ Pr p' ∧ r' ≤ 400 ∧ c' ≤ 400

theorem Rt.fits {m : NM} (h : Rt m) : Fits m.fm.P m.fm.R m.fm.C := ⟨m.p, m.r, m.c, rfl, rfl, rfl, h.pr, h.r, h.c⟩

theorem Rt.lt' {m : NM} (h : Rt m) (i : Nat) : m.e.getD i 0 < m.p := by
  rcases Nat.lt_or_ge i m.e.length with hi | hi
  · exact h.lt _ (mem_getD hi)
  · simp only [List.getD, List.getElem?_eq_none hi, Option.getD_none]; have := h.pr.1; omega

def fmV (a : FM) (E : Value) : Value := .agg #[iv a.P, iv a.R, iv a.C, E]

def IsF (w : World) (v : Value) (a : FM) : Prop := ∃ E, v = fmV a E ∧ WI w E a.E.length a.E
def OwnF (N : SHeap) (v : Value) (a : FM) : Prop := ∃ E, v = fmV a E ∧ OwnI N E a.E.length a.E

theorem IsF.mono {w w' : World} {v : Value} {a : FM} (h : IsF w v a) (hk : Kp [] w w') : IsF w' v a := by
  obtain ⟨E, h1, h2⟩ := h
  exact ⟨E, h1, h2.mono hk⟩
theorem OwnF.new {N : SHeap} {v : Value} {a : FM} {w w' : World} (h : OwnF N v a) (hn : New N w w') : IsF w' v a := by
  obtain ⟨E, h1, h2⟩ := h
  exact ⟨E, h1, h2.new hn⟩
theorem OwnF.zero : OwnF [] (.agg #[iv 0, iv 0, iv 0, .slice none 0 0]) zeroF := ⟨_, rfl, OwnI.nil⟩

def GivesF (a : FM) (w : World) (v : Value) (w' : World) : Prop := ∃ N, New N w w' ∧ OwnF N v a
def fdIsM (w : World) (v : Value) (m : NM) : Prop := ∃ E, v = .agg #[nv m.p, nv m.r, nv m.c, E] ∧ WN w E m.e.length m.e
def fdOwnM (N : SHeap) (v : Value) (m : NM) : Prop := ∃ E, v = .agg #[nv m.p, nv m.r, nv m.c, E] ∧ OwnN N E m.e.length m.e

theorem fdIsM.mono {w w' : World} {v : Value} {m : NM} (h : fdIsM w v m) (hk : Kp [] w w') : fdIsM w' v m := by
  obtain ⟨E, h1, h2⟩ := h
  exact ⟨E, h1, h2.mono hk⟩
theorem IsF.nat {w : World} {v : Value} {m : NM} (h : IsF w v m.fm) : fdIsM w v m := by
  obtain ⟨E, rfl, h⟩ := h
  refine ⟨E, rfl, ?_⟩
  have h : WI w E (ints m.e).length (ints m.e) := h
  rw [ints_len] at h
  exact h.nat
theorem fdIsM.int {w : World} {v : Value} {m : NM} (h : fdIsM w v m) : IsF w v m.fm := by
  obtain ⟨E, rfl, h⟩ := h
  refine ⟨E, rfl, ?_⟩
  show WI w E (ints m.e).length (ints m.e)
  rw [ints_len]
  exact h.int
theorem fdOwnM.int {N : SHeap} {v : Value} {m : NM} (h : fdOwnM N v m) : OwnF N v m.fm := by
  obtain ⟨E, rfl, h⟩ := h
  refine ⟨E, rfl, ?_⟩
  show OwnI N E (ints m.e).length (ints m.e)
  rw [ints_len]
  exact h.int
theorem fdOwnM.mk' {N : SHeap} {p r c n : Nat} {E : Value} {e : List Nat} (h : OwnN N E n e) : fdOwnM N (.agg #[nv p, nv r, nv c, E]) ⟨p, r, c, e⟩ := by
  refine ⟨E, rfl, ?_⟩
  rw [h.len]
  exact h


def chk1 (p : Nat) : Nat → Bool
  | 0 => true
  | n + 1 => (Nat.beq n 0 || Nat.beq ((n ^ (p - 2) * n) % p) 1) && chk1 p n
def noDiv (p : Nat) : Nat → Bool
  | 0 => true
  | d + 1 => (Nat.ble d 1 || Nat.ble p d || !Nat.beq (p % d) 0) && noDiv p d
def chkAll : Nat → Bool
  | 0 => true
  | p + 1 => (Nat.ble p 1 || !noDiv p 32 || chk1 p p) && chkAll p
theorem chkAll_true : chkAll 998 = true := by decide +kernel

theorem chk1_spec {p : Nat} : ∀ {k : Nat}, chk1 p k = true → ∀ n, 0 < n → n < k → n ^ (p - 2) * n % p = 1
  | 0, _, n, _, h => by omega
  | k + 1, h, n, h0, hn => by
    simp only [chk1, Bool.and_eq_true, Bool.or_eq_true, Nat.beq_eq] at h
    by_cases hk : n = k
    · subst hk
      rcases h.1 with h1 | h1
      · omega
      · exact h1
    · exact chk1_spec h.2 n h0 (by omega)
theorem noDiv_of {p : Nat} (hp : Pr p) : ∀ k, noDiv p k = true
  | 0 => rfl
  | k + 1 => by
    simp only [noDiv, Bool.and_eq_true, Bool.or_eq_true, Nat.ble_eq, Bool.not_eq_true']
    refine ⟨?_, noDiv_of hp k⟩
    by_cases h1 : k ≤ 1
    · exact .inl (.inl h1)
    · by_cases h2 : p ≤ k
      · exact .inl (.inr h2)
      · refine .inr ?_
        have := hp.2.2 k (by omega) (by omega)
        cases h : Nat.beq (p % k) 0 with
        | false => rfl
        | true => exact absurd (Nat.eq_of_beq_eq_true h) this
theorem chkAll_spec : ∀ {k : Nat}, chkAll k = true → ∀ p, Pr p → p < k → chk1 p p = true
  | 0, _, p, _, h => by omega
  | k + 1, h, p, hp, hk => by
    simp only [chkAll, Bool.and_eq_true, Bool.or_eq_true, Nat.ble_eq, Bool.not_eq_true'] at h
    by_cases e : p = k
    · subst e
      rcases h.1 with (h1 | h1) | h1
      · have := hp.1; omega
      · rw [noDiv_of hp] at h1; cases h1
      · exact h1
    · exact chkAll_spec h.2 p hp (by omega)
theorem inv_mul {p n : Nat} (hp : Pr p) (h0 : 0 < n) (hn : n < p) : n ^ (p - 2) * n % p = 1 :=
  chk1_spec (chkAll_spec chkAll_true p hp (by have := hp.2.1; omega)) n h0 hn


section
variable {p : Nat} [NeZero p]

abbrev Mx (p : Nat) := Nat → Nat → Fin p

def sm : Nat → (Nat → Fin p) → Fin p
  | 0, _ => 0
  | n + 1, f => sm n f + f n

theorem sm_congr : ∀ {n : Nat} {f g : Nat → Fin p}, (∀ i, i < n → f i = g i) → sm n f = sm n g
  | 0, _, _, _ => rfl
  | n + 1, f, g, h => by rw [sm, sm, sm_congr (fun i hi => h i (by omega)), h n (by omega)]
theorem sm_zero : ∀ {n : Nat} {f : Nat → Fin p}, (∀ i, i < n → f i = 0) → sm n f = 0
  | 0, _, _ => rfl
  | n + 1, f, h => by rw [sm, sm_zero (fun i hi => h i (by omega)), h n (by omega)]; grind
theorem sm_add : ∀ {n : Nat} {f g : Nat → Fin p}, sm n (fun i => f i + g i) = sm n f + sm n g
  | 0, _, _ => by simp only [sm]; grind
  | n + 1, f, g => by simp only [sm]; rw [sm_add]; grind
theorem sm_mull : ∀ {n : Nat} {f : Nat → Fin p} (x : Fin p), sm n (fun i => x * f i) = x * sm n f
  | 0, _, x => by simp only [sm]; grind
  | n + 1, f, x => by simp only [sm]; rw [sm_mull]; grind
theorem sm_mulr : ∀ {n : Nat} {f : Nat → Fin p} (x : Fin p), sm n (fun i => f i * x) = sm n f * x
  | 0, _, x => by simp only [sm]; grind
  | n + 1, f, x => by simp only [sm]; rw [sm_mulr]; grind
theorem sm_swap : ∀ {n m : Nat} {f : Nat → Nat → Fin p}, sm n (fun i => sm m (fun j => f i j)) = sm m (fun j => sm n (fun i => f i j))
  | 0, m, f => by simp only [sm]; rw [sm_zero]; intro i _; rfl
  | n + 1, m, f => by simp only [sm]; rw [sm_swap, sm_add]
theorem sm_one : ∀ {n k : Nat} {f : Nat → Fin p}, k < n → (∀ i, i < n → i ≠ k → f i = 0) → sm n f = f k
  | 0, k, _, h, _ => by omega
  | n + 1, k, f, h, h' => by
    rw [sm]
    by_cases hk : k = n
    · subst hk; rw [sm_zero (fun i hi => h' i (by omega) (by omega))]; grind
    · rw [sm_one (k := k) (by omega) (fun i hi hne => h' i (by omega) hne), h' n (by omega) (by omega)]; grind
theorem sm_cut : ∀ {n k : Nat} {f : Nat → Fin p}, k ≤ n → (∀ i, k ≤ i → i < n → f i = 0) → sm n f = sm k f
  | 0, k, f, h, _ => by obtain rfl : k = 0 := by omega
                        rfl
  | n + 1, k, f, h, h' => by
    by_cases hk : k = n + 1
    · subst hk; rfl
    · rw [sm, sm_cut (k := k) (by omega) (fun i a b => h' i a (by omega)), h' n (by omega) (by omega)]; grind
theorem sm_ne {n : Nat} {f : Nat → Fin p} (h : sm n f ≠ 0) : ∃ i, i < n ∧ f i ≠ 0 := by
  refine Classical.byContradiction fun hn => h (sm_zero fun i hi => ?_)
  refine Classical.byContradiction fun h' => hn ⟨i, hi, h'⟩

def mm (n : Nat) (A B : Mx p) : Mx p := fun i j => sm n fun k => A i k * B k j
theorem mm_assoc {n m : Nat} {A B C : Mx p} {i j : Nat} : mm n (mm m A B) C i j = mm m A (mm n B C) i j := by
  unfold mm
  have h1 : ∀ k, sm m (fun t => A i t * B t k) * C k j = sm m (fun t => A i t * (B t k * C k j)) := fun k => by
    rw [← sm_mulr]; exact sm_congr fun t _ => by grind
  have h2 : ∀ t, A i t * sm n (fun k => B t k * C k j) = sm n (fun k => A i t * (B t k * C k j)) := fun t => by
    rw [← sm_mull]
  rw [sm_congr (fun k _ => h1 k), sm_congr (fun t _ => h2 t), sm_swap]
theorem mm_congr {n : Nat} {A A' B B' : Mx p} {i j : Nat} (h : ∀ k, k < n → A i k = A' i k) (h' : ∀ k, k < n → B k j = B' k j) : mm n A B i j = mm n A' B' i j :=
  sm_congr fun k hk => by rw [h k hk, h' k hk]

def REq (r : Nat) (A B : Mx p) : Prop := ∃ U V : Mx p, (∀ i, i < r → ∀ j, B i j = mm r U A i j) ∧ (∀ i, i < r → ∀ j, A i j = mm r V B i j)

def idM : Mx p := fun i j => if i = j then 1 else 0
theorem mm_id {r : Nat} {A : Mx p} {i j : Nat} (hi : i < r) : mm r idM A i j = A i j := by
  unfold mm idM
  rw [sm_one hi (fun k _ hk => by rw [if_neg (fun e => hk e.symm)]; grind)]
  rw [if_pos rfl]; grind
theorem REq.refl (r : Nat) (A : Mx p) : REq r A A := ⟨idM, idM, fun _ hi _ => (mm_id hi).symm, fun _ hi _ => (mm_id hi).symm⟩
theorem REq.symm {r : Nat} {A B : Mx p} (h : REq r A B) : REq r B A := by obtain ⟨U, V, h1, h2⟩ := h; exact ⟨V, U, h2, h1⟩
theorem REq.trans {r : Nat} {A B C : Mx p} (h : REq r A B) (h' : REq r B C) : REq r A C := by
  obtain ⟨U, V, h1, h2⟩ := h
  obtain ⟨U', V', h3, h4⟩ := h'
  refine ⟨mm r U' U, mm r V V', fun i hi j => ?_, fun i hi j => ?_⟩
  · rw [h3 i hi, mm_assoc]; exact mm_congr (fun _ _ => rfl) (fun k hk => h1 k hk j)
  · rw [h2 i hi, mm_assoc]; exact mm_congr (fun _ _ => rfl) (fun k hk => h4 k hk j)
theorem REq.congr {r : Nat} {A B B' : Mx p} (h : REq r A B) (hb : ∀ i, i < r → ∀ j, B i j = B' i j) : REq r A B' := by
  obtain ⟨U, V, h1, h2⟩ := h
  exact ⟨U, V, fun i hi j => by rw [← hb i hi]; exact h1 i hi j, fun i hi j => by rw [h2 i hi]; exact mm_congr (fun _ _ => rfl) (fun k hk => hb k hk j)⟩
structure fdRed (r c : Nat) (e : Mx p) (k : Nat) (pv : Nat → Nat) : Prop where
  kr : k ≤ r
  inc : ∀ i i', i < i' → i' < k → pv i < pv i'
  lt : ∀ i, i < k → pv i < c
  one : ∀ i, i < k → e i (pv i) = 1
  col : ∀ i i', i < k → i' < r → i' ≠ i → e i' (pv i) = 0
  left : ∀ i j, i < k → j < pv i → e i j = 0
  rest : ∀ i j, k ≤ i → i < r → j < c → e i j = 0

variable {r c k k' : Nat} {e e' : Mx p} {pv pv' : Nat → Nat}

theorem one_ne (hp : 1 < p) : (1 : Fin p) ≠ 0 := by
  intro h
  have h1 : (1 : Fin p).val = 1 % p := rfl
  have h0 : (0 : Fin p).val = 0 % p := rfl
  have := congrArg Fin.val h
  rw [h1, h0, Nat.mod_eq_of_lt hp, Nat.zero_mod] at this
  omega

theorem fdRed.sel (h : fdRed r c e k pv) {U : Mx p} {i t : Nat} (ht : t < k) : mm r U e i (pv t) = U i t := by
  unfold mm
  rw [sm_one (k := t) (Nat.lt_of_lt_of_le ht h.kr) (fun s hs hne => by rw [h.col t s ht hs hne]; grind), h.one t ht]; grind
theorem fdRed.cut (h : fdRed r c e k pv) {U : Mx p} {i j : Nat} (hj : j < c) : mm r U e i j = sm k fun t => U i t * e t j := by
  unfold mm
  exact sm_cut h.kr fun t h1 h2 => by rw [h.rest t j h1 h2 hj]; grind

theorem fdRed.sub (hp : 1 < p) (h : fdRed r c e k pv) (h' : fdRed r c e' k' pv') {U : Mx p} (hU : ∀ i, i < r → ∀ j, e i j = mm r U e' i j) {i : Nat} (hi : i < k) : ∃ t, t < k' ∧ pv i = pv' t := by
  have hir := Nat.lt_of_lt_of_le hi h.kr
  have h1 := hU i hir (pv i)
  rw [h.one i hi, h'.cut (h.lt i hi)] at h1
  have h2 : sm k' (fun t => U i t * e' t (pv i)) ≠ 0 := by rw [← h1]; exact one_ne hp
  obtain ⟨t, ht, hne⟩ := sm_ne h2
  have h3 : U i t = e i (pv' t) := by rw [hU i hir, h'.sel ht]
  rw [h3] at hne
  refine ⟨t, ht, ?_⟩
  rcases Nat.lt_trichotomy (pv i) (pv' t) with h4 | h4 | h4
  · rw [h'.left t _ ht h4] at hne; exact absurd (by grind) hne
  · exact h4
  · rw [h.left i _ hi h4] at hne; exact absurd (by grind) hne

theorem inc_le {k k' : Nat} {pv pv' : Nat → Nat} (hi : ∀ i i', i < i' → i' < k → pv i < pv i') (hi' : ∀ i i', i < i' → i' < k' → pv' i < pv' i')
    (h : ∀ i, i < k → ∃ t, t < k' ∧ pv i = pv' t) : k ≤ k' ∧ ∀ i, i < k → pv' i ≤ pv i := by
  have key : ∀ i, i < k → ∃ t, i ≤ t ∧ t < k' ∧ pv i = pv' t := by
    intro i
    induction i with
    | zero => intro hk; obtain ⟨t, h1, h2⟩ := h 0 hk; exact ⟨t, by omega, h1, h2⟩
    | succ i ih =>
      intro hk
      obtain ⟨t, h1, h2, h3⟩ := ih (by omega)
      obtain ⟨t', h4, h5⟩ := h (i + 1) hk
      have h6 := hi i (i + 1) (by omega) hk
      refine ⟨t', ?_, h4, h5⟩
      rcases Nat.lt_or_ge t t' with h7 | h7
      · omega
      · rcases Nat.lt_or_ge t' t with h8 | h8
        · have := hi' t' t h8 h2; omega
        · have : t = t' := by omega
          subst this; omega
  refine ⟨?_, fun i hik => ?_⟩
  · rcases Nat.eq_zero_or_pos k with h0 | h0
    · omega
    · obtain ⟨t, h1, h2, _⟩ := key (k - 1) (by omega)
      omega
  · obtain ⟨t, h1, h2, h3⟩ := key i hik
    rw [h3]
    rcases Nat.lt_or_ge i t with h4 | h4
    · exact Nat.le_of_lt (hi' i t h4 h2)
    · have : i = t := by omega
      subst this; exact Nat.le_refl _

def fdswp (a b : Nat) (A : Mx p) : Mx p := fun i j => if i = a then A b j else if i = b then A a j else A i j
def scl (a : Nat) (x : Fin p) (A : Mx p) : Mx p := fun i j => if i = a then x * A a j else A i j
def elm (a : Nat) (y : Nat → Fin p) (A : Mx p) : Mx p := fun i j => if i = a then A a j else A i j + y i * A a j

theorem REq.of {r : Nat} {A B : Mx p} (U V : Mx p) (h1 : ∀ i, i < r → ∀ j, B i j = mm r U A i j) (h2 : ∀ i, i < r → ∀ j, A i j = mm r V B i j) : REq r A B := ⟨U, V, h1, h2⟩

theorem swp_mm {r a b : Nat} (ha : a < r) (hb : b < r) (A : Mx p) (i : Nat) (hi : i < r) (j : Nat) : fdswp a b A i j = mm r (fdswp a b idM) A i j := by
  unfold fdswp
  by_cases h1 : i = a
  · subst h1; rw [if_pos rfl]; unfold mm; simp only [if_true]; exact (mm_id (A := A) (j := j) hb).symm
  · by_cases h2 : i = b
    · subst h2; rw [if_neg h1, if_pos rfl]; unfold mm; simp only [if_neg h1, if_true]; exact (mm_id (A := A) (j := j) ha).symm
    · rw [if_neg h1, if_neg h2]; unfold mm; simp only [if_neg h1, if_neg h2]; exact (mm_id (A := A) (j := j) hi).symm
omit [NeZero p] in
theorem swp_swp {a b : Nat} (A : Mx p) : fdswp a b (fdswp a b A) = A := by
  funext i j
  unfold fdswp
  by_cases h1 : i = a
  · subst h1
    by_cases h2 : b = i
    · subst h2; simp
    · simp [h2]
  · by_cases h2 : i = b
    · subst h2; simp [h1]
    · simp [h1, h2]
theorem REq.swp {r a b : Nat} (ha : a < r) (hb : b < r) (A : Mx p) : REq r A (fdswp a b A) :=
  .of _ _ (fun i hi j => swp_mm ha hb A i hi j) (fun i hi j => by
    have := swp_mm ha hb (Go.Proofs.YtdoogoglfbohaaaDoor.fdswp a b A) i hi j
    rwa [swp_swp] at this)

theorem scl_mm {r a : Nat} (x : Fin p) (A : Mx p) (i : Nat) (hi : i < r) (j : Nat) : scl a x A i j = mm r (scl a x idM) A i j := by
  unfold scl
  by_cases h1 : i = a
  · subst h1; rw [if_pos rfl]; unfold mm; simp only [if_true]
    have h : ∀ k, x * idM i k * A k j = x * (idM i k * A k j) := fun k => by grind
    rw [sm_congr (fun k _ => h k), sm_mull]
    congr 1
    exact (mm_id (A := A) (j := j) hi).symm
  · rw [if_neg h1]; unfold mm; simp only [if_neg h1]; exact (mm_id (A := A) (j := j) hi).symm
theorem scl_scl {a : Nat} {x y : Fin p} (h : y * x = 1) (A : Mx p) : scl a y (scl a x A) = A := by
  funext i j
  unfold scl
  by_cases h1 : i = a
  · subst h1; simp only [if_true]; grind
  · simp [h1]
theorem REq.scl {r a : Nat} {x y : Fin p} (h : y * x = 1) (A : Mx p) : REq r A (scl a x A) :=
  .of _ _ (fun i hi j => scl_mm x A i hi j) (fun i hi j => by
    have := scl_mm (r := r) (a := a) y (Go.Proofs.YtdoogoglfbohaaaDoor.scl a x A) i hi j
    rwa [scl_scl h] at this)

theorem elm_mm {r a : Nat} (ha : a < r) (y : Nat → Fin p) (A : Mx p) (i : Nat) (hi : i < r) (j : Nat) : elm a y A i j = mm r (elm a y idM) A i j := by
  unfold elm
  by_cases h1 : i = a
  · subst h1; rw [if_pos rfl]; unfold mm; simp only [if_true]; exact (mm_id (A := A) (j := j) hi).symm
  · rw [if_neg h1]; unfold mm; simp only [if_neg h1]
    have h : ∀ k, (idM i k + y i * idM a k) * A k j = idM i k * A k j + y i * (idM a k * A k j) := fun k => by grind
    rw [sm_congr (fun k _ => h k), sm_add, sm_mull]
    have h2 : sm r (fun k => idM i k * A k j) = A i j := mm_id hi
    have h3 : sm r (fun k => idM a k * A k j) = A a j := mm_id ha
    rw [h2, h3]
theorem elm_elm {a : Nat} (y : Nat → Fin p) (A : Mx p) : elm a (fun i => -y i) (elm a y A) = A := by
  funext i j
  unfold elm
  by_cases h1 : i = a
  · subst h1; simp
  · simp only [if_neg h1, if_true]; grind
theorem REq.elm {r a : Nat} (ha : a < r) (y : Nat → Fin p) (A : Mx p) : REq r A (elm a y A) :=
  .of _ _ (fun i hi j => elm_mm ha y A i hi j) (fun i hi j => by
    have := elm_mm ha (fun i => -y i) (Go.Proofs.YtdoogoglfbohaaaDoor.elm a y A) i hi j
    rwa [elm_elm] at this)

theorem fdRed.none (h : fdRed r c e k pv) (h0 : ∀ i, k ≤ i → i < r → e i c = 0) : fdRed r (c + 1) e k pv :=
  ⟨h.kr, h.inc, fun i hi => by have := h.lt i hi; omega, h.one, h.col, h.left, fun i j h1 h2 h3 => by
    by_cases hj : j = c
    · subst hj; exact h0 i h1 h2
    · exact h.rest i j h1 h2 (by omega)⟩

def pvt (k i c : Nat) (x : Fin p) (A : Mx p) : Mx p := fun a b =>
  if a = k then x * A i b else (if a = i then A k b else A a b) - (if a = i then A k c else A a c) * (x * A i b)

theorem pvt_eq {k i c : Nat} {x : Fin p} {A : Mx p} : pvt k i c x A = elm k (fun a => - (if a = i then A k c else A a c)) (scl k x (fdswp k i A)) := by
  funext a b
  unfold pvt elm scl fdswp
  by_cases h1 : a = k
  · subst h1; simp
  · simp only [if_neg h1, if_true]
    grind

theorem REq.pvt {r k i c : Nat} {x y : Fin p} (hk : k < r) (hi : i < r) (h : y * x = 1) (A : Mx p) : REq r A (pvt k i c x A) := by
  rw [pvt_eq]
  exact ((REq.swp hk hi A).trans (REq.scl h _)).trans (REq.elm hk _ _)

theorem fdRed.some (h : fdRed r c e k pv) {i : Nat} (hi : k ≤ i) (hir : i < r) {x : Fin p} (hx : x * e i c = 1) : fdRed r (c + 1) (pvt k i c x e) (k + 1) (fun t => if t = k then c else pv t) := by
  have hz : ∀ t j, k ≤ t → t < r → j < c → e t j = 0 := h.rest
  have hkr : k < r := by omega
  have hold : ∀ a b, a < r → b < c → a < k → pvt k i c x e a b = e a b := fun a b ha hb hak => by
    unfold pvt
    rw [if_neg (by omega), if_neg (by omega), if_neg (by omega), hz i b hi hir hb]; grind
  have hnew : ∀ a b, a < r → b < c → k ≤ a → pvt k i c x e a b = 0 := fun a b ha hb hak => by
    unfold pvt
    split
    · rw [hz i b hi hir hb]; grind
    · rw [hz i b hi hir hb]
      split
      · rw [hz k b (by omega) hkr hb]; grind
      · rw [hz a b hak ha hb]; grind
  have hk1 : pvt k i c x e k c = 1 := by unfold pvt; rw [if_pos rfl]; exact hx
  have hk0 : ∀ a, a ≠ k → pvt k i c x e a c = 0 := fun a ha => by unfold pvt; rw [if_neg ha, hx]; grind
  refine ⟨by omega, fun a b hab hb => ?_, fun a ha => ?_, fun a ha => ?_, fun a b ha hb hne => ?_, fun a b ha hb => ?_, fun a b ha har hb => ?_⟩
  · by_cases h1 : b = k
    · subst h1; rw [if_neg (by omega), if_pos rfl]; exact h.lt a hab
    · rw [if_neg (by omega), if_neg h1]; exact h.inc a b hab (by omega)
  · by_cases h1 : a = k
    · rw [if_pos h1]; omega
    · rw [if_neg h1]; have := h.lt a (by omega); omega
  · by_cases h1 : a = k
    · subst h1; rw [if_pos rfl]; exact hk1
    · rw [if_neg h1, hold a _ (by omega) (h.lt a (by omega)) (by omega)]; exact h.one a (by omega)
  · by_cases h1 : a = k
    · subst h1; rw [if_pos rfl]; exact hk0 b hne
    · rw [if_neg h1]
      have hlt := h.lt a (by omega)
      by_cases h2 : b < k
      · rw [hold b _ hb hlt h2]; exact h.col a b (by omega) hb hne
      · exact hnew b _ hb hlt (by omega)
  · by_cases h1 : a = k
    · subst h1; rw [if_pos rfl] at hb; exact hnew a b hkr hb (Nat.le_refl _)
    · rw [if_neg h1] at hb
      have hlt := h.lt a (by omega)
      rw [hold a b (by omega) (by omega) (by omega)]; exact h.left a b (by omega) hb
  · by_cases h1 : b = c
    · subst h1; exact hk0 a (by omega)
    · exact hnew a b har (by omega) (by omega)

theorem fdRed.start (r : Nat) (e : Mx p) (pv : Nat → Nat) : fdRed r 0 e 0 pv := ⟨by omega, fun _ _ _ h => by omega, fun _ h => by omega, fun _ h => by omega, fun _ _ h => by omega, fun _ _ h => by omega, fun _ _ _ _ h => by omega⟩

theorem fdRed.kc (h : fdRed r c e k pv) : k ≤ c := by
  have := inc_le (k' := c) (pv' := fun t => t) h.inc (fun _ _ a _ => a) (fun i hi => ⟨pv i, h.lt i hi, rfl⟩)
  exact this.1

theorem fdRed.free (h : fdRed r c e k pv) (hk : k < c) : ∃ j, j < c ∧ ∀ i, i < k → pv i ≠ j := by
  refine Classical.byContradiction fun hn => ?_
  have h1 : ∀ j, j < c → ∃ i, i < k ∧ j = pv i := fun j hj => by
    refine Classical.byContradiction fun h' => hn ⟨j, hj, fun i hi he => h' ⟨i, hi, he.symm⟩⟩
  have := (inc_le (k := c) (pv := fun t => t) (fun _ _ a _ => a) h.inc h1).1
  omega

end

theorem fdidx_lt {r c i j : Nat} (hi : i < r) (hj : j < c) : i * c + j < r * c := by
  have := Nat.mul_le_mul_right c (show i + 1 ≤ r by omega)
  rw [Nat.add_mul] at this
  omega
theorem idx_div {c i j : Nat} (hj : j < c) : (i * c + j) / c = i := by
  rw [Nat.mul_comm, Nat.mul_add_div (by omega), Nat.div_eq_of_lt hj]; omega
theorem idx_mod {c i j : Nat} (hj : j < c) : (i * c + j) % c = j := by
  rw [Nat.mul_comm, Nat.mul_add_mod, Nat.mod_eq_of_lt hj]
theorem idx_split {r c k : Nat} (h : k < r * c) : k / c < r ∧ k % c < c ∧ k = (k / c) * c + k % c := by
  have hc : 0 < c := Nat.pos_of_ne_zero fun e => by subst e; simp at h
  refine ⟨(Nat.div_lt_iff_lt_mul hc).2 h, Nat.mod_lt _ hc, ?_⟩
  have := Nat.div_add_mod k c
  rw [Nat.mul_comm] at this
  exact this.symm

def ent (c : Nat) (xs : List Nat) (i j : Nat) : Nat := xs.getD (i * c + j) 0

def tab2 (r c : Nat) (g : Nat → Nat → Nat) : List Nat := tab (r * c) fun k => g (k / c) (k % c)

@[simp] theorem tab2_len (r c : Nat) (g : Nat → Nat → Nat) : (tab2 r c g).length = r * c := tab_len _ _
theorem ent_tab2 {r c i j : Nat} {g : Nat → Nat → Nat} (hi : i < r) (hj : j < c) : ent c (tab2 r c g) i j = g i j := by
  unfold ent tab2
  rw [tab_getD (fdidx_lt hi hj), idx_div hj, idx_mod hj]
theorem tab2_congr {r c : Nat} {g g' : Nat → Nat → Nat} (h : ∀ i j, i < r → j < c → g i j = g' i j) : tab2 r c g = tab2 r c g' :=
  tab_congr fun k hk => by
    obtain ⟨h1, h2, _⟩ := idx_split hk
    exact h _ _ h1 h2
theorem tab2_set {r c i j x : Nat} {g : Nat → Nat → Nat} (hj : j < c) : (tab2 r c g).set (i * c + j) x = tab2 r c (fun a b => if a = i ∧ b = j then x else g a b) := by
  unfold tab2
  rw [tab_set]
  refine tab_congr fun k hk => ?_
  obtain ⟨h1, h2, h3⟩ := idx_split hk
  by_cases h : k = i * c + j
  · subst h
    rw [idx_div hj, idx_mod hj]; simp
  · have hne : ¬ (k / c = i ∧ k % c = j) := fun ⟨ha, hb⟩ => h (by rw [h3, ha, hb])
    rw [if_neg h]
    simp only [hne, if_false]
theorem tab2_of {r c : Nat} {xs : List Nat} (hl : xs.length = r * c) : tab2 r c (ent c xs) = xs := by
  refine Eq.trans (tab_congr fun k hk => ?_) (tab_of (d := 0) hl)
  obtain ⟨_, _, h3⟩ := idx_split hk
  unfold ent
  rw [← h3]
def sumTo : Nat → (Nat → Nat) → Nat
  | 0, _ => 0
  | k + 1, f => sumTo k f + f k

theorem Rt.ent {m : NM} (h : Rt m) (i j : Nat) : ent m.c m.e i j < m.p := h.lt' _

def addM (m n : NM) : NM := ⟨m.p, m.r, m.c, tab (m.r * m.c) fun i => (m.e.getD i 0 + n.e.getD i 0) % m.p⟩
def dot (m n : NM) (i j k : Nat) : Nat := sumTo k (fun t => ent m.c m.e i t * ent n.c n.e t j) % m.p
def mulM (m n : NM) : NM := ⟨m.p, m.r, n.c, tab2 m.r n.c fun i j => dot m n i j m.c⟩
def trM (m : NM) : NM := ⟨m.p, m.c, m.r, tab2 m.c m.r fun i j => ent m.c m.e j i⟩
def joinM (m n : NM) : NM := ⟨m.p, m.r, m.c + n.c, tab2 m.r (m.c + n.c) fun i j => if j < m.c then ent m.c m.e i j else ent n.c n.e i (j - m.c)⟩

theorem Rt.pos {m : NM} (h : Rt m) : 0 < m.p := by have := h.pr.1; omega
theorem tab_lt {n p : Nat} {g : Nat → Nat} (h : ∀ i, i < n → g i < p) : ∀ x ∈ tab n g, x < p := by
  intro x hx
  obtain ⟨i, hi, rfl⟩ := List.mem_map.1 hx
  exact h i (List.mem_range.1 hi)
theorem tab2_lt {r c p : Nat} {g : Nat → Nat → Nat} (h : ∀ i j, i < r → j < c → g i j < p) : ∀ x ∈ tab2 r c g, x < p :=
  tab_lt fun k hk => by obtain ⟨h1, h2, _⟩ := idx_split hk; exact h _ _ h1 h2

theorem Rt.add {m n : NM} (h : Rt m) : Rt (addM m n) := ⟨h.pr, h.r, h.c, by simp [addM], tab_lt fun i _ => Nat.mod_lt _ h.pos⟩
theorem Rt.mul {m n : NM} (h : Rt m) (h' : Rt n) : Rt (mulM m n) := ⟨h.pr, h.r, h'.c, by simp [mulM], tab2_lt (r := m.r) (c := n.c) (p := m.p) (g := fun i j => dot m n i j m.c) fun i j _ _ => Nat.mod_lt _ h.pos⟩
theorem Rt.tr {m : NM} (h : Rt m) : Rt (trM m) := ⟨h.pr, h.c, h.r, by simp [trM], tab2_lt (r := m.c) (c := m.r) (p := m.p) (g := fun i j => Go.Proofs.YtdoogoglfbohaaaDoor.ent m.c m.e j i) fun i j _ _ => h.ent _ _⟩
theorem Rt.join {m n : NM} (h : Rt m) (h' : Rt n) (hp : m.p = n.p) (hc : m.c + n.c ≤ 400) : Rt (joinM m n) := ⟨h.pr, h.r, hc, by simp [joinM], tab2_lt (r := m.r) (c := m.c + n.c) (p := m.p) (g := fun i j => if j < m.c then Go.Proofs.YtdoogoglfbohaaaDoor.ent m.c m.e i j else Go.Proofs.YtdoogoglfbohaaaDoor.ent n.c n.e i (j - m.c)) fun i j _ _ => by
  show (if j < m.c then _ else _) < m.p
  split
  · exact h.ent _ _
  · rw [hp]; exact h'.ent _ _⟩

theorem dot_zero (m n : NM) (i j : Nat) : dot m n i j 0 = 0 := by simp [dot, sumTo]
theorem dot_succ (m n : NM) (i j k : Nat) : (dot m n i j k + ent m.c m.e i k * ent n.c n.e k j) % m.p = dot m n i j (k + 1) := by
  simp only [dot, sumTo]
  rw [Nat.add_mod, Nat.mod_mod, ← Nat.add_mod]

def zeroV : Value := .agg #[iv 0, iv 0, iv 0, .slice none 0 0]
def fdGivesMB (m : NM) (w : World) (v : Value) (w' : World) : Prop := ∃ N u, v = .tuple #[u, .bool true] ∧ New N w w' ∧ fdOwnM N u m
def fdGivesM (m : NM) (w : World) (v : Value) (w' : World) : Prop := ∃ N, New N w w' ∧ fdOwnM N v m


theorem noDiv_sqrt {p k : Nat} (h2 : 2 ≤ p) (hk : p < k * k) (h : ∀ d, 2 ≤ d → d < k → p % d ≠ 0) : ∀ d, 2 ≤ d → d < p → p % d ≠ 0 := by
  intro d hd hdp h0
  by_cases hlt : d < k
  · exact h d hd hlt h0
  · have hdk : k ≤ d := by omega
    obtain ⟨q, hq⟩ := Nat.dvd_of_mod_eq_zero h0
    have hq2 : 2 ≤ q := by
      rcases Nat.lt_or_ge q 2 with h' | h'
      · have : q = 0 ∨ q = 1 := by omega
        rcases this with rfl | rfl
        · omega
        · omega
      · exact h'
    have hqk : q < k := by
      rcases Nat.lt_or_ge q k with h' | h'
      · exact h'
      · have := Nat.mul_le_mul hdk h'
        omega
    exact h q hq2 hqk (Nat.mod_eq_zero_of_dvd ⟨d, by rw [hq, Nat.mul_comm]⟩)

def BoolIs (q : Prop) (v : Value) : Prop := ∃ b : Bool, v = .bool b ∧ (b = true ↔ q)
theorem BoolIs.mk {q : Prop} {b : Bool} (h : b = true ↔ q) : BoolIs q (.bool b) := ⟨b, rfl, h⟩
theorem BoolIs.t {q : Prop} (h : q) : BoolIs q (.bool true) := ⟨true, rfl, by simp [h]⟩
theorem BoolIs.f {q : Prop} (h : ¬ q) : BoolIs q (.bool false) := ⟨false, rfl, by simp [h]⟩

def IsPr (p : Int) : Prop := ∃ q : Nat, p = q ∧ Pr q

theorem not_pr {p : Int} (h : ¬ (2 ≤ p ∧ p ≤ 997)) : ¬ IsPr p := by
  rintro ⟨q, rfl, h1, h2, _⟩
  omega

theorem isPr_nat {p : Nat} (h2 : 2 ≤ p) (h9 : p ≤ 997) (h : ∀ d, 2 ≤ d → d < p → p % d ≠ 0) : IsPr p := ⟨p, rfl, h2, h9, h⟩
theorem not_isPr {p d : Nat} (h2 : 2 ≤ d) (h9 : d < p) (h : p % d = 0) : ¬ IsPr p := by
  rintro ⟨q, hq, hp⟩
  have : p = q := by omega
  subst this
  exact hp.2.2 d h2 h9 h

set_option maxHeartbeats 1000000 in
theorem c_Prime (p : Int) (w : World) : Calls Tryd.prog 6 #[.int .i64 p] w (Ret fun v w' => Kp [] w w' ∧ BoolIs (IsPr p) v) := by
  by_cases h : 2 ≤ p ∧ p ≤ 997
  · obtain ⟨h2, h9⟩ := h
    obtain ⟨p, rfl⟩ := Int.eq_ofNat_of_zero_le (show 0 ≤ p by omega)
    refine calls_of_S [] [] (by simp) [] Tryd.func6 rfl mixed (by kernel_rfl) Tryd.ntmps6 Tryd.results6 rfl ⟨by simp, by simp⟩ (by simp) ?_
    simp only [toS, textOps, toSOp, kindAt, kindOf, odAt, sopsAt, ordOf, zipF]
    (repeat' (first | refine JC.seq ?_ | refine JC.ops ?_ | refine JO.nil ?_ | refine JX.thenN ?_ | (apply r_move; (iterate 3 exact rfl)) | (apply r_assign; (iterate 3 exact rfl)) | (apply r_pickF; (iterate 4 exact rfl)) | (apply r_lss; (iterate 4 exact rfl); all_goals intro hc; all_goals try (exfalso; omega)) | (apply r_gtr; (iterate 4 exact rfl); all_goals intro hc; all_goals try (exfalso; omega)) | refine JC.skip ?_ | refine JC.condF rfl ?_ | refine JC.block ?_))
    refine JC.loop (ι := Nat) ⟨fun k => [(0, .int .i64 p), (3, .int .i64 k)], fun _ => [], fun k => 2 ≤ k ∧ k ≤ p ∧ ∀ d, 2 ≤ d → d < k → p % d ≠ 0, fun k => p - k⟩ 2 [] ⟨by omega, by omega, fun d h h' => by omega⟩ ⟨rfl, rfl, trivial⟩ trivial (by simp) (fun k hk => ?_)
    obtain ⟨hk2, hkp, hnd⟩ := hk
    dsimp only
    have hkk : k * k < 9223372036854775808 := by have := Nat.mul_le_mul hkp hkp; have := Nat.mul_le_mul (show p ≤ 997 by omega) (show p ≤ 997 by omega); omega
    have hlin : 2 * k ≤ k * k := Nat.mul_le_mul_right k hk2
    (repeat' (first | refine JC.seq ?_ | refine JC.ops ?_ | refine JO.nil ?_ | refine JX.thenN ?_ | (apply r_move; (iterate 3 exact rfl)) | (apply r_assign; (iterate 3 exact rfl)) | (apply r_add1; (iterate 4 exact rfl); omega) | (apply r_mulN; (iterate 4 exact rfl); (first | assumption | omega)) | (apply r_modN; (iterate 4 exact rfl); omega) | (apply r_leq; (iterate 4 exact rfl); all_goals intro hc; all_goals try (exfalso; omega)) | (apply r_eql; (iterate 4 exact rfl); all_goals intro hc; all_goals try (exfalso; omega)) | refine JX.thenE ?_ | refine JX.thenR ?_ | refine JC.skip ?_ | refine JC.exit ?_ | refine JC.ret ?_ | refine JC.condT rfl ?_ | refine JC.condF rfl ?_ | refine JC.block ?_ | refine JX.blockN ?_ | refine JX.blockR ?_ | refine JX.blockE ?_))
    · exact JX.ret1 rfl (fun a w st => ⟨st.kp, BoolIs.f (not_isPr hk2 (by omega) (by omega))⟩)
    · refine JX.round (k + 1) [] ⟨by omega, by omega, fun d h h' => ?_⟩ (by dsimp only; omega) ⟨rfl, rfl, trivial⟩ trivial (by simp)
      by_cases hd : d = k
      · subst hd; omega
      · exact hnd d h (by omega)
    · exact JX.ret1 rfl (fun a w st => ⟨st.kp, BoolIs.t (isPr_nat (by omega) (by omega) (noDiv_sqrt (by omega) (by omega) hnd))⟩)
  · refine calls_of_S [] [] (by simp) [] Tryd.func6 rfl mixed (by kernel_rfl) Tryd.ntmps6 Tryd.results6 rfl ⟨by simp, by simp⟩ (by simp) ?_
    simp only [toS, textOps, toSOp, kindAt, kindOf, odAt, sopsAt, ordOf, zipF]
    (repeat' (first | refine JC.seq ?_ | refine JC.ops ?_ | refine JO.nil ?_ | refine JX.thenN ?_ | (apply r_move; (iterate 3 exact rfl)) | (apply r_assign; (iterate 3 exact rfl)) | (apply r_pickT; (iterate 4 exact rfl)) | (apply r_pickF; (iterate 4 exact rfl)) | (apply r_lss; (iterate 4 exact rfl); all_goals intro hc; all_goals try (exfalso; omega)) | (apply r_gtr; (iterate 4 exact rfl); all_goals intro hc; all_goals try (exfalso; omega)) | refine JX.thenR ?_ | refine JC.ret ?_ | refine JC.condT rfl ?_ | (apply r_skip; exact rfl; exact rfl; (first | (intro h; cases h; done) | (intro _; rfl)))))
    all_goals exact JX.ret1 rfl (fun a w st => ⟨st.kp, BoolIs.f (not_pr h)⟩)

set_option maxHeartbeats 1000000 in
theorem c_refPrime (p : Int) (w : World) : Calls Tryd.prog 7 #[.int .i64 p] w (Ret fun v w' => Kp [] w w' ∧ BoolIs (IsPr p) v) := by
  by_cases h : 2 ≤ p ∧ p ≤ 997
  · obtain ⟨h2, h9⟩ := h
    obtain ⟨p, rfl⟩ := Int.eq_ofNat_of_zero_le (show 0 ≤ p by omega)
    refine calls_of_S [] [] (by simp) [] Tryd.func7 rfl mixed (by kernel_rfl) Tryd.ntmps7 Tryd.results7 rfl ⟨by simp, by simp⟩ (by simp) ?_
    simp only [toS, textOps, toSOp, kindAt, kindOf, odAt, sopsAt, ordOf, zipF]
    (repeat' (first | refine JC.seq ?_ | refine JC.ops ?_ | refine JO.nil ?_ | refine JX.thenN ?_ | (apply r_move; (iterate 3 exact rfl)) | (apply r_assign; (iterate 3 exact rfl)) | (apply r_pickF; (iterate 4 exact rfl)) | (apply r_lss; (iterate 4 exact rfl); all_goals intro hc; all_goals try (exfalso; omega)) | (apply r_gtr; (iterate 4 exact rfl); all_goals intro hc; all_goals try (exfalso; omega)) | refine JC.skip ?_ | refine JC.condF rfl ?_ | refine JC.block ?_))
    refine JC.loop (ι := Nat) ⟨fun k => [(0, .int .i64 p), (3, .int .i64 k)], fun _ => [], fun k => 2 ≤ k ∧ k ≤ p ∧ ∀ d, 2 ≤ d → d < k → p % d ≠ 0, fun k => p - k⟩ 2 [] ⟨by omega, by omega, fun d h h' => by omega⟩ ⟨rfl, rfl, trivial⟩ trivial (by simp) (fun k hk => ?_)
    obtain ⟨hk2, hkp, hnd⟩ := hk
    dsimp only
    (repeat' (first | refine JC.seq ?_ | refine JC.ops ?_ | refine JO.nil ?_ | refine JX.thenN ?_ | (apply r_move; (iterate 3 exact rfl)) | (apply r_assign; (iterate 3 exact rfl)) | (apply r_add1; (iterate 4 exact rfl); omega) | (apply r_modN; (iterate 4 exact rfl); omega) | (apply r_lss; (iterate 4 exact rfl); all_goals intro hc; all_goals try (exfalso; omega)) | (apply r_eql; (iterate 4 exact rfl); all_goals intro hc; all_goals try (exfalso; omega)) | refine JX.thenE ?_ | refine JX.thenR ?_ | refine JC.skip ?_ | refine JC.exit ?_ | refine JC.ret ?_ | refine JC.condT rfl ?_ | refine JC.condF rfl ?_ | refine JC.block ?_ | refine JX.blockN ?_ | refine JX.blockR ?_ | refine JX.blockE ?_))
    · exact JX.ret1 rfl (fun a w st => ⟨st.kp, BoolIs.f (not_isPr hk2 (by omega) (by omega))⟩)
    · refine JX.round (k + 1) [] ⟨by omega, by omega, fun d h h' => ?_⟩ (by dsimp only; omega) ⟨rfl, rfl, trivial⟩ trivial (by simp)
      by_cases hd : d = k
      · subst hd; omega
      · exact hnd d h (by omega)
    · exact JX.ret1 rfl (fun a w st => ⟨st.kp, BoolIs.t (isPr_nat (by omega) (by omega) (fun d h h' => hnd d h (by omega)))⟩)
  · refine calls_of_S [] [] (by simp) [] Tryd.func7 rfl mixed (by kernel_rfl) Tryd.ntmps7 Tryd.results7 rfl ⟨by simp, by simp⟩ (by simp) ?_
    simp only [toS, textOps, toSOp, kindAt, kindOf, odAt, sopsAt, ordOf, zipF]
    (repeat' (first | refine JC.seq ?_ | refine JC.ops ?_ | refine JO.nil ?_ | refine JX.thenN ?_ | (apply r_move; (iterate 3 exact rfl)) | (apply r_assign; (iterate 3 exact rfl)) | (apply r_pickT; (iterate 4 exact rfl)) | (apply r_pickF; (iterate 4 exact rfl)) | (apply r_lss; (iterate 4 exact rfl); all_goals intro hc; all_goals try (exfalso; omega)) | (apply r_gtr; (iterate 4 exact rfl); all_goals intro hc; all_goals try (exfalso; omega)) | refine JX.thenR ?_ | refine JC.ret ?_ | refine JC.condT rfl ?_ | (apply r_skip; exact rfl; exact rfl; (first | (intro h; cases h; done) | (intro _; rfl)))))
    all_goals exact JX.ret1 rfl (fun a w st => ⟨st.kp, BoolIs.f (not_pr h)⟩)

theorem Fits.iff {p r c : Int} : Fits p r c ↔ IsPr p ∧ 0 ≤ r ∧ r ≤ 400 ∧ 0 ≤ c ∧ c ≤ 400 := by
  constructor
  · rintro ⟨p', r', c', rfl, rfl, rfl, h1, h2, h3⟩
    exact ⟨⟨p', rfl, h1⟩, by omega, by omega, by omega, by omega⟩
  · rintro ⟨⟨p', rfl, h⟩, h1, h2, h3, h4⟩
    exact ⟨p', r.toNat, c.toNat, rfl, by omega, by omega, h, by omega, by omega⟩

set_option maxHeartbeats 1000000 in
theorem fdc_fits (p r c : Int) (w : World) : Calls Tryd.prog 49 #[.int .i64 p, .int .i64 r, .int .i64 c] w (Ret fun v w' => Kp [] w w' ∧ BoolIs (Fits p r c) v) := by
  refine calls_of_S [] [] (by simp) [] Tryd.func49 rfl mixed (by kernel_rfl) Tryd.ntmps49 Tryd.results49 rfl ⟨by simp, by simp⟩ (by simp) ?_
  simp only [toS, textOps, toSOp, kindAt, kindOf, odAt, sopsAt, ordOf, zipF]
  (repeat' (first | refine JC.seq ?_ | refine JC.ops ?_ | refine JO.nil ?_ | refine JX.thenN ?_ | (apply r_move; (iterate 3 exact rfl)) | (apply r_assign; (iterate 3 exact rfl))))
  refine r_call0 trivial rfl rfl rfl (fun w _ _ => c_Prime p w) fun w v w' _ _ _ hR => ?_
  obtain ⟨b, rfl, hb⟩ := hR
  cases b <;> (repeat' (first | refine JO.nil ?_ | refine JX.thenN ?_ | (apply r_move; (iterate 3 exact rfl)) | (apply r_assign; (iterate 3 exact rfl)) | (apply r_min; (iterate 4 exact rfl)) | (apply r_max; (iterate 4 exact rfl)) | (apply r_pickT; (iterate 4 exact rfl)) | (apply r_pickF; (iterate 4 exact rfl)) | (apply r_leq; (iterate 4 exact rfl); all_goals intro hc; all_goals try (exfalso; omega)) | (apply r_geq; (iterate 4 exact rfl); all_goals intro hc; all_goals try (exfalso; omega)) | refine JC.ret ?_ | (apply r_skip; exact rfl; exact rfl; (first | (intro h; cases h; done) | (intro _; rfl)))))
  all_goals first | exact JX.ret1 rfl (fun a w st => ⟨st.kp, BoolIs.t (by rw [Fits.iff]; exact ⟨hb.1 rfl, by omega⟩)⟩) | exact JX.ret1 rfl (fun a w st => ⟨st.kp, BoolIs.f (by rw [Fits.iff]; rintro ⟨h1, h2⟩; first | omega | (split at hc <;> omega) | exact absurd (hb.2 h1) Bool.false_ne_true)⟩)

theorem fdc_refFits (r c : Int) (w : World) : Calls Tryd.prog 50 #[.int .i64 r, .int .i64 c] w (Ret fun v w' => Kp [] w w' ∧ BoolIs (0 ≤ r ∧ r ≤ 400 ∧ 0 ≤ c ∧ c ≤ 400) v) := by
  refine calls_of_S [] [] (by simp) [] Tryd.func50 rfl mixed (by kernel_rfl) Tryd.ntmps50 Tryd.results50 rfl ⟨by simp, by simp⟩ (by simp) ?_
  simp only [toS, textOps, toSOp, kindAt, kindOf, odAt, sopsAt, ordOf, zipF]
  (repeat' (first | refine JC.seq ?_ | refine JC.ops ?_ | refine JO.nil ?_ | refine JX.thenN ?_ | (apply r_move; (iterate 3 exact rfl)) | (apply r_assign; (iterate 3 exact rfl)) | (apply r_pickT; (iterate 4 exact rfl)) | (apply r_pickF; (iterate 4 exact rfl)) | (apply r_leq; (iterate 4 exact rfl); all_goals intro hc; all_goals try (exfalso; omega)) | (apply r_geq; (iterate 4 exact rfl); all_goals intro hc; all_goals try (exfalso; omega)) | refine JC.ret ?_ | (apply r_skip; exact rfl; exact rfl; (first | (intro h; cases h; done) | (intro _; rfl)))))
  all_goals first | exact JX.ret1 rfl (fun a w st => ⟨st.kp, BoolIs.t (by omega)⟩) | exact JX.ret1 rfl (fun a w st => ⟨st.kp, BoolIs.f (by omega)⟩)

def fdZeros (p r c : Nat) (w : World) (v : Value) (w' : World) : Prop := ∃ N E, New N w w' ∧ v = .agg #[nv p, nv r, nv c, E] ∧ OwnN N E (r * c) (tab (r * c) fun _ => 0)

theorem rc_le {r c : Nat} (hr : r ≤ 400) (hc : c ≤ 400) : r * c ≤ 160000 := Nat.mul_le_mul hr hc

set_option maxHeartbeats 1000000 in
theorem c_zero (p r c : Nat) (hp : Pr p) (hr : r ≤ 400) (hc : c ≤ 400) (w : World) : Calls Tryd.prog 28 #[.int .i64 p, .int .i64 r, .int .i64 c] w (Ret fun v w' => Kp [] w w' ∧ fdZeros p r c w v w') := by
  have hb := rc_le hr hc
  refine calls_of_S [] [] (by simp) [] Tryd.func28 rfl mixed (by kernel_rfl) Tryd.ntmps28 Tryd.results28 rfl ⟨by simp, by simp⟩ (by simp) ?_
  simp only [toS, textOps, toSOp, kindAt, kindOf, odAt, sopsAt, ordOf, zipF]
  (repeat' (first | refine JC.seq ?_ | refine JC.ops ?_ | refine JO.nil ?_ | refine JX.thenN ?_ | (apply r_move; (iterate 3 exact rfl)) | (apply r_allocZ; (iterate 3 exact rfl); intro _)))
  refine r_call0 trivial rfl rfl rfl (fun w _ _ => fdc_fits p r c w) fun w v w' _ _ _ hR => ?_
  obtain ⟨b, rfl, hb⟩ := hR
  obtain rfl := hb.2 ⟨p, r, c, rfl, rfl, rfl, hp, hr, hc⟩
  (repeat' (first | refine JC.seq ?_ | refine JC.ops ?_ | refine JO.nil ?_ | refine JX.thenN ?_ | (apply r_move; (iterate 3 exact rfl)) | (apply r_mulN; (iterate 4 exact rfl); (first | assumption | omega)) | (apply r_not; (iterate 3 exact rfl)) | refine JC.skip ?_ | refine JC.condF rfl ?_))
  refine r_make rfl rfl rfl rfl rfl (by omega) (by omega) (fun b => ?_)
  (repeat' (first | refine JO.nil ?_ | refine JX.thenN ?_ | (apply r_buildL; (iterate 5 exact rfl)) | (apply r_storeN; exact rfl; (first | exact trivial | exact ⟨rfl, rfl⟩); exact rfl; exact rfl; (first | exact at0 | exact at1 | exact at2 | exact at3 | exact at4 | exact at5 | exact at6 | exact at7); (iterate 3 exact rfl)) | refine JC.ret ?_))
  have := own_zeros b (r * c) (by simp only [maxLen]; omega)
  exact JX.retC 1 rfl rfl rfl (fun a w st => ⟨st.kp, _, _, st.newOf rfl (HSub.at 0 rfl (HSub.nil _)), rfl, this⟩)

set_option maxHeartbeats 1000000 in
theorem c_zeroF (p r c : Int) (hn : ¬ Fits p r c) (w : World) : Calls Tryd.prog 28 #[.int .i64 p, .int .i64 r, .int .i64 c] w (Ret fun v w' => Kp [] w w' ∧ v = zeroV) := by
  refine calls_of_S [] [] (by simp) [] Tryd.func28 rfl mixed (by kernel_rfl) Tryd.ntmps28 Tryd.results28 rfl ⟨by simp, by simp⟩ (by simp) ?_
  simp only [toS, textOps, toSOp, kindAt, kindOf, odAt, sopsAt, ordOf, zipF]
  (repeat' (first | refine JC.seq ?_ | refine JC.ops ?_ | refine JO.nil ?_ | refine JX.thenN ?_ | (apply r_move; (iterate 3 exact rfl)) | (apply r_allocZ; (iterate 3 exact rfl); intro _)))
  refine r_call0 trivial rfl rfl rfl (fun w _ _ => fdc_fits p r c w) fun w v w' _ _ _ hR => ?_
  obtain ⟨b, rfl, hb⟩ := hR
  cases b with
  | true => exact absurd (hb.1 rfl) hn
  | false =>
    (repeat' (first | refine JC.seq ?_ | refine JC.ops ?_ | refine JO.nil ?_ | refine JX.thenN ?_ | (apply r_not; (iterate 3 exact rfl)) | (apply r_buildL; (iterate 5 exact rfl)) | (apply r_storeN; exact rfl; (first | exact trivial | exact ⟨rfl, rfl⟩); exact rfl; exact rfl; (first | exact at0 | exact at1 | exact at2 | exact at3 | exact at4 | exact at5 | exact at6 | exact at7); (iterate 3 exact rfl)) | refine JX.thenR ?_ | refine JC.ret ?_ | refine JC.condT rfl ?_))
    exact JX.retC 0 rfl rfl rfl (fun a w st => ⟨st.kp, rfl⟩)

set_option maxHeartbeats 1000000 in
theorem fdc_refZero (p r c : Nat) (hp : Pr p) (hr : r ≤ 400) (hc : c ≤ 400) (w : World) : Calls Tryd.prog 29 #[.int .i64 p, .int .i64 r, .int .i64 c] w (Ret fun v w' => Kp [] w w' ∧ fdZeros p r c w v w') := by
  have hb := rc_le hr hc
  refine calls_of_S [] [] (by simp) [] Tryd.func29 rfl mixed (by kernel_rfl) Tryd.ntmps29 Tryd.results29 rfl ⟨by simp, by simp⟩ (by simp) ?_
  simp only [toS, textOps, toSOp, kindAt, kindOf, odAt, sopsAt, ordOf, zipF]
  (repeat' (first | refine JC.seq ?_ | refine JC.ops ?_ | refine JO.nil ?_ | refine JX.thenN ?_ | (apply r_move; (iterate 3 exact rfl)) | (apply r_allocZ; (iterate 3 exact rfl); intro _)))
  refine r_call0 trivial rfl rfl rfl (fun w _ _ => c_refPrime p w) fun w v w' _ _ _ hR => ?_
  obtain ⟨b, rfl, hb⟩ := hR
  obtain rfl := hb.2 ⟨p, rfl, hp⟩
  (repeat' (first | refine JC.seq ?_ | refine JC.ops ?_ | refine JO.nil ?_ | refine JX.thenN ?_ | (apply r_move; (iterate 3 exact rfl)) | (apply r_assign; (iterate 3 exact rfl))))
  refine r_call0 trivial rfl rfl rfl (fun w _ _ => fdc_refFits r c w) fun w v w' _ _ _ hR => ?_
  obtain ⟨b, rfl, hb⟩ := hR
  obtain rfl := hb.2 (by omega)
  (repeat' (first | refine JC.seq ?_ | refine JC.ops ?_ | refine JO.nil ?_ | refine JX.thenN ?_ | (apply r_move; (iterate 3 exact rfl)) | (apply r_assign; (iterate 3 exact rfl)) | (apply r_mulN; (iterate 4 exact rfl); (first | assumption | omega)) | (apply r_pickF; (iterate 4 exact rfl)) | (apply r_not; (iterate 3 exact rfl)) | refine JC.skip ?_ | refine JC.condF rfl ?_))
  refine r_make rfl rfl rfl rfl rfl (by omega) (by omega) (fun b => ?_)
  (repeat' (first | refine JO.nil ?_ | refine JX.thenN ?_ | (apply r_buildL; (iterate 5 exact rfl)) | (apply r_storeN; exact rfl; (first | exact trivial | exact ⟨rfl, rfl⟩); exact rfl; exact rfl; (first | exact at0 | exact at1 | exact at2 | exact at3 | exact at4 | exact at5 | exact at6 | exact at7); (iterate 3 exact rfl)) | refine JC.ret ?_))
  have := own_zeros b (r * c) (by simp only [maxLen]; omega)
  exact JX.retC 1 rfl rfl rfl (fun a w st => ⟨st.kp, _, _, st.newOf rfl (HSub.at 0 rfl (HSub.nil _)), rfl, this⟩)

set_option maxHeartbeats 1000000 in
theorem fdc_refZeroF (p r c : Int) (hn : ¬ Fits p r c) (w : World) : Calls Tryd.prog 29 #[.int .i64 p, .int .i64 r, .int .i64 c] w (Ret fun v w' => Kp [] w w' ∧ v = zeroV) := by
  refine calls_of_S [] [] (by simp) [] Tryd.func29 rfl mixed (by kernel_rfl) Tryd.ntmps29 Tryd.results29 rfl ⟨by simp, by simp⟩ (by simp) ?_
  simp only [toS, textOps, toSOp, kindAt, kindOf, odAt, sopsAt, ordOf, zipF]
  (repeat' (first | refine JC.seq ?_ | refine JC.ops ?_ | refine JO.nil ?_ | refine JX.thenN ?_ | (apply r_move; (iterate 3 exact rfl)) | (apply r_allocZ; (iterate 3 exact rfl); intro _)))
  refine r_call0 trivial rfl rfl rfl (fun w _ _ => c_refPrime p w) fun w v w' _ _ _ hR => ?_
  obtain ⟨b, rfl, hb⟩ := hR
  (repeat' (first | refine JC.seq ?_ | refine JC.ops ?_ | refine JO.nil ?_ | refine JX.thenN ?_ | (apply r_move; (iterate 3 exact rfl)) | (apply r_assign; (iterate 3 exact rfl))))
  refine r_call0 trivial rfl rfl rfl (fun w _ _ => fdc_refFits r c w) fun w v w' _ _ _ hR => ?_
  obtain ⟨b', rfl, hb'⟩ := hR
  cases b <;> cases b'
  all_goals try (exfalso; exact hn (Fits.iff.2 ⟨hb.1 rfl, by have := hb'.1 rfl; omega⟩))
  all_goals (repeat' (first | refine JC.seq ?_ | refine JC.ops ?_ | refine JO.nil ?_ | refine JX.thenN ?_ | (apply r_move; (iterate 3 exact rfl)) | (apply r_assign; (iterate 3 exact rfl)) | (apply r_pickT; (iterate 4 exact rfl)) | (apply r_pickF; (iterate 4 exact rfl)) | (apply r_not; (iterate 3 exact rfl)) | (apply r_buildL; (iterate 5 exact rfl)) | (apply r_storeN; exact rfl; (first | exact trivial | exact ⟨rfl, rfl⟩); exact rfl; exact rfl; (first | exact at0 | exact at1 | exact at2 | exact at3 | exact at4 | exact at5 | exact at6 | exact at7); (iterate 3 exact rfl)) | refine JX.thenR ?_ | refine JC.ret ?_ | refine JC.condT rfl ?_ | (apply r_skip; exact rfl; exact rfl; (first | (intro h; cases h; done) | (intro _; rfl)))))
  all_goals exact JX.retC 0 rfl rfl rfl (fun a w st => ⟨st.kp, rfl⟩)

def RF (a : FM) : Prop := ∃ m, Rt m ∧ a = m.fm

theorem RF.iff {p r c : Nat} {E : List Int} (hp : Pr p) (hr : r ≤ 400) (hc : c ≤ 400) : RF ⟨p, r, c, E⟩ ↔ E.length = r * c ∧ ∀ x ∈ E, 0 ≤ x ∧ x < p := by
  constructor
  · rintro ⟨⟨p', r', c', e⟩, hm, he⟩
    simp only [NM.fm, FM.mk.injEq] at he
    obtain ⟨h1, h2, h3, rfl⟩ := he
    have h1 : p = p' := by omega
    have h2 : r = r' := by omega
    have h3 : c = c' := by omega
    subst h1 h2 h3
    refine ⟨by simpa using hm.len, fun x hx => ?_⟩
    obtain ⟨y, hy, rfl⟩ := List.mem_map.1 hx
    have := hm.lt y hy
    simp only at this
    constructor
    · exact Int.natCast_nonneg y
    · show (y : Int) < p; omega
  · rintro ⟨hl, hx⟩
    refine ⟨⟨p, r, c, E.map Int.toNat⟩, ⟨hp, hr, hc, by simpa using hl, fun y hy => ?_⟩, ?_⟩
    · obtain ⟨x, hx', rfl⟩ := List.mem_map.1 hy
      have := hx x hx'
      simp only; omega
    · simp only [NM.fm, ints, List.map_map, FM.mk.injEq, true_and]
      have : E.map (Int.ofNat ∘ Int.toNat) = E.map id := List.map_congr_left fun x hx' => by
        have := hx x hx'
        simp only [Function.comp_apply, id]
        exact Int.toNat_of_nonneg this.1
      rw [this, List.map_id]

theorem RF.fits {a : FM} (h : RF a) : Fits a.P a.R a.C := by
  obtain ⟨m, hm, rfl⟩ := h
  exact hm.fits

def outside (p x : Int) : Bool := decide (x < 0 ∨ p ≤ x)

theorem c_Right1 (w : World) (b : Nat) (p R C : Int) (E : Value) (x : Int) (hb : w.heap[b]? = some (.cells #[iv p, iv R, iv C, E] 30)) :
    Calls Tryd.prog 67 #[iv x, .pointer (some ⟨b, 0, none⟩)] w (Ret fun v w' => Kp [] w w' ∧ v = .bool (outside p x)) := by
  have hlt : b < w.heap.size := by
    rcases Nat.lt_or_ge b w.heap.size with h | h
    · exact h
    · rw [Array.getElem?_eq_none h] at hb; cases hb
  refine calls_of_S [] [b] (by simpa using hlt) [(b, .cells #[iv p, iv R, iv C, E] 30)] Tryd.func67 rfl mixed (by kernel_rfl) Tryd.ntmps67 Tryd.results67 rfl ⟨by simp, by simpa using hb⟩ (by simp) ?_
  simp only [toS, textOps, toSOp, kindAt, kindOf, odAt, sopsAt, ordOf, zipF]
  (repeat' (first | refine JC.seq ?_ | refine JC.ops ?_ | refine JO.nil ?_ | refine JX.thenN ?_ | (apply r_move; (iterate 3 exact rfl)) | (apply r_fieldAddr; (iterate 3 exact rfl)) | (apply r_assign; (iterate 3 exact rfl)) | (apply r_load; (iterate 4 exact rfl); (first | exact at0 | exact at1 | exact at2 | exact at3 | exact at4 | exact at5 | exact at6 | exact at7); exact rfl) | (apply r_pickT; (iterate 4 exact rfl)) | (apply r_pickF; (iterate 4 exact rfl)) | (apply r_lss; (iterate 4 exact rfl); all_goals intro hc; all_goals try (exfalso; omega)) | (apply r_geq; (iterate 4 exact rfl); all_goals intro hc; all_goals try (exfalso; omega)) | refine JC.ret ?_ | (apply r_skip; exact rfl; exact rfl; (first | (intro h; cases h; done) | (intro _; rfl)))))
  all_goals refine JX.ret1 rfl (fun a w' st => ⟨?_, ?_⟩)
  all_goals first | (unfold outside; congr 1; simp; omega) | skip
  all_goals (have hb' := st.hs.blk _ (List.mem_cons_self); exact ⟨st.kp.os, st.kp.tape, st.kp.output, st.kp.size, fun k hk _ => by
    by_cases h : k = b
    · subst h; exact hb'.trans hb.symm
    · exact st.kp.block k hk (by simpa using h)⟩)

set_option maxHeartbeats 1000000 in
theorem c_IndexFunc {f : FuncId} [TF Tryd.prog f] {fst cap : Array Value} (pred : Int → Bool) (w : World) (E : Value) (n : Nat) (xs : List Int) (hE : WI w E n xs) (hn : n < 9223372036854775807)
    (hcl : ∀ x w', Kp [] w w' → Calls Tryd.prog f (fst ++ #[iv x] ++ cap) w' (Ret fun v w'' => Kp [] w' w'' ∧ v = .bool (pred x))) :
    Calls Tryd.prog 87 #[E, .func (.func f) fst cap] w (Ret fun v w' => Kp [] w w' ∧ ∃ i : Int, v = iv i ∧ (0 ≤ i ↔ ∃ x ∈ xs, pred x = true)) := by
  refine calls_of_S [] [] (by simp) [] Tryd.func87 rfl mixed (by kernel_rfl) Tryd.ntmps87 Tryd.results87 rfl ⟨by simp, by simp⟩ (by simp) ?_
  simp only [toS, textOps, toSOp, kindAt, kindOf, odAt, sopsAt, ordOf, zipF]
  have hR := WI.rd (c := ⟨Tryd.prog, 19, w, [], by simp⟩) hE rfl []
  (repeat' (first | refine JC.seq ?_ | refine JC.ops ?_ | refine JO.nil ?_ | refine JX.thenN ?_ | (apply r_move; (iterate 3 exact rfl)) | (apply r_assign; (iterate 3 exact rfl)) | (apply r_lenI; (iterate 3 exact rfl); (first | assumption | exact WI.rd (by assumption) rfl [] | exact OwnI.rd (by assumption))) | refine JC.block ?_))
  refine JC.loopH (ι := Nat) ⟨fun k => [(8, nv k), (7, nv n), (0, E), (1, .func (.func f) fst cap)], fun _ => [], fun k => k ≤ n ∧ ∀ i, i < k → pred (xs.getD i 0) = false, fun k => n - k⟩ 0 ⟨by omega, fun i h => by omega⟩ ⟨rfl, rfl, rfl, rfl, trivial⟩ (HSub.nil _) (fun k hk => ?_)
  obtain ⟨hkn, hpr⟩ := hk
  dsimp only
  (repeat' (first | refine JC.seq ?_ | refine JC.ops ?_ | refine JO.nil ?_ | refine JX.thenN ?_ | (apply r_move; (iterate 3 exact rfl)) | (apply r_assign; (iterate 3 exact rfl)) | (apply r_idxI; (iterate 4 exact rfl); (first | assumption | exact WI.rd (by assumption) rfl [] | exact OwnI.rd (by assumption)); (first | assumption | omega)) | (apply r_ldI; (iterate 4 exact rfl); (first | assumption | exact WI.rd (by assumption) rfl [] | exact OwnI.rd (by assumption)); (repeat' first | exact HSub.nil _ | exact HSub.hd | exact HSub.in0 | exact HSub.refl _ | refine HSub.skip ?_ | refine HSub.skipN ?_); (first | assumption | omega)) | (apply r_lss; (iterate 4 exact rfl); all_goals intro hc; all_goals try (exfalso; omega)) | refine JX.thenE ?_ | refine JC.skip ?_ | refine JC.exit ?_ | refine JC.ret ?_ | refine JC.condT rfl ?_ | refine JC.condF rfl ?_ | refine JC.block ?_ | refine JX.blockE ?_))
  · refine r_callV0 trivial rfl rfl rfl rfl (fun w' hk _ => hcl _ w' hk) fun w v w' _ _ _ hv => ?_
    subst hv
    cases hp : pred (xs.getD k 0)
    · (repeat' (first | refine JC.ops ?_ | refine JO.nil ?_ | refine JX.thenN ?_ | (apply r_move; (iterate 3 exact rfl)) | (apply r_add1; (iterate 4 exact rfl); omega) | refine JC.skip ?_ | refine JC.condF rfl ?_ | refine JX.blockN ?_))
      refine JX.roundH (k + 1) ⟨by omega, fun i h => ?_⟩ (by dsimp only; omega) ⟨rfl, rfl, rfl, rfl, trivial⟩ (HSub.nil _)
      rcases Nat.lt_or_ge i k with h' | h'
      · exact hpr i h'
      · have : i = k := by omega
        subst this; exact hp
    · (repeat' (first | refine JC.seq ?_ | refine JC.ops ?_ | refine JO.nil ?_ | refine JX.thenN ?_ | (apply r_move; (iterate 3 exact rfl)) | (apply r_assign; (iterate 3 exact rfl)) | refine JX.thenR ?_ | refine JC.ret ?_ | refine JC.condT rfl ?_ | refine JX.blockR ?_))
      exact JX.ret1 rfl (fun a w' st => ⟨st.kp, k, rfl, ⟨fun _ => ⟨_, mem_getD (by rw [hR.len]; omega), hp⟩, fun _ => by omega⟩⟩)
  · exact JX.ret1 rfl (fun a w' st => ⟨st.kp, -1, rfl, ⟨fun h => by omega, fun ⟨x, hx, hp⟩ => by
      obtain ⟨i, hi, rfl⟩ := List.mem_iff_getElem.1 hx
      have := hpr i (by rw [hR.len] at hi; omega)
      simp only [List.getD, List.getElem?_eq_getElem hi, Option.getD_some] at this
      rw [this] at hp; cases hp⟩⟩)

theorem c_ContainsFunc {f : FuncId} [TF Tryd.prog f] {fst cap : Array Value} (pred : Int → Bool) (w : World) (E : Value) (n : Nat) (xs : List Int) (hE : WI w E n xs) (hn : n < 9223372036854775807)
    (hcl : ∀ x w', Kp [] w w' → Calls Tryd.prog f (fst ++ #[iv x] ++ cap) w' (Ret fun v w'' => Kp [] w' w'' ∧ v = .bool (pred x))) :
    Calls Tryd.prog 66 #[E, .func (.func f) fst cap] w (Ret fun v w' => Kp [] w w' ∧ BoolIs (∃ x ∈ xs, pred x = true) v) := by
  refine calls_of_S [] [] (by simp) [] Tryd.func66 rfl mixed (by kernel_rfl) Tryd.ntmps66 Tryd.results66 rfl ⟨by simp, by simp⟩ (by simp) ?_
  simp only [toS, textOps, toSOp, kindAt, kindOf, odAt, sopsAt, ordOf, zipF]
  (repeat' (first | refine JC.seq ?_ | refine JC.ops ?_ | refine JO.nil ?_ | refine JX.thenN ?_ | (apply r_move; (iterate 3 exact rfl)) | (apply r_assign; (iterate 3 exact rfl))))
  refine r_call0 trivial rfl rfl rfl (fun w' hk _ => c_IndexFunc pred w' E n xs (hE.mono hk) hn (fun x w'' hk' => hcl x w'' (hk.trans hk'))) fun w v w' _ _ _ hv => ?_
  obtain ⟨i, rfl, hi⟩ := hv
  (repeat' (first | refine JO.nil ?_ | refine JX.thenN ?_ | (apply r_assign; (iterate 3 exact rfl)) | (apply r_geq; (iterate 4 exact rfl); all_goals intro hc; all_goals try (exfalso; omega)) | refine JC.ret ?_))
  all_goals refine JX.ret1 rfl (fun a w' st => ⟨st.kp, ?_⟩)
  · exact BoolIs.t (hi.1 (by omega))
  · exact BoolIs.f (fun h => hc (hi.2 h))

theorem not_fits_not_right {a : FM} (h : ¬ Fits a.P a.R a.C) : ¬ RF a := fun h' => h h'.fits

set_option maxHeartbeats 1000000 in
theorem fdc_Right (w : World) (v : Value) (a : FM) (ha : IsF w v a) (hl : a.E.length < 9223372036854775807) : Calls Tryd.prog 44 #[v] w (Ret fun v w' => Kp [] w w' ∧ BoolIs (RF a) v) := by
  obtain ⟨E, rfl, hE⟩ := ha
  unfold fmV
  refine calls_of_S [] [] (by simp) [] Tryd.func44 rfl mixed (by kernel_rfl) Tryd.ntmps44 Tryd.results44 rfl ⟨by simp, by simp⟩ (by simp) ?_
  simp only [toS, textOps, toSOp, kindAt, kindOf, odAt, sopsAt, ordOf, zipF]
  have hR := WI.rd (c := ⟨Tryd.prog, 28, w, [], by simp⟩) hE rfl []
  (repeat' (first | refine JC.seq ?_ | refine JC.ops ?_ | refine JO.nil ?_ | refine JX.thenN ?_ | (apply r_fieldAddr; (iterate 3 exact rfl)) | (apply r_assign; (iterate 3 exact rfl)) | (apply r_load; (iterate 4 exact rfl); (first | exact at0 | exact at1 | exact at2 | exact at3 | exact at4 | exact at5 | exact at6 | exact at7); exact rfl) | (apply r_boxA; (iterate 4 exact rfl); intro _)))
  refine r_call0 trivial rfl rfl rfl (fun w _ _ => fdc_fits a.P a.R a.C w) fun w v w' _ _ _ hv => ?_
  obtain ⟨b', rfl, hb⟩ := hv
  by_cases hf : Fits a.P a.R a.C
  · obtain rfl := hb.2 hf
    obtain ⟨p, r, c, E'⟩ := a
    obtain ⟨p, r, c, rfl, rfl, rfl, hp, hr, hc⟩ := hf
    dsimp only at *
    have hrc := rc_le hr hc
    have hiff := RF.iff (E := E') hp hr hc
    (repeat' (first | refine JO.nil ?_ | refine JX.thenN ?_ | (apply r_move; (iterate 3 exact rfl)) | (apply r_fieldAddr; (iterate 3 exact rfl)) | (apply r_assign; (iterate 3 exact rfl)) | (apply r_load; (iterate 4 exact rfl); (first | exact at0 | exact at1 | exact at2 | exact at3 | exact at4 | exact at5 | exact at6 | exact at7); exact rfl) | (apply r_lenI; (iterate 3 exact rfl); (first | assumption | exact WI.rd (by assumption) rfl [] | exact OwnI.rd (by assumption))) | (apply r_mulN; (iterate 4 exact rfl); (first | assumption | omega)) | (apply r_pickT; (iterate 4 exact rfl)) | (apply r_pickF; (iterate 4 exact rfl)) | (apply r_eql; (iterate 4 exact rfl); all_goals intro hc; all_goals try (exfalso; omega)) | (apply r_makeFunc; (iterate 4 exact rfl)) | refine JC.ret ?_ | (apply r_skip; exact rfl; exact rfl; (first | (intro h; cases h; done) | (intro _; rfl)))))
    · refine r_call0 trivial rfl rfl rfl (fun w' hk hs => c_ContainsFunc (outside p) w' E _ _ (hE.mono hk) hl (fun x w'' hk' => c_Right1 w'' _ p r c E x (by
        have := (hs.kp hk' (by simp)).blk _ (List.mem_cons_self)
        exact this))) fun w v w' _ _ _ hv => ?_
      obtain ⟨b', rfl, hb'⟩ := hv
      cases b'
      · (repeat' (first | refine JO.nil ?_ | refine JX.thenN ?_ | (apply r_assign; (iterate 3 exact rfl)) | (apply r_pickT; (iterate 4 exact rfl)) | (apply r_not; (iterate 3 exact rfl)) | refine JC.ret ?_))
        refine JX.ret1 rfl (fun a w' st => ⟨st.kp, BoolIs.t (hiff.2 ⟨by omega, fun x hx => ?_⟩)⟩)
        have : ¬ (outside p x = true) := fun h => by cases hb'.2 ⟨x, hx, h⟩
        simp only [outside, decide_eq_true_eq] at this
        omega
      · (repeat' (first | refine JO.nil ?_ | refine JX.thenN ?_ | (apply r_assign; (iterate 3 exact rfl)) | (apply r_pickT; (iterate 4 exact rfl)) | (apply r_not; (iterate 3 exact rfl)) | refine JC.ret ?_))
        refine JX.ret1 rfl (fun a w' st => ⟨st.kp, BoolIs.f fun h => ?_⟩)
        obtain ⟨x, hx, ho⟩ := hb'.1 rfl
        have := (hiff.1 h).2 x hx
        simp only [outside, decide_eq_true_eq] at ho
        omega
    · refine JX.ret1 rfl (fun a w' st => ⟨st.kp, BoolIs.f fun h => ?_⟩)
      have := (hiff.1 h).1
      omega
  · have : b' = false := by
      cases b' with
      | false => rfl
      | true => exact absurd (hb.1 rfl) hf
    subst this
    (repeat' (first | refine JO.nil ?_ | refine JX.thenN ?_ | (apply r_move; (iterate 3 exact rfl)) | (apply r_assign; (iterate 3 exact rfl)) | (apply r_pickF; (iterate 4 exact rfl)) | refine JC.ret ?_ | (apply r_skip; exact rfl; exact rfl; (first | (intro h; cases h; done) | (intro _; rfl)))))
    exact JX.ret1 rfl (fun a w' st => ⟨st.kp, BoolIs.f (not_fits_not_right hf)⟩)


theorem eq_of_getD {xs ys : List Int} {n k : Nat} (hx : xs.length = n) (hy : ys.length = n) (hk : n ≤ k) (h : ∀ i, i < k → xs.getD i 0 = ys.getD i 0) : xs = ys :=
  ext_getD (d := 0) (hx.trans hy.symm) fun i hi => h i (by omega)
theorem ne_of_getD {xs ys : List Int} {k : Nat} (h : ¬ xs.getD k 0 = ys.getD k 0) : xs ≠ ys := fun e => h (by rw [e])

set_option maxHeartbeats 1000000 in
theorem fdc_sEqual (w : World) (v u : Value) (n n' : Nat) (xs ys : List Int) (hv : WI w v n xs) (hu : WI w u n' ys) (hn : n < 1000000000) (hn' : n' < 1000000000) :
    Calls Tryd.prog 43 #[v, u] w (Ret fun v w' => Kp [] w w' ∧ BoolIs (xs = ys) v) := by
  have hl := hv.len
  have hl' := hu.len
  by_cases h : n = n'
  · subst h
    refine calls_of_S [⟨6, 1, [], []⟩] [] (by simp) [] Tryd.func43 rfl mixed (by kernel_rfl) Tryd.ntmps43 Tryd.results43 rfl ⟨by simp, by simp⟩ (by simp) ?_
    simp only [toS, textOps, toSOp, kindAt, kindOf, odAt, sopsAt, ordOf, zipF]
    (repeat' (first | refine JC.seq ?_ | refine JC.ops ?_ | refine JO.nil ?_ | refine JX.thenN ?_ | (apply r_move; (iterate 3 exact rfl)) | (apply r_assign; (iterate 3 exact rfl)) | (apply r_lenI; (iterate 3 exact rfl); (first | assumption | exact WI.rd (by assumption) rfl [] | exact OwnI.rd (by assumption))) | (apply r_neq; (iterate 4 exact rfl); all_goals intro hc; all_goals try (exfalso; omega)) | refine JC.skip ?_ | refine JC.condF rfl ?_ | refine JC.block ?_))
    refine JC.loopH (ι := Nat) ⟨fun k => [(13, nv k), (12, nv n), (0, v), (1, u)], fun _ => [], fun k => k ≤ n ∧ ∀ i, i < k → xs.getD i 0 = ys.getD i 0, fun k => n - k⟩ 0 ⟨by omega, fun i h => by omega⟩ ⟨rfl, rfl, rfl, rfl, trivial⟩ (HSub.nil _) (fun k hk => ?_)
    obtain ⟨hkn, hpr⟩ := hk
    dsimp only
    (repeat' (first | refine JC.seq ?_ | refine JC.ops ?_ | refine JC.opsD ?_ | refine JO.nil ?_ | refine JX.thenN ?_ | (apply r_move; (iterate 3 exact rfl)) | (apply r_assign; (iterate 3 exact rfl)) | (apply r_idxI; (iterate 4 exact rfl); (first | assumption | exact WI.rd (by assumption) rfl [] | exact OwnI.rd (by assumption)); (first | assumption | omega)) | (apply r_ldI; (iterate 4 exact rfl); (first | assumption | exact WI.rd (by assumption) rfl [] | exact OwnI.rd (by assumption)); (repeat' first | exact HSub.nil _ | exact HSub.hd | exact HSub.in0 | exact HSub.refl _ | refine HSub.skip ?_ | refine HSub.skipN ?_); (first | assumption | omega)) | (apply r_add1; (iterate 4 exact rfl); omega) | (apply r_lss; (iterate 4 exact rfl); all_goals intro hc; all_goals try (exfalso; omega)) | (apply r_neq; (iterate 4 exact rfl); all_goals intro hc; all_goals try (exfalso; omega)) | refine JX.thenE ?_ | refine JX.thenR ?_ | refine JC.skip ?_ | refine JC.exit ?_ | refine JC.ret ?_ | refine JC.condT rfl ?_ | refine JC.condF rfl ?_ | refine JC.block ?_ | refine JX.blockN ?_ | refine JX.blockR ?_ | refine JX.blockE ?_))
    · exact JX.ret1 rfl (fun a w' st => ⟨st.kp, BoolIs.f (ne_of_getD hc)⟩)
    · refine JX.roundH (k + 1) ⟨by omega, fun i h => ?_⟩ (by dsimp only; omega) ⟨rfl, rfl, rfl, rfl, trivial⟩ (HSub.nil _)
      rcases Nat.lt_or_ge i k with h' | h'
      · exact hpr i h'
      · have : i = k := by omega
        subst this; omega
    · exact JX.ret1 rfl (fun a w' st => ⟨st.kp, BoolIs.t (eq_of_getD hl hl' (by omega) hpr)⟩)
  · refine calls_of_S [⟨6, 1, [], []⟩] [] (by simp) [] Tryd.func43 rfl mixed (by kernel_rfl) Tryd.ntmps43 Tryd.results43 rfl ⟨by simp, by simp⟩ (by simp) ?_
    simp only [toS, textOps, toSOp, kindAt, kindOf, odAt, sopsAt, ordOf, zipF]
    (repeat' (first | refine JC.seq ?_ | refine JC.ops ?_ | refine JO.nil ?_ | refine JX.thenN ?_ | (apply r_move; (iterate 3 exact rfl)) | (apply r_assign; (iterate 3 exact rfl)) | (apply r_lenI; (iterate 3 exact rfl); (first | assumption | exact WI.rd (by assumption) rfl [] | exact OwnI.rd (by assumption))) | (apply r_neq; (iterate 4 exact rfl); all_goals intro hc; all_goals try (exfalso; omega)) | refine JX.thenR ?_ | refine JC.ret ?_ | refine JC.condT rfl ?_))
    exact JX.ret1 rfl (fun a w' st => ⟨st.kp, BoolIs.f (fun e => h (by rw [← hl, ← hl', e]))⟩)

set_option maxHeartbeats 1000000 in
theorem c_Ints (w : World) (v u : Value) (n n' : Nat) (xs ys : List Int) (hv : WI w v n xs) (hu : WI w u n' ys) (hn : n < 1000000000) (hn' : n' < 1000000000) :
    Calls Tryd.prog 27 #[v, u] w (Ret fun v w' => Kp [] w w' ∧ BoolIs (xs = ys) v) := by
  have hl := hv.len
  have hl' := hu.len
  by_cases h : n = n'
  · subst h
    refine calls_of_S [⟨6, 1, [], []⟩] [] (by simp) [] Tryd.func27 rfl mixed (by kernel_rfl) Tryd.ntmps27 Tryd.results27 rfl ⟨by simp, by simp⟩ (by simp) ?_
    simp only [toS, textOps, toSOp, kindAt, kindOf, odAt, sopsAt, ordOf, zipF]
    (repeat' (first | refine JC.seq ?_ | refine JC.ops ?_ | refine JO.nil ?_ | refine JX.thenN ?_ | (apply r_move; (iterate 3 exact rfl)) | (apply r_assign; (iterate 3 exact rfl)) | (apply r_lenI; (iterate 3 exact rfl); (first | assumption | exact WI.rd (by assumption) rfl [] | exact OwnI.rd (by assumption))) | (apply r_neq; (iterate 4 exact rfl); all_goals intro hc; all_goals try (exfalso; omega)) | refine JC.skip ?_ | refine JC.condF rfl ?_ | refine JC.block ?_))
    refine JC.loopH (ι := Nat) ⟨fun k => [(5, nv k), (0, v), (1, u)], fun _ => [], fun k => k ≤ n ∧ ∀ i, i < k → xs.getD i 0 = ys.getD i 0, fun k => n - k⟩ 0 ⟨by omega, fun i h => by omega⟩ ⟨rfl, rfl, rfl, trivial⟩ (HSub.nil _) (fun k hk => ?_)
    obtain ⟨hkn, hpr⟩ := hk
    dsimp only
    (repeat' (first | refine JC.seq ?_ | refine JC.ops ?_ | refine JC.opsD ?_ | refine JO.nil ?_ | refine JX.thenN ?_ | (apply r_move; (iterate 3 exact rfl)) | (apply r_assign; (iterate 3 exact rfl)) | (apply r_idxI; (iterate 4 exact rfl); (first | assumption | exact WI.rd (by assumption) rfl [] | exact OwnI.rd (by assumption)); (first | assumption | omega)) | (apply r_ldI; (iterate 4 exact rfl); (first | assumption | exact WI.rd (by assumption) rfl [] | exact OwnI.rd (by assumption)); (repeat' first | exact HSub.nil _ | exact HSub.hd | exact HSub.in0 | exact HSub.refl _ | refine HSub.skip ?_ | refine HSub.skipN ?_); (first | assumption | omega)) | (apply r_lenI; (iterate 3 exact rfl); (first | assumption | exact WI.rd (by assumption) rfl [] | exact OwnI.rd (by assumption))) | (apply r_add1; (iterate 4 exact rfl); omega) | (apply r_lss; (iterate 4 exact rfl); all_goals intro hc; all_goals try (exfalso; omega)) | (apply r_neq; (iterate 4 exact rfl); all_goals intro hc; all_goals try (exfalso; omega)) | refine JX.thenE ?_ | refine JX.thenR ?_ | refine JC.skip ?_ | refine JC.exit ?_ | refine JC.ret ?_ | refine JC.condT rfl ?_ | refine JC.condF rfl ?_ | refine JC.block ?_ | refine JX.blockN ?_ | refine JX.blockR ?_ | refine JX.blockE ?_))
    · exact JX.ret1 rfl (fun a w' st => ⟨st.kp, BoolIs.f (ne_of_getD hc)⟩)
    · refine JX.roundH (k + 1) ⟨by omega, fun i h => ?_⟩ (by dsimp only; omega) ⟨rfl, rfl, rfl, trivial⟩ (HSub.nil _)
      rcases Nat.lt_or_ge i k with h' | h'
      · exact hpr i h'
      · have : i = k := by omega
        subst this; omega
    · exact JX.ret1 rfl (fun a w' st => ⟨st.kp, BoolIs.t (eq_of_getD hl hl' (by omega) hpr)⟩)
  · refine calls_of_S [⟨6, 1, [], []⟩] [] (by simp) [] Tryd.func27 rfl mixed (by kernel_rfl) Tryd.ntmps27 Tryd.results27 rfl ⟨by simp, by simp⟩ (by simp) ?_
    simp only [toS, textOps, toSOp, kindAt, kindOf, odAt, sopsAt, ordOf, zipF]
    (repeat' (first | refine JC.seq ?_ | refine JC.ops ?_ | refine JO.nil ?_ | refine JX.thenN ?_ | (apply r_move; (iterate 3 exact rfl)) | (apply r_assign; (iterate 3 exact rfl)) | (apply r_lenI; (iterate 3 exact rfl); (first | assumption | exact WI.rd (by assumption) rfl [] | exact OwnI.rd (by assumption))) | (apply r_neq; (iterate 4 exact rfl); all_goals intro hc; all_goals try (exfalso; omega)) | refine JX.thenR ?_ | refine JC.ret ?_ | refine JC.condT rfl ?_))
    exact JX.ret1 rfl (fun a w' st => ⟨st.kp, BoolIs.f (fun e => h (by rw [← hl, ← hl', e]))⟩)

def OneF (a b : FM) : Prop := RF a ∧ RF b ∧ a.P = b.P

set_option maxHeartbeats 1000000 in
theorem c_one (w : World) (v u : Value) (a b : FM) (ha : IsF w v a) (hb : IsF w u b) (hl : a.E.length < 1000000000) (hl' : b.E.length < 1000000000) : Calls Tryd.prog 42 #[v, u] w (Ret fun v w' => Kp [] w w' ∧ BoolIs (OneF a b) v) := by
  obtain ⟨E, rfl, hE⟩ := ha
  obtain ⟨E', rfl, hE'⟩ := hb
  unfold fmV
  refine calls_of_S [] [] (by simp) [] Tryd.func42 rfl mixed (by kernel_rfl) Tryd.ntmps42 Tryd.results42 rfl ⟨by simp, by simp⟩ (by simp) ?_
  simp only [toS, textOps, toSOp, kindAt, kindOf, odAt, sopsAt, ordOf, zipF]
  (repeat' (first | refine JC.seq ?_ | refine JC.ops ?_ | refine JO.nil ?_ | refine JX.thenN ?_ | (apply r_assign; (iterate 3 exact rfl)) | (apply r_loadN; (iterate 4 exact rfl); (first | exact at0 | exact at1 | exact at2 | exact at3 | exact at4 | exact at5 | exact at6 | exact at7); exact rfl) | (apply r_boxA; (iterate 4 exact rfl); intro _)))
  refine r_call0 trivial rfl rfl rfl (fun w hk _ => fdc_Right w _ a ⟨E, rfl, hE.mono hk⟩ (by omega)) fun w v w' _ _ _ hR => ?_
  obtain ⟨b', rfl, hb⟩ := hR
  cases b'
  · (repeat' (first | refine JO.nil ?_ | refine JX.thenN ?_ | (apply r_move; (iterate 3 exact rfl)) | (apply r_assign; (iterate 3 exact rfl)) | (apply r_pickF; (iterate 4 exact rfl)) | refine JC.ret ?_ | (apply r_skip; exact rfl; exact rfl; (first | (intro h; cases h; done) | (intro _; rfl)))))
    exact JX.ret1 rfl (fun a w' st => ⟨st.kp, BoolIs.f (fun h => by cases hb.2 h.1)⟩)
  · (repeat' (first | (apply r_move; (iterate 3 exact rfl)) | (apply r_loadN; (iterate 4 exact rfl); (first | exact at0 | exact at1 | exact at2 | exact at3 | exact at4 | exact at5 | exact at6 | exact at7); exact rfl)))
    refine r_call0 trivial rfl rfl rfl (fun w hk _ => fdc_Right w _ b ⟨E', rfl, hE'.mono hk⟩ (by omega)) fun w v w' _ _ _ hR => ?_
    obtain ⟨b', rfl, hb'⟩ := hR
    cases b'
    · (repeat' (first | refine JO.nil ?_ | refine JX.thenN ?_ | (apply r_move; (iterate 3 exact rfl)) | (apply r_assign; (iterate 3 exact rfl)) | (apply r_pickT; (iterate 4 exact rfl)) | (apply r_pickF; (iterate 4 exact rfl)) | refine JC.ret ?_ | (apply r_skip; exact rfl; exact rfl; (first | (intro h; cases h; done) | (intro _; rfl)))))
      exact JX.ret1 rfl (fun a w' st => ⟨st.kp, BoolIs.f (fun h => by cases hb'.2 h.2.1)⟩)
    · (repeat' (first | refine JO.nil ?_ | refine JX.thenN ?_ | (apply r_move; (iterate 3 exact rfl)) | (apply r_fieldAddr; (iterate 3 exact rfl)) | (apply r_assign; (iterate 3 exact rfl)) | (apply r_load; (iterate 4 exact rfl); (first | exact at0 | exact at1 | exact at2 | exact at3 | exact at4 | exact at5 | exact at6 | exact at7); exact rfl) | (apply r_pickT; (iterate 4 exact rfl)) | (apply r_eql; (iterate 4 exact rfl); all_goals intro hc; all_goals try (exfalso; omega)) | refine JC.ret ?_))
      · exact JX.ret1 rfl (fun a w' st => ⟨st.kp, BoolIs.t ⟨hb.1 rfl, hb'.1 rfl, hc⟩⟩)
      · exact JX.ret1 rfl (fun a w' st => ⟨st.kp, BoolIs.f fun h => hc h.2.2⟩)

theorem FM.ext' {a b : FM} (h1 : a.P = b.P) (h2 : a.R = b.R) (h3 : a.C = b.C) (h4 : a.E = b.E) : a = b := by
  cases a; cases b; simp_all

set_option maxHeartbeats 1000000 in
theorem c_Same (w : World) (v u : Value) (a b : FM) (ha : IsF w v a) (hb : IsF w u b) (hl : a.E.length < 1000000000) (hl' : b.E.length < 1000000000) : Calls Tryd.prog 8 #[v, u] w (Ret fun v w' => Kp [] w w' ∧ BoolIs (a = b) v) := by
  obtain ⟨E, rfl, hE⟩ := ha
  obtain ⟨E', rfl, hE'⟩ := hb
  unfold fmV
  refine calls_of_S [] [] (by simp) [] Tryd.func8 rfl mixed (by kernel_rfl) Tryd.ntmps8 Tryd.results8 rfl ⟨by simp, by simp⟩ (by simp) ?_
  simp only [toS, textOps, toSOp, kindAt, kindOf, odAt, sopsAt, ordOf, zipF]
  (repeat' (first | refine JC.seq ?_ | refine JC.ops ?_ | refine JO.nil ?_ | refine JX.thenN ?_ | (apply r_move; (iterate 3 exact rfl)) | (apply r_fieldAddr; (iterate 3 exact rfl)) | (apply r_assign; (iterate 3 exact rfl)) | (apply r_load; (iterate 4 exact rfl); (first | exact at0 | exact at1 | exact at2 | exact at3 | exact at4 | exact at5 | exact at6 | exact at7); exact rfl) | (apply r_pickT; (iterate 4 exact rfl)) | (apply r_pickF; (iterate 4 exact rfl)) | (apply r_neq; (iterate 4 exact rfl); all_goals intro hc; all_goals try (exfalso; omega)) | (apply r_boxA; (iterate 4 exact rfl); intro _) | refine JX.thenR ?_ | refine JC.skip ?_ | refine JC.ret ?_ | refine JC.condT rfl ?_ | refine JC.condF rfl ?_ | (apply r_skip; exact rfl; exact rfl; (first | (intro h; cases h; done) | (intro _; rfl)))))
  · exact JX.ret1 rfl (fun a w' st => ⟨st.kp, BoolIs.f fun h => hc (by rw [h])⟩)
  · exact JX.ret1 rfl (fun a w' st => ⟨st.kp, BoolIs.f fun h => hc (by rw [h])⟩)
  · exact JX.ret1 rfl (fun a w' st => ⟨st.kp, BoolIs.f fun h => hc (by rw [h])⟩)
  · refine r_call0 trivial rfl rfl rfl (fun w hk _ => c_Ints w _ _ _ _ _ _ (hE.mono hk) (hE'.mono hk) hl hl') fun w v w' _ _ _ hR => ?_
    obtain ⟨b', rfl, hb⟩ := hR
    (repeat' (first | refine JO.nil ?_ | refine JX.thenN ?_ | (apply r_assign; (iterate 3 exact rfl)) | refine JC.ret ?_))
    refine JX.ret1 rfl (fun a w' st => ⟨st.kp, b', rfl, hb.trans ⟨fun h => ?_, fun h => by rw [h]⟩⟩)
    exact FM.ext' (by omega) (by omega) (by omega) h

set_option maxHeartbeats 1000000 in
theorem fdc_Equal (w : World) (v u : Value) (a b : FM) (ha : IsF w v a) (hb : IsF w u b) (hl : a.E.length < 1000000000) (hl' : b.E.length < 1000000000) : Calls Tryd.prog 22 #[v, u] w (Ret fun v w' => Kp [] w w' ∧ BoolIs (RF a ∧ a = b) v) := by
  obtain ⟨E, rfl, hE⟩ := ha
  obtain ⟨E', rfl, hE'⟩ := hb
  unfold fmV
  refine calls_of_S [] [] (by simp) [] Tryd.func22 rfl mixed (by kernel_rfl) Tryd.ntmps22 Tryd.results22 rfl ⟨by simp, by simp⟩ (by simp) ?_
  simp only [toS, textOps, toSOp, kindAt, kindOf, odAt, sopsAt, ordOf, zipF]
  (repeat' (first | refine JC.seq ?_ | refine JC.ops ?_ | refine JO.nil ?_ | refine JX.thenN ?_ | (apply r_assign; (iterate 3 exact rfl)) | (apply r_loadN; (iterate 4 exact rfl); (first | exact at0 | exact at1 | exact at2 | exact at3 | exact at4 | exact at5 | exact at6 | exact at7); exact rfl) | (apply r_boxA; (iterate 4 exact rfl); intro _)))
  refine r_call0 trivial rfl rfl rfl (fun w hk _ => c_one w _ _ a b ⟨E, rfl, hE.mono hk⟩ ⟨E', rfl, hE'.mono hk⟩ (by omega) (by omega)) fun w v w' _ _ _ hR => ?_
  obtain ⟨b', rfl, hb⟩ := hR
  cases b'
  · (repeat' (first | refine JO.nil ?_ | refine JX.thenN ?_ | (apply r_move; (iterate 3 exact rfl)) | (apply r_assign; (iterate 3 exact rfl)) | (apply r_pickF; (iterate 4 exact rfl)) | refine JC.ret ?_ | (apply r_skip; exact rfl; exact rfl; (first | (intro h; cases h; done) | (intro _; rfl)))))
    exact JX.ret1 rfl (fun a w' st => ⟨st.kp, BoolIs.f (fun h => by cases hb.2 ⟨h.1, h.2 ▸ h.1, by rw [h.2]⟩)⟩)
  · have h1 := hb.1 rfl
    (repeat' (first | refine JO.nil ?_ | refine JX.thenN ?_ | (apply r_move; (iterate 3 exact rfl)) | (apply r_fieldAddr; (iterate 3 exact rfl)) | (apply r_assign; (iterate 3 exact rfl)) | (apply r_load; (iterate 4 exact rfl); (first | exact at0 | exact at1 | exact at2 | exact at3 | exact at4 | exact at5 | exact at6 | exact at7); exact rfl) | (apply r_pickT; (iterate 4 exact rfl)) | (apply r_pickF; (iterate 4 exact rfl)) | (apply r_eql; (iterate 4 exact rfl); all_goals intro hc; all_goals try (exfalso; omega)) | refine JC.ret ?_ | (apply r_skip; exact rfl; exact rfl; (first | (intro h; cases h; done) | (intro _; rfl)))))
    · refine r_call0 trivial rfl rfl rfl (fun w hk _ => fdc_sEqual w _ _ _ _ _ _ (hE.mono hk) (hE'.mono hk) hl hl') fun w v w' _ _ _ hR => ?_
      obtain ⟨b', rfl, hb⟩ := hR
      (repeat' (first | refine JO.nil ?_ | refine JX.thenN ?_ | (apply r_assign; (iterate 3 exact rfl)) | (apply r_pickT; (iterate 4 exact rfl)) | refine JC.ret ?_))
      refine JX.ret1 rfl (fun a w' st => ⟨st.kp, b', rfl, hb.trans ⟨fun h => ⟨h1.1, ?_⟩, fun h => by rw [h.2]⟩⟩)
      exact FM.ext' h1.2.2 (by omega) (by omega) h
    · exact JX.ret1 rfl (fun a w' st => ⟨st.kp, BoolIs.f fun h => hc (by rw [h.2])⟩)
    · exact JX.ret1 rfl (fun a w' st => ⟨st.kp, BoolIs.f fun h => hc (by rw [h.2])⟩)

end Go.Proofs.YtdoogoglfbohaaaDoor

