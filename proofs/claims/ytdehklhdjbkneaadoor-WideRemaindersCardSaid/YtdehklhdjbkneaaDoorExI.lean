/- Rows of ints. -/
import Derived.Test.YtdehklhdjbkneaaDoorExH
import Derived.Test.YtdehklhdjbkneaaDoorExT
namespace Go.Proofs.YtdehklhdjbkneaaDoor
open Go Go.RowKit
set_option linter.unusedSimpArgs false
set_option linter.unusedVariables false
set_option linter.unusedSectionVars false

abbrev iv (x : Int) : Value := .int .i64 x
abbrev nv (x : Nat) : Value := .int .i64 (x : Int)

/-- A table. -/
def tab {α : Type} (n : Nat) (g : Nat → α) : List α := (List.range n).map g

@[simp] theorem tab_len {α : Type} (n : Nat) (g : Nat → α) : (tab n g).length = n := by simp [tab]
theorem tab_get {α : Type} {n : Nat} {g : Nat → α} {i : Nat} (h : i < n) : (tab n g)[i]? = some (g i) := by simp [tab, h]
theorem tab_getD {α : Type} {n : Nat} {g : Nat → α} {i : Nat} {d : α} (h : i < n) : (tab n g).getD i d = g i := by simp [List.getD, tab_get h]
theorem tab_congr {α : Type} {n : Nat} {g g' : Nat → α} (h : ∀ i, i < n → g i = g' i) : tab n g = tab n g' := by
  apply List.map_congr_left
  intro i hi
  exact h i (List.mem_range.1 hi)
theorem tab_ext {α : Type} {n : Nat} {xs : List α} {g : Nat → α} (hl : xs.length = n) (h : ∀ i, i < n → xs[i]? = some (g i)) : xs = tab n g := by
  apply List.ext_getElem?
  intro i
  rcases Nat.lt_or_ge i n with hi | hi
  · rw [h i hi, tab_get hi]
  · rw [List.getElem?_eq_none (by omega), List.getElem?_eq_none (by simp; omega)]
theorem tab_of {α : Type} {n : Nat} {xs : List α} {d : α} (hl : xs.length = n) : tab n (fun i => xs.getD i d) = xs := by
  refine (tab_ext hl fun i hi => ?_).symm
  rw [List.getElem?_eq_getElem (by omega)]; simp [List.getD, List.getElem?_eq_getElem (show i < xs.length by omega)]
theorem tab_set {α : Type} {n : Nat} {g : Nat → α} {i : Nat} {x : α} : (tab n g).set i x = tab n (fun j => if j = i then x else g j) := by
  refine tab_ext (by simp) fun j hj => ?_
  rw [List.getElem?_set]
  by_cases h : i = j
  · subst h; simp [hj]
  · rw [if_neg h, tab_get hj, if_neg (fun e => h e.symm)]
theorem set_getD {α : Type} {xs : List α} {i j : Nat} {x d : α} (hi : i < xs.length) : (xs.set i x).getD j d = if j = i then x else xs.getD j d := by
  simp only [List.getD, List.getElem?_set]
  by_cases h : i = j
  · subst h; simp [hi]
  · rw [if_neg h, if_neg (fun e => h e.symm)]
theorem gD_lt {α : Type} {xs : List α} {i : Nat} {d : α} (h : i < xs.length) : xs[i]? = some (xs.getD i d) := by simp [List.getD, List.getElem?_eq_getElem h]
theorem ext_getD {α : Type} {xs ys : List α} {d : α} (hl : xs.length = ys.length) (h : ∀ i, i < xs.length → xs.getD i d = ys.getD i d) : xs = ys := by
  apply List.ext_getElem?
  intro i
  rcases Nat.lt_or_ge i xs.length with hi | hi
  · rw [gD_lt hi (d := d), gD_lt (by omega) (d := d), h i hi]
  · rw [List.getElem?_eq_none (by omega), List.getElem?_eq_none (by omega)]
theorem mem_getD {α : Type} {xs : List α} {i : Nat} {d : α} (h : i < xs.length) : xs.getD i d ∈ xs := by
  have := gD_lt (d := d) h
  exact List.mem_of_getElem? this

/-- A row of ints at w; readable; owned. -/
def WI (w : World) (v : Value) (n : Nat) (xs : List Int) : Prop := RdW w 1 v n (xs.map iv)
def RdI (c : Cx) (N : SHeap) (v : Value) (n : Nat) (xs : List Int) : Prop := Rd c N 1 v n (xs.map iv)
def OwnI (N : SHeap) (v : Value) (n : Nat) (xs : List Int) : Prop := OwnRow 3 1 N v n (xs.map iv)
def WN (w : World) (v : Value) (n : Nat) (xs : List Nat) : Prop := RdW w 1 v n (xs.map nv)
def RdN (c : Cx) (N : SHeap) (v : Value) (n : Nat) (xs : List Nat) : Prop := Rd c N 1 v n (xs.map nv)
def OwnN (N : SHeap) (v : Value) (n : Nat) (xs : List Nat) : Prop := OwnRow 3 1 N v n (xs.map nv)

theorem WI.len {w : World} {v : Value} {n : Nat} {xs : List Int} (h : WI w v n xs) : xs.length = n := by simpa using h.1
theorem RdI.len {c : Cx} {N : SHeap} {v : Value} {n : Nat} {xs : List Int} (h : RdI c N v n xs) : xs.length = n := by simpa using h.1
theorem OwnI.len {N : SHeap} {v : Value} {n : Nat} {xs : List Int} (h : OwnI N v n xs) : xs.length = n := by simpa using h.1
theorem WN.len {w : World} {v : Value} {n : Nat} {xs : List Nat} (h : WN w v n xs) : xs.length = n := by simpa using h.1
theorem RdN.len {c : Cx} {N : SHeap} {v : Value} {n : Nat} {xs : List Nat} (h : RdN c N v n xs) : xs.length = n := by simpa using h.1
theorem OwnN.len {N : SHeap} {v : Value} {n : Nat} {xs : List Nat} (h : OwnN N v n xs) : xs.length = n := by simpa using h.1

theorem WI.mono {w w' : World} {v : Value} {n : Nat} {xs : List Int} (h : WI w v n xs) (hk : Kp [] w w') : WI w' v n xs := RdW.mono h hk
theorem WN.mono {w w' : World} {v : Value} {n : Nat} {xs : List Nat} (h : WN w v n xs) (hk : Kp [] w w') : WN w' v n xs := RdW.mono h hk
theorem WI.rd {c : Cx} {v : Value} {n : Nat} {xs : List Int} (h : WI c.w0 v n xs) (hM : c.M = []) (N : SHeap) : RdI c N v n xs := RdW.rd h hM N
theorem WN.rd {c : Cx} {v : Value} {n : Nat} {xs : List Nat} (h : WN c.w0 v n xs) (hM : c.M = []) (N : SHeap) : RdN c N v n xs := RdW.rd h hM N
theorem RdI.at {c : Cx} {N H : SHeap} {w : World} {v : Value} {n : Nat} {xs : List Int} (h : RdI c N v n xs) (hk : Kp c.M c.w0 w) (hs : Hsat H w) (hN : HSub N H) : WI w v n xs := Rd.at h hk hs hN
theorem RdN.at {c : Cx} {N H : SHeap} {w : World} {v : Value} {n : Nat} {xs : List Nat} (h : RdN c N v n xs) (hk : Kp c.M c.w0 w) (hs : Hsat H w) (hN : HSub N H) : WN w v n xs := Rd.at h hk hs hN
theorem OwnI.rd {c : Cx} {N : SHeap} {v : Value} {n : Nat} {xs : List Int} (h : OwnI N v n xs) : RdI c N v n xs := OwnRow.rd h
theorem OwnN.rd {c : Cx} {N : SHeap} {v : Value} {n : Nat} {xs : List Nat} (h : OwnN N v n xs) : RdN c N v n xs := OwnRow.rd h
theorem OwnI.new {N : SHeap} {v : Value} {n : Nat} {xs : List Int} {w w' : World} (h : OwnI N v n xs) (hn : New N w w') : WI w' v n xs := New.rd (c := ⟨Tryd.prog, 0, w, [], by simp⟩) h hn
theorem OwnN.new {N : SHeap} {v : Value} {n : Nat} {xs : List Nat} {w w' : World} (h : OwnN N v n xs) (hn : New N w w') : WN w' v n xs := New.rd (c := ⟨Tryd.prog, 0, w, [], by simp⟩) h hn

/-- Numbers as ints. -/
def ints (xs : List Nat) : List Int := xs.map Int.ofNat
@[simp] theorem ints_len (xs : List Nat) : (ints xs).length = xs.length := by simp [ints]
theorem ints_getD (xs : List Nat) (i : Nat) : (ints xs).getD i 0 = ((xs.getD i 0 : Nat) : Int) := by
  simp only [ints, List.getD, List.getElem?_map]
  cases xs[i]? <;> rfl
theorem OwnN.form {N : SHeap} {v : Value} {n : Nat} {xs : List Nat} (h : OwnN N v n xs) : ∃ A cap, v = .slice A n cap := by
  obtain ⟨_, ⟨rfl, rfl, rfl⟩ | ⟨b, cap, cur, rfl, _⟩⟩ := h
  · exact ⟨_, _, rfl⟩
  · exact ⟨_, _, rfl⟩
theorem OwnI.form {N : SHeap} {v : Value} {n : Nat} {xs : List Int} (h : OwnI N v n xs) : ∃ A cap, v = .slice A n cap := by
  obtain ⟨_, ⟨rfl, rfl, rfl⟩ | ⟨b, cap, cur, rfl, _⟩⟩ := h
  · exact ⟨_, _, rfl⟩
  · exact ⟨_, _, rfl⟩
theorem WN.form {w : World} {v : Value} {n : Nat} {xs : List Nat} (h : WN w v n xs) : ∃ A cap, v = .slice A n cap := by
  obtain ⟨_, A, cap, rfl, _⟩ := h
  exact ⟨_, _, rfl⟩
theorem WI.form {w : World} {v : Value} {n : Nat} {xs : List Int} (h : WI w v n xs) : ∃ A cap, v = .slice A n cap := by
  obtain ⟨_, A, cap, rfl, _⟩ := h
  exact ⟨_, _, rfl⟩
theorem map_nv (xs : List Nat) : (ints xs).map iv = xs.map nv := by simp [ints, Function.comp_def]
theorem WI.nat {w : World} {v : Value} {n : Nat} {xs : List Nat} (h : WI w v n (ints xs)) : WN w v n xs := by unfold WI at h; rw [map_nv] at h; exact h
theorem WN.int {w : World} {v : Value} {n : Nat} {xs : List Nat} (h : WN w v n xs) : WI w v n (ints xs) := by unfold WI; rw [map_nv]; exact h
theorem OwnN.int {N : SHeap} {v : Value} {n : Nat} {xs : List Nat} (h : OwnN N v n xs) : OwnI N v n (ints xs) := by unfold OwnI; rw [map_nv]; exact h
theorem OwnI.nat {N : SHeap} {v : Value} {n : Nat} {xs : List Nat} (h : OwnI N v n (ints xs)) : OwnN N v n xs := by unfold OwnI at h; rw [map_nv] at h; exact h
theorem RdI.nat {c : Cx} {N : SHeap} {v : Value} {n : Nat} {xs : List Nat} (h : RdI c N v n (ints xs)) : RdN c N v n xs := by unfold RdI at h; rw [map_nv] at h; exact h
theorem RdN.int {c : Cx} {N : SHeap} {v : Value} {n : Nat} {xs : List Nat} (h : RdN c N v n xs) : RdI c N v n (ints xs) := by unfold RdI; rw [map_nv]; exact h

theorem OwnN.nil : OwnN [] (.slice none 0 0) 0 [] := OwnRow.nil _ 1
theorem OwnI.nil : OwnI [] (.slice none 0 0) 0 [] := OwnRow.nil _ 1

section
variable {c : Cx} {Q : Exit → Act → World → Prop} {m : Mode} {F : SFrame} {H : SHeap} {r : List SOp} {g : Option (Option Tmp × Bool)} {ns : Bool} {d : Tmp} {ty t t' : TypeId} {x y : Operand} {N : SHeap} {n : Nat} {v : Value}

theorem r_lenI {e : TypeId} {xs : List Int} [TSl c.P t e] (hd : dstOk c.n (some d) = true) (hg : guardF F g = some true) (hx : ev F x = some v) (hv : RdI c N v n xs)
    (h : JO c Q m r ((d, .int .i64 n) :: F) H) : JO c Q m (⟨some d, .call ⟨.builtin .len, #[x], #[t]⟩, ty, g, .mov, ns⟩ :: r) F H := r_lenR hd hg hx hv h
theorem r_lenN {e : TypeId} {xs : List Nat} [TSl c.P t e] (hd : dstOk c.n (some d) = true) (hg : guardF F g = some true) (hx : ev F x = some v) (hv : RdN c N v n xs)
    (h : JO c Q m r ((d, .int .i64 n) :: F) H) : JO c Q m (⟨some d, .call ⟨.builtin .len, #[x], #[t]⟩, ty, g, .mov, ns⟩ :: r) F H := r_lenR hd hg hx hv h
theorem r_idxI {e : TypeId} {xs : List Int} {j : Nat} {k : IntKind} [TSl c.P t e] [TSz c.P e 1] (hd : dstOk c.n (some d) = true) (hg : guardF F g = some true) (hx : ev F x = some v) (hy : ev F y = some (.int k j)) (hv : RdI c N v n xs) (hj : j < n)
    (h : JO c Q m r ((d, .pointer (some (vAt v j))) :: F) H) : JO c Q m (⟨some d, .indexAddr t x y, ty, g, .mov, ns⟩ :: r) F H := r_idxR1 hd hg hx hy hv hj h
theorem r_idxN {e : TypeId} {xs : List Nat} {j : Nat} {k : IntKind} [TSl c.P t e] [TSz c.P e 1] (hd : dstOk c.n (some d) = true) (hg : guardF F g = some true) (hx : ev F x = some v) (hy : ev F y = some (.int k j)) (hv : RdN c N v n xs) (hj : j < n)
    (h : JO c Q m r ((d, .pointer (some (vAt v j))) :: F) H) : JO c Q m (⟨some d, .indexAddr t x y, ty, g, .mov, ns⟩ :: r) F H := r_idxR1 hd hg hx hy hv hj h
theorem r_ldI {xs : List Int} {i : Nat} [T1 c.P t] (hd : dstOk c.n (some d) = true) (hg : guardF F g = some true) (hx : ev F x = some (.pointer (some (vAt v i)))) (hl : m.live = true) (hv : RdI c N v n xs) (hN : HSub N (m.src H)) (hi : i < n)
    (h : JO c Q m r ((d, iv (xs.getD i 0)) :: F) H) : JO c Q m (⟨some d, .load t x, ty, g, .ld, ns⟩ :: r) F H :=
  r_ldR hd hg hx hl hv hN (by rw [List.getElem?_map, gD_lt (d := 0) (by have := hv.len; omega)]; rfl) h
theorem r_ldN {xs : List Nat} {i : Nat} [T1 c.P t] (hd : dstOk c.n (some d) = true) (hg : guardF F g = some true) (hx : ev F x = some (.pointer (some (vAt v i)))) (hl : m.live = true) (hv : RdN c N v n xs) (hN : HSub N (m.src H)) (hi : i < n)
    (h : JO c Q m r ((d, nv (xs.getD i 0)) :: F) H) : JO c Q m (⟨some d, .load t x, ty, g, .ld, ns⟩ :: r) F H :=
  r_ldR hd hg hx hl hv hN (by rw [List.getElem?_map, gD_lt (d := 0) (by have := hv.len; omega)]; rfl) h

theorem r_stI {A B : SHeap} {i : Nat} {u : Int} {xs : List Int} [T1 c.P t] (hO : OwnI N v n xs) (hH : H = A ++ (N ++ B)) (hg : guardF F g = some true) (hm : m.mayStore ns r) (hx : ev F x = some (.pointer (some (vAt v i)))) (hy : ev F y = some (iv u))
    (hi : i < n) (h : ∀ N', OwnI N' v n (xs.set i u) → JO c Q m.spent r F (A ++ (N' ++ B))) : JO c Q m (⟨none, .store t x y, ty, g, .seq, ns⟩ :: r) F H :=
  r_stO hO hH hg hm hx hy rfl rfl (by omega) (fun N' h' => h N' (by unfold OwnI; rw [List.map_set]; exact h'))
theorem r_stN {A B : SHeap} {i u : Nat} {xs : List Nat} [T1 c.P t] (hO : OwnN N v n xs) (hH : H = A ++ (N ++ B)) (hg : guardF F g = some true) (hm : m.mayStore ns r) (hx : ev F x = some (.pointer (some (vAt v i)))) (hy : ev F y = some (nv u))
    (hi : i < n) (h : ∀ N', OwnN N' v n (xs.set i u) → JO c Q m.spent r F (A ++ (N' ++ B))) : JO c Q m (⟨none, .store t x y, ty, g, .seq, ns⟩ :: r) F H :=
  r_stO hO hH hg hm hx hy rfl rfl (by omega) (fun N' h' => h N' (by unfold OwnN; rw [List.map_set]; exact h'))

theorem own_zeros (b n : Nat) (hn : n ≤ maxLen) : OwnN [(b, .cells (zerosOf #[iv 0] (n * 1)) 3)] (.slice (some ⟨b, 0, none⟩) n n) n (tab n fun _ => 0) := by
  have h := OwnRow.mk' (e := 3) (sz := 1) (n := n) (b := b) (cs := zerosOf #[iv 0] (n * 1)) (by rw [zeros1]; simp) hn
  rw [zeros1] at h ⊢
  have e : (Array.replicate (n * 1) (iv 0)).toList = (tab n fun _ => 0).map nv := by
    apply List.ext_getElem?
    intro i
    simp only [Array.toList_replicate, List.getElem?_map, List.getElem?_replicate, Nat.mul_one]
    by_cases hi : i < n
    · rw [if_pos hi, tab_get hi]; rfl
    · rw [if_neg hi, List.getElem?_eq_none (by simp; omega)]; rfl
  rw [e] at h
  exact h

/-- A slice of a row of ints. -/
theorem r_sliceN {e : TypeId} {l h' : Nat} {xs : List Nat} {lo hi : Option Operand} {vl vh : Option Value} [TSl c.P t e] [TSz c.P e 1] (hd : dstOk c.n (some d) = true) (hg : guardF F g = some true)
    (hx : ev F x = some v) (hv : RdN c N v n xs)
    (hlo : (lo.bind (ev F)) = vl) (hlo' : lo.isSome = vl.isSome) (hl : vl = some (.int .i64 l) ∨ (vl = none ∧ l = 0)) (hhi : (hi.bind (ev F)) = vh) (hhi' : hi.isSome = vh.isSome) (hh : vh = some (.int .i64 h') ∨ (vh = none ∧ h' = n))
    (hlh : l ≤ h') (hhl : h' ≤ n)
    (h : ∀ v', RdN c N v' (h' - l) ((xs.drop l).take (h' - l)) → (∀ i, l < h' → vAt v' i = vAt v (l + i)) → JO c Q m r ((d, v') :: F) H) : JO c Q m (⟨some d, .slice t x lo hi none, ty, g, .mov, ns⟩ :: r) F H :=
  r_sliceR hd hg hx hv hlo hlo' hl hhi hhi' hh hlh hhl (fun v' h1 h2 => h v' (by
    unfold RdN
    rw [List.map_take, List.map_drop]
    simpa using h1) (by simpa using h2))

/-- Row i of a list of rows of c. -/
def rowOf (c : Nat) (xs : List Nat) (i : Nat) : List Nat := (xs.drop (i * c)).take c
theorem rowOf_getD {c : Nat} {xs : List Nat} {i j : Nat} (hj : j < c) : (rowOf c xs i).getD j 0 = xs.getD (i * c + j) 0 := by
  simp only [rowOf, List.getD, List.getElem?_take, if_pos hj, List.getElem?_drop]

theorem r_rowN {e : TypeId} {i k : Nat} {xs : List Nat} {lo hi : Operand} [TSl c.P t e] [TSz c.P e 1] (hd : dstOk c.n (some d) = true) (hg : guardF F g = some true)
    (hx : ev F x = some v) (hv : RdN c N v n xs) (hlo : ev F lo = some (nv (i * k))) (hhi : ev F hi = some (nv ((i + 1) * k))) (hle : (i + 1) * k ≤ n)
    (h : ∀ v', RdN c N v' k (rowOf k xs i) → (∀ j, j < k → vAt v' j = vAt v (i * k + j)) → JO c Q m r ((d, v') :: F) H) : JO c Q m (⟨some d, .slice t x (some lo) (some hi) none, ty, g, .mov, ns⟩ :: r) F H := by
  have e1 : (i + 1) * k - i * k = k := by rw [Nat.add_mul]; omega
  refine r_sliceN (l := i * k) (h' := (i + 1) * k) hd hg hx hv hlo rfl (.inl rfl) hhi rfl (.inl rfl) (Nat.mul_le_mul_right k (by omega)) hle (fun v' h1 h2 => h v' (by rw [e1] at h1; exact h1) (fun j hj => h2 j (by rw [Nat.add_mul]; omega)))

theorem r_add1 {i : Nat} (hd : dstOk c.n (some d) = true) (hg : guardF F g = some true) (hx : ev F x = some (.int .i64 i)) (hy : ev F y = some (.int .i64 1)) (hb : i + 1 < 9223372036854775808)
    (h : JO c Q m r ((d, .int .i64 ((i + 1 : Nat) : Int)) :: F) H) : JO c Q m (⟨some d, .binOp .add t x y t', ty, g, .mov, ns⟩ :: r) F H := r_addN (j := 1) hd hg hx hy hb h

theorem r_appendN {A B N2 : SHeap} {v2 : Value} {k : Nat} {xs ys : List Nat} [TSl c.P t 3] [TE c.P 3 1 8 #[iv 0]] (hO : OwnN N v n xs) (h2 : RdN c N2 v2 k ys) (hN2 : HSub N2 H) (hH : H = A ++ (N ++ B)) (hm : m.mayStore ns r) (hd : dstOk c.n (some d) = true) (hg : guardF F g = some true) (hx : ev F x = some v) (hy : ev F y = some v2)
    (hb : n + k ≤ 1000000000) (h : ∀ v' N', OwnN N' v' (n + k) (xs ++ ys) → JO c Q m.spent r ((d, v') :: F) (A ++ (N' ++ B))) :
    JO c Q m (⟨some d, .call ⟨.builtin .append, #[x, y], #[t, t]⟩, ty, g, .seq, ns⟩ :: r) F H :=
  r_appendA (e := 3) (sz := 1) (bytes := 8) (zc := #[iv 0]) (xs := xs.map nv) (news := ys.map nv) (n := n) (mm := k) rfl hO h2 hN2 hH hm hd hg hx hy (fun u hu => by obtain ⟨a, _, rfl⟩ := List.mem_map.1 hu; rfl) (by simp only [maxLen]; omega) (by omega) (fun v' N' h' => h v' N' (by unfold OwnN; rw [List.map_append]; exact h'))

theorem r_appendNL {A B N2 Hs : SHeap} {v2 : Value} {k : Nat} {xs ys : List Nat} [TSl c.P t 3] [TE c.P 3 1 8 #[iv 0]] (hO : OwnN N v n xs) (h2 : RdN c N2 v2 k ys) (hN2 : HSub N2 H) (hH : H = A ++ (N ++ B)) (hm : HSub Hs (A ++ B)) (hd : dstOk c.n (some d) = true) (hg : guardF F g = some true) (hx : ev F x = some v) (hy : ev F y = some v2)
    (hb : n + k ≤ 1000000000) (h : ∀ v' N', OwnN N' v' (n + k) (xs ++ ys) → JO c Q (.draw Hs true) r ((d, v') :: F) (A ++ (N' ++ B))) :
    JO c Q (.draw Hs true) (⟨some d, .call ⟨.builtin .append, #[x, y], #[t, t]⟩, ty, g, .seq, ns⟩ :: r) F H :=
  r_appendL (e := 3) (sz := 1) (bytes := 8) (zc := #[iv 0]) (xs := xs.map nv) (news := ys.map nv) (n := n) (mm := k) rfl hO h2 hN2 hH hm hd hg hx hy (fun u hu => by obtain ⟨a, _, rfl⟩ := List.mem_map.1 hu; rfl) (by simp only [maxLen]; omega) (by omega) (fun v' N' h' => h v' N' (by unfold OwnN; rw [List.map_append]; exact h'))

theorem r_boxA {vs : Array Value} (hd : dstOk c.n (some d) = true) (hg : guardF F g = some true) (hx : ev F x = some (.agg vs)) (hl : m.live = true) (h : ∀ b, JO c Q m r ((d, (.pointer (some ⟨b, 0, none⟩))) :: F) ((b, .cells vs t) :: H)) :
    JO c Q m (⟨some d, .box t x, ty, g, .alloc, ns⟩ :: r) F H := r_box hd hg hx hl rfl h

theorem r_nilCheck {A : Addr} (hd : dstOk c.n (some d) = true) (hg : guardF F g = some true) (hx : ev F x = some (.pointer (some A))) (h : JO c Q m r ((d, .pointer (some A)) :: F) H) : JO c Q m (⟨some d, .nilCheck x, ty, g, .mov, ns⟩ :: r) F H :=
  r_mov hd hg (fun a w fr => by simp only [execOp, fr.ev hx, Sem.run_pure]) h

/-- An element of an array, by its address. -/
theorem r_idxArr {len e sz b o j : Nat} {k : IntKind} [TAr c.P t len e] [TSz c.P e sz] (hd : dstOk c.n (some d) = true) (hg : guardF F g = some true) (hx : ev F x = some (.pointer (some ⟨b, o, none⟩))) (hy : ev F y = some (.int k j)) (hj : j < len)
    (h : JO c Q m r ((d, .pointer (some ⟨b, o + j * sz, none⟩)) :: F) H) : JO c Q m (⟨some d, .indexAddr t x y, ty, g, .mov, ns⟩ :: r) F H :=
  r_mov hd hg (fun a w fr => by
    have h1 : (0 : Int) ≤ j ∧ (j : Int) < len := by omega
    simp only [execOp, fr.ev hx, fr.ev hy, Instr.indexAt, Instr.sureAddr, asIntOf, Sem.run_bind, Sem.run_pure, Result.andThen_ok, run_underlying (TAr.und (P := c.P) (t := t)), h1, and_self, if_true, TSz.size (e := e) (n := sz), Int.toNat_natCast, add_none]) h

theorem bits_and1 (n : Int) : bits .and .i64 n 1 = n % 2 := by
  have h1 : (BitVec.ofInt 64 1).toNat = 2 ^ 1 - 1 := by decide
  have key : (BitVec.ofInt 64 n &&& BitVec.ofInt 64 1).toNat = (n % ((2 ^ 64 : Nat) : Int)).toNat % 2 ^ 1 := by
    rw [BitVec.toNat_and, BitVec.toNat_ofInt, h1, Nat.and_two_pow_sub_one_eq_mod]
  show IntKind.i64.wrap ((BitVec.ofInt 64 n &&& BitVec.ofInt 64 1).toNat : Nat) = n % 2
  rw [key, IntKind.wrap_i64]
  omega

theorem r_and1 {i : Nat} (hd : dstOk c.n (some d) = true) (hg : guardF F g = some true) (hx : ev F x = some (.int .i64 i)) (hy : ev F y = some (.int .i64 1))
    (h : JO c Q m r ((d, .int .i64 ((i % 2 : Nat) : Int)) :: F) H) : JO c Q m (⟨some d, .binOp .and t x y t', ty, g, .mov, ns⟩ :: r) F H :=
  r_arith hd hg hx hy (fun w => by rw [binOp_and, intBits_and, bits_and1]; simp) h
end
end Go.Proofs.YtdehklhdjbkneaaDoor
