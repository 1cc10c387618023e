/- Rows of words and of bytes. Written by genV.py. -/
import Derived.Test.YtdehklhdjbkneaaDoorExU
import Derived.Test.YtdehklhdjbkneaaDoorExK
namespace Go.Proofs.YtdehklhdjbkneaaDoor
open Go Go.RowKit
set_option linter.unusedSimpArgs false
set_option linter.unusedVariables false
set_option linter.unusedSectionVars false

/-- A byte. -/
abbrev yv (n : Nat) : Value := .int .u8 (n : Int)

/-! ## U -/

def WU (w : World) (v : Value) (n : Nat) (xs : List Nat) : Prop := RdW w 1 v n (xs.map uv)
def RdU (c : Cx) (N : SHeap) (v : Value) (n : Nat) (xs : List Nat) : Prop := Rd c N 1 v n (xs.map uv)
def OwnU (N : SHeap) (v : Value) (n : Nat) (xs : List Nat) : Prop := OwnRow 68 1 N v n (xs.map uv)
theorem WU.len {w : World} {v : Value} {n : Nat} {xs : List Nat} (h : WU w v n xs) : xs.length = n := by simpa using h.1
theorem RdU.len {c : Cx} {N : SHeap} {v : Value} {n : Nat} {xs : List Nat} (h : RdU c N v n xs) : xs.length = n := by simpa using h.1
theorem OwnU.len {N : SHeap} {v : Value} {n : Nat} {xs : List Nat} (h : OwnU N v n xs) : xs.length = n := by simpa using h.1
theorem WU.mono {w w' : World} {v : Value} {n : Nat} {xs : List Nat} (h : WU w v n xs) (hk : Kp [] w w') : WU w' v n xs := RdW.mono h hk
theorem WU.rd {c : Cx} {v : Value} {n : Nat} {xs : List Nat} (h : WU c.w0 v n xs) (hM : c.M = []) (N : SHeap) : RdU c N v n xs := RdW.rd h hM N
theorem RdU.at {c : Cx} {N H : SHeap} {w : World} {v : Value} {n : Nat} {xs : List Nat} (h : RdU c N v n xs) (hk : Kp c.M c.w0 w) (hs : Hsat H w) (hN : HSub N H) : WU w v n xs := Rd.at h hk hs hN
theorem OwnU.rd {c : Cx} {N : SHeap} {v : Value} {n : Nat} {xs : List Nat} (h : OwnU N v n xs) : RdU c N v n xs := OwnRow.rd h
theorem OwnU.new {N : SHeap} {v : Value} {n : Nat} {xs : List Nat} {w w' : World} (h : OwnU N v n xs) (hn : New N w w') : WU w' v n xs := New.rd (c := ⟨Tryd.prog, 0, w, [], by simp⟩) h hn
theorem OwnU.form {N : SHeap} {v : Value} {n : Nat} {xs : List Nat} (h : OwnU N v n xs) : ∃ A cap, v = .slice A n cap := by
  obtain ⟨_, ⟨rfl, rfl, rfl⟩ | ⟨b, cap, cur, rfl, _⟩⟩ := h
  · exact ⟨_, _, rfl⟩
  · exact ⟨_, _, rfl⟩
theorem WU.form {w : World} {v : Value} {n : Nat} {xs : List Nat} (h : WU w v n xs) : ∃ A cap, v = .slice A n cap := by
  obtain ⟨_, A, cap, rfl, _⟩ := h
  exact ⟨_, _, rfl⟩
theorem OwnU.nil : OwnU [] (.slice none 0 0) 0 [] := OwnRow.nil _ 1
section
variable {c : Cx} {Q : Exit → Act → World → Prop} {m : Mode} {F : SFrame} {H : SHeap} {r : List SOp} {g : Option (Option Tmp × Bool)} {ns : Bool} {d : Tmp} {ty t t' : TypeId} {x y : Operand} {N : SHeap} {n : Nat} {v : Value}
theorem r_lenU {e : TypeId} {xs : List Nat} [TSl c.P t e] (hd : dstOk c.n (some d) = true) (hg : guardF F g = some true) (hx : ev F x = some v) (hv : RdU c N v n xs)
    (h : JO c Q m r ((d, .int .i64 n) :: F) H) : JO c Q m (⟨some d, .call ⟨.builtin .len, #[x], #[t]⟩, ty, g, .mov, ns⟩ :: r) F H := r_lenR hd hg hx hv h
theorem r_idxU {e : TypeId} {xs : List Nat} {j : Nat} {k : IntKind} [TSl c.P t e] [TSz c.P e 1] (hd : dstOk c.n (some d) = true) (hg : guardF F g = some true) (hx : ev F x = some v) (hy : ev F y = some (.int k j)) (hv : RdU c N v n xs) (hj : j < n)
    (h : JO c Q m r ((d, .pointer (some (vAt v j))) :: F) H) : JO c Q m (⟨some d, .indexAddr t x y, ty, g, .mov, ns⟩ :: r) F H := r_idxR1 hd hg hx hy hv hj h
theorem r_ldU {xs : List Nat} {i : Nat} [T1 c.P t] (hd : dstOk c.n (some d) = true) (hg : guardF F g = some true) (hx : ev F x = some (.pointer (some (vAt v i)))) (hl : m.live = true) (hv : RdU c N v n xs) (hN : HSub N (m.src H)) (hi : i < n)
    (h : JO c Q m r ((d, uv (xs.getD i 0)) :: F) H) : JO c Q m (⟨some d, .load t x, ty, g, .ld, ns⟩ :: r) F H :=
  r_ldR hd hg hx hl hv hN (by rw [List.getElem?_map, gD_lt (d := 0) (by have := hv.len; omega)]; rfl) h
theorem r_stU {A B : SHeap} {i u : Nat} {xs : List Nat} [T1 c.P t] (hO : OwnU N v n xs) (hH : H = A ++ (N ++ B)) (hg : guardF F g = some true) (hm : m.mayStore ns r) (hx : ev F x = some (.pointer (some (vAt v i)))) (hy : ev F y = some (uv u))
    (hi : i < n) (h : ∀ N', OwnU N' v n (xs.set i u) → JO c Q m.spent r F (A ++ (N' ++ B))) : JO c Q m (⟨none, .store t x y, ty, g, .seq, ns⟩ :: r) F H :=
  r_stO hO hH hg hm hx hy rfl rfl (by omega) (fun N' h' => h N' (by unfold OwnU; rw [List.map_set]; exact h'))
theorem own_zerosU (b n : Nat) (hn : n ≤ maxLen) : OwnU [(b, .cells (zerosOf #[(.int .u64 0)] (n * 1)) 68)] (.slice (some ⟨b, 0, none⟩) n n) n (tab n fun _ => 0) := by
  have h := OwnRow.mk' (e := 68) (sz := 1) (n := n) (b := b) (cs := zerosOf #[(.int .u64 0)] (n * 1)) (by rw [zeros1]; simp) hn
  rw [zeros1] at h ⊢
  have e : (Array.replicate (n * 1) (.int .u64 0)).toList = (tab n fun _ => 0).map uv := by
    apply List.ext_getElem?
    intro i
    simp only [Array.toList_replicate, List.getElem?_map, List.getElem?_replicate, Nat.mul_one]
    by_cases hi : i < n
    · rw [if_pos hi, tab_get hi]; rfl
    · rw [if_neg hi, List.getElem?_eq_none (by simp; omega)]; rfl
  rw [e] at h
  exact h
/-- A slice of a row of ints. -/
theorem r_sliceU {e : TypeId} {l h' : Nat} {xs : List Nat} {lo hi : Option Operand} {vl vh : Option Value} [TSl c.P t e] [TSz c.P e 1] (hd : dstOk c.n (some d) = true) (hg : guardF F g = some true)
    (hx : ev F x = some v) (hv : RdU c N v n xs)
    (hlo : (lo.bind (ev F)) = vl) (hlo' : lo.isSome = vl.isSome) (hl : vl = some (.int .i64 l) ∨ (vl = none ∧ l = 0)) (hhi : (hi.bind (ev F)) = vh) (hhi' : hi.isSome = vh.isSome) (hh : vh = some (.int .i64 h') ∨ (vh = none ∧ h' = n))
    (hlh : l ≤ h') (hhl : h' ≤ n)
    (h : ∀ v', RdU c N v' (h' - l) ((xs.drop l).take (h' - l)) → (∀ i, l < h' → vAt v' i = vAt v (l + i)) → JO c Q m r ((d, v') :: F) H) : JO c Q m (⟨some d, .slice t x lo hi none, ty, g, .mov, ns⟩ :: r) F H :=
  r_sliceR hd hg hx hv hlo hlo' hl hhi hhi' hh hlh hhl (fun v' h1 h2 => h v' (by
    unfold RdU
    rw [List.map_take, List.map_drop]
    simpa using h1) (by simpa using h2))
theorem r_appendU {A B N2 : SHeap} {v2 : Value} {k : Nat} {xs ys : List Nat} [TSl c.P t 68] [TE c.P 68 1 8 #[(.int .u64 0)]] (hO : OwnU N v n xs) (h2 : RdU c N2 v2 k ys) (hN2 : HSub N2 H) (hH : H = A ++ (N ++ B)) (hm : m.mayStore ns r) (hd : dstOk c.n (some d) = true) (hg : guardF F g = some true) (hx : ev F x = some v) (hy : ev F y = some v2)
    (hb : n + k ≤ 1000000000) (h : ∀ v' N', OwnU N' v' (n + k) (xs ++ ys) → JO c Q m.spent r ((d, v') :: F) (A ++ (N' ++ B))) :
    JO c Q m (⟨some d, .call ⟨.builtin .append, #[x, y], #[t, t]⟩, ty, g, .seq, ns⟩ :: r) F H :=
  r_appendA (e := 68) (sz := 1) (bytes := 8) (zc := #[(.int .u64 0)]) (xs := xs.map uv) (news := ys.map uv) (n := n) (mm := k) rfl hO h2 hN2 hH hm hd hg hx hy (fun u hu => by obtain ⟨a, _, rfl⟩ := List.mem_map.1 hu; rfl) (by simp only [maxLen]; omega) (by omega) (fun v' N' h' => h v' N' (by unfold OwnU; rw [List.map_append]; exact h'))
theorem r_appendUL {A B N2 Hs : SHeap} {v2 : Value} {k : Nat} {xs ys : List Nat} [TSl c.P t 68] [TE c.P 68 1 8 #[(.int .u64 0)]] (hO : OwnU N v n xs) (h2 : RdU c N2 v2 k ys) (hN2 : HSub N2 H) (hH : H = A ++ (N ++ B)) (hm : HSub Hs (A ++ B)) (hd : dstOk c.n (some d) = true) (hg : guardF F g = some true) (hx : ev F x = some v) (hy : ev F y = some v2)
    (hb : n + k ≤ 1000000000) (h : ∀ v' N', OwnU N' v' (n + k) (xs ++ ys) → JO c Q (.draw Hs true) r ((d, v') :: F) (A ++ (N' ++ B))) :
    JO c Q (.draw Hs true) (⟨some d, .call ⟨.builtin .append, #[x, y], #[t, t]⟩, ty, g, .seq, ns⟩ :: r) F H :=
  r_appendL (e := 68) (sz := 1) (bytes := 8) (zc := #[(.int .u64 0)]) (xs := xs.map uv) (news := ys.map uv) (n := n) (mm := k) rfl hO h2 hN2 hH hm hd hg hx hy (fun u hu => by obtain ⟨a, _, rfl⟩ := List.mem_map.1 hu; rfl) (by simp only [maxLen]; omega) (by omega) (fun v' N' h' => h v' N' (by unfold OwnU; rw [List.map_append]; exact h'))
end

theorem own_litU (b n : Nat) (xs : List Nat) (vs : List Value) (hv : vs = xs.map uv) (hn : xs.length = n) (h : n ≤ 1000) : OwnU [(b, .cells ⟨vs⟩ 68)] (.slice (some ⟨b, 0, none⟩) n n) n xs := by
  subst hv
  have := OwnRow.mk' (e := 68) (sz := 1) (n := n) (b := b) (cs := ⟨xs.map uv⟩) (by simp [hn]) (by simp only [maxLen]; omega)
  exact this
/-- The cells of a block: these numbers, then others. -/
def rowCU (xs : List Nat) (rest : List Value) : Array Value := ⟨xs.map uv ++ rest⟩
theorem rowCU_size (xs : List Nat) (rest : List Value) : (rowCU xs rest).size = xs.length + rest.length := by simp [rowCU]
theorem OwnU.named {N : SHeap} {v : Value} {n : Nat} {xs : List Nat} (h : OwnU N v n xs) (hn : 0 < n) : ∃ b cap rest, v = .slice (some ⟨b, 0, none⟩) n cap ∧ N = [(b, .cells (rowCU xs rest) 68 (0, 0))] ∧ n ≤ cap ∧ rest.length = cap - n ∧ cap ≤ maxLen := by
  obtain ⟨hl, ⟨rfl, rfl, rfl⟩ | ⟨b, cap, cur, rfl, rfl, h2, h3, h4, h5⟩⟩ := h
  · omega
  · refine ⟨b, cap, cur.toList.drop n, rfl, ?_, h2, by simp [h4], h3⟩
    have : cur = rowCU xs (cur.toList.drop n) := by
      apply Array.ext'
      show cur.toList = xs.map uv ++ cur.toList.drop n
      rw [Nat.mul_one] at h5
      rw [← h5, List.take_append_drop]
    rw [← this]
theorem OwnU.ofNamed {b cap n : Nat} {xs : List Nat} {rest : List Value} (hl : xs.length = n) (hn : n ≤ cap) (hr : rest.length = cap - n) (hc : cap ≤ maxLen) : OwnU [(b, .cells (rowCU xs rest) 68 (0, 0))] (.slice (some ⟨b, 0, none⟩) n cap) n xs := by
  refine ⟨by simp [hl], .inr ⟨b, cap, _, rfl, rfl, hn, hc, by rw [rowCU_size]; omega, ?_⟩⟩
  show (xs.map uv ++ rest).take (n * 1) = xs.map uv
  rw [Nat.mul_one, List.take_append_of_le_length (by simp [hl])]
  exact List.take_of_length_le (by simp [hl])

/-! ## Y -/

def WY (w : World) (v : Value) (n : Nat) (xs : List Nat) : Prop := RdW w 1 v n (xs.map yv)
def RdY (c : Cx) (N : SHeap) (v : Value) (n : Nat) (xs : List Nat) : Prop := Rd c N 1 v n (xs.map yv)
def OwnY (N : SHeap) (v : Value) (n : Nat) (xs : List Nat) : Prop := OwnRow 5 1 N v n (xs.map yv)
theorem WY.len {w : World} {v : Value} {n : Nat} {xs : List Nat} (h : WY w v n xs) : xs.length = n := by simpa using h.1
theorem RdY.len {c : Cx} {N : SHeap} {v : Value} {n : Nat} {xs : List Nat} (h : RdY c N v n xs) : xs.length = n := by simpa using h.1
theorem OwnY.len {N : SHeap} {v : Value} {n : Nat} {xs : List Nat} (h : OwnY N v n xs) : xs.length = n := by simpa using h.1
theorem WY.mono {w w' : World} {v : Value} {n : Nat} {xs : List Nat} (h : WY w v n xs) (hk : Kp [] w w') : WY w' v n xs := RdW.mono h hk
theorem WY.rd {c : Cx} {v : Value} {n : Nat} {xs : List Nat} (h : WY c.w0 v n xs) (hM : c.M = []) (N : SHeap) : RdY c N v n xs := RdW.rd h hM N
theorem RdY.at {c : Cx} {N H : SHeap} {w : World} {v : Value} {n : Nat} {xs : List Nat} (h : RdY c N v n xs) (hk : Kp c.M c.w0 w) (hs : Hsat H w) (hN : HSub N H) : WY w v n xs := Rd.at h hk hs hN
theorem OwnY.rd {c : Cx} {N : SHeap} {v : Value} {n : Nat} {xs : List Nat} (h : OwnY N v n xs) : RdY c N v n xs := OwnRow.rd h
theorem OwnY.new {N : SHeap} {v : Value} {n : Nat} {xs : List Nat} {w w' : World} (h : OwnY N v n xs) (hn : New N w w') : WY w' v n xs := New.rd (c := ⟨Tryd.prog, 0, w, [], by simp⟩) h hn
theorem OwnY.form {N : SHeap} {v : Value} {n : Nat} {xs : List Nat} (h : OwnY N v n xs) : ∃ A cap, v = .slice A n cap := by
  obtain ⟨_, ⟨rfl, rfl, rfl⟩ | ⟨b, cap, cur, rfl, _⟩⟩ := h
  · exact ⟨_, _, rfl⟩
  · exact ⟨_, _, rfl⟩
theorem WY.form {w : World} {v : Value} {n : Nat} {xs : List Nat} (h : WY w v n xs) : ∃ A cap, v = .slice A n cap := by
  obtain ⟨_, A, cap, rfl, _⟩ := h
  exact ⟨_, _, rfl⟩
theorem OwnY.nil : OwnY [] (.slice none 0 0) 0 [] := OwnRow.nil _ 1
section
variable {c : Cx} {Q : Exit → Act → World → Prop} {m : Mode} {F : SFrame} {H : SHeap} {r : List SOp} {g : Option (Option Tmp × Bool)} {ns : Bool} {d : Tmp} {ty t t' : TypeId} {x y : Operand} {N : SHeap} {n : Nat} {v : Value}
theorem r_lenY {e : TypeId} {xs : List Nat} [TSl c.P t e] (hd : dstOk c.n (some d) = true) (hg : guardF F g = some true) (hx : ev F x = some v) (hv : RdY c N v n xs)
    (h : JO c Q m r ((d, .int .i64 n) :: F) H) : JO c Q m (⟨some d, .call ⟨.builtin .len, #[x], #[t]⟩, ty, g, .mov, ns⟩ :: r) F H := r_lenR hd hg hx hv h
theorem r_idxY {e : TypeId} {xs : List Nat} {j : Nat} {k : IntKind} [TSl c.P t e] [TSz c.P e 1] (hd : dstOk c.n (some d) = true) (hg : guardF F g = some true) (hx : ev F x = some v) (hy : ev F y = some (.int k j)) (hv : RdY c N v n xs) (hj : j < n)
    (h : JO c Q m r ((d, .pointer (some (vAt v j))) :: F) H) : JO c Q m (⟨some d, .indexAddr t x y, ty, g, .mov, ns⟩ :: r) F H := r_idxR1 hd hg hx hy hv hj h
theorem r_ldY {xs : List Nat} {i : Nat} [T1 c.P t] (hd : dstOk c.n (some d) = true) (hg : guardF F g = some true) (hx : ev F x = some (.pointer (some (vAt v i)))) (hl : m.live = true) (hv : RdY c N v n xs) (hN : HSub N (m.src H)) (hi : i < n)
    (h : JO c Q m r ((d, yv (xs.getD i 0)) :: F) H) : JO c Q m (⟨some d, .load t x, ty, g, .ld, ns⟩ :: r) F H :=
  r_ldR hd hg hx hl hv hN (by rw [List.getElem?_map, gD_lt (d := 0) (by have := hv.len; omega)]; rfl) h
theorem r_stY {A B : SHeap} {i u : Nat} {xs : List Nat} [T1 c.P t] (hO : OwnY N v n xs) (hH : H = A ++ (N ++ B)) (hg : guardF F g = some true) (hm : m.mayStore ns r) (hx : ev F x = some (.pointer (some (vAt v i)))) (hy : ev F y = some (yv u))
    (hi : i < n) (h : ∀ N', OwnY N' v n (xs.set i u) → JO c Q m.spent r F (A ++ (N' ++ B))) : JO c Q m (⟨none, .store t x y, ty, g, .seq, ns⟩ :: r) F H :=
  r_stO hO hH hg hm hx hy rfl rfl (by omega) (fun N' h' => h N' (by unfold OwnY; rw [List.map_set]; exact h'))
theorem own_zerosY (b n : Nat) (hn : n ≤ maxLen) : OwnY [(b, .cells (zerosOf #[(.int .u8 0)] (n * 1)) 5)] (.slice (some ⟨b, 0, none⟩) n n) n (tab n fun _ => 0) := by
  have h := OwnRow.mk' (e := 5) (sz := 1) (n := n) (b := b) (cs := zerosOf #[(.int .u8 0)] (n * 1)) (by rw [zeros1]; simp) hn
  rw [zeros1] at h ⊢
  have e : (Array.replicate (n * 1) (.int .u8 0)).toList = (tab n fun _ => 0).map yv := by
    apply List.ext_getElem?
    intro i
    simp only [Array.toList_replicate, List.getElem?_map, List.getElem?_replicate, Nat.mul_one]
    by_cases hi : i < n
    · rw [if_pos hi, tab_get hi]; rfl
    · rw [if_neg hi, List.getElem?_eq_none (by simp; omega)]; rfl
  rw [e] at h
  exact h
/-- A slice of a row of ints. -/
theorem r_sliceY {e : TypeId} {l h' : Nat} {xs : List Nat} {lo hi : Option Operand} {vl vh : Option Value} [TSl c.P t e] [TSz c.P e 1] (hd : dstOk c.n (some d) = true) (hg : guardF F g = some true)
    (hx : ev F x = some v) (hv : RdY c N v n xs)
    (hlo : (lo.bind (ev F)) = vl) (hlo' : lo.isSome = vl.isSome) (hl : vl = some (.int .i64 l) ∨ (vl = none ∧ l = 0)) (hhi : (hi.bind (ev F)) = vh) (hhi' : hi.isSome = vh.isSome) (hh : vh = some (.int .i64 h') ∨ (vh = none ∧ h' = n))
    (hlh : l ≤ h') (hhl : h' ≤ n)
    (h : ∀ v', RdY c N v' (h' - l) ((xs.drop l).take (h' - l)) → (∀ i, l < h' → vAt v' i = vAt v (l + i)) → JO c Q m r ((d, v') :: F) H) : JO c Q m (⟨some d, .slice t x lo hi none, ty, g, .mov, ns⟩ :: r) F H :=
  r_sliceR hd hg hx hv hlo hlo' hl hhi hhi' hh hlh hhl (fun v' h1 h2 => h v' (by
    unfold RdY
    rw [List.map_take, List.map_drop]
    simpa using h1) (by simpa using h2))
theorem r_appendY {A B N2 : SHeap} {v2 : Value} {k : Nat} {xs ys : List Nat} [TSl c.P t 5] [TE c.P 5 1 1 #[(.int .u8 0)]] (hO : OwnY N v n xs) (h2 : RdY c N2 v2 k ys) (hN2 : HSub N2 H) (hH : H = A ++ (N ++ B)) (hm : m.mayStore ns r) (hd : dstOk c.n (some d) = true) (hg : guardF F g = some true) (hx : ev F x = some v) (hy : ev F y = some v2)
    (hb : n + k ≤ 1000000000) (h : ∀ v' N', OwnY N' v' (n + k) (xs ++ ys) → JO c Q m.spent r ((d, v') :: F) (A ++ (N' ++ B))) :
    JO c Q m (⟨some d, .call ⟨.builtin .append, #[x, y], #[t, t]⟩, ty, g, .seq, ns⟩ :: r) F H :=
  r_appendA (e := 5) (sz := 1) (bytes := 1) (zc := #[(.int .u8 0)]) (xs := xs.map yv) (news := ys.map yv) (n := n) (mm := k) rfl hO h2 hN2 hH hm hd hg hx hy (fun u hu => by obtain ⟨a, _, rfl⟩ := List.mem_map.1 hu; rfl) (by simp only [maxLen]; omega) (by omega) (fun v' N' h' => h v' N' (by unfold OwnY; rw [List.map_append]; exact h'))
theorem r_appendYL {A B N2 Hs : SHeap} {v2 : Value} {k : Nat} {xs ys : List Nat} [TSl c.P t 5] [TE c.P 5 1 1 #[(.int .u8 0)]] (hO : OwnY N v n xs) (h2 : RdY c N2 v2 k ys) (hN2 : HSub N2 H) (hH : H = A ++ (N ++ B)) (hm : HSub Hs (A ++ B)) (hd : dstOk c.n (some d) = true) (hg : guardF F g = some true) (hx : ev F x = some v) (hy : ev F y = some v2)
    (hb : n + k ≤ 1000000000) (h : ∀ v' N', OwnY N' v' (n + k) (xs ++ ys) → JO c Q (.draw Hs true) r ((d, v') :: F) (A ++ (N' ++ B))) :
    JO c Q (.draw Hs true) (⟨some d, .call ⟨.builtin .append, #[x, y], #[t, t]⟩, ty, g, .seq, ns⟩ :: r) F H :=
  r_appendL (e := 5) (sz := 1) (bytes := 1) (zc := #[(.int .u8 0)]) (xs := xs.map yv) (news := ys.map yv) (n := n) (mm := k) rfl hO h2 hN2 hH hm hd hg hx hy (fun u hu => by obtain ⟨a, _, rfl⟩ := List.mem_map.1 hu; rfl) (by simp only [maxLen]; omega) (by omega) (fun v' N' h' => h v' N' (by unfold OwnY; rw [List.map_append]; exact h'))
end

theorem own_litY (b n : Nat) (xs : List Nat) (vs : List Value) (hv : vs = xs.map yv) (hn : xs.length = n) (h : n ≤ 1000) : OwnY [(b, .cells ⟨vs⟩ 5)] (.slice (some ⟨b, 0, none⟩) n n) n xs := by
  subst hv
  have := OwnRow.mk' (e := 5) (sz := 1) (n := n) (b := b) (cs := ⟨xs.map yv⟩) (by simp [hn]) (by simp only [maxLen]; omega)
  exact this
/-- The cells of a block: these numbers, then others. -/
def rowCY (xs : List Nat) (rest : List Value) : Array Value := ⟨xs.map yv ++ rest⟩
theorem rowCY_size (xs : List Nat) (rest : List Value) : (rowCY xs rest).size = xs.length + rest.length := by simp [rowCY]
theorem OwnY.named {N : SHeap} {v : Value} {n : Nat} {xs : List Nat} (h : OwnY N v n xs) (hn : 0 < n) : ∃ b cap rest, v = .slice (some ⟨b, 0, none⟩) n cap ∧ N = [(b, .cells (rowCY xs rest) 5 (0, 0))] ∧ n ≤ cap ∧ rest.length = cap - n ∧ cap ≤ maxLen := by
  obtain ⟨hl, ⟨rfl, rfl, rfl⟩ | ⟨b, cap, cur, rfl, rfl, h2, h3, h4, h5⟩⟩ := h
  · omega
  · refine ⟨b, cap, cur.toList.drop n, rfl, ?_, h2, by simp [h4], h3⟩
    have : cur = rowCY xs (cur.toList.drop n) := by
      apply Array.ext'
      show cur.toList = xs.map yv ++ cur.toList.drop n
      rw [Nat.mul_one] at h5
      rw [← h5, List.take_append_drop]
    rw [← this]
theorem OwnY.ofNamed {b cap n : Nat} {xs : List Nat} {rest : List Value} (hl : xs.length = n) (hn : n ≤ cap) (hr : rest.length = cap - n) (hc : cap ≤ maxLen) : OwnY [(b, .cells (rowCY xs rest) 5 (0, 0))] (.slice (some ⟨b, 0, none⟩) n cap) n xs := by
  refine ⟨by simp [hl], .inr ⟨b, cap, _, rfl, rfl, hn, hc, by rw [rowCY_size]; omega, ?_⟩⟩
  show (xs.map yv ++ rest).take (n * 1) = xs.map yv
  rw [Nat.mul_one, List.take_append_of_le_length (by simp [hl])]
  exact List.take_of_length_le (by simp [hl])

end Go.Proofs.YtdehklhdjbkneaaDoor
