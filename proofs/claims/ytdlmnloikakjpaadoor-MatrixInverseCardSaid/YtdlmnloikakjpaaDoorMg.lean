import Derived.Test.YtdlmnloikakjpaaDoorMf
import Derived.KernelRfl
namespace Go.Proofs.YtdlmnloikakjpaaDoor
open Go Go.RowKit
set_option linter.unusedSimpArgs false
set_option linter.unusedVariables false
set_option linter.unusedSectionVars false

abbrev WR := Bool × List UInt8
def xc (x : WR) : List Value := [.bool x.1, sv x.2]
abbrev xv (x : WR) : Value := wv x.1 x.2
def xcs (xs : List WR) : List Value := xs.flatMap xc
def wz (z : Int) : WR := (decide (z < 0), magU z.natAbs)
abbrev w0x : WR := (false, [])

theorem wz_zero : wz 0 = w0x := by
  unfold wz
  rw [show magU (0 : Int).natAbs = [] from magU_nil.2 rfl]
  rfl

theorem xcs_len : ∀ (xs : List WR), (xcs xs).length = xs.length * 2
  | [] => rfl
  | x :: r => by
    show (xc x ++ xcs r).length = _
    rw [List.length_append, xcs_len r, List.length_cons]
    show 2 + r.length * 2 = _
    omega
theorem xcs_cons (x : WR) (r : List WR) : xcs (x :: r) = .bool x.1 :: sv x.2 :: xcs r := rfl
theorem xcs_append (a b : List WR) : xcs (a ++ b) = xcs a ++ xcs b := by simp [xcs]
theorem xcs_get : ∀ {xs : List WR} {i : Nat}, i < xs.length → (xcs xs)[i * 2]? = some (.bool (xs.getD i w0x).1) ∧ (xcs xs)[i * 2 + 1]? = some (sv (xs.getD i w0x).2)
  | [], i, h => absurd h (Nat.not_lt_zero _)
  | x :: r, 0, _ => ⟨rfl, rfl⟩
  | x :: r, i + 1, h => by
    have h' := xcs_get (xs := r) (i := i) (by simpa using h)
    rw [xcs_cons, show (i + 1) * 2 = i * 2 + 1 + 1 by omega]
    simpa using h'
theorem xcs_set : ∀ {xs : List WR} {i : Nat} {x : WR}, i < xs.length → ((xcs xs).set (i * 2) (.bool x.1)).set (i * 2 + 1) (sv x.2) = xcs (xs.set i x)
  | [], i, _, h => absurd h (Nat.not_lt_zero _)
  | y :: r, 0, x, _ => rfl
  | y :: r, i + 1, x, h => by
    have h' := xcs_set (xs := r) (i := i) (x := x) (by simpa using h)
    rw [xcs_cons, show (i + 1) * 2 = i * 2 + 1 + 1 by omega]
    simp only [List.set_cons_succ]
    rw [h']
    rfl
theorem xcs_drop : ∀ {xs : List WR} {i : Nat}, (xcs xs).drop (i * 2) = xcs (xs.drop i)
  | xs, 0 => rfl
  | [], i + 1 => by simp [xcs]
  | x :: r, i + 1 => by
    rw [xcs_cons, show (i + 1) * 2 = i * 2 + 1 + 1 by omega]
    simp only [List.drop_succ_cons]
    exact xcs_drop
theorem xcs_take : ∀ {xs : List WR} {i : Nat}, (xcs xs).take (i * 2) = xcs (xs.take i)
  | xs, 0 => by simp [xcs]
  | [], i + 1 => by simp [xcs]
  | x :: r, i + 1 => by
    rw [xcs_cons, show (i + 1) * 2 = i * 2 + 1 + 1 by omega]
    simp only [List.take_succ_cons]
    rw [xcs_take]
    rfl
theorem xcs_one : ∀ {xs : List WR}, ∀ u ∈ xcs xs, u.oneCell' = true
  | [], u, h => nomatch h
  | x :: r, u, h => by
    rw [xcs_cons] at h
    rcases List.mem_cons.1 h with rfl | h
    · rfl
    · rcases List.mem_cons.1 h with rfl | h
      · rfl
      · exact xcs_one u h

def WX (w : World) (v : Value) (n : Nat) (xs : List WR) : Prop := RdW w 2 v n (xcs xs)
def RdX (c : Cx) (N : SHeap) (v : Value) (n : Nat) (xs : List WR) : Prop := Rd c N 2 v n (xcs xs)
def OwnX (N : SHeap) (v : Value) (n : Nat) (xs : List WR) : Prop := OwnRow 41 2 N v n (xcs xs)
theorem WX.len {w : World} {v : Value} {n : Nat} {xs : List WR} (h : WX w v n xs) : xs.length = n := by have := h.1; rw [xcs_len] at this; omega
theorem RdX.len {c : Cx} {N : SHeap} {v : Value} {n : Nat} {xs : List WR} (h : RdX c N v n xs) : xs.length = n := by have := h.1; rw [xcs_len] at this; omega
theorem OwnX.len {N : SHeap} {v : Value} {n : Nat} {xs : List WR} (h : OwnX N v n xs) : xs.length = n := by have := h.1; rw [xcs_len] at this; omega
theorem WX.mono {w w' : World} {v : Value} {n : Nat} {xs : List WR} (h : WX w v n xs) (hk : Kp [] w w') : WX w' v n xs := RdW.mono h hk
theorem WX.rd {c : Cx} {v : Value} {n : Nat} {xs : List WR} (h : WX c.w0 v n xs) (hM : c.M = []) (N : SHeap) : RdX c N v n xs := RdW.rd h hM N
theorem WX.rdM {c : Cx} {v : Value} {n : Nat} {xs : List WR} (h : WX c.w0 v n xs) (hM : 0 < n → (vAt v 0).block ∉ c.M) (N : SHeap) : RdX c N v n xs := RdW.rdM h hM N
theorem RdX.at {c : Cx} {N H : SHeap} {w : World} {v : Value} {n : Nat} {xs : List WR} (h : RdX c N v n xs) (hk : Kp c.M c.w0 w) (hs : Hsat H w) (hN : HSub N H) : WX w v n xs := Rd.at h hk hs hN
theorem OwnX.rd {c : Cx} {N : SHeap} {v : Value} {n : Nat} {xs : List WR} (h : OwnX N v n xs) : RdX c N v n xs := OwnRow.rd h
theorem OwnX.new {N : SHeap} {v : Value} {n : Nat} {xs : List WR} {w w' : World} (h : OwnX N v n xs) (hn : New N w w') : WX w' v n xs := New.rd (c := ⟨Tryd.prog, 0, w, [], by simp⟩) h hn
theorem OwnX.form {N : SHeap} {v : Value} {n : Nat} {xs : List WR} (h : OwnX N v n xs) : ∃ A cap, v = .slice A n cap := by
  obtain ⟨_, ⟨rfl, rfl, rfl⟩ | ⟨b, cap, cur, rfl, _⟩⟩ := h
  · exact ⟨_, _, rfl⟩
  · exact ⟨_, _, rfl⟩
theorem WX.form {w : World} {v : Value} {n : Nat} {xs : List WR} (h : WX w v n xs) : ∃ A cap, v = .slice A n cap := by
  obtain ⟨_, A, cap, rfl, _⟩ := h
  exact ⟨_, _, rfl⟩
theorem RdX.form {c : Cx} {N : SHeap} {v : Value} {n : Nat} {xs : List WR} (h : RdX c N v n xs) : ∃ A cap, v = .slice A n cap := by
  obtain ⟨_, A, cap, rfl, _⟩ := h
  exact ⟨_, _, rfl⟩
theorem OwnX.nil : OwnX [] (.slice none 0 0) 0 [] := OwnRow.nil _ 2
theorem OwnX.cells {N : SHeap} {v : Value} {n : Nat} {xs : List WR} (h : OwnX N v n xs) : Cells N := OwnRow.cells' h

def WZ (w : World) (v : Value) (n : Nat) (zs : List Int) : Prop := WX w v n (zs.map wz)
def RdZ (c : Cx) (N : SHeap) (v : Value) (n : Nat) (zs : List Int) : Prop := RdX c N v n (zs.map wz)
def OwnZ (N : SHeap) (v : Value) (n : Nat) (zs : List Int) : Prop := OwnX N v n (zs.map wz)
theorem WZ.len {w : World} {v : Value} {n : Nat} {xs : List Int} (h : WZ w v n xs) : xs.length = n := by simpa using WX.len h
theorem RdZ.len {c : Cx} {N : SHeap} {v : Value} {n : Nat} {xs : List Int} (h : RdZ c N v n xs) : xs.length = n := by simpa using RdX.len h
theorem OwnZ.len {N : SHeap} {v : Value} {n : Nat} {xs : List Int} (h : OwnZ N v n xs) : xs.length = n := by simpa using OwnX.len h
theorem WZ.mono {w w' : World} {v : Value} {n : Nat} {xs : List Int} (h : WZ w v n xs) (hk : Kp [] w w') : WZ w' v n xs := WX.mono h hk
theorem WZ.rd {c : Cx} {v : Value} {n : Nat} {xs : List Int} (h : WZ c.w0 v n xs) (hM : c.M = []) (N : SHeap) : RdZ c N v n xs := WX.rd h hM N
theorem WZ.rdM {c : Cx} {v : Value} {n : Nat} {xs : List Int} (h : WZ c.w0 v n xs) (hM : 0 < n → (vAt v 0).block ∉ c.M) (N : SHeap) : RdZ c N v n xs := WX.rdM h hM N
theorem RdZ.at {c : Cx} {N H : SHeap} {w : World} {v : Value} {n : Nat} {xs : List Int} (h : RdZ c N v n xs) (hk : Kp c.M c.w0 w) (hs : Hsat H w) (hN : HSub N H) : WZ w v n xs := RdX.at h hk hs hN
theorem OwnZ.rd {c : Cx} {N : SHeap} {v : Value} {n : Nat} {xs : List Int} (h : OwnZ N v n xs) : RdZ c N v n xs := OwnX.rd h
theorem OwnZ.new {N : SHeap} {v : Value} {n : Nat} {xs : List Int} {w w' : World} (h : OwnZ N v n xs) (hn : New N w w') : WZ w' v n xs := OwnX.new h hn
theorem OwnZ.form {N : SHeap} {v : Value} {n : Nat} {xs : List Int} (h : OwnZ N v n xs) : ∃ A cap, v = .slice A n cap := OwnX.form h
theorem WZ.form {w : World} {v : Value} {n : Nat} {xs : List Int} (h : WZ w v n xs) : ∃ A cap, v = .slice A n cap := WX.form h
theorem RdZ.form {c : Cx} {N : SHeap} {v : Value} {n : Nat} {xs : List Int} (h : RdZ c N v n xs) : ∃ A cap, v = .slice A n cap := RdX.form h
theorem OwnZ.nil : OwnZ [] (.slice none 0 0) 0 [] := OwnX.nil
theorem OwnZ.cells {N : SHeap} {v : Value} {n : Nat} {xs : List Int} (h : OwnZ N v n xs) : Cells N := OwnX.cells h
theorem map_wz_getD (zs : List Int) (i : Nat) : (zs.map wz).getD i w0x = wz (zs.getD i 0) := by
  simp only [List.getD, List.getElem?_map]
  cases h : zs[i]? with
  | none => exact wz_zero.symm
  | some z => rfl

theorem OwnRow.set2 {e : TypeId} {N : SHeap} {n i : Nat} {v : Value} {cs : List Value} (h : OwnRow e 2 N v n cs) (hi : i < n) :
    ∃ b cap cur, v = .slice (some ⟨b, 0, none⟩) n cap ∧ N = [(b, .cells cur e (0, 0))] ∧ i * 2 + 2 ≤ cur.size ∧ (∀ u u', OwnRow e 2 [(b, .cells (storeL cur (i * 2) [u, u']) e (0, 0))] v n ((cs.set (i * 2) u).set (i * 2 + 1) u')) := by
  obtain ⟨hl, ⟨rfl, rfl, rfl⟩ | ⟨b, cap, cur, rfl, rfl, h2, h3, h4, h5⟩⟩ := h
  · omega
  · refine ⟨b, cap, cur, rfl, rfl, by omega, fun u u' => ⟨by simpa using hl, .inr ⟨b, cap, _, rfl, rfl, h2, h3, ?_, ?_⟩⟩⟩
    · rw [storeL_size]; exact h4
    · rw [storeL, storeL, storeL, Array.toList_setIfInBounds, Array.toList_setIfInBounds, ← h5, List.take_set, List.take_set]

section
variable {c : Cx} {Q : Exit → Act → World → Prop} {m : Mode} {F : SFrame} {H : SHeap} {r : List SOp} {g : Option (Option Tmp × Bool)} {ns : Bool} {d : Tmp} {ty t t' : TypeId} {x y : Operand} {N : SHeap} {n : Nat} {v : Value}

theorem r_lenX {e : TypeId} {xs : List WR} [TSl c.P t e] (hd : dstOk c.n (some d) = true) (hg : guardF F g = some true) (hx : ev F x = some v) (hv : RdX c N v n xs)
    (h : JO c Q m r ((d, .int .i64 n) :: F) H) : JO c Q m (⟨some d, .call ⟨.builtin .len, #[x], #[t]⟩, ty, g, .mov, ns⟩ :: r) F H := r_lenR hd hg hx hv h
theorem r_lenZ {e : TypeId} {xs : List Int} [TSl c.P t e] (hd : dstOk c.n (some d) = true) (hg : guardF F g = some true) (hx : ev F x = some v) (hv : RdZ c N v n xs)
    (h : JO c Q m r ((d, .int .i64 n) :: F) H) : JO c Q m (⟨some d, .call ⟨.builtin .len, #[x], #[t]⟩, ty, g, .mov, ns⟩ :: r) F H := r_lenX hd hg hx hv h
theorem r_idxX {e : TypeId} {xs : List WR} {j : Nat} {k : IntKind} [TSl c.P t e] [TSz c.P e 2] (hd : dstOk c.n (some d) = true) (hg : guardF F g = some true) (hx : ev F x = some v) (hy : ev F y = some (.int k j)) (hv : RdX c N v n xs) (hj : j < n)
    (h : JO c Q m r ((d, .pointer (some (vAt v (j * 2)))) :: F) H) : JO c Q m (⟨some d, .indexAddr t x y, ty, g, .mov, ns⟩ :: r) F H := r_idxR hd hg hx hy hv hj h
theorem r_idxZ {e : TypeId} {xs : List Int} {j : Nat} {k : IntKind} [TSl c.P t e] [TSz c.P e 2] (hd : dstOk c.n (some d) = true) (hg : guardF F g = some true) (hx : ev F x = some v) (hy : ev F y = some (.int k j)) (hv : RdZ c N v n xs) (hj : j < n)
    (h : JO c Q m r ((d, .pointer (some (vAt v (j * 2)))) :: F) H) : JO c Q m (⟨some d, .indexAddr t x y, ty, g, .mov, ns⟩ :: r) F H := r_idxR hd hg hx hy hv hj h
theorem r_ldX {xs : List WR} {i : Nat} [TN c.P t 2] (hd : dstOk c.n (some d) = true) (hg : guardF F g = some true) (hx : ev F x = some (.pointer (some (vAt v (i * 2))))) (hl : m.live = true) (hv : RdX c N v n xs) (hN : HSub N (m.src H)) (hi : i < n)
    (h : JO c Q m r ((d, xv (xs.getD i w0x)) :: F) H) : JO c Q m (⟨some d, .load t x, ty, g, .ld, ns⟩ :: r) F H := by
  have hg2 := xcs_get (xs := xs) (i := i) (by have := hv.len; omega)
  refine r_ldRN hd hg hx hl hv hN (by omega) (us := #[.bool (xs.getD i w0x).1, sv (xs.getD i w0x).2]) rfl (fun j hj => ?_) h
  have hj : j < 2 := hj
  have : j = 0 ∨ j = 1 := by omega
  rcases this with rfl | rfl
  · exact hg2.1
  · exact hg2.2
theorem r_ldZ {xs : List Int} {i : Nat} [TN c.P t 2] (hd : dstOk c.n (some d) = true) (hg : guardF F g = some true) (hx : ev F x = some (.pointer (some (vAt v (i * 2))))) (hl : m.live = true) (hv : RdZ c N v n xs) (hN : HSub N (m.src H)) (hi : i < n)
    (h : JO c Q m r ((d, Wv (xs.getD i 0)) :: F) H) : JO c Q m (⟨some d, .load t x, ty, g, .ld, ns⟩ :: r) F H :=
  r_ldX hd hg hx hl hv hN hi (by rw [map_wz_getD]; exact h)
theorem r_ldXm {xs : List WR} {i : Nat} [T1 c.P t] (hd : dstOk c.n (some d) = true) (hg : guardF F g = some true) (hx : ev F x = some (.pointer (some (vAt v (i * 2 + 1))))) (hl : m.live = true) (hv : RdX c N v n xs) (hN : HSub N (m.src H)) (hi : i < n)
    (h : JO c Q m r ((d, sv (xs.getD i w0x).2) :: F) H) : JO c Q m (⟨some d, .load t x, ty, g, .ld, ns⟩ :: r) F H :=
  r_ldR hd hg hx hl hv hN (xcs_get (by have := hv.len; omega)).2 h
theorem r_ldXs {xs : List WR} {i : Nat} [T1 c.P t] (hd : dstOk c.n (some d) = true) (hg : guardF F g = some true) (hx : ev F x = some (.pointer (some (vAt v (i * 2 + 0))))) (hl : m.live = true) (hv : RdX c N v n xs) (hN : HSub N (m.src H)) (hi : i < n)
    (h : JO c Q m r ((d, .bool (xs.getD i w0x).1) :: F) H) : JO c Q m (⟨some d, .load t x, ty, g, .ld, ns⟩ :: r) F H :=
  r_ldR hd hg hx hl hv hN (xcs_get (by have := hv.len; omega)).1 h
theorem r_fieldV {s : TypeId} {f off i : Nat} [FA c.P s f off] {b o len cap : Nat} (hd : dstOk c.n (some d) = true) (hg : guardF F g = some true) (hx : ev F x = some (.pointer (some (vAt v i))))
    (h : JO c Q m r ((d, (.pointer (some (vAt v (i + off))))) :: F) H) (hv : v = .slice (some ⟨b, o, none⟩) len cap) : JO c Q m (⟨some d, .fieldAddr s x f, ty, g, .mov, ns⟩ :: r) F H := by
  subst hv
  exact r_fieldAddr hd hg hx (by rw [Nat.add_assoc]; exact h)
theorem r_fieldX {s : TypeId} {f off i : Nat} {xs : List WR} [FA c.P s f off] (hd : dstOk c.n (some d) = true) (hg : guardF F g = some true) (hx : ev F x = some (.pointer (some (vAt v i)))) (hv : RdX c N v n xs) (hn : 0 < n)
    (h : JO c Q m r ((d, (.pointer (some (vAt v (i + off))))) :: F) H) : JO c Q m (⟨some d, .fieldAddr s x f, ty, g, .mov, ns⟩ :: r) F H := by
  obtain ⟨_, A, cap, rfl, _, hv⟩ := hv
  obtain ⟨⟨b, o, rfl⟩, _⟩ := hv hn
  exact r_fieldV hd hg hx h rfl
theorem r_stX {A B : SHeap} {i : Nat} {u : WR} {xs : List WR} [TN c.P t 2] (hO : OwnX N v n xs) (hH : H = A ++ (N ++ B)) (hg : guardF F g = some true) (hm : m.mayStore ns r) (hx : ev F x = some (.pointer (some (vAt v (i * 2))))) (hy : ev F y = some (xv u))
    (hi : i < n) (h : ∀ N', OwnX N' v n (xs.set i u) → JO c Q m.spent r F (A ++ (N' ++ B))) : JO c Q m (⟨none, .store t x y, ty, g, .seq, ns⟩ :: r) F H := by
  have hl := hO.len
  obtain ⟨b, cap, cur, rfl, rfl, h1, h2⟩ := OwnRow.set2 hO hi
  subst hH
  simp only [vAt_lit, Nat.zero_add] at hx
  refine r_storeG A.length (b := b) (o := i * 2) (cs := cur) (T := 41) (l := [.bool u.1, sv u.2]) (TN.size (P := c.P) (t := t) (n := 2)) hg hm hx hy (by simp) rfl rfl rfl h1 ?_
  have := h _ (by unfold OwnX; rw [← xcs_set (by omega)]; exact h2 (.bool u.1) (sv u.2))
  simpa using this
theorem r_stZ {A B : SHeap} {i : Nat} {u : Int} {xs : List Int} [TN c.P t 2] (hO : OwnZ N v n xs) (hH : H = A ++ (N ++ B)) (hg : guardF F g = some true) (hm : m.mayStore ns r) (hx : ev F x = some (.pointer (some (vAt v (i * 2))))) (hy : ev F y = some (Wv u))
    (hi : i < n) (h : ∀ N', OwnZ N' v n (xs.set i u) → JO c Q m.spent r F (A ++ (N' ++ B))) : JO c Q m (⟨none, .store t x y, ty, g, .seq, ns⟩ :: r) F H :=
  r_stX (u := wz u) hO hH hg hm hx hy hi (fun N' h' => h N' (by unfold OwnZ; rw [List.map_set]; exact h'))

theorem r_sliceX {e : TypeId} {l h' : Nat} {xs : List WR} {lo hi : Option Operand} {vl vh : Option Value} [TSl c.P t e] [TSz c.P e 2] (hd : dstOk c.n (some d) = true) (hg : guardF F g = some true)
    (hx : ev F x = some v) (hv : RdX c N v n xs)
    (hlo : (lo.bind (ev F)) = vl) (hlo' : lo.isSome = vl.isSome) (hl : vl = some (.int .i64 l) ∨ (vl = none ∧ l = 0)) (hhi : (hi.bind (ev F)) = vh) (hhi' : hi.isSome = vh.isSome) (hh : vh = some (.int .i64 h') ∨ (vh = none ∧ h' = n))
    (hlh : l ≤ h') (hhl : h' ≤ n)
    (h : ∀ v', RdX c N v' (h' - l) ((xs.drop l).take (h' - l)) → (∀ i, l < h' → vAt v' i = vAt v (l * 2 + i)) → JO c Q m r ((d, v') :: F) H) : JO c Q m (⟨some d, .slice t x lo hi none, ty, g, .mov, ns⟩ :: r) F H :=
  r_sliceR hd hg hx hv hlo hlo' hl hhi hhi' hh hlh hhl (fun v' h1 h2 => h v' (by
    unfold RdX
    rw [← xcs_take, ← xcs_drop]
    exact h1) h2)
theorem r_sliceZ {e : TypeId} {l h' : Nat} {xs : List Int} {lo hi : Option Operand} {vl vh : Option Value} [TSl c.P t e] [TSz c.P e 2] (hd : dstOk c.n (some d) = true) (hg : guardF F g = some true)
    (hx : ev F x = some v) (hv : RdZ c N v n xs)
    (hlo : (lo.bind (ev F)) = vl) (hlo' : lo.isSome = vl.isSome) (hl : vl = some (.int .i64 l) ∨ (vl = none ∧ l = 0)) (hhi : (hi.bind (ev F)) = vh) (hhi' : hi.isSome = vh.isSome) (hh : vh = some (.int .i64 h') ∨ (vh = none ∧ h' = n))
    (hlh : l ≤ h') (hhl : h' ≤ n)
    (h : ∀ v', RdZ c N v' (h' - l) ((xs.drop l).take (h' - l)) → (∀ i, l < h' → vAt v' i = vAt v (l * 2 + i)) → JO c Q m r ((d, v') :: F) H) : JO c Q m (⟨some d, .slice t x lo hi none, ty, g, .mov, ns⟩ :: r) F H :=
  r_sliceX hd hg hx hv hlo hlo' hl hhi hhi' hh hlh hhl (fun v' h1 h2 => h v' (by
    unfold RdZ
    rw [List.map_take, List.map_drop]
    exact h1) h2)
theorem r_rowX {e : TypeId} {i k : Nat} {xs : List WR} {lo hi : Operand} [TSl c.P t e] [TSz c.P e 2] (hd : dstOk c.n (some d) = true) (hg : guardF F g = some true)
    (hx : ev F x = some v) (hv : RdX c N v n xs) (hlo : ev F lo = some (nv (i * k))) (hhi : ev F hi = some (nv ((i + 1) * k))) (hle : (i + 1) * k ≤ n)
    (h : ∀ v', RdX c N v' k ((xs.drop (i * k)).take k) → (∀ j, j < k → vAt v' (j * 2) = vAt v ((i * k + j) * 2)) → JO c Q m r ((d, v') :: F) H) : JO c Q m (⟨some d, .slice t x (some lo) (some hi) none, ty, g, .mov, ns⟩ :: r) F H := by
  have e1 : (i + 1) * k - i * k = k := by rw [Nat.add_mul]; omega
  refine r_sliceX (l := i * k) (h' := (i + 1) * k) hd hg hx hv hlo rfl (.inl rfl) hhi rfl (.inl rfl) (Nat.mul_le_mul_right k (by omega)) hle (fun v' h1 h2 => h v' (by rw [e1] at h1; exact h1) (fun j hj => by
    rw [h2 _ (by rw [Nat.add_mul]; omega), Nat.add_mul]))
theorem r_rowZ {e : TypeId} {i k : Nat} {xs : List Int} {lo hi : Operand} [TSl c.P t e] [TSz c.P e 2] (hd : dstOk c.n (some d) = true) (hg : guardF F g = some true)
    (hx : ev F x = some v) (hv : RdZ c N v n xs) (hlo : ev F lo = some (nv (i * k))) (hhi : ev F hi = some (nv ((i + 1) * k))) (hle : (i + 1) * k ≤ n)
    (h : ∀ v', RdZ c N v' k ((xs.drop (i * k)).take k) → (∀ j, j < k → vAt v' (j * 2) = vAt v ((i * k + j) * 2)) → JO c Q m r ((d, v') :: F) H) : JO c Q m (⟨some d, .slice t x (some lo) (some hi) none, ty, g, .mov, ns⟩ :: r) F H :=
  r_rowX hd hg hx hv hlo hhi hle (fun v' h1 h2 => h v' (by unfold RdZ; rw [List.map_take, List.map_drop]; exact h1) h2)

theorem r_appendX {A B N2 : SHeap} {v2 : Value} {k : Nat} {xs ys : List WR} [TSl c.P t 41] [TE c.P 41 2 24 #[.bool false, .string ⟨#[]⟩]] (hO : OwnX N v n xs) (h2 : RdX c N2 v2 k ys) (hN2 : HSub N2 H) (hH : H = A ++ (N ++ B)) (hm : m.mayStore ns r) (hd : dstOk c.n (some d) = true) (hg : guardF F g = some true) (hx : ev F x = some v) (hy : ev F y = some v2)
    (hb : n + k ≤ 1000000000) (h : ∀ v' N', OwnX N' v' (n + k) (xs ++ ys) → JO c Q m.spent r ((d, v') :: F) (A ++ (N' ++ B))) :
    JO c Q m (⟨some d, .call ⟨.builtin .append, #[x, y], #[t, t]⟩, ty, g, .seq, ns⟩ :: r) F H :=
  r_appendA (e := 41) (sz := 2) (bytes := 24) (zc := #[.bool false, .string ⟨#[]⟩]) (xs := xcs xs) (news := xcs ys) (n := n) (mm := k) rfl hO h2 hN2 hH hm hd hg hx hy (fun u hu => xcs_one u hu) (by simp only [maxLen]; omega) (by omega) (fun v' N' h' => h v' N' (by unfold OwnX; rw [xcs_append]; exact h'))
theorem r_appendXL {A B N2 Hs : SHeap} {v2 : Value} {k : Nat} {xs ys : List WR} [TSl c.P t 41] [TE c.P 41 2 24 #[.bool false, .string ⟨#[]⟩]] (hO : OwnX N v n xs) (h2 : RdX c N2 v2 k ys) (hN2 : HSub N2 H) (hH : H = A ++ (N ++ B)) (hm : HSub Hs (A ++ B)) (hd : dstOk c.n (some d) = true) (hg : guardF F g = some true) (hx : ev F x = some v) (hy : ev F y = some v2)
    (hb : n + k ≤ 1000000000) (h : ∀ v' N', OwnX N' v' (n + k) (xs ++ ys) → JO c Q (.draw Hs true) r ((d, v') :: F) (A ++ (N' ++ B))) :
    JO c Q (.draw Hs true) (⟨some d, .call ⟨.builtin .append, #[x, y], #[t, t]⟩, ty, g, .seq, ns⟩ :: r) F H :=
  r_appendL (e := 41) (sz := 2) (bytes := 24) (zc := #[.bool false, .string ⟨#[]⟩]) (xs := xcs xs) (news := xcs ys) (n := n) (mm := k) rfl hO h2 hN2 hH hm hd hg hx hy (fun u hu => xcs_one u hu) (by simp only [maxLen]; omega) (by omega) (fun v' N' h' => h v' N' (by unfold OwnX; rw [xcs_append]; exact h'))
theorem r_appendZ {A B N2 : SHeap} {v2 : Value} {k : Nat} {xs ys : List Int} [TSl c.P t 41] [TE c.P 41 2 24 #[.bool false, .string ⟨#[]⟩]] (hO : OwnZ N v n xs) (h2 : RdZ c N2 v2 k ys) (hN2 : HSub N2 H) (hH : H = A ++ (N ++ B)) (hm : m.mayStore ns r) (hd : dstOk c.n (some d) = true) (hg : guardF F g = some true) (hx : ev F x = some v) (hy : ev F y = some v2)
    (hb : n + k ≤ 1000000000) (h : ∀ v' N', OwnZ N' v' (n + k) (xs ++ ys) → JO c Q m.spent r ((d, v') :: F) (A ++ (N' ++ B))) :
    JO c Q m (⟨some d, .call ⟨.builtin .append, #[x, y], #[t, t]⟩, ty, g, .seq, ns⟩ :: r) F H :=
  r_appendX hO h2 hN2 hH hm hd hg hx hy hb (fun v' N' h' => h v' N' (by unfold OwnZ; rw [List.map_append]; exact h'))
theorem r_appendZL {A B N2 Hs : SHeap} {v2 : Value} {k : Nat} {xs ys : List Int} [TSl c.P t 41] [TE c.P 41 2 24 #[.bool false, .string ⟨#[]⟩]] (hO : OwnZ N v n xs) (h2 : RdZ c N2 v2 k ys) (hN2 : HSub N2 H) (hH : H = A ++ (N ++ B)) (hm : HSub Hs (A ++ B)) (hd : dstOk c.n (some d) = true) (hg : guardF F g = some true) (hx : ev F x = some v) (hy : ev F y = some v2)
    (hb : n + k ≤ 1000000000) (h : ∀ v' N', OwnZ N' v' (n + k) (xs ++ ys) → JO c Q (.draw Hs true) r ((d, v') :: F) (A ++ (N' ++ B))) :
    JO c Q (.draw Hs true) (⟨some d, .call ⟨.builtin .append, #[x, y], #[t, t]⟩, ty, g, .seq, ns⟩ :: r) F H :=
  r_appendXL hO h2 hN2 hH hm hd hg hx hy hb (fun v' N' h' => h v' N' (by unfold OwnZ; rw [List.map_append]; exact h'))
end

section
variable {c : Cx} {Q : Exit → Act → World → Prop} {m : Mode} {F : SFrame} {H : SHeap} {r : List SOp} {g : Option (Option Tmp × Bool)} {ns : Bool} {d : Tmp} {ty t : TypeId} {x y : Operand}
theorem r_min4 {x1 x2 x3 x4 : Operand} {k : IntKind} {i1 i2 i3 i4 : Int} {ts : Array TypeId} (hd : dstOk c.n (some d) = true) (hg : guardF F g = some true) (h1 : ev F x1 = some (.int k i1)) (h2 : ev F x2 = some (.int k i2)) (h3 : ev F x3 = some (.int k i3)) (h4 : ev F x4 = some (.int k i4))
    (h : ∀ q : Int, (q = i1 ∨ q = i2 ∨ q = i3 ∨ q = i4) → q ≤ i1 ∧ q ≤ i2 ∧ q ≤ i3 ∧ q ≤ i4 → JO c Q m r ((d, (.int k q)) :: F) H) : JO c Q m (⟨some d, .call ⟨.builtin .min, #[x1, x2, x3, x4], ts⟩, ty, g, .mov, ns⟩ :: r) F H :=
  r_mov (v := .int k (if i4 < (if i3 < (if i2 < i1 then i2 else i1) then i3 else (if i2 < i1 then i2 else i1)) then i4 else (if i3 < (if i2 < i1 then i2 else i1) then i3 else (if i2 < i1 then i2 else i1)))) hd hg (fun a w fr => by
    simp [execOp, resolve, invoke, builtin, fr.ev h1, fr.ev h2, fr.ev h3, fr.ev h4, Builtin.min_, Builtin.min2]) (h _ (by split <;> split <;> split <;> simp) (by split <;> split <;> split <;> omega))
theorem r_build2 {a b : Int} [TSt c.P t #[iv 0, iv 0, .slice none 0 0] #[(0, 1), (1, 1), (2, 1)]] (hd : dstOk c.n (some d) = true) (hg : guardF F g = some true) (hx : ev F x = some (iv a)) (hy : ev F y = some (iv b))
    (h : JO c Q m r ((d, .agg #[iv a, iv b, .slice none 0 0]) :: F) H) : JO c Q m (⟨some d, .build t #[(0, x), (1, y)], ty, g, .mov, ns⟩ :: r) F H :=
  r_build (l := [(0, iv a), (1, iv b)]) (cs := #[iv a, iv b, .slice none 0 0]) hd hg (by simp [evParts, hx, hy]) rfl h
end

theorem xcs_tab : ∀ n : Nat, xcs ((tab n fun _ => (0 : Int)).map wz) = (zerosOf #[.bool false, .string ⟨#[]⟩] (n * 2)).toList
  | 0 => by simp [tab, xcs, zerosOf]
  | n + 1 => by
    have h1 : (tab (n + 1) fun _ => (0 : Int)) = tab n (fun _ => 0) ++ [0] := by simp [tab, List.range_succ]
    have h2 : ∀ k, (zerosOf #[Value.bool false, .string ⟨#[]⟩] (k * 2)).toList = (List.range (k * 2)).map fun i => #[Value.bool false, Value.string ⟨#[]⟩][i % 2]! := fun k => by
      unfold zerosOf
      rw [Array.toList_map, Array.toList_range]
      rfl
    rw [h1, List.map_append, xcs_append, xcs_tab n, h2, h2, show (n + 1) * 2 = n * 2 + 1 + 1 by omega, List.range_succ, List.range_succ, List.map_append, List.map_append, List.append_assoc]
    congr 1
    show xc (wz 0) = [#[Value.bool false, Value.string ⟨#[]⟩][(n * 2) % 2]!, #[Value.bool false, Value.string ⟨#[]⟩][(n * 2 + 1) % 2]!]
    rw [wz_zero, show (n * 2) % 2 = 0 by omega, show (n * 2 + 1) % 2 = 1 by omega]
    rfl
theorem own_zerosZ (b n : Nat) (hn : n ≤ maxLen) : OwnZ [(b, .cells (zerosOf #[.bool false, .string ⟨#[]⟩] (n * 2)) 41)] (.slice (some ⟨b, 0, none⟩) n n) n (tab n fun _ => 0) := by
  have h := OwnRow.mk' (e := 41) (sz := 2) (n := n) (b := b) (cs := zerosOf #[.bool false, .string ⟨#[]⟩] (n * 2)) (by unfold zerosOf; simp) hn
  unfold OwnZ OwnX
  rw [xcs_tab]
  exact h


def IsB (q : Prop) (v : Value) : Prop := ∃ b : Bool, v = .bool b ∧ (b = true ↔ q)
theorem IsB.t {q : Prop} (h : q) : IsB q (.bool true) := ⟨true, rfl, by simp [h]⟩
theorem IsB.f {q : Prop} (h : ¬ q) : IsB q (.bool false) := ⟨false, rfl, by simp [h]⟩
theorem IsB.d {q : Prop} [Decidable q] : IsB q (.bool (decide q)) := ⟨_, rfl, by simp⟩

def badW (x : WR) : Bool := (decide (x.2 = []) && x.1) || (match x.2 with | [] => false | a :: _ => decide (a = 0))

theorem dropWhile_head {l : List UInt8} (h : l.dropWhile (· == 0) = l) : ∀ a r, l = a :: r → a ≠ 0 := by
  rintro a r rfl rfl
  rw [List.dropWhile] at h
  simp only [BEq.rfl] at h
  have h1 : (r.dropWhile (· == 0)).length ≤ r.length := (List.dropWhile_sublist _).length_le
  rw [h, List.length_cons] at h1
  omega
theorem magU_fix (n : Nat) : (magU n).dropWhile (· == 0) = magU n := by rw [magU_of, bval_magU]
theorem good_wz (z : Int) : badW (wz z) = false := by
  unfold badW wz
  simp only
  by_cases h : z = 0
  · subst h
    rw [show magU (0 : Int).natAbs = [] from magU_nil.2 rfl]
    rfl
  · have h1 : magU z.natAbs ≠ [] := fun e => h (by have := magU_nil.1 e; omega)
    rw [decide_eq_false h1]
    cases hm : magU z.natAbs with
    | nil => exact absurd hm h1
    | cons a r =>
      have := dropWhile_head (magU_fix z.natAbs) a r hm
      simp [this]
theorem good_of {x : WR} (h : badW x = false) : ∃ z, x = wz z := by
  obtain ⟨p, l⟩ := x
  unfold badW at h
  simp only [Bool.or_eq_false_iff] at h
  obtain ⟨h1, h2⟩ := h
  cases l with
  | nil =>
    have hp : p = false := by simpa using h1
    subst hp
    exact ⟨0, wz_zero.symm⟩
  | cons a r =>
    have ha : a ≠ 0 := by simpa using h2
    have hf : (a :: r).dropWhile (· == 0) = a :: r := by
      rw [List.dropWhile]
      have : (a == 0) = false := by simpa using ha
      rw [this]
    rw [magU_of] at hf
    have hn : bval (bts (a :: r)) ≠ 0 := fun e => by
      rw [e, magU_nil.2 rfl] at hf
      cases hf
    refine ⟨sgn p (bval (bts (a :: r))), ?_⟩
    unfold wz
    rw [sgn_neg, sgn_natAbs, hf]
    simp [hn]
theorem good_list : ∀ {xs : List WR}, (∀ x ∈ xs, badW x = false) → ∃ zs : List Int, xs = zs.map wz
  | [], _ => ⟨[], rfl⟩
  | x :: r, h => by
    obtain ⟨z, rfl⟩ := good_of (h x (by simp))
    obtain ⟨zs, rfl⟩ := good_list (xs := r) (fun y hy => h y (by simp [hy]))
    exact ⟨z :: zs, rfl⟩
theorem wz_inj {a b : Int} (h : wz a = wz b) : a = b := by
  unfold wz at h
  simp only [Prod.mk.injEq, decide_eq_decide] at h
  have := magU_inj h.2
  omega
theorem map_wz_inj : ∀ {a b : List Int}, a.map wz = b.map wz → a = b
  | [], [], _ => rfl
  | [], _ :: _, h => by cases h
  | _ :: _, [], h => by cases h
  | x :: a, y :: b, h => by
    simp only [List.map_cons, List.cons.injEq] at h
    rw [wz_inj h.1, map_wz_inj h.2]

structure XM where
  R : Int
  C : Int
  E : List WR
structure ZM where
  r : Nat
  c : Nat
  e : List Int
def ZM.xm (m : ZM) : XM := ⟨m.r, m.c, m.e.map wz⟩
structure RtZ (m : ZM) : Prop where
  r : m.r ≤ 200
  c : m.c ≤ 200
  len : m.e.length = m.r * m.c
def RX (a : XM) : Prop := ∃ m, RtZ m ∧ a = m.xm
def IsX (w : World) (v : Value) (a : XM) : Prop := ∃ E, v = .agg #[iv a.R, iv a.C, E] ∧ WX w E a.E.length a.E
def IsM (w : World) (v : Value) (m : ZM) : Prop := ∃ E, v = .agg #[nv m.r, nv m.c, E] ∧ WZ w E m.e.length m.e
def OwnM (N : SHeap) (v : Value) (m : ZM) : Prop := ∃ E, v = .agg #[nv m.r, nv m.c, E] ∧ OwnZ N E m.e.length m.e
theorem IsX.mono {w w' : World} {v : Value} {a : XM} (h : IsX w v a) (hk : Kp [] w w') : IsX w' v a := by
  obtain ⟨E, rfl, h⟩ := h
  exact ⟨E, rfl, h.mono hk⟩
theorem IsM.mono {w w' : World} {v : Value} {m : ZM} (h : IsM w v m) (hk : Kp [] w w') : IsM w' v m := by
  obtain ⟨E, rfl, h⟩ := h
  exact ⟨E, rfl, h.mono hk⟩
theorem IsM.x {w : World} {v : Value} {m : ZM} (h : IsM w v m) : IsX w v m.xm := by
  obtain ⟨E, rfl, h⟩ := h
  exact ⟨E, rfl, by unfold WZ at h; simpa [ZM.xm] using h⟩
theorem OwnM.new {N : SHeap} {v : Value} {m : ZM} {w w' : World} (h : OwnM N v m) (hn : New N w w') : IsM w' v m := by
  obtain ⟨E, rfl, h⟩ := h
  exact ⟨E, rfl, h.new hn⟩
theorem OwnM.mk' {N : SHeap} {r c n : Nat} {E : Value} {e : List Int} (h : OwnZ N E n e) : OwnM N (.agg #[nv r, nv c, E]) ⟨r, c, e⟩ := ⟨E, rfl, by have := h.len; subst this; exact h⟩
def zeroM : Value := .agg #[iv 0, iv 0, .slice none 0 0]
def GivesM (m : ZM) (w : World) (v : Value) (w' : World) : Prop := ∃ N, New N w w' ∧ OwnM N v m
def GivesMB (m : ZM) (b : Bool) (w : World) (v : Value) (w' : World) : Prop := ∃ N u, v = .tuple #[u, .bool b] ∧ New N w w' ∧ OwnM N u m
def zM : ZM := ⟨0, 0, []⟩
theorem OwnM.zero : OwnM [] zeroM zM := ⟨_, rfl, OwnZ.nil⟩
theorem RtZ.le {m : ZM} (h : RtZ m) : m.e.length ≤ 40000 := by rw [h.len]; exact Nat.mul_le_mul h.r h.c
theorem RtZ.rx {m : ZM} (h : RtZ m) : RX m.xm := ⟨m, h, rfl⟩
theorem rcZ {r c : Nat} (hr : r ≤ 200) (hc : c ≤ 200) : r * c ≤ 40000 := Nat.mul_le_mul hr hc

theorem c_fits (r c : Int) (w : World) : Calls Tryd.prog 56 #[.int .i64 r, .int .i64 c] w (Ret fun v w' => Kp [] w w' ∧ IsB (0 ≤ r ∧ r ≤ 200 ∧ 0 ≤ c ∧ c ≤ 200) v) := by
  refine calls_of_S [] [] (by simp) [] Tryd.func56 rfl mixed (by kernel_rfl) Tryd.ntmps56 Tryd.results56 rfl ⟨by simp, by simp⟩ (by simp) ?_
  simp only [toS, textOps, toSOp, kindAt, kindOf, odAt, sopsAt, ordOf, zipF]
  (repeat' (first | refine JC.seq ?_ | refine JC.ops ?_ | refine JO.nil ?_ | refine JX.thenN ?_ | (apply r_move; (iterate 3 exact rfl)) | (apply r_assign; (iterate 3 exact rfl)) | (apply r_min; (iterate 4 exact rfl)) | (apply r_max; (iterate 4 exact rfl)) | (apply r_pickT; (iterate 4 exact rfl)) | (apply r_pickF; (iterate 4 exact rfl)) | (apply r_leq; (iterate 4 exact rfl); all_goals intro hc; all_goals try (exfalso; omega)) | (apply r_geq; (iterate 4 exact rfl); all_goals intro hc; all_goals try (exfalso; omega)) | refine JC.ret ?_ | (apply r_skip; exact rfl; exact rfl; (first | (intro h; cases h; done) | (intro _; rfl)))))
  all_goals first
    | exact JX.ret1 rfl (fun a w st => ⟨st.kp, IsB.t (by split at * <;> omega)⟩)
    | exact JX.ret1 rfl (fun a w st => ⟨st.kp, IsB.f (by split at * <;> omega)⟩)

theorem c_zeroX (w : World) (x : WR) : Calls Tryd.prog 66 #[xv x] w (Ret fun v w' => Kp [] w w' ∧ v = .bool (decide (x.2 = []))) := by
  refine calls_of_S [] [] (by simp) [] Tryd.func66 rfl mixed (by kernel_rfl) Tryd.ntmps66 Tryd.results66 rfl ⟨by simp, by simp⟩ (by simp) ?_
  simp only [toS, textOps, toSOp, kindAt, kindOf, odAt, sopsAt, ordOf, zipF]
  (repeat' (first | refine JC.seq ?_ | refine JC.ops ?_ | refine JO.nil ?_ | refine JX.thenN ?_ | (apply r_fieldAddr; (iterate 3 exact rfl)) | (apply r_assign; (iterate 3 exact rfl)) | (apply r_load; (iterate 4 exact rfl); exact at0; exact rfl) | (apply r_eqS; (iterate 4 exact rfl)) | (apply r_boxA; (iterate 4 exact rfl); intro _) | refine JC.ret ?_))
  exact JX.ret1 rfl (fun a w st => ⟨st.kp, rfl⟩)
theorem magU_zero {z : Int} : magU z.natAbs = [] ↔ z = 0 := by rw [magU_nil]; omega
theorem c_zeroZ (w : World) (z : Int) : Calls Tryd.prog 66 #[Wv z] w (Ret fun v w' => Kp [] w w' ∧ v = .bool (decide (z = 0))) := by
  have h := c_zeroX w (wz z)
  have e : (decide ((wz z).2 = []) : Bool) = decide (z = 0) := by
    rw [decide_eq_decide]; exact magU_zero
  rw [e] at h
  exact h

theorem c_canonical1 (w : World) (x : WR) : Calls Tryd.prog 100 #[xv x] w (Ret fun v w' => Kp [] w w' ∧ v = .bool (badW x)) := by
  obtain ⟨p, l⟩ := x
  cases l with
  | nil =>
    cases p
    · refine calls_of_S [] [] (by simp) [] Tryd.func100 rfl mixed (by kernel_rfl) Tryd.ntmps100 Tryd.results100 rfl ⟨by simp, by simp⟩ (by simp) ?_
      simp only [toS, textOps, toSOp, kindAt, kindOf, odAt, sopsAt, ordOf, zipF]
      (repeat' (first | refine JC.seq ?_ | refine JC.ops ?_ | refine JO.nil ?_ | refine JX.thenN ?_ | (apply r_move; (iterate 3 exact rfl)) | (apply r_fieldAddr; (iterate 3 exact rfl)) | (apply r_assign; (iterate 3 exact rfl)) | (apply r_load; (iterate 4 exact rfl); exact at0; exact rfl) | (apply r_pickT; (iterate 4 exact rfl)) | (apply r_pickF; (iterate 4 exact rfl)) | (apply r_eqSz; (iterate 4 exact rfl)) | (apply r_neSz; (iterate 4 exact rfl)) | (apply r_boxA; (iterate 4 exact rfl); intro _) | refine JC.ret ?_ | (apply r_skip; exact rfl; exact rfl; (first | (intro h; cases h; done) | (intro _; rfl)))))
      exact JX.ret1 rfl (fun a w st => ⟨st.kp, rfl⟩)
    · refine calls_of_S [] [] (by simp) [] Tryd.func100 rfl mixed (by kernel_rfl) Tryd.ntmps100 Tryd.results100 rfl ⟨by simp, by simp⟩ (by simp) ?_
      simp only [toS, textOps, toSOp, kindAt, kindOf, odAt, sopsAt, ordOf, zipF]
      (repeat' (first | refine JC.seq ?_ | refine JC.ops ?_ | refine JO.nil ?_ | refine JX.thenN ?_ | (apply r_move; (iterate 3 exact rfl)) | (apply r_fieldAddr; (iterate 3 exact rfl)) | (apply r_assign; (iterate 3 exact rfl)) | (apply r_load; (iterate 4 exact rfl); exact at0; exact rfl) | (apply r_pickT; (iterate 4 exact rfl)) | (apply r_eqSz; (iterate 4 exact rfl)) | (apply r_boxA; (iterate 4 exact rfl); intro _) | refine JC.ret ?_ | (apply r_skip; exact rfl; exact rfl; (first | (intro h; cases h; done) | (intro _; rfl)))))
      exact JX.ret1 rfl (fun a w st => ⟨st.kp, rfl⟩)
  | cons a r =>
    refine calls_of_S [] [] (by simp) [] Tryd.func100 rfl mixed (by kernel_rfl) Tryd.ntmps100 Tryd.results100 rfl ⟨by simp, by simp⟩ (by simp) ?_
    simp only [toS, textOps, toSOp, kindAt, kindOf, odAt, sopsAt, ordOf, zipF]
    (repeat' (first | refine JC.seq ?_ | refine JC.ops ?_ | refine JO.nil ?_ | refine JX.thenN ?_ | (apply r_move; (iterate 3 exact rfl)) | (apply r_fieldAddr; (iterate 3 exact rfl)) | (apply r_assign; (iterate 3 exact rfl)) | (apply r_load; (iterate 4 exact rfl); exact at0; exact rfl) | (apply r_pickT; (iterate 4 exact rfl)) | (apply r_pickF; (iterate 4 exact rfl)) | (apply r_idxS0; (iterate 4 exact rfl)) | (apply r_eqSn; (iterate 4 exact rfl)) | (apply r_neSn; (iterate 4 exact rfl)) | (apply r_eql; (iterate 4 exact rfl); all_goals intro hc; all_goals try (exfalso; omega)) | (apply r_boxA; (iterate 4 exact rfl); intro _) | refine JC.ret ?_ | (apply r_skip; exact rfl; exact rfl; (first | (intro h; cases h; done) | (intro _; rfl)))))
    · exact JX.ret1 rfl (fun _ w st => ⟨st.kp, by have : a = 0 := UInt8.toNat.inj (by simpa using hc); subst this; rfl⟩)
    · exact JX.ret1 rfl (fun _ w st => ⟨st.kp, by have : a ≠ 0 := fun e => hc (by subst e; rfl); simp [badW, this]⟩)

set_option maxHeartbeats 1000000 in
theorem c_IndexFuncX {f : FuncId} [TF Tryd.prog f] {fst cap : Array Value} (pred : WR → Bool) (w : World) (E : Value) (n : Nat) (xs : List WR) (hE : WX w E n xs) (hn : n < 9223372036854775807)
    (hcl : ∀ x w', Kp [] w w' → Calls Tryd.prog f (fst ++ #[xv x] ++ cap) w' (Ret fun v w'' => Kp [] w' w'' ∧ v = .bool (pred x))) :
    Calls Tryd.prog 113 #[E, .func (.func f) fst cap] w (Ret fun v w' => Kp [] w w' ∧ ∃ i : Int, v = iv i ∧ (0 ≤ i ↔ ∃ x ∈ xs, pred x = true)) := by
  refine calls_of_S [] [] (by simp) [] Tryd.func113 rfl mixed (by kernel_rfl) Tryd.ntmps113 Tryd.results113 rfl ⟨by simp, by simp⟩ (by simp) ?_
  simp only [toS, textOps, toSOp, kindAt, kindOf, odAt, sopsAt, ordOf, zipF]
  have hR := WX.rd (c := ⟨Tryd.prog, 19, w, [], by simp⟩) hE rfl []
  (repeat' (first | refine JC.seq ?_ | refine JC.ops ?_ | refine JO.nil ?_ | refine JX.thenN ?_ | (apply r_move; (iterate 3 exact rfl)) | (apply r_assign; (iterate 3 exact rfl)) | (apply r_lenX; (iterate 3 exact rfl); (first | assumption | exact WX.rd (by assumption) rfl [] | exact OwnX.rd (by assumption))) | refine JC.block ?_))
  refine JC.loopH (ι := Nat) ⟨fun k => [(8, nv k), (7, nv n), (0, E), (1, .func (.func f) fst cap)], fun _ => [], fun k => k ≤ n ∧ ∀ i, i < k → pred (xs.getD i w0x) = false, fun k => n - k⟩ 0 ⟨by omega, fun i h => by omega⟩ ⟨rfl, rfl, rfl, rfl, trivial⟩ (HSub.nil _) (fun k hk => ?_)
  obtain ⟨hkn, hpr⟩ := hk
  dsimp only
  (repeat' (first | refine JC.seq ?_ | refine JC.ops ?_ | refine JO.nil ?_ | refine JX.thenN ?_ | (apply r_move; (iterate 3 exact rfl)) | (apply r_assign; (iterate 3 exact rfl)) | (apply r_idxX; (iterate 4 exact rfl); (first | assumption | exact WX.rd (by assumption) rfl [] | exact OwnX.rd (by assumption)); (first | assumption | omega)) | (apply r_ldX; (iterate 4 exact rfl); (first | assumption | exact WX.rd (by assumption) rfl [] | exact OwnX.rd (by assumption)); (repeat' first | exact HSub.nil _ | exact HSub.hd | exact HSub.in0 | exact HSub.refl _ | refine HSub.skip ?_ | refine HSub.skipN ?_); (first | assumption | omega)) | (apply r_lss; (iterate 4 exact rfl); all_goals intro hc; all_goals try (exfalso; omega)) | refine JX.thenE ?_ | refine JC.skip ?_ | refine JC.exit ?_ | refine JC.ret ?_ | refine JC.condT rfl ?_ | refine JC.condF rfl ?_ | refine JC.block ?_ | refine JX.blockE ?_))
  · refine r_callV0 trivial rfl rfl rfl rfl (fun w' hk _ => hcl _ w' hk) fun w v w' _ _ _ hv => ?_
    subst hv
    cases hp : pred (xs.getD k w0x)
    · (repeat' (first | refine JC.ops ?_ | refine JO.nil ?_ | refine JX.thenN ?_ | (apply r_move; (iterate 3 exact rfl)) | (apply r_add1; (iterate 4 exact rfl); omega) | refine JC.skip ?_ | refine JC.condF rfl ?_ | refine JX.blockN ?_))
      refine JX.roundH (k + 1) ⟨by omega, fun i h => ?_⟩ (by dsimp only; omega) ⟨rfl, rfl, rfl, rfl, trivial⟩ (HSub.nil _)
      rcases Nat.lt_or_ge i k with h' | h'
      · exact hpr i h'
      · have : i = k := by omega
        subst this; exact hp
    · (repeat' (first | refine JC.seq ?_ | refine JC.ops ?_ | refine JO.nil ?_ | refine JX.thenN ?_ | (apply r_move; (iterate 3 exact rfl)) | (apply r_assign; (iterate 3 exact rfl)) | refine JX.thenR ?_ | refine JC.ret ?_ | refine JC.condT rfl ?_ | refine JX.blockR ?_))
      exact JX.ret1 rfl (fun a w' st => ⟨st.kp, k, rfl, ⟨fun _ => ⟨_, mem_getD (by rw [hR.len]; omega), hp⟩, fun _ => by omega⟩⟩)
  · exact JX.ret1 rfl (fun a w' st => ⟨st.kp, -1, rfl, ⟨fun h => by omega, fun ⟨x, hx, hp⟩ => by
      obtain ⟨i, hi, rfl⟩ := List.mem_iff_getElem.1 hx
      have := hpr i (by rw [hR.len] at hi; omega)
      simp only [List.getD, List.getElem?_eq_getElem hi, Option.getD_some] at this
      rw [this] at hp; cases hp⟩⟩)

theorem c_ContainsFuncX {f : FuncId} [TF Tryd.prog f] {fst cap : Array Value} (pred : WR → Bool) (w : World) (E : Value) (n : Nat) (xs : List WR) (hE : WX w E n xs) (hn : n < 9223372036854775807)
    (hcl : ∀ x w', Kp [] w w' → Calls Tryd.prog f (fst ++ #[xv x] ++ cap) w' (Ret fun v w'' => Kp [] w' w'' ∧ v = .bool (pred x))) :
    Calls Tryd.prog 99 #[E, .func (.func f) fst cap] w (Ret fun v w' => Kp [] w w' ∧ IsB (∃ x ∈ xs, pred x = true) v) := by
  refine calls_of_S [] [] (by simp) [] Tryd.func99 rfl mixed (by kernel_rfl) Tryd.ntmps99 Tryd.results99 rfl ⟨by simp, by simp⟩ (by simp) ?_
  simp only [toS, textOps, toSOp, kindAt, kindOf, odAt, sopsAt, ordOf, zipF]
  (repeat' (first | refine JC.seq ?_ | refine JC.ops ?_ | refine JO.nil ?_ | refine JX.thenN ?_ | (apply r_move; (iterate 3 exact rfl)) | (apply r_assign; (iterate 3 exact rfl))))
  refine r_call0 trivial rfl rfl rfl (fun w' hk _ => c_IndexFuncX pred w' E n xs (hE.mono hk) hn (fun x w'' hk' => hcl x w'' (hk.trans hk'))) fun w v w' _ _ _ hv => ?_
  obtain ⟨i, rfl, hi⟩ := hv
  (repeat' (first | refine JO.nil ?_ | refine JX.thenN ?_ | (apply r_assign; (iterate 3 exact rfl)) | (apply r_geq; (iterate 4 exact rfl); all_goals intro hc; all_goals try (exfalso; omega)) | refine JC.ret ?_))
  all_goals refine JX.ret1 rfl (fun a w' st => ⟨st.kp, ?_⟩)
  · exact IsB.t (hi.1 (by omega))
  · exact IsB.f (fun h => hc (hi.2 h))

def Canon (xs : List WR) : Prop := ∃ zs : List Int, xs = zs.map wz
theorem canon_iff {xs : List WR} : Canon xs ↔ ¬ ∃ x ∈ xs, badW x = true := by
  constructor
  · rintro ⟨zs, rfl⟩ ⟨x, hx, hb⟩
    obtain ⟨z, _, rfl⟩ := List.mem_map.1 hx
    rw [good_wz] at hb; cases hb
  · intro h
    exact good_list fun x hx => by
      cases hb : badW x with
      | false => rfl
      | true => exact absurd ⟨x, hx, hb⟩ h

theorem c_canonical (w : World) (E : Value) (n : Nat) (xs : List WR) (hE : WX w E n xs) (hn : n < 9223372036854775807) :
    Calls Tryd.prog 83 #[E] w (Ret fun v w' => Kp [] w w' ∧ IsB (Canon xs) v) := by
  refine calls_of_S [] [] (by simp) [] Tryd.func83 rfl mixed (by kernel_rfl) Tryd.ntmps83 Tryd.results83 rfl ⟨by simp, by simp⟩ (by simp) ?_
  simp only [toS, textOps, toSOp, kindAt, kindOf, odAt, sopsAt, ordOf, zipF]
  (repeat' (first | refine JC.seq ?_ | refine JC.ops ?_ | refine JO.nil ?_ | refine JX.thenN ?_ | (apply r_move; (iterate 3 exact rfl)) | (apply r_assign; (iterate 3 exact rfl))))
  refine r_call0 trivial rfl rfl rfl (fun w' hk _ => c_ContainsFuncX (f := 100) (fst := #[]) (cap := #[]) badW w' E n xs (hE.mono hk) hn (fun x w'' _ => c_canonical1 w'' x)) fun w v w' _ _ _ hv => ?_
  obtain ⟨b, rfl, hb⟩ := hv
  (repeat' (first | refine JO.nil ?_ | refine JX.thenN ?_ | (apply r_assign; (iterate 3 exact rfl)) | (apply r_not; (iterate 3 exact rfl)) | refine JC.ret ?_))
  refine JX.ret1 rfl (fun a w' st => ⟨st.kp, _, rfl, ?_⟩)
  rw [canon_iff, ← hb]
  cases b <;> simp

theorem RX.iff {r c : Nat} {E : List WR} (hr : r ≤ 200) (hc : c ≤ 200) : RX ⟨r, c, E⟩ ↔ E.length = r * c ∧ Canon E := by
  constructor
  · rintro ⟨⟨r', c', e⟩, hm, he⟩
    simp only [ZM.xm, XM.mk.injEq] at he
    obtain ⟨h2, h3, rfl⟩ := he
    have h2 : r = r' := by omega
    have h3 : c = c' := by omega
    subst h2 h3
    exact ⟨by simpa using hm.len, e, rfl⟩
  · rintro ⟨hl, zs, rfl⟩
    exact ⟨⟨r, c, zs⟩, ⟨hr, hc, by simpa using hl⟩, rfl⟩
theorem RX.fits {a : XM} (h : RX a) : 0 ≤ a.R ∧ a.R ≤ 200 ∧ 0 ≤ a.C ∧ a.C ≤ 200 := by
  obtain ⟨m, hm, rfl⟩ := h
  have h1 := hm.r
  have h2 := hm.c
  simp only [ZM.xm]
  omega

set_option maxHeartbeats 1000000 in
theorem c_Right (w : World) (v : Value) (a : XM) (ha : IsX w v a) (hl : a.E.length < 9223372036854775807) : Calls Tryd.prog 50 #[v] w (Ret fun v w' => Kp [] w w' ∧ IsB (RX a) v) := by
  obtain ⟨E, rfl, hE⟩ := ha
  by_cases hf : 0 ≤ a.R ∧ a.R ≤ 200 ∧ 0 ≤ a.C ∧ a.C ≤ 200
  · obtain ⟨R, C, xs⟩ := a
    obtain ⟨h1, h2, h3, h4⟩ := hf
    dsimp only at *
    obtain ⟨r, rfl⟩ := Int.eq_ofNat_of_zero_le h1
    obtain ⟨c, rfl⟩ := Int.eq_ofNat_of_zero_le h3
    have hr : r ≤ 200 := by omega
    have hc : c ≤ 200 := by omega
    have hrc := rcZ hr hc
    have hiff := RX.iff (E := xs) hr hc
    refine calls_of_S [] [] (by simp) [] Tryd.func50 rfl mixed (by kernel_rfl) Tryd.ntmps50 Tryd.results50 rfl ⟨by simp, by simp⟩ (by simp) ?_
    simp only [toS, textOps, toSOp, kindAt, kindOf, odAt, sopsAt, ordOf, zipF]
    have hR := WX.rd (c := ⟨Tryd.prog, 24, w, [], by simp⟩) hE rfl []
    (repeat' (first | refine JC.seq ?_ | refine JC.ops ?_ | refine JO.nil ?_ | refine JX.thenN ?_ | (apply r_fieldAddr; (iterate 3 exact rfl)) | (apply r_assign; (iterate 3 exact rfl)) | (apply r_load; (iterate 4 exact rfl); exact at0; exact rfl) | (apply r_boxA; (iterate 4 exact rfl); intro _)))
    refine r_call0 trivial rfl rfl rfl (fun w _ _ => c_fits r c w) fun w v w' _ _ _ hv => ?_
    obtain ⟨b', rfl, hb⟩ := hv
    obtain rfl := hb.2 ⟨h1, h2, h3, h4⟩
    (repeat' (first | refine JO.nil ?_ | refine JX.thenN ?_ | (apply r_move; (iterate 3 exact rfl)) | (apply r_fieldAddr; (iterate 3 exact rfl)) | (apply r_assign; (iterate 3 exact rfl)) | (apply r_load; (iterate 4 exact rfl); exact at0; exact rfl) | (apply r_lenX; (iterate 3 exact rfl); (first | assumption | exact WX.rd (by assumption) rfl [] | exact OwnX.rd (by assumption))) | (apply r_mulN; (iterate 4 exact rfl); (first | assumption | omega)) | (apply r_pickT; (iterate 4 exact rfl)) | (apply r_pickF; (iterate 4 exact rfl)) | (apply r_eql; (iterate 4 exact rfl); all_goals intro hc; all_goals try (exfalso; omega)) | refine JC.ret ?_ | (apply r_skip; exact rfl; exact rfl; (first | (intro h; cases h; done) | (intro _; rfl)))))
    · refine r_call0 trivial rfl rfl rfl (fun w' hk hs => c_canonical w' E _ _ (hE.mono hk) hl) fun w v w' _ _ _ hv => ?_
      obtain ⟨b', rfl, hb⟩ := hv
      (repeat' (first | refine JO.nil ?_ | refine JX.thenN ?_ | (apply r_assign; (iterate 3 exact rfl)) | (apply r_pickT; (iterate 4 exact rfl)) | refine JC.ret ?_))
      exact JX.ret1 rfl (fun a w' st => ⟨st.kp, b', rfl, hb.trans ⟨fun h => hiff.2 ⟨by omega, h⟩, fun h => (hiff.1 h).2⟩⟩)
    · exact JX.ret1 rfl (fun a w' st => ⟨st.kp, IsB.f (fun h => hc (by have := (hiff.1 h).1; omega))⟩)
  · refine calls_of_S [] [] (by simp) [] Tryd.func50 rfl mixed (by kernel_rfl) Tryd.ntmps50 Tryd.results50 rfl ⟨by simp, by simp⟩ (by simp) ?_
    simp only [toS, textOps, toSOp, kindAt, kindOf, odAt, sopsAt, ordOf, zipF]
    (repeat' (first | refine JC.seq ?_ | refine JC.ops ?_ | refine JO.nil ?_ | refine JX.thenN ?_ | (apply r_fieldAddr; (iterate 3 exact rfl)) | (apply r_assign; (iterate 3 exact rfl)) | (apply r_load; (iterate 4 exact rfl); exact at0; exact rfl) | (apply r_boxA; (iterate 4 exact rfl); intro _)))
    refine r_call0 trivial rfl rfl rfl (fun w _ _ => c_fits a.R a.C w) fun w v w' _ _ _ hv => ?_
    obtain ⟨b', rfl, hb⟩ := hv
    cases b' with
    | true => exact absurd (hb.1 rfl) hf
    | false =>
      (repeat' (first | refine JO.nil ?_ | refine JX.thenN ?_ | (apply r_move; (iterate 3 exact rfl)) | (apply r_assign; (iterate 3 exact rfl)) | (apply r_pickF; (iterate 4 exact rfl)) | refine JC.ret ?_ | (apply r_skip; exact rfl; exact rfl; (first | (intro h; cases h; done) | (intro _; rfl)))))
      exact JX.ret1 rfl (fun a w' st => ⟨st.kp, IsB.f (fun h => hf h.fits)⟩)

def Alike (a b : XM) : Prop := RX a ∧ RX b ∧ a.R = b.R ∧ a.C = b.C

set_option maxHeartbeats 1000000 in
theorem c_alike (w : World) (v u : Value) (a b : XM) (ha : IsX w v a) (hb : IsX w u b) (hl : a.E.length < 1000000000) (hl' : b.E.length < 1000000000) : Calls Tryd.prog 53 #[v, u] w (Ret fun v w' => Kp [] w w' ∧ IsB (Alike a b) v) := by
  obtain ⟨E, rfl, hE⟩ := ha
  obtain ⟨E', rfl, hE'⟩ := hb
  refine calls_of_S [] [] (by simp) [] Tryd.func53 rfl mixed (by kernel_rfl) Tryd.ntmps53 Tryd.results53 rfl ⟨by simp, by simp⟩ (by simp) ?_
  simp only [toS, textOps, toSOp, kindAt, kindOf, odAt, sopsAt, ordOf, zipF]
  (repeat' (first | refine JC.seq ?_ | refine JC.ops ?_ | refine JO.nil ?_ | refine JX.thenN ?_ | (apply r_assign; (iterate 3 exact rfl)) | (apply r_loadN; (iterate 4 exact rfl); exact at1; exact rfl) | (apply r_boxA; (iterate 4 exact rfl); intro _)))
  refine r_call0 trivial rfl rfl rfl (fun w hk _ => c_Right w _ a ⟨E, rfl, hE.mono hk⟩ (by omega)) fun w v w' _ _ _ hR => ?_
  obtain ⟨b', rfl, hb⟩ := hR
  cases b'
  · (repeat' (first | refine JO.nil ?_ | refine JX.thenN ?_ | (apply r_move; (iterate 3 exact rfl)) | (apply r_assign; (iterate 3 exact rfl)) | (apply r_pickF; (iterate 4 exact rfl)) | refine JC.ret ?_ | (apply r_skip; exact rfl; exact rfl; (first | (intro h; cases h; done) | (intro _; rfl)))))
    exact JX.ret1 rfl (fun a w' st => ⟨st.kp, IsB.f (fun h => by cases hb.2 h.1)⟩)
  · (repeat' (first | (apply r_move; (iterate 3 exact rfl)) | (apply r_loadN; (iterate 4 exact rfl); exact at0; exact rfl)))
    refine r_call0 trivial rfl rfl rfl (fun w hk _ => c_Right w _ b ⟨E', rfl, hE'.mono hk⟩ (by omega)) fun w v w' _ _ _ hR => ?_
    obtain ⟨b', rfl, hb'⟩ := hR
    cases b'
    · (repeat' (first | refine JO.nil ?_ | refine JX.thenN ?_ | (apply r_move; (iterate 3 exact rfl)) | (apply r_assign; (iterate 3 exact rfl)) | (apply r_pickT; (iterate 4 exact rfl)) | (apply r_pickF; (iterate 4 exact rfl)) | refine JC.ret ?_ | (apply r_skip; exact rfl; exact rfl; (first | (intro h; cases h; done) | (intro _; rfl)))))
      exact JX.ret1 rfl (fun a w' st => ⟨st.kp, IsB.f (fun h => by cases hb'.2 h.2.1)⟩)
    · (repeat' (first | refine JO.nil ?_ | refine JX.thenN ?_ | (apply r_move; (iterate 3 exact rfl)) | (apply r_fieldAddr; (iterate 3 exact rfl)) | (apply r_assign; (iterate 3 exact rfl)) | (apply r_load; (iterate 4 exact rfl); (first | exact at0 | exact at1); exact rfl) | (apply r_pickT; (iterate 4 exact rfl)) | (apply r_pickF; (iterate 4 exact rfl)) | (apply r_eql; (iterate 4 exact rfl); all_goals intro hc; all_goals try (exfalso; omega)) | refine JC.ret ?_ | (apply r_skip; exact rfl; exact rfl; (first | (intro h; cases h; done) | (intro _; rfl)))))
      all_goals first
        | exact JX.ret1 rfl (fun a w' st => ⟨st.kp, IsB.t ⟨hb.1 rfl, hb'.1 rfl, by omega, by omega⟩⟩)
        | exact JX.ret1 rfl (fun a w' st => ⟨st.kp, IsB.f fun h => by have h1 := h.2.2.1; have h2 := h.2.2.2; omega⟩)

end Go.Proofs.YtdlmnloikakjpaaDoor

namespace Go.Proofs.YtdlmnloikakjpaaDoor
open Go
set_option linter.unusedSimpArgs false
set_option linter.unusedVariables false
set_option linter.unusedSectionVars false

section

abbrev Mi := Nat → Nat → Int

def smI : Nat → (Nat → Int) → Int
  | 0, _ => 0
  | n + 1, f => smI n f + f n

theorem smI_congr : ∀ {n : Nat} {f g : Nat → Int}, (∀ i, i < n → f i = g i) → smI n f = smI n g
  | 0, _, _, _ => rfl
  | n + 1, f, g, h => by rw [smI, smI, smI_congr (fun i hi => h i (by omega)), h n (by omega)]
theorem smI_zero : ∀ {n : Nat} {f : Nat → Int}, (∀ i, i < n → f i = 0) → smI n f = 0
  | 0, _, _ => rfl
  | n + 1, f, h => by rw [smI, smI_zero (fun i hi => h i (by omega)), h n (by omega)]; grind
theorem smI_add : ∀ {n : Nat} {f g : Nat → Int}, smI n (fun i => f i + g i) = smI n f + smI n g
  | 0, _, _ => by simp only [smI]; grind
  | n + 1, f, g => by simp only [smI]; rw [smI_add]; grind
theorem smI_mull : ∀ {n : Nat} {f : Nat → Int} (x : Int), smI n (fun i => x * f i) = x * smI n f
  | 0, _, x => by simp only [smI]; grind
  | n + 1, f, x => by simp only [smI]; rw [smI_mull]; grind
theorem smI_mulr : ∀ {n : Nat} {f : Nat → Int} (x : Int), smI n (fun i => f i * x) = smI n f * x
  | 0, _, x => by simp only [smI]; grind
  | n + 1, f, x => by simp only [smI]; rw [smI_mulr]; grind
theorem smI_swap : ∀ {n m : Nat} {f : Nat → Nat → Int}, smI n (fun i => smI m (fun j => f i j)) = smI m (fun j => smI n (fun i => f i j))
  | 0, m, f => by simp only [smI]; rw [smI_zero]; intro i _; rfl
  | n + 1, m, f => by simp only [smI]; rw [smI_swap, smI_add]
theorem smI_one : ∀ {n k : Nat} {f : Nat → Int}, k < n → (∀ i, i < n → i ≠ k → f i = 0) → smI n f = f k
  | 0, k, _, h, _ => by omega
  | n + 1, k, f, h, h' => by
    rw [smI]
    by_cases hk : k = n
    · subst hk; rw [smI_zero (fun i hi => h' i (by omega) (by omega))]; grind
    · rw [smI_one (k := k) (by omega) (fun i hi hne => h' i (by omega) hne), h' n (by omega) (by omega)]; grind
theorem smI_cut : ∀ {n k : Nat} {f : Nat → Int}, k ≤ n → (∀ i, k ≤ i → i < n → f i = 0) → smI n f = smI k f
  | 0, k, f, h, _ => by obtain rfl : k = 0 := by omega
                        rfl
  | n + 1, k, f, h, h' => by
    by_cases hk : k = n + 1
    · subst hk; rfl
    · rw [smI, smI_cut (k := k) (by omega) (fun i a b => h' i a (by omega)), h' n (by omega) (by omega)]; grind
def mmI (n : Nat) (A B : Mi) : Mi := fun i j => smI n fun k => A i k * B k j
theorem mmI_assoc {n m : Nat} {A B C : Mi} {i j : Nat} : mmI n (mmI m A B) C i j = mmI m A (mmI n B C) i j := by
  unfold mmI
  have h1 : ∀ k, smI m (fun t => A i t * B t k) * C k j = smI m (fun t => A i t * (B t k * C k j)) := fun k => by
    rw [← smI_mulr]; exact smI_congr fun t _ => by grind
  have h2 : ∀ t, A i t * smI n (fun k => B t k * C k j) = smI n (fun k => A i t * (B t k * C k j)) := fun t => by
    rw [← smI_mull]
  rw [smI_congr (fun k _ => h1 k), smI_congr (fun t _ => h2 t), smI_swap]
theorem mmI_congr {n : Nat} {A A' B B' : Mi} {i j : Nat} (h : ∀ k, k < n → A i k = A' i k) (h' : ∀ k, k < n → B k j = B' k j) : mmI n A B i j = mmI n A' B' i j :=
  smI_congr fun k hk => by rw [h k hk, h' k hk]

def idI : Mi := fun i j => if i = j then 1 else 0
theorem mmI_id {r : Nat} {A : Mi} {i j : Nat} (hi : i < r) : mmI r idI A i j = A i j := by
  unfold mmI idI
  rw [smI_one hi (fun k _ hk => by rw [if_neg (fun e => hk e.symm)]; grind)]
  rw [if_pos rfl]; grind
theorem mmI_idr {r : Nat} {A : Mi} {i j : Nat} (hj : j < r) : mmI r A idI i j = A i j := by
  unfold mmI idI
  rw [smI_one hj (fun k _ hk => by rw [if_neg hk]; grind)]
  rw [if_pos rfl]; grind
end


def sk (i a : Nat) : Nat := if a < i then a else a + 1
def sg (i : Nat) : Int := if i % 2 = 0 then 1 else -1
def det : Nat → Mi → Int
  | 0, _ => 1
  | n + 1, A => smI (n + 1) fun i => sg i * A i 0 * det n (fun a b => A (sk i a) (b + 1))

theorem det_congr : ∀ {n : Nat} {A B : Mi}, (∀ i, i < n → ∀ j, j < n → A i j = B i j) → det n A = det n B
  | 0, _, _, _ => rfl
  | n + 1, A, B, h => by
    rw [det, det]
    refine smI_congr fun i hi => ?_
    rw [h i hi 0 (by omega), det_congr (n := n) (fun a ha b hb => h (sk i a) (by unfold sk; split <;> omega) (b + 1) (by omega))]

def setRow (A : Mi) (r : Nat) (f : Nat → Int) : Mi := fun i j => if i = r then f j else A i j
theorem setRow_self (A : Mi) (r : Nat) (f : Nat → Int) (j : Nat) : setRow A r f r j = f j := if_pos rfl
theorem setRow_ne {A : Mi} {r i : Nat} (h : i ≠ r) (f : Nat → Int) (j : Nat) : setRow A r f i j = A i j := if_neg h

def unsk (i r : Nat) : Nat := if r < i then r else r - 1
theorem unsk_lt {n i r : Nat} (hi : i < n + 1) (hr : r < n + 1) (h : r ≠ i) : unsk i r < n := by unfold unsk; split <;> omega
theorem sk_eq {i r a : Nat} (h : r ≠ i) : sk i a = r ↔ a = unsk i r := by unfold sk unsk; split <;> split <;> omega

theorem minor_set {A : Mi} {r i : Nat} {f : Nat → Int} (h : r ≠ i) : (fun a b => setRow A r f (sk i a) (b + 1)) = setRow (fun a b => A (sk i a) (b + 1)) (unsk i r) (fun b => f (b + 1)) := by
  funext a b
  unfold setRow
  by_cases h1 : sk i a = r
  · rw [if_pos h1, if_pos ((sk_eq h).1 h1)]
  · rw [if_neg h1, if_neg (fun e => h1 ((sk_eq h).2 e))]
theorem minor_set_self {A : Mi} {i : Nat} {f : Nat → Int} : (fun a b => setRow A i f (sk i a) (b + 1)) = fun a b => A (sk i a) (b + 1) := by
  funext a b
  exact setRow_ne (by unfold sk; split <;> omega) _ _

theorem det_lin : ∀ {n : Nat} {A : Mi} {r : Nat} {f g : Nat → Int} (t : Int), r < n → det n (setRow A r fun j => f j + t * g j) = det n (setRow A r f) + t * det n (setRow A r g)
  | 0, _, _, _, _, _, h => absurd h (Nat.not_lt_zero _)
  | n + 1, A, r, f, g, t, h => by
    rw [det, det, det, ← smI_mull, ← smI_add]
    refine smI_congr fun i hi => ?_
    by_cases hir : r = i
    · subst hir
      rw [minor_set_self, minor_set_self, minor_set_self, setRow_self, setRow_self, setRow_self]
      grind
    · rw [minor_set hir, minor_set hir, minor_set hir, setRow_ne (Ne.symm hir), setRow_ne (Ne.symm hir), setRow_ne (Ne.symm hir), det_lin (f := fun b => f (b + 1)) (g := fun b => g (b + 1)) t (unsk_lt hi h hir)]
      grind

theorem smI_pair : ∀ {n r : Nat} {f : Nat → Int}, r + 1 < n → (∀ i, i < n → i ≠ r → i ≠ r + 1 → f i = 0) → f r + f (r + 1) = 0 → smI n f = 0
  | 0, _, _, h, _, _ => by omega
  | n + 1, r, f, h, h', h2 => by
    rw [smI]
    by_cases hk : r + 1 = n
    · subst hk
      rw [smI_one (k := r) (by omega) (fun i hi hne => h' i (by omega) hne (by omega))]
      exact h2
    · rw [smI_pair (r := r) (by omega) (fun i hi => h' i (by omega)) h2, h' n (by omega) (by omega) (by omega)]
      rfl
theorem sg_succ (r : Nat) : sg (r + 1) = -sg r := by
  unfold sg
  rcases Nat.mod_two_eq_zero_or_one r with h | h
  · rw [if_neg (by omega), if_pos h]
  · rw [if_pos (by omega), if_neg (by omega)]; rfl
theorem det_adj : ∀ {n : Nat} {A : Mi} {r : Nat}, r + 1 < n → (∀ j, A r j = A (r + 1) j) → det n A = 0
  | 0, _, _, h, _ => by omega
  | n + 1, A, r, h, he => by
    rw [det]
    refine smI_pair h (fun i hi h1 h2 => ?_) ?_
    · have : det n (fun a b => A (sk i a) (b + 1)) = 0 := by
        by_cases hir : i < r
        · refine det_adj (r := r - 1) (by omega) (fun j => ?_)
          show A (sk i (r - 1)) (j + 1) = A (sk i (r - 1 + 1)) (j + 1)
          rw [show sk i (r - 1) = r by unfold sk; split <;> omega, show sk i (r - 1 + 1) = r + 1 by unfold sk; split <;> omega]
          exact he _
        · refine det_adj (r := r) (by omega) (fun j => ?_)
          show A (sk i r) (j + 1) = A (sk i (r + 1)) (j + 1)
          rw [show sk i r = r by unfold sk; split <;> omega, show sk i (r + 1) = r + 1 by unfold sk; split <;> omega]
          exact he _
      rw [this, Int.mul_zero]
    · have : det n (fun a b => A (sk (r + 1) a) (b + 1)) = det n (fun a b => A (sk r a) (b + 1)) := det_congr fun a _ b _ => by
        by_cases har : a = r
        · subst har
          rw [show sk (a + 1) a = a by unfold sk; split <;> omega, show sk a a = a + 1 by unfold sk; split <;> omega]
          exact he _
        · rw [show sk (r + 1) a = sk r a by unfold sk; split <;> split <;> omega]
      rw [this, sg_succ, he 0]
      grind

def swp (A : Mi) (r s : Nat) : Mi := fun i j => if i = r then A s j else if i = s then A r j else A i j
theorem setRow_comm {A : Mi} {r s : Nat} (h : r ≠ s) (f g : Nat → Int) : setRow (setRow A r f) s g = setRow (setRow A s g) r f := by
  funext i j
  unfold setRow
  by_cases h1 : i = s
  · subst h1; rw [if_pos rfl, if_neg (Ne.symm h), if_pos rfl]
  · rw [if_neg h1]
    by_cases h2 : i = r
    · rw [if_pos h2, if_pos h2]
    · rw [if_neg h2, if_neg h2, if_neg h1]
theorem setRow_id (A : Mi) (r : Nat) : setRow A r (A r) = A := by
  funext i j
  unfold setRow
  by_cases h : i = r
  · rw [if_pos h, h]
  · rw [if_neg h]
theorem swp_set {A : Mi} {r s : Nat} (h : r ≠ s) : swp A r s = setRow (setRow A r (A s)) s (A r) := by
  funext i j
  unfold swp setRow
  by_cases h1 : i = r
  · subst h1; rw [if_pos rfl, if_neg h, if_pos rfl]
  · rw [if_neg h1]
    by_cases h2 : i = s
    · rw [if_pos h2, if_pos h2]
    · rw [if_neg h2, if_neg h2, if_neg h1]
theorem det_two {n : Nat} {A : Mi} {r : Nat} (h : r + 1 < n) (u v : Nat → Int) : det n (setRow (setRow A r v) (r + 1) u) = -det n (setRow (setRow A r u) (r + 1) v) := by
  have hz : ∀ f, det n (setRow (setRow A r f) (r + 1) f) = 0 := fun f => det_adj h fun j => by
    rw [setRow_self, setRow_ne (by omega), setRow_self]
  have hne : r ≠ r + 1 := by omega
  have h0 := hz (fun j => u j + 1 * v j)
  rw [det_lin 1 h, setRow_comm hne, setRow_comm hne, det_lin 1 (by omega), det_lin 1 (by omega), ← setRow_comm hne, ← setRow_comm hne, ← setRow_comm hne, ← setRow_comm hne, hz u, hz v] at h0
  omega
theorem det_swp {n : Nat} {A : Mi} {r : Nat} (h : r + 1 < n) : det n (swp A r (r + 1)) = -det n A := by
  rw [swp_set (by omega), det_two h]
  have : setRow (setRow A r (A r)) (r + 1) (A (r + 1)) = A := by rw [setRow_id, setRow_id]
  rw [this]

theorem det_eqr : ∀ {d n : Nat} {A : Mi} {r s : Nat}, s = r + 1 + d → s < n → (∀ j, A r j = A s j) → det n A = 0
  | 0, n, A, r, s, h, hs, he => by
    obtain rfl : s = r + 1 := by omega
    exact det_adj hs he
  | d + 1, n, A, r, s, h, hs, he => by
    obtain ⟨q, rfl⟩ : ∃ q, s = q + 1 := ⟨s - 1, by omega⟩
    have h1 := det_swp (A := A) (r := q) hs
    have h2 : det n (swp A q (q + 1)) = 0 := det_eqr (d := d) (r := r) (s := q) (by omega) (by omega) (fun j => by
      unfold swp
      rw [if_neg (by omega), if_neg (by omega), if_pos rfl]
      exact he j)
    omega
theorem det_same {n : Nat} {A : Mi} {r s : Nat} (hr : r < n) (hs : s < n) (h : r ≠ s) (he : ∀ j, A r j = A s j) : det n A = 0 := by
  rcases Nat.lt_or_gt_of_ne h with h1 | h1
  · exact det_eqr (d := s - r - 1) (by omega) hs he
  · exact det_eqr (d := r - s - 1) (by omega) hr (fun j => (he j).symm)
theorem det_addr {n : Nat} {A : Mi} {r s : Nat} (t : Int) (hr : r < n) (hs : s < n) (h : r ≠ s) : det n (setRow A r fun j => A r j + t * A s j) = det n A := by
  rw [det_lin t hr, setRow_id, det_same (A := setRow A r (A s)) hr hs h (fun j => by rw [setRow_self, setRow_ne (Ne.symm h)]), Int.mul_zero, Int.add_zero]
theorem det_swap {n : Nat} {A : Mi} {r s : Nat} (hr : r < n) (hs : s < n) (h : r ≠ s) : det n (swp A r s) = -det n A := by
  have hz : ∀ f, det n (setRow (setRow A r f) s f) = 0 := fun f => det_same hr hs h fun j => by
    rw [setRow_self, setRow_ne h, setRow_self]
  have h0 := hz (fun j => A r j + 1 * A s j)
  rw [det_lin 1 hs, setRow_comm h, setRow_comm h, det_lin 1 hr, det_lin 1 hr, ← setRow_comm h, ← setRow_comm h, ← setRow_comm h, ← setRow_comm h, hz (A r), hz (A s)] at h0
  have h1 : setRow (setRow A r (A r)) s (A s) = A := by rw [setRow_id, setRow_id]
  rw [h1, ← swp_set h] at h0
  omega
theorem det_sum : ∀ {m n : Nat} {A : Mi} {r : Nat} {t : Nat → Int} {g : Nat → Nat → Int}, r < n → det n (setRow A r fun j => smI m fun k => t k * g k j) = smI m fun k => t k * det n (setRow A r (g k))
  | 0, n, A, r, t, g, h => by
    have h1 := det_lin (A := A) (f := fun _ => 0) (g := fun _ => 0) 1 h
    have h2 : (fun j : Nat => (0 : Int) + 1 * 0) = fun _ => 0 := by funext j; rfl
    rw [h2] at h1
    show det n (setRow A r fun _ => 0) = 0
    omega
  | m + 1, n, A, r, t, g, h => by
    have h1 := det_lin (A := A) (f := fun j => smI m fun k => t k * g k j) (g := g m) (t m) h
    rw [det_sum h] at h1
    exact h1
def prd : Nat → (Nat → Int) → Int
  | 0, _ => 1
  | n + 1, f => f 0 * prd n fun i => f (i + 1)
theorem det_tri : ∀ {n : Nat} {A : Mi}, (∀ i j, j < i → i < n → A i j = 0) → det n A = prd n fun i => A i i
  | 0, _, _ => rfl
  | n + 1, A, h => by
    rw [det, prd, smI_one (k := 0) (by omega) (fun i hi hne => by rw [h i 0 (by omega) hi]; grind)]
    have e : (fun a b => A (sk 0 a) (b + 1)) = fun a b => A (a + 1) (b + 1) := by
      funext a b
      rw [show sk 0 a = a + 1 by unfold sk; rfl]
    rw [e, det_tri (A := fun a b => A (a + 1) (b + 1)) (fun i j hij hi => h (i + 1) (j + 1) (by omega) (by omega))]
    show sg 0 * _ * _ = _
    rw [show sg 0 = 1 from rfl, Int.one_mul]


inductive Red (n : Nat) : Mi → Mi → Prop
  | refl (A) : Red n A A
  | add {A B} (r s : Nat) (t : Int) : r < n → s < n → r ≠ s → Red n (setRow A r fun j => A r j + t * A s j) B → Red n A B
  | swap {A B} (r s : Nat) : r < n → s < n → r ≠ s → Red n (swp A r s) B → Red n A B
theorem Red.trans {n : Nat} {A B C : Mi} (h : Red n A B) (h' : Red n B C) : Red n A C := by
  induction h with
  | refl => exact h'
  | add r s t hr hs hn _ ih => exact .add r s t hr hs hn (ih h')
  | swap r s hr hs hn _ ih => exact .swap r s hr hs hn (ih h')

theorem clear1 {n k i : Nat} (hk : k < n) (hi : i < n) (hki : k ≠ i) : ∀ (m : Nat) (A : Mi), (A i k).natAbs ≤ m →
    ∃ B, Red n A B ∧ B i k = 0 ∧ (∀ a, a ≠ k → a ≠ i → ∀ j, B a j = A a j) ∧ (∀ j, A k j = 0 → A i j = 0 → B k j = 0 ∧ B i j = 0)
  | 0, A, h => ⟨A, .refl A, by omega, fun _ _ _ _ => rfl, fun _ h1 h2 => ⟨h1, h2⟩⟩
  | m + 1, A, h => by
    by_cases h0 : A i k = 0
    · exact ⟨A, .refl A, h0, fun _ _ _ _ => rfl, fun _ h1 h2 => ⟨h1, h2⟩⟩
    · let A1 := setRow A k fun j => A k j + (-(A k k / A i k)) * A i j
      let A2 := swp A1 k i
      have e1 : ∀ j, A1 k j = A k j + (-(A k k / A i k)) * A i j := fun j => setRow_self _ _ _ _
      have e2 : ∀ a, a ≠ k → ∀ j, A1 a j = A a j := fun a ha j => setRow_ne ha _ _
      have f1 : ∀ j, A2 i j = A1 k j := fun j => by
        show swp A1 k i i j = _
        unfold swp
        rw [if_neg (Ne.symm hki), if_pos rfl]
      have f2 : ∀ j, A2 k j = A i j := fun j => by
        show swp A1 k i k j = _
        unfold swp
        rw [if_pos rfl, e2 i (Ne.symm hki)]
      have f3 : ∀ a, a ≠ k → a ≠ i → ∀ j, A2 a j = A a j := fun a h1 h2 j => by
        show swp A1 k i a j = _
        unfold swp
        rw [if_neg h1, if_neg h2, e2 a h1]
      have hm : A2 i k = A k k % A i k := by
        rw [f1, e1]
        have := Int.mul_ediv_add_emod (A k k) (A i k)
        have h3 : -(A k k / A i k) * A i k = -(A i k * (A k k / A i k)) := by rw [Int.neg_mul, Int.mul_comm]
        omega
      have hlt : (A2 i k).natAbs ≤ m := by
        have h1 := Int.emod_nonneg (A k k) h0
        have h2 := Int.emod_lt (A k k) h0
        rw [hm]
        omega
      obtain ⟨B, b1, b2, b3, b4⟩ := clear1 hk hi hki m A2 hlt
      refine ⟨B, .add k i _ hk hi hki (.swap k i hk hi hki b1), b2, fun a h1 h2 j => (b3 a h1 h2 j).trans (f3 a h1 h2 j), fun j h1 h2 => b4 j ?_ ?_⟩
      · rw [f2, h2]
      · rw [f1, e1, h1, h2]; simp
theorem clearC {n k : Nat} (hk : k < n) : ∀ (d : Nat) (A : Mi), k + 1 + d ≤ n → (∀ i j, j < k → k ≤ i → i < n → A i j = 0) →
    ∃ B, Red n A B ∧ (∀ i, k < i → i < k + 1 + d → B i k = 0) ∧ (∀ a, a < k → ∀ j, B a j = A a j) ∧ (∀ i j, j < k → k ≤ i → i < n → B i j = 0)
  | 0, A, _, h => ⟨A, .refl A, fun i h1 h2 => by omega, fun _ _ _ => rfl, h⟩
  | d + 1, A, hd, h => by
    obtain ⟨B, b1, b2, b3, b4⟩ := clearC hk d A (by omega) h
    obtain ⟨C, c1, c2, c3, c4⟩ := clear1 hk (show k + 1 + d < n by omega) (show k ≠ k + 1 + d by omega) _ B (Nat.le_refl _)
    refine ⟨C, b1.trans c1, fun i h1 h2 => ?_, fun a ha j => ?_, fun i j hj hki hin => ?_⟩
    · by_cases hi : i = k + 1 + d
      · subst hi; exact c2
      · rw [c3 i (by omega) hi]; exact b2 i h1 (by omega)
    · rw [c3 a (by omega) (by omega), b3 a ha]
    · have h5 := c4 j (b4 k j hj (Nat.le_refl _) hk) (b4 (k + 1 + d) j hj (by omega) (by omega))
      by_cases h6 : i = k
      · rw [h6]; exact h5.1
      · by_cases h7 : i = k + 1 + d
        · rw [h7]; exact h5.2
        · rw [c3 i h6 h7]; exact b4 i j hj hki hin
theorem exists_tri (n : Nat) : ∀ (k : Nat) (A : Mi), k ≤ n → ∃ T, Red n A T ∧ ∀ j, j < k → ∀ i, j < i → i < n → T i j = 0
  | 0, A, _ => ⟨A, .refl A, fun j h => absurd h (Nat.not_lt_zero _)⟩
  | k + 1, A, h => by
    obtain ⟨T, t1, t2⟩ := exists_tri n k A (by omega)
    obtain ⟨B, b1, b2, b3, b4⟩ := clearC (show k < n by omega) (n - (k + 1)) T (by omega) (fun i j hj hki hin => t2 j hj i (by omega) hin)
    refine ⟨B, t1.trans b1, fun j hj i hji hin => ?_⟩
    by_cases hjk : j = k
    · subst hjk; exact b2 i hji (by omega)
    · by_cases hik : k ≤ i
      · exact b4 i j (by omega) hik hin
      · rw [b3 i (by omega)]; exact t2 j (by omega) i hji hin


theorem prd_snoc : ∀ {n : Nat} {f : Nat → Int}, prd (n + 1) f = prd n f * f n
  | 0, f => by show f 0 * 1 = 1 * f 0; grind
  | n + 1, f => by
    rw [prd, prd_snoc (n := n), prd]
    grind
theorem mm_addr {n : Nat} {A B : Mi} {r s : Nat} {t : Int} : mmI n (setRow A r fun j => A r j + t * A s j) B = setRow (mmI n A B) r fun j => mmI n A B r j + t * mmI n A B s j := by
  funext i j
  by_cases h : i = r
  · subst h
    rw [setRow_self]
    unfold mmI
    rw [← smI_mull, ← smI_add]
    refine smI_congr fun k _ => ?_
    rw [setRow_self]
    grind
  · rw [setRow_ne h]
    unfold mmI
    exact smI_congr fun k _ => by rw [setRow_ne h]
theorem mm_swp {n : Nat} {A B : Mi} {r s : Nat} : mmI n (swp A r s) B = swp (mmI n A B) r s := by
  funext i j
  unfold swp mmI
  by_cases h1 : i = r
  · simp only [h1, if_true]
  · by_cases h2 : i = s
    · subst h2
      simp only [if_neg h1, if_true]
    · simp only [if_neg h1, if_neg h2]

theorem det_triM {n : Nat} {T B : Mi} (hT : ∀ i j, j < i → i < n → T i j = 0) : ∀ m, m ≤ n → det n (fun i j => if i < m then smI n (fun k => T i k * B k j) else B i j) = prd m (fun i => T i i) * det n B
  | 0, _ => by
    show det n _ = 1 * _
    rw [Int.one_mul]
    exact det_congr fun i _ j _ => if_neg (Nat.not_lt_zero _)
  | m + 1, h => by
    have ih := det_triM (B := B) hT m (by omega)
    generalize hC : (fun i j => if i < m then smI n (fun k => T i k * B k j) else B i j : Mi) = C at ih
    have e : (fun i j => if i < m + 1 then smI n (fun k => T i k * B k j) else B i j : Mi) = setRow C m fun j => smI n fun k => T m k * B k j := by
      subst hC
      funext i j
      unfold setRow
      by_cases h1 : i = m
      · subst h1; rw [if_pos (by omega), if_pos rfl]
      · rw [if_neg h1]
        by_cases h2 : i < m
        · show (if i < m + 1 then _ else _) = if i < m then _ else _
          rw [if_pos (by omega), if_pos h2]
        · show (if i < m + 1 then _ else _) = if i < m then _ else _
          rw [if_neg (by omega), if_neg h2]
    have hrow : ∀ k, m ≤ k → ∀ j, C k j = B k j := fun k hk j => by subst hC; exact if_neg (by omega)
    rw [e, det_sum (by omega), smI_one (k := m) (by omega) (fun k hk hne => ?_)]
    · have h2 : setRow C m (B m) = C := by
        have : C m = B m := funext fun j => hrow m (Nat.le_refl _) j
        rw [← this, setRow_id]
      rw [h2, ih, prd_snoc]
      grind
    · by_cases hkm : k < m
      · rw [hT m k hkm (by omega), Int.zero_mul]
      · rw [det_same (A := setRow C m (B k)) (show m < n by omega) hk (Ne.symm hne) (fun j => by rw [setRow_self, setRow_ne hne, hrow k (by omega)]), Int.mul_zero]

theorem det_mm {n : Nat} {A B : Mi} : det n (mmI n A B) = det n A * det n B := by
  obtain ⟨T, hR, hT⟩ := exists_tri n n A (Nat.le_refl _)
  have hT' : ∀ i j, j < i → i < n → T i j = 0 := fun i j hji hi => hT j (by omega) i hji hi
  have hb : det n (mmI n T B) = det n T * det n B := by
    rw [det_tri hT', ← det_triM hT' n (Nat.le_refl _)]
    exact det_congr fun i hi j _ => by rw [if_pos hi]; rfl
  clear hT hT'
  induction hR with
  | refl => exact hb
  | add r s t hr hs hn _ ih =>
    have := ih hb
    rw [mm_addr, det_addr t hr hs hn, det_addr t hr hs hn] at this
    exact this
  | swap r s hr hs hn _ ih =>
    have := ih hb
    rw [mm_swp, det_swap hr hs hn, det_swap hr hs hn, Int.neg_mul] at this
    omega


def tr (A : Mi) : Mi := fun i j => A j i
theorem det_id : ∀ {n : Nat}, det n idI = 1 := by
  intro n
  rw [det_tri (fun i j h _ => by unfold idI; rw [if_neg (by omega)])]
  have : ∀ m, prd m (fun i => idI i i) = 1 := fun m => by
    induction m with
    | zero => rfl
    | succ m ih => rw [prd_snoc, ih]; show (1 : Int) * (if m = m then 1 else 0) = 1; rw [if_pos rfl]; rfl
  exact this n
theorem det_low {n : Nat} {L : Mi} (hL : ∀ i j, i < j → j < n → L i j = 0) : ∀ d m, m + d = n → det n (fun i j => if m ≤ i then L i j else idI i j) = prd d (fun i => L (m + i) (m + i))
  | 0, m, h => by
    rw [det_congr (B := idI) (fun i hi j _ => if_neg (by omega)), det_id]
    rfl
  | d + 1, m, h => by
    have ih := det_low hL d (m + 1) (by omega)
    generalize hC : (fun i j => if m + 1 ≤ i then L i j else idI i j : Mi) = C at ih
    have hrow : ∀ k, k < m + 1 → ∀ j, C k j = idI k j := fun k hk j => by subst hC; exact if_neg (by omega)
    have e : det n (fun i j => if m ≤ i then L i j else idI i j : Mi) = det n (setRow C m fun j => smI n fun k => L m k * idI k j) := det_congr fun i hi j hj => by
      subst hC
      unfold setRow
      by_cases h1 : i = m
      · subst h1
        rw [if_pos (Nat.le_refl _), if_pos rfl]
        exact (mmI_idr (A := L) (r := n) hj).symm
      · rw [if_neg h1]
        by_cases h2 : m ≤ i
        · show _ = if m + 1 ≤ i then _ else _
          rw [if_pos h2, if_pos (by omega)]
        · show _ = if m + 1 ≤ i then _ else _
          rw [if_neg h2, if_neg (by omega)]
    rw [e, det_sum (by omega), smI_one (k := m) (by omega) (fun k hk hne => ?_)]
    · have h2 : setRow C m (idI m) = C := by
        have : C m = idI m := funext fun j => hrow m (by omega) j
        rw [← this, setRow_id]
      rw [h2, ih, prd]
      show L m m * _ = L m m * _
      congr 2
      funext i
      rw [show m + 1 + i = m + (i + 1) by omega]
    · by_cases hkm : m < k
      · rw [hL m k hkm hk, Int.zero_mul]
      · rw [det_same (A := setRow C m (idI k)) (show m < n by omega) hk (Ne.symm hne) (fun j => by rw [setRow_self, setRow_ne hne, hrow k (by omega)]), Int.mul_zero]

theorem det_tr {n : Nat} {A : Mi} : det n (tr A) = det n A := by
  obtain ⟨T, hR, hT⟩ := exists_tri n n A (Nat.le_refl _)
  have hT' : ∀ i j, j < i → i < n → T i j = 0 := fun i j hji hi => hT j (by omega) i hji hi
  have hb : det n (tr T) = det n T := by
    have h1 := det_low (L := tr T) (n := n) (fun i j hij hj => hT' j i hij hj) n 0 (by omega)
    rw [det_tri hT']
    have e : (fun i j => if 0 ≤ i then tr T i j else idI i j : Mi) = tr T := by
      funext i j
      exact if_pos (Nat.zero_le _)
    rw [e] at h1
    rw [h1]
    have : ∀ i, tr T (0 + i) (0 + i) = T i i := fun i => by rw [Nat.zero_add]; rfl
    simp only [this]
  clear hT hT'
  induction hR with
  | refl => exact hb
  | @add A B r s t hr hs hn _ ih =>
    have h0 := ih hb
    rw [det_addr t hr hs hn] at h0
    rw [← h0]
    have e1 : det n (tr (setRow A r fun j => A r j + t * A s j)) = det n (mmI n (tr A) (setRow idI s fun j => idI s j + t * idI r j)) := det_congr fun i hi j hj => by
      show setRow A r _ j i = _
      have h2 : mmI n (tr A) (setRow idI s fun j => idI s j + t * idI r j) i j = mmI n (tr A) idI i j + t * (tr A i s * idI r j) := by
        unfold mmI
        have h3 : ∀ k, k < n → tr A i k * setRow idI s (fun j => idI s j + t * idI r j) k j = tr A i k * idI k j + (if k = s then t * (tr A i s * idI r j) else 0) := fun k _ => by
          by_cases hk : k = s
          · subst hk; rw [setRow_self, if_pos rfl]; grind
          · rw [setRow_ne hk, if_neg hk, Int.add_zero]
        rw [smI_congr h3, smI_add, smI_one (f := fun k => if k = s then t * (tr A i s * idI r j) else 0) hs (fun k _ hk => if_neg hk), if_pos rfl]
      rw [h2, mmI_idr hj]
      by_cases hj2 : j = r
      · subst hj2
        rw [setRow_self]
        unfold tr idI
        rw [if_pos rfl]; grind
      · rw [setRow_ne hj2]
        unfold tr idI
        rw [if_neg (Ne.symm hj2)]; grind
    rw [e1, det_mm, det_addr t hs hr (Ne.symm hn), det_id, Int.mul_one]
  | @swap A B r s hr hs hn _ ih =>
    have h0 := ih hb
    rw [det_swap hr hs hn] at h0
    have e1 : det n (tr (swp A r s)) = det n (mmI n (tr A) (swp idI r s)) := det_congr fun i hi j hj => by
      show swp A r s j i = _
      have h2 : mmI n (tr A) (swp idI r s) i j = mmI n (tr A) idI i (if j = r then s else if j = s then r else j) := by
        unfold mmI
        refine smI_congr fun k _ => ?_
        congr 1
        unfold swp idI
        by_cases hj1 : j = r <;> by_cases hj2 : j = s <;> by_cases hk1 : k = r <;> by_cases hk2 : k = s <;> grind
      rw [h2, mmI_idr (by split <;> (try split) <;> omega)]
      unfold swp tr
      by_cases hj1 : j = r
      · rw [if_pos hj1, if_pos hj1]
      · rw [if_neg hj1, if_neg hj1]
        by_cases hj2 : j = s
        · rw [if_pos hj2, if_pos hj2]
        · rw [if_neg hj2, if_neg hj2]
    rw [e1, det_mm, det_swap hr hs hn, det_id] at h0
    omega


theorem det_zrow {n r : Nat} {A : Mi} {f : Nat → Int} (hr : r < n) (hf : ∀ j, j < n → f j = 0) : det n (setRow A r f) = 0 := by
  have h := det_sum (m := 0) (A := A) (t := fun _ => 0) (g := fun _ _ => 0) hr
  rw [det_congr (B := setRow A r fun j => smI 0 fun k => (fun _ => (0 : Int)) k * (fun _ _ => (0 : Int)) k j) ?_, h]
  · rfl
  · intro i hi j hj
    unfold setRow
    split
    · rw [hf j hj]; rfl
    · rfl

theorem cramer {n : Nat} {A : Mi} {g : Nat → Int} (hd : det n A ≠ 0) (h : ∀ j, j < n → smI n (fun t => g t * A t j) = 0) : ∀ r, r < n → g r = 0 := fun r hr => by
  have h1 := det_zrow (A := A) (f := fun j => smI n fun t => g t * A t j) hr h
  rw [det_sum hr, smI_one hr (fun t ht hne => ?_), setRow_id] at h1
  · rcases Int.mul_eq_zero.1 h1 with h2 | h2
    · exact h2
    · exact absurd h2 hd
  · rw [det_same hr ht (Ne.symm hne) (fun j => by rw [setRow_self, setRow_ne hne]), Int.mul_zero]

def unit (t : Nat) : Nat → Int := fun b => if t = b then 1 else 0

theorem smI_unit {n b : Nat} {f : Nat → Int} (hb : b < n) : smI n (fun t => f t * unit t b) = f b := by
  rw [smI_one hb (fun i _ hne => by unfold unit; rw [if_neg hne, Int.mul_zero])]
  unfold unit
  rw [if_pos rfl, Int.mul_one]

theorem det_units {n r : Nat} {A : Mi} {f : Nat → Int} (hr : r < n) : det n (setRow A r f) = smI n fun t => f t * det n (setRow A r (unit t)) := by
  rw [← det_sum hr]
  refine det_congr fun i _ j hj => ?_
  unfold setRow
  split
  · exact (smI_unit hj).symm
  · rfl

theorem det_last : ∀ {n : Nat} {M : Mi}, (∀ j, j < n + 1 → M n j = unit n j) → det (n + 1) M = det n M
  | 0, M, h => by
    rw [det]
    show smI 0 _ + sg 0 * M 0 0 * 1 = 1
    rw [h 0 (by omega)]
    rfl
  | n + 1, M, h => by
    rw [det, det, smI, h 0 (by omega)]
    have e : unit (n + 1) 0 = 0 := if_neg (by omega)
    rw [e, Int.mul_zero, Int.zero_mul, Int.add_zero]
    refine smI_congr fun i hi => ?_
    rw [det_last (n := n) (fun j hj => ?_)]
    have : sk i n = n + 1 := by unfold sk; rw [if_neg (by omega)]
    rw [this, h (j + 1) (by omega)]
    unfold unit
    by_cases hj : n = j
    · rw [if_pos hj, if_pos (by omega)]
    · rw [if_neg hj, if_neg (by omega)]

def bd (k : Nat) (A : Mi) (i j : Nat) : Mi := fun a b => A (if a < k then a else i) (if b < k then b else j)
def bm (k : Nat) (A : Mi) (i j : Nat) : Int := det (k + 1) (bd k A i j)

theorem bm_zero (A : Mi) (i j : Nat) : bm 0 A i j = A i j := by
  unfold bm
  rw [det, smI, smI]
  show 0 + 1 * A i j * 1 = A i j
  omega

theorem bm_lead (k : Nat) (A : Mi) : bm k A k k = det (k + 1) A := by
  refine det_congr fun i hi j hj => ?_
  unfold bd
  congr 1
  · by_cases h : i < k
    · rw [if_pos h]
    · rw [if_neg h]; omega
  · by_cases h : j < k
    · rw [if_pos h]
    · rw [if_neg h]; omega

theorem bm_col {k i j : Nat} {A : Mi} (hj : j < k) : bm k A i j = 0 := by
  unfold bm
  rw [← det_tr]
  refine det_same (r := j) (s := k) (by omega) (by omega) (by omega) (fun b => ?_)
  unfold tr bd
  rw [if_pos hj, if_neg (Nat.lt_irrefl k)]
theorem bm_row {k i j : Nat} {A : Mi} (hi : i < k) : bm k A i j = 0 := by
  unfold bm
  refine det_same (r := i) (s := k) (by omega) (by omega) (by omega) (fun b => ?_)
  unfold bd
  rw [if_pos hi, if_neg (Nat.lt_irrefl k)]

def cf (k : Nat) (A : Mi) (i t : Nat) : Int := det (k + 1) (setRow (tr (bd k A i 0)) k (unit t))
theorem bm_expand (k : Nat) (A : Mi) (i j : Nat) : bm k A i j = smI k (fun t => A t j * cf k A i t) + A i j * det k A := by
  unfold bm
  rw [← det_tr, det_congr (B := setRow (tr (bd k A i 0)) k (fun b => A (if b < k then b else i) j)) ?_, det_units (by omega), smI]
  · congr 1
    · refine smI_congr fun t ht => ?_
      rw [if_pos ht]
      rfl
    · rw [if_neg (Nat.lt_irrefl k), det_last (fun j _ => setRow_self _ _ _ _), ← det_tr (A := A)]
      congr 1
      refine det_congr fun a ha b hb => ?_
      rw [setRow_ne (by omega)]
      unfold tr bd
      rw [if_pos ha, if_pos hb]
  · intro a ha b hb
    by_cases h : a = k
    · subst h
      rw [setRow_self]
      unfold tr bd
      rw [if_neg (Nat.lt_irrefl a)]
    · rw [setRow_ne h]
      have : a < k := by omega
      unfold tr bd
      rw [if_pos this, if_pos this]

theorem bm_step {k : Nat} {A : Mi} (hp : det (k + 1) A ≠ 0) (i j : Nat) : bm k A k k * bm k A i j - bm k A i k * bm k A k j = det k A * bm (k + 1) A i j := by
  have key : ∀ j, bm k A k k * bm k A i j - bm k A i k * bm k A k j - det k A * bm (k + 1) A i j = smI (k + 1) (fun t => ((if t < k then bm k A k k * cf k A i t - bm k A i k * cf k A k t else -(bm k A i k * det k A)) - det k A * cf (k + 1) A i t) * A t j) := fun j => by
    rw [bm_expand k A i j, bm_expand k A k j, bm_expand (k + 1) A i j, bm_lead, smI, smI, if_neg (Nat.lt_irrefl k)]
    have e : smI k (fun t => ((if t < k then det (k + 1) A * cf k A i t - bm k A i k * cf k A k t else -(bm k A i k * det k A)) - det k A * cf (k + 1) A i t) * A t j) = det (k + 1) A * smI k (fun t => A t j * cf k A i t) + (-(bm k A i k)) * smI k (fun t => A t j * cf k A k t) + (-(det k A)) * smI k (fun t => A t j * cf (k + 1) A i t) := by
      rw [← smI_mull, ← smI_mull, ← smI_mull, ← smI_add, ← smI_add]
      refine smI_congr fun t ht => ?_
      rw [if_pos ht]
      grind
    rw [e]
    grind
  have hz : ∀ j, j < k + 1 → smI (k + 1) (fun t => ((if t < k then bm k A k k * cf k A i t - bm k A i k * cf k A k t else -(bm k A i k * det k A)) - det k A * cf (k + 1) A i t) * A t j) = 0 := fun j hj => by
    rw [← key j, bm_col (k := k + 1) hj]
    by_cases h : j < k
    · rw [bm_col h, bm_col h]; grind
    · obtain rfl : j = k := by omega
      grind
  have hg := cramer hp hz
  have h2 := key j
  rw [smI_zero (fun t ht => by rw [hg t ht, Int.zero_mul])] at h2
  omega

theorem bm_none {n k : Nat} {A : Mi} (hk : k < n) (hd : det k A ≠ 0) (h : ∀ i, k ≤ i → i < n → bm k A i k = 0) : det n A = 0 := by
  refine Decidable.byContradiction fun hn => ?_
  have hn' : det n (tr A) ≠ 0 := by rw [det_tr]; exact hn
  have hrow : ∀ i, bm k A i k = smI (k + 1) (fun t => A i t * det (k + 1) (setRow (bd k A 0 k) k (unit t))) := fun i => by
    unfold bm
    rw [← det_units (f := fun t => A i t) (by omega)]
    refine det_congr fun a ha b hb => ?_
    have hbk : (if b < k then b else k) = b := by split <;> omega
    by_cases hak : a = k
    · subst hak
      rw [setRow_self]
      unfold bd
      rw [if_neg (Nat.lt_irrefl a), hbk]
    · rw [setRow_ne hak]
      have hak' : a < k := by omega
      unfold bd
      rw [if_pos hak', if_pos hak']
  have hz := cramer (g := fun t => if t < k + 1 then det (k + 1) (setRow (bd k A 0 k) k (unit t)) else 0) hn' (fun i hi => by
    rw [smI_cut (k := k + 1) (by omega) (fun t ht _ => by rw [if_neg (by omega), Int.zero_mul])]
    have h1 : bm k A i k = 0 := by
      by_cases hik : i < k
      · exact bm_row hik
      · exact h i (by omega) hi
    rw [hrow] at h1
    rw [← h1]
    refine smI_congr fun t ht => ?_
    rw [if_pos ht]
    unfold tr
    exact Int.mul_comm _ _) k hk
  rw [if_pos (by omega), det_last (fun j _ => setRow_self _ _ _ _)] at hz
  refine hd ?_
  rw [← hz]
  refine det_congr fun a ha b hb => ?_
  rw [setRow_ne (by omega)]
  unfold bd
  rw [if_pos ha, if_pos hb]

structure Bar (n : Nat) (A : Mi) (k : Nat) (M : Mi) (last : Int) : Prop where
  eqd : last = det k A
  ne : last ≠ 0
  eq : ∀ i j, k ≤ i → i < n → k ≤ j → j < n → M i j = bm k A i j

theorem Bar.start (n : Nat) (A : Mi) : Bar n A 0 A 1 := ⟨rfl, by decide, fun i j _ _ _ _ => (bm_zero A i j).symm⟩

theorem Bar.step {n k : Nat} {A M M' : Mi} {last : Int} (h : Bar n A k M last) (hk : k < n) (hp : M k k ≠ 0) (hM : ∀ i j, k < i → i < n → k < j → j < n → M' i j = (M k k * M i j - M i k * M k j) / last) : Bar n A (k + 1) M' (M k k) := by
  have hkk := h.eq k k (Nat.le_refl _) hk (Nat.le_refl _) hk
  have hd : det (k + 1) A ≠ 0 := by rw [← bm_lead, ← hkk]; exact hp
  refine ⟨by rw [hkk, bm_lead], hp, fun i j hi hin hj hjn => ?_⟩
  rw [hM i j hi hin hj hjn, hkk, h.eq i j (by omega) hin (by omega) hjn, h.eq i k (by omega) hin (Nat.le_refl _) hk, h.eq k j (Nat.le_refl _) hk (by omega) hjn, bm_step hd, ← h.eqd]
  exact Int.mul_ediv_cancel_left _ h.ne

theorem Bar.none {n k : Nat} {A M : Mi} {last : Int} (h : Bar n A k M last) (hk : k < n) (hz : ∀ i, k ≤ i → i < n → M i k = 0) : det n A = 0 :=
  bm_none hk (by rw [← h.eqd]; exact h.ne) fun i hi hin => by rw [← h.eq i k hi hin (Nat.le_refl _) hk]; exact hz i hi hin

theorem Bar.done {n : Nat} {A M : Mi} {last : Int} (h : Bar n A n M last) : last = det n A := h.eqd

theorem bm_scale {k i i' j : Nat} {A A' : Mi} (s : Int) (h1 : ∀ a, a < k → ∀ b, A' a b = A a b) (h2 : ∀ b, A' i b = s * A i' b) : bm k A' i j = s * bm k A i' j := by
  unfold bm
  have h := det_lin (A := bd k A i' j) (r := k) (f := fun _ => 0) (g := bd k A i' j k) s (Nat.lt_succ_self k)
  rw [setRow_id, det_zrow (Nat.lt_succ_self k) (fun _ _ => rfl), Int.zero_add] at h
  rw [← h]
  refine det_congr fun a ha b hb => ?_
  by_cases hak : a = k
  · subst hak
    rw [setRow_self, Int.zero_add]
    unfold bd
    rw [if_neg (Nat.lt_irrefl a), if_neg (Nat.lt_irrefl a), h2]
  · rw [setRow_ne hak]
    have hak' : a < k := by omega
    unfold bd
    rw [if_pos hak', if_pos hak']
    exact h1 a hak' _

theorem Bar.swap {n k q : Nat} {A M M' : Mi} {last : Int} (s : Int) (h : Bar n A k M last) (hk : k < q) (hq : q < n) (h1 : ∀ j, j < n → M' k j = s * M q j) (h2 : ∀ j, j < n → M' q j = M k j) (h3 : ∀ i j, i < n → j < n → i ≠ k → i ≠ q → M' i j = M i j) :
    Bar n (setRow (swp A k q) k (fun j => s * A q j)) k M' last ∧ det n (setRow (swp A k q) k (fun j => s * A q j)) = -(s * det n A) := by
  have hA : ∀ a, a < k → ∀ b, setRow (swp A k q) k (fun j => s * A q j) a b = A a b := fun a ha b => by
    rw [setRow_ne (by omega)]
    unfold swp
    rw [if_neg (by omega), if_neg (by omega)]
  refine ⟨⟨?_, h.ne, fun i j hi hin hj hjn => ?_⟩, ?_⟩
  · rw [h.eqd]
    exact det_congr fun a ha b _ => (hA a ha b).symm
  · by_cases hik : i = k
    · subst hik
      rw [h1 j hjn, h.eq q j (by omega) hq hj hjn, bm_scale (i' := q) s hA (fun b => setRow_self _ _ _ _)]
    · by_cases hiq : i = q
      · subst hiq
        rw [h2 j hjn, h.eq k j (Nat.le_refl _) (by omega) hj hjn, bm_scale (i' := k) 1 hA (fun b => by
          rw [setRow_ne hik]; unfold swp; rw [if_neg hik, if_pos rfl, Int.one_mul]), Int.one_mul]
      · rw [h3 i j hin hjn hik hiq, h.eq i j hi hin hj hjn, bm_scale (i' := i) 1 hA (fun b => by
          rw [setRow_ne hik]; unfold swp; rw [if_neg hik, if_neg hiq, Int.one_mul]), Int.one_mul]
  · have h4 := det_lin (n := n) (A := swp A k q) (r := k) (f := fun _ => 0) (g := swp A k q k) s (by omega)
    rw [setRow_id, det_zrow (by omega) (fun _ _ => rfl), Int.zero_add, det_swap (by omega) hq (by omega)] at h4
    rw [← Int.mul_neg, ← h4]
    refine det_congr fun a ha b hb => ?_
    by_cases hak : a = k
    · subst hak
      rw [setRow_self, setRow_self, Int.zero_add]
      unfold swp
      rw [if_pos rfl]
    · rw [setRow_ne hak, setRow_ne hak]

end Go.Proofs.YtdlmnloikakjpaaDoor

namespace Go.Proofs.YtdlmnloikakjpaaDoor
open Go Go.RowKit
set_option linter.unusedSimpArgs false
set_option linter.unusedVariables false
set_option linter.unusedSectionVars false

theorem zx_lt {r c i j : Nat} (hi : i < r) (hj : j < c) : i * c + j < r * c := by
  have h : (i + 1) * c ≤ r * c := Nat.mul_le_mul_right c hi
  rw [Nat.add_mul, Nat.one_mul] at h; omega
theorem zx_div {c i j : Nat} (hj : j < c) : (i * c + j) / c = i := by
  rw [Nat.mul_comm, Nat.mul_add_div (by omega), Nat.div_eq_of_lt hj, Nat.add_zero]
theorem zx_mod {c i j : Nat} (hj : j < c) : (i * c + j) % c = j := by
  rw [Nat.mul_comm, Nat.mul_add_mod, Nat.mod_eq_of_lt hj]
theorem zx_inj {c i j i' j' : Nat} (hj : j < c) (hj' : j' < c) (h : i * c + j = i' * c + j') : i = i' ∧ j = j' := by
  have h1 := congrArg (· / c) h
  have h2 := congrArg (· % c) h
  simp only [zx_div hj, zx_div hj', zx_mod hj, zx_mod hj'] at h1 h2
  exact ⟨h1, h2⟩
theorem zx_split {r c k : Nat} (h : k < r * c) : k / c < r ∧ k % c < c ∧ k = (k / c) * c + k % c := by
  have hc : 0 < c := by
    rcases Nat.eq_zero_or_pos c with h0 | h0
    · subst h0; omega
    · exact h0
  refine ⟨(Nat.div_lt_iff_lt_mul hc).2 h, Nat.mod_lt _ hc, ?_⟩
  rw [Nat.mul_comm, Nat.div_add_mod]
theorem zx_row {r c i : Nat} (hi : i < r) : (i + 1) * c ≤ r * c := Nat.mul_le_mul_right c (by omega)

def enz (c : Nat) (xs : List Int) (i j : Nat) : Int := xs.getD (i * c + j) 0
def ZM.at (m : ZM) : Mi := fun i j => enz m.c m.e i j
def tbz (r c : Nat) (g : Mi) : List Int := tab (r * c) fun k => g (k / c) (k % c)
theorem tbz_len (r c : Nat) (g : Mi) : (tbz r c g).length = r * c := by simp [tbz, tab]
theorem enz_tbz {r c i j : Nat} {g : Mi} (hi : i < r) (hj : j < c) : enz c (tbz r c g) i j = g i j := by
  unfold enz tbz
  rw [tab_getD (zx_lt hi hj), zx_div hj, zx_mod hj]
theorem tbz_get {r c i j : Nat} {g : Mi} (hi : i < r) (hj : j < c) : (tbz r c g).getD (i * c + j) 0 = g i j := enz_tbz hi hj
theorem tbz_congr {r c : Nat} {g g' : Mi} (h : ∀ i j, i < r → j < c → g i j = g' i j) : tbz r c g = tbz r c g' := tab_congr fun k hk => by
  obtain ⟨h1, h2, _⟩ := zx_split hk
  exact h _ _ h1 h2
theorem tbz_set {r c i j : Nat} {x : Int} {g : Mi} (hj : j < c) : (tbz r c g).set (i * c + j) x = tbz r c (fun a b => if a = i ∧ b = j then x else g a b) := by
  unfold tbz
  rw [tab_set]
  refine tab_congr fun k hk => ?_
  obtain ⟨h1, h2, h3⟩ := zx_split hk
  by_cases h : k = i * c + j
  · have : k / c = i ∧ k % c = j := by subst h; exact ⟨zx_div hj, zx_mod hj⟩
    rw [if_pos h]
    exact (if_pos this).symm
  · rw [if_neg h]
    refine (if_neg ?_).symm
    rintro ⟨e1, e2⟩
    rw [e1, e2] at h3
    exact h h3
theorem tbz_of {r c : Nat} {xs : List Int} (hl : xs.length = r * c) : tbz r c (enz c xs) = xs := by
  unfold tbz
  rw [tab_congr (g' := fun i => xs.getD i 0)]
  · exact tab_of hl
  · intro k hk
    obtain ⟨_, _, h3⟩ := zx_split hk
    unfold enz
    rw [← h3]
theorem zm_ext {r c : Nat} {xs ys : List Int} (hx : xs.length = r * c) (hy : ys.length = r * c) (h : ∀ i j, i < r → j < c → enz c xs i j = enz c ys i j) : xs = ys := by
  rw [← tbz_of hx, ← tbz_of hy]
  exact tbz_congr h
theorem tbz_zero (r c : Nat) : tbz r c (fun _ _ => 0) = tab (r * c) fun _ => 0 := rfl

def zof (r c : Nat) (g : Mi) : ZM := ⟨r, c, tbz r c g⟩
theorem zof_rt {r c : Nat} {g : Mi} (hr : r ≤ 200) (hc : c ≤ 200) : RtZ (zof r c g) := ⟨hr, hc, tbz_len r c g⟩
theorem zof_at {r c i j : Nat} {g : Mi} (hi : i < r) (hj : j < c) : (zof r c g).at i j = g i j := enz_tbz hi hj
theorem zof_of {m : ZM} (h : RtZ m) : zof m.r m.c m.at = m := by
  unfold zof ZM.at
  rw [tbz_of h.len]
theorem zof_congr {r c : Nat} {g g' : Mi} (h : ∀ i j, i < r → j < c → g i j = g' i j) : zof r c g = zof r c g' := by
  unfold zof
  rw [tbz_congr h]
theorem ZM.ext' {m n : ZM} (hm : RtZ m) (hn : RtZ n) (hr : m.r = n.r) (hc : m.c = n.c) (h : ∀ i j, i < m.r → j < m.c → m.at i j = n.at i j) : m = n := by
  rw [← zof_of hm, ← zof_of hn, ← hr, ← hc]
  exact zof_congr h
theorem row_enz {c i j : Nat} {xs : List Int} (hj : j < c) : ((xs.drop (i * c)).take c).getD j 0 = enz c xs i j := by
  unfold enz
  simp only [List.getD, List.getElem?_take_of_lt hj, List.getElem?_drop]

def BdZ (K : Nat) (m : ZM) : Prop := ∀ i, (m.e.getD i 0).natAbs < 256 ^ K
theorem BdZ.mono {K K' : Nat} {m : ZM} (h : BdZ K m) (hk : K ≤ K') : BdZ K' m := fun i => Nat.lt_of_lt_of_le (h i) (Nat.pow_le_pow_right (by decide) hk)
theorem BdZ.at {K : Nat} {m : ZM} (h : BdZ K m) (i j : Nat) : (m.at i j).natAbs < 256 ^ K := h _
theorem BdZ.of {K r c : Nat} {g : Mi} (h : ∀ i j, i < r → j < c → (g i j).natAbs < 256 ^ K) : BdZ K (zof r c g) := fun k => by
  rcases Nat.lt_or_ge k (r * c) with hk | hk
  · obtain ⟨h1, h2, h3⟩ := zx_split hk
    show ((tbz r c g).getD k 0).natAbs < _
    rw [h3, tbz_get h1 h2]
    exact h _ _ h1 h2
  · show ((tbz r c g).getD k 0).natAbs < _
    simp only [List.getD, List.getElem?_eq_none (show (tbz r c g).length ≤ k by rw [tbz_len]; exact hk), Option.getD_none]
    exact Nat.pow_pos (by decide)
theorem pos256 (K : Nat) : 0 < 256 ^ K := Nat.pow_pos (by decide)

def addZ (m n : ZM) : ZM := zof m.r m.c fun i j => m.at i j + n.at i j
def subZ (m n : ZM) : ZM := zof m.r m.c fun i j => m.at i j - n.at i j
def mulZ (m n : ZM) : ZM := zof m.r n.c (mmI m.c m.at n.at)
def trZ (m : ZM) : ZM := zof m.c m.r (tr m.at)
def joinZ (m n : ZM) : ZM := zof m.r (m.c + n.c) fun i j => if j < m.c then m.at i j else n.at i (j - m.c)
def partZ (m : ZM) (i j r c : Nat) : ZM := zof r c fun a b => m.at (i + a) (j + b)
def oneZ (n : Nat) : ZM := zof n n idI
def zeroZ (r c : Nat) : ZM := zof r c fun _ _ => 0

theorem smI_bd {B : Nat} : ∀ {n : Nat} {f : Nat → Int}, (∀ i, i < n → (f i).natAbs ≤ B) → (smI n f).natAbs ≤ n * B
  | 0, f, _ => by simp [smI]
  | n + 1, f, h => by
    rw [smI]
    have h1 := smI_bd (n := n) (f := f) (fun i hi => h i (by omega))
    have h2 := h n (by omega)
    have h3 := Int.natAbs_add_le (smI n f) (f n)
    rw [Nat.add_mul, Nat.one_mul]
    omega
theorem mul_bd {x y : Int} {K L : Nat} (hx : x.natAbs < 256 ^ K) (hy : y.natAbs < 256 ^ L) : (x * y).natAbs < 256 ^ (K + L) := by
  rw [Int.natAbs_mul, Nat.pow_add]
  exact Nat.mul_lt_mul'' hx hy
theorem add_bd {x y : Int} {K : Nat} (hx : x.natAbs < 256 ^ K) (hy : y.natAbs < 256 ^ K) : (x + y).natAbs < 256 ^ (K + 1) := by
  have h := Int.natAbs_add_le x y
  rw [Nat.pow_succ]; omega
theorem sub_bd {x y : Int} {K : Nat} (hx : x.natAbs < 256 ^ K) (hy : y.natAbs < 256 ^ K) : (x - y).natAbs < 256 ^ (K + 1) := by
  rw [Nat.pow_succ]; omega
theorem bd_up {x : Int} {K L : Nat} (h : x.natAbs < 256 ^ K) (hk : K ≤ L) : x.natAbs < 256 ^ L := Nat.lt_of_lt_of_le h (Nat.pow_le_pow_right (by decide) hk)
theorem mm_bd {K L n : Nat} {A B : Mi} {i j : Nat} (hn : n ≤ 200) (hA : ∀ k, k < n → (A i k).natAbs < 256 ^ K) (hB : ∀ k, k < n → (B k j).natAbs < 256 ^ L) : (mmI n A B i j).natAbs < 256 ^ (K + L + 1) := by
  have h := smI_bd (n := n) (f := fun k => A i k * B k j) (B := 256 ^ (K + L)) (fun k hk => Nat.le_of_lt (mul_bd (hA k hk) (hB k hk)))
  have h2 : n * 256 ^ (K + L) ≤ 200 * 256 ^ (K + L) := Nat.mul_le_mul_right _ hn
  have h3 := pos256 (K + L)
  show (smI n _).natAbs < _
  rw [Nat.pow_succ]
  omega
theorem BdZ.add {K : Nat} {m n : ZM} (h : BdZ K m) (h' : BdZ K n) : BdZ (K + 1) (addZ m n) := BdZ.of fun i j _ _ => add_bd (h.at i j) (h'.at i j)
theorem BdZ.sub {K : Nat} {m n : ZM} (h : BdZ K m) (h' : BdZ K n) : BdZ (K + 1) (subZ m n) := BdZ.of fun i j _ _ => sub_bd (h.at i j) (h'.at i j)
theorem BdZ.mul {K L : Nat} {m n : ZM} (hc : m.c ≤ 200) (h : BdZ K m) (h' : BdZ L n) : BdZ (K + L + 1) (mulZ m n) := BdZ.of fun i j _ _ => mm_bd hc (fun k _ => h.at i k) (fun k _ => h'.at k j)
theorem BdZ.tr {K : Nat} {m : ZM} (h : BdZ K m) : BdZ K (trZ m) := BdZ.of fun i j _ _ => h.at j i
theorem BdZ.part {K : Nat} {m : ZM} (h : BdZ K m) (i j r c : Nat) : BdZ K (partZ m i j r c) := BdZ.of fun a b _ _ => h.at _ _
theorem BdZ.one (n : Nat) : BdZ 1 (oneZ n) := BdZ.of fun i j _ _ => by unfold idI; split <;> decide
theorem BdZ.zero (r c : Nat) : BdZ 0 (zeroZ r c) := BdZ.of fun i j _ _ => by decide


def Zeros (r c : Nat) (w : World) (v : Value) (w' : World) : Prop := ∃ N E, New N w w' ∧ v = .agg #[nv r, nv c, E] ∧ OwnZ N E (r * c) (tab (r * c) fun _ => 0)

set_option maxHeartbeats 1000000 in
theorem c_Zero (r c : Nat) (hr : r ≤ 200) (hc : c ≤ 200) (w : World) : Calls Tryd.prog 21 #[.int .i64 r, .int .i64 c] w (Ret fun v w' => Kp [] w w' ∧ Zeros r c w v w') := by
  have hb := rcZ hr hc
  refine calls_of_S [] [] (by simp) [] Tryd.func21 rfl mixed (by kernel_rfl) Tryd.ntmps21 Tryd.results21 rfl ⟨by simp, by simp⟩ (by simp) ?_
  simp only [toS, textOps, toSOp, kindAt, kindOf, odAt, sopsAt, ordOf, zipF]
  (repeat' (first | refine JC.seq ?_ | refine JC.ops ?_ | refine JO.nil ?_ | refine JX.thenN ?_ | (apply r_move; (iterate 3 exact rfl)) | (apply r_allocZ; (iterate 3 exact rfl); intro _)))
  refine r_call0 trivial rfl rfl rfl (fun w _ _ => c_fits r c w) fun w v w' _ _ _ hR => ?_
  obtain ⟨b, rfl, hb⟩ := hR
  obtain rfl := hb.2 (by omega)
  (repeat' (first | refine JC.seq ?_ | refine JC.ops ?_ | refine JO.nil ?_ | refine JX.thenN ?_ | (apply r_move; (iterate 3 exact rfl)) | (apply r_mulN; (iterate 4 exact rfl); (first | assumption | omega)) | (apply r_not; (iterate 3 exact rfl)) | refine JC.skip ?_ | refine JC.condF rfl ?_))
  refine r_make rfl rfl rfl rfl rfl (by omega) (by omega) (fun b => ?_)
  (repeat' (first | refine JO.nil ?_ | refine JX.thenN ?_ | (apply r_storeN; exact rfl; (first | exact trivial | exact ⟨rfl, rfl⟩); exact rfl; exact rfl; exact at1; (iterate 3 exact rfl)) | (apply r_buildL; (iterate 5 exact rfl)) | (apply r_storeN; exact rfl; (first | exact trivial | exact ⟨rfl, rfl⟩); exact rfl; exact rfl; exact at1; (iterate 3 exact rfl)) | refine JC.ret ?_))
  have := own_zerosZ b (r * c) (by simp only [maxLen]; omega)
  exact JX.retC 1 rfl rfl rfl (fun a w st => ⟨st.kp, _, _, st.newOf rfl (HSub.at 0 rfl (HSub.nil _)), rfl, this⟩)

def oneS (n k : Nat) : List Int := tbz n n fun a b => if a = b ∧ a < k then 1 else 0
theorem oneS_zero (n : Nat) : oneS n 0 = tab (n * n) fun _ => 0 := by
  rw [← tbz_zero]
  exact tbz_congr fun i j _ _ => by simp
theorem oneS_set {n k : Nat} (hk : k < n) : (oneS n k).set (k * n + k) 1 = oneS n (k + 1) := by
  unfold oneS
  rw [tbz_set hk]
  refine tbz_congr fun a b ha hb => ?_
  by_cases h : a = k ∧ b = k
  · obtain ⟨rfl, rfl⟩ := h
    simp
  · rw [if_neg h]
    by_cases h2 : a = b ∧ a < k
    · rw [if_pos h2, if_pos ⟨h2.1, by omega⟩]
    · rw [if_neg h2, if_neg]
      rintro ⟨rfl, h3⟩
      rcases Nat.lt_or_ge a k with h4 | h4
      · exact h2 ⟨rfl, h4⟩
      · exact h ⟨by omega, by omega⟩
theorem oneS_end (n : Nat) : oneS n n = (oneZ n).e := tbz_congr fun a b ha hb => by
  unfold idI
  by_cases h : a = b
  · rw [if_pos ⟨h, ha⟩, if_pos h]
  · rw [if_neg (fun h2 => h h2.1), if_neg h]

set_option maxHeartbeats 2000000 in
theorem c_One (n : Nat) (hn : n ≤ 200) (w : World) : Calls Tryd.prog 26 #[nv n] w (Ret fun v w' => Kp [] w w' ∧ GivesM (oneZ n) w v w') := by
  have hnn := rcZ hn hn
  refine calls_of_S [⟨5, 2, [], []⟩] [] (by simp) [] Tryd.func26 rfl mixed (by kernel_rfl) Tryd.ntmps26 Tryd.results26 rfl ⟨by simp, by simp⟩ (by simp) ?_
  simp only [toS, textOps, toSOp, kindAt, kindOf, odAt, sopsAt, ordOf, zipF]
  (repeat' (first | refine JC.seq ?_ | refine JC.ops ?_ | refine JO.nil ?_ | refine JX.thenN ?_ | (apply r_move; (iterate 3 exact rfl)) | (apply r_allocZ; (iterate 3 exact rfl); intro _)))
  rename_i b2
  refine r_callA (A := [_]) (B := []) rfl trivial rfl rfl rfl (fun w _ _ => c_Zero n n hn hn w) fun w v w' _ _ _ hR => ?_
  obtain ⟨N, Eo, hN, rfl, hO⟩ := hR
  obtain ⟨Ao, co, rfl⟩ := hO.form
  refine ⟨N, hN, ?_⟩
  (repeat' (first | refine JC.seq ?_ | refine JC.ops ?_ | refine JO.nil ?_ | refine JX.thenN ?_ | (apply r_move; (iterate 3 exact rfl)) | (apply r_fieldAddr; (iterate 3 exact rfl)) | (apply r_load; (iterate 4 exact rfl); exact at0; exact rfl) | (apply r_storeN; exact rfl; (first | exact trivial | exact ⟨rfl, rfl⟩); exact rfl; exact rfl; exact at0; (iterate 3 exact rfl)) | (apply r_allocZ; (iterate 3 exact rfl); intro _) | (apply r_storeN; exact rfl; (first | exact trivial | exact ⟨rfl, rfl⟩); exact rfl; exact rfl; exact at0; (iterate 3 exact rfl)) | refine JC.block ?_))
  rename_i b3
  refine JC.loopH (ι := Nat × SHeap) ⟨fun z => [(10, nv z.1), (9, nv n), (0, nv n), (3, .pointer (some ⟨b3, 0, none⟩)), (2, .pointer (some ⟨b2, 0, none⟩))],
    fun z => [(b3, .cells #[nv n, nv n, .slice Ao (n * n) co] 29), (b2, .cells #[iv 0, iv 0, .slice none 0 0] 29)] ++ (z.2 ++ []),
    fun z => z.1 ≤ n ∧ OwnZ z.2 (.slice Ao (n * n) co) (n * n) (oneS n z.1), fun z => n - z.1⟩ (0, N) ⟨by omega, by rw [oneS_zero]; exact hO⟩ (by repeat first | exact trivial | refine ⟨rfl, ?_⟩) (by (first | exact HSub.refl _ | (repeat' first | exact HSub.nil _ | exact HSub.refl _ | refine HSub.at 0 rfl ?_ | refine HSub.at 1 rfl ?_ | refine HSub.at 2 rfl ?_ | refine HSub.at 3 rfl ?_ | refine HSub.at 4 rfl ?_ | refine HSub.at 5 rfl ?_ | refine HSub.at 6 rfl ?_ | refine HSub.at 7 rfl ?_))) (fun k hk => ?_)
  obtain ⟨k, N⟩ := k
  obtain ⟨hkn, hO⟩ := hk
  dsimp only at hkn hO ⊢
  have hkk : k * n ≤ 40000 := Nat.mul_le_mul (show k ≤ 200 by omega) hn
  by_cases hlt : k < n
  · have hi := zx_lt hlt hlt
    (repeat' (first | refine JC.seq ?_ | refine JC.ops ?_ | refine JC.opsD ?_ | refine JO.nil ?_ | refine JX.thenN ?_ | (apply r_move; (iterate 3 exact rfl)) | (apply r_fieldAddr; (iterate 3 exact rfl)) | (apply r_assign; (iterate 3 exact rfl)) | (apply r_load; (iterate 4 exact rfl); exact at0; exact rfl) | (apply r_addN; (iterate 4 exact rfl); omega) | (apply r_mulN; (iterate 4 exact rfl); (first | assumption | omega)) | (apply r_lss; (iterate 4 exact rfl); all_goals intro hc; all_goals try (exfalso; omega)) | refine JC.skip ?_ | refine JC.condT rfl ?_ | refine JC.block ?_))
    refine r_call0 (by first | trivial | exact ⟨rfl, rfl⟩) rfl rfl rfl (fun w _ _ => c_From w 1 (by omega) (by omega)) fun w v w' _ _ _ hR => ?_
    subst hR
    (repeat' (first | (apply r_idxZ; (iterate 4 exact rfl); (first | assumption | exact WZ.rd (by assumption) rfl [] | exact OwnZ.rd (by assumption)); (first | assumption | omega))))
    refine r_stZ (A := [_, _]) hO rfl rfl ⟨rfl, rfl⟩ rfl rfl hi (fun N' hO' => ?_)
    rw [oneS_set hlt] at hO'
    (repeat' (first | refine JC.ops ?_ | refine JO.nil ?_ | refine JX.thenN ?_ | (apply r_move; (iterate 3 exact rfl)) | (apply r_add1; (iterate 4 exact rfl); omega) | refine JX.blockN ?_))
    exact JX.roundH (k + 1, N') ⟨by dsimp only; omega, hO'⟩ (by dsimp only; omega) (by repeat first | exact trivial | refine ⟨rfl, ?_⟩) (by (first | exact HSub.refl _ | (repeat' first | exact HSub.nil _ | exact HSub.refl _ | refine HSub.at 0 rfl ?_ | refine HSub.at 1 rfl ?_ | refine HSub.at 2 rfl ?_ | refine HSub.at 3 rfl ?_ | refine HSub.at 4 rfl ?_ | refine HSub.at 5 rfl ?_ | refine HSub.at 6 rfl ?_ | refine HSub.at 7 rfl ?_)))
  · (repeat' (first | refine JC.seq ?_ | refine JC.ops ?_ | refine JO.nil ?_ | refine JX.thenN ?_ | (apply r_loadN; (iterate 4 exact rfl); (first | exact at0 | exact at1); exact rfl) | (apply r_storeN; exact rfl; (first | exact trivial | exact ⟨rfl, rfl⟩); exact rfl; exact rfl; (first | exact at0 | exact at1); (iterate 3 exact rfl)) | (apply r_lss; (iterate 4 exact rfl); all_goals intro hc; all_goals try (exfalso; omega)) | (apply r_storeN; exact rfl; (first | exact trivial | exact ⟨rfl, rfl⟩); exact rfl; exact rfl; (first | exact at0 | exact at1); (iterate 3 exact rfl)) | refine JX.thenE ?_ | refine JC.exit ?_ | refine JC.ret ?_ | refine JC.condF rfl ?_ | refine JX.blockE ?_))
    obtain rfl : k = n := by omega
    rw [oneS_end] at hO
    exact JX.retC 1 rfl rfl rfl (fun a w' st => ⟨st.kp, N, st.newOf rfl (by (repeat' first | exact HSub.nil _ | exact HSub.hd | exact HSub.in0 | exact HSub.refl _ | refine HSub.skip ?_ | refine HSub.skipN ?_)), OwnM.mk' hO⟩)

theorem Wz0 : Wv 0 = wv false [] := congrArg xv wz_zero
set_option maxHeartbeats 1000000 in
theorem c_sEqual (w : World) (v u : Value) (n k : Nat) (xs ys : List WR) (hv : WX w v n xs) (hu : WX w u k ys) (hn : n < 1000000000) (hk : k < 1000000000) : Calls Tryd.prog 54 #[v, u] w (Ret fun v w' => Kp [] w w' ∧ IsB (xs = ys) v) := by
  have hl := hv.len
  have hl' := hu.len
  refine calls_of_S [⟨6, 1, [], []⟩] [] (by simp) [] Tryd.func54 rfl mixed (by kernel_rfl) Tryd.ntmps54 Tryd.results54 rfl ⟨by simp, by simp⟩ (by simp) ?_
  simp only [toS, textOps, toSOp, kindAt, kindOf, odAt, sopsAt, ordOf, zipF]
  have hR := WX.rd (c := ⟨Tryd.prog, 26, w, [], by simp⟩) hv rfl []
  have hR' := WX.rd (c := ⟨Tryd.prog, 26, w, [], by simp⟩) hu rfl []
  (repeat' (first | refine JC.seq ?_ | refine JC.ops ?_ | refine JO.nil ?_ | refine JX.thenN ?_ | (apply r_move; (iterate 3 exact rfl)) | (apply r_assign; (iterate 3 exact rfl)) | (apply r_lenX; (iterate 3 exact rfl); (first | assumption | exact WX.rd (by assumption) rfl [] | exact OwnX.rd (by assumption))) | (apply r_neq; (iterate 4 exact rfl); all_goals intro hc; all_goals try (exfalso; omega)) | refine JX.thenR ?_ | refine JC.skip ?_ | refine JC.ret ?_ | refine JC.condT rfl ?_ | refine JC.condF rfl ?_ | refine JC.block ?_))
  · exact JX.ret1 rfl (fun a w' st => ⟨st.kp, IsB.f (fun h => hc (by rw [← hl, ← hl', h]))⟩)
  · have hnk : n = k := by omega
    subst hnk
    refine JC.loopH (ι := Nat) ⟨fun i => [(13, nv i), (12, nv n), (0, v), (1, u)], fun _ => [], fun i => i ≤ n ∧ ∀ j, j < i → xs.getD j w0x = ys.getD j w0x, fun i => n - i⟩ 0 ⟨by omega, fun j h => by omega⟩ (by repeat first | exact trivial | refine ⟨rfl, ?_⟩) (HSub.nil _) (fun i hi => ?_)
    obtain ⟨hin, hpr⟩ := hi
    dsimp only
    by_cases hlt : i < n
    · (repeat' (first | refine JC.seq ?_ | refine JC.ops ?_ | refine JC.opsD ?_ | refine JO.nil ?_ | refine JX.thenN ?_ | (apply r_move; (iterate 3 exact rfl)) | (apply r_assign; (iterate 3 exact rfl)) | (apply r_idxX; (iterate 4 exact rfl); (first | assumption | exact WX.rd (by assumption) rfl [] | exact OwnX.rd (by assumption)); (first | assumption | omega)) | (apply r_ldX; (iterate 4 exact rfl); (first | assumption | exact WX.rd (by assumption) rfl [] | exact OwnX.rd (by assumption)); (repeat' first | exact HSub.nil _ | exact HSub.hd | exact HSub.in0 | exact HSub.refl _ | refine HSub.skip ?_ | refine HSub.skipN ?_); (first | assumption | omega)) | (apply r_lss; (iterate 4 exact rfl); all_goals intro hc; all_goals try (exfalso; omega)) | refine JC.skip ?_ | refine JC.condT rfl ?_ | refine JC.block ?_))
      refine r_neW rfl rfl rfl rfl ?_
      by_cases he : xs.getD i w0x = ys.getD i w0x
      · rw [he]
        simp only [BEq.rfl, decide_true, Bool.and_self, Bool.not_true]
        (repeat' (first | refine JC.ops ?_ | refine JO.nil ?_ | refine JX.thenN ?_ | (apply r_move; (iterate 3 exact rfl)) | (apply r_add1; (iterate 4 exact rfl); omega) | refine JC.skip ?_ | refine JC.condF rfl ?_ | refine JX.blockN ?_))
        refine JX.roundH (i + 1) ⟨by omega, fun j h => ?_⟩ (by dsimp only; omega) (by repeat first | exact trivial | refine ⟨rfl, ?_⟩) (HSub.nil _)
        rcases Nat.lt_or_ge j i with h' | h'
        · exact hpr j h'
        · have : j = i := by omega
          subst this; exact he
      · have hb : (!((xs.getD i w0x).1 == (ys.getD i w0x).1 && decide ((xs.getD i w0x).2 = (ys.getD i w0x).2))) = true := by
          simp only [Bool.not_eq_true', Bool.and_eq_false_iff]
          by_cases h1 : (xs.getD i w0x).1 = (ys.getD i w0x).1
          · refine .inr ?_
            simp only [decide_eq_false_iff_not]
            exact fun h2 => he (Prod.ext h1 h2)
          · exact .inl (by simpa using h1)
        rw [hb]
        (repeat' (first | refine JC.seq ?_ | refine JC.ops ?_ | refine JO.nil ?_ | refine JX.thenN ?_ | (apply r_assign; (iterate 3 exact rfl)) | refine JX.thenR ?_ | refine JC.ret ?_ | refine JC.condT rfl ?_ | refine JX.blockR ?_))
        exact JX.ret1 rfl (fun a w' st => ⟨st.kp, IsB.f (fun h => he (by rw [h]))⟩)
    · (repeat' (first | refine JC.seq ?_ | refine JC.ops ?_ | refine JO.nil ?_ | refine JX.thenN ?_ | (apply r_assign; (iterate 3 exact rfl)) | (apply r_lss; (iterate 4 exact rfl); all_goals intro hc; all_goals try (exfalso; omega)) | refine JX.thenE ?_ | refine JC.exit ?_ | refine JC.ret ?_ | refine JC.condF rfl ?_ | refine JX.blockE ?_))
      refine JX.ret1 rfl (fun a w' st => ⟨st.kp, IsB.t (ext_getD (d := w0x) (by omega) (fun j hj => hpr j (by omega)))⟩)

theorem XM.ext' {a b : XM} (h2 : a.R = b.R) (h3 : a.C = b.C) (h4 : a.E = b.E) : a = b := by
  cases a; cases b; simp_all
theorem xm_inj {m n : ZM} (h : m.xm = n.xm) : m = n := by
  obtain ⟨r, c, e⟩ := m
  obtain ⟨r', c', e'⟩ := n
  simp only [ZM.xm, XM.mk.injEq] at h
  obtain ⟨h1, h2, h3⟩ := h
  have h1 : r = r' := by omega
  have h2 : c = c' := by omega
  subst h1 h2
  rw [map_wz_inj h3]

set_option maxHeartbeats 1000000 in
theorem c_EqualX (w : World) (v u : Value) (a b : XM) (ha : IsX w v a) (hb : IsX w u b) (hl : a.E.length < 1000000000) (hl' : b.E.length < 1000000000) : Calls Tryd.prog 18 #[v, u] w (Ret fun v w' => Kp [] w w' ∧ IsB (RX a ∧ a = b) v) := by
  obtain ⟨E, rfl, hE⟩ := ha
  obtain ⟨E', rfl, hE'⟩ := hb
  refine calls_of_S [] [] (by simp) [] Tryd.func18 rfl mixed (by kernel_rfl) Tryd.ntmps18 Tryd.results18 rfl ⟨by simp, by simp⟩ (by simp) ?_
  simp only [toS, textOps, toSOp, kindAt, kindOf, odAt, sopsAt, ordOf, zipF]
  (repeat' (first | refine JC.seq ?_ | refine JC.ops ?_ | refine JO.nil ?_ | refine JX.thenN ?_ | (apply r_assign; (iterate 3 exact rfl)) | (apply r_loadN; (iterate 4 exact rfl); (first | exact at0 | exact at1); exact rfl) | (apply r_boxA; (iterate 4 exact rfl); intro _)))
  refine r_call0 trivial rfl rfl rfl (fun w hk _ => c_alike w _ _ a b ⟨E, rfl, hE.mono hk⟩ ⟨E', rfl, hE'.mono hk⟩ (by omega) (by omega)) fun w v w' _ _ _ hR => ?_
  obtain ⟨b', rfl, hb⟩ := hR
  cases b'
  · (repeat' (first | refine JO.nil ?_ | refine JX.thenN ?_ | (apply r_move; (iterate 3 exact rfl)) | (apply r_assign; (iterate 3 exact rfl)) | (apply r_pickF; (iterate 4 exact rfl)) | refine JC.ret ?_ | (apply r_skip; exact rfl; exact rfl; (first | (intro h; cases h; done) | (intro _; rfl)))))
    exact JX.ret1 rfl (fun a w' st => ⟨st.kp, IsB.f (fun h => by cases hb.2 ⟨h.1, h.2 ▸ h.1, by rw [h.2], by rw [h.2]⟩)⟩)
  · have h1 := hb.1 rfl
    (repeat' (first | (apply r_move; (iterate 3 exact rfl)) | (apply r_fieldAddr; (iterate 3 exact rfl)) | (apply r_load; (iterate 4 exact rfl); (first | exact at0 | exact at1); exact rfl)))
    refine r_call0 trivial rfl rfl rfl (fun w hk _ => c_sEqual w _ _ _ _ _ _ (hE.mono hk) (hE'.mono hk) hl hl') fun w v w' _ _ _ hR => ?_
    obtain ⟨b', rfl, hb⟩ := hR
    (repeat' (first | refine JO.nil ?_ | refine JX.thenN ?_ | (apply r_assign; (iterate 3 exact rfl)) | (apply r_pickT; (iterate 4 exact rfl)) | refine JC.ret ?_))
    refine JX.ret1 rfl (fun a w' st => ⟨st.kp, b', rfl, hb.trans ⟨fun h => ⟨h1.1, ?_⟩, fun h => by rw [h.2]⟩⟩)
    exact XM.ext' h1.2.2.1 h1.2.2.2 h

theorem calls_mono {P : Program} {f : FuncId} {args : Array Value} {w : World} {R R' : Value → World → Prop} (h : Calls P f args w (Ret R)) (hr : ∀ v w', R v w' → R' v w') : Calls P f args w (Ret R') :=
  Calls.mono h fun e w' he => by
    cases e <;> first | exact hr _ _ he | exact he

theorem c_Equal (w : World) (v u : Value) (m n : ZM) (hm : RtZ m) (hn : RtZ n) (hv : IsM w v m) (hu : IsM w u n) : Calls Tryd.prog 18 #[v, u] w (Ret fun v w' => Kp [] w w' ∧ IsB (m = n) v) := by
  refine calls_mono (c_EqualX w v u m.xm n.xm hv.x hu.x (by have := hm.le; simp [ZM.xm]; omega) (by have := hn.le; simp [ZM.xm]; omega)) fun v w' h => ⟨h.1, ?_⟩
  obtain ⟨b, rfl, hb⟩ := h.2
  exact ⟨b, rfl, hb.trans ⟨fun h => xm_inj h.2, fun h => ⟨hm.rx, by rw [h]⟩⟩⟩

def BdL (K : Nat) (xs : List Int) : Prop := ∀ i, (xs.getD i 0).natAbs < 256 ^ K


theorem idx_lt {r c i j : Nat} (hi : i < r) (hj : j < c) : i * c + j < r * c := by
  have := Nat.mul_le_mul_right c (show i + 1 ≤ r by omega)
  rw [Nat.add_mul] at this
  omega
def IsRows (w : World) (v : Value) (xss : List (List Int)) : Prop := ∃ ss : List Value, RdW w 1 v xss.length ss ∧ ∀ i, i < xss.length → WI w (ss.getD i (iv 0)) (xss.getD i []).length (xss.getD i [])
theorem IsRows.mono {w w' : World} {v : Value} {xss : List (List Int)} (h : IsRows w v xss) (hk : Kp [] w w') : IsRows w' v xss := by
  obtain ⟨ss, h1, h2⟩ := h
  exact ⟨ss, h1.mono hk, fun i hi => (h2 i hi).mono hk⟩
def ofC (xss : List (List Int)) : Nat → Nat
  | 0 => 0
  | k + 1 => max (ofC xss k) (xss.getD k []).length
theorem ofC_le (xss : List (List Int)) : ∀ {k i : Nat}, i < k → (xss.getD i []).length ≤ ofC xss k
  | 0, i, h => by omega
  | k + 1, i, h => by
    rw [ofC]
    by_cases hi : i = k
    · subst hi; exact Nat.le_max_right _ _
    · exact Nat.le_trans (ofC_le xss (show i < k by omega)) (Nat.le_max_left _ _)
theorem max_nv (a b : Nat) : (if (a : Int) < (b : Int) then (b : Int) else (a : Int)) = ((max a b : Nat) : Int) := by
  split <;> omega

def ofE (xss : List (List Int)) (i j : Nat) : Int := (xss.getD i []).getD j 0
def ofZ (xss : List (List Int)) : ZM := zof xss.length (ofC xss xss.length) (ofE xss)
def ofS (xss : List (List Int)) (i k : Nat) : Mi := fun a b => if a < i ∨ (a = i ∧ b < k) then ofE xss a b else 0
theorem ofS_zero (r c : Nat) (xss : List (List Int)) : tbz r c (ofS xss 0 0) = tab (r * c) fun _ => 0 := by
  unfold tbz ofS
  exact tab_congr fun t _ => by simp
theorem ofS_set {r c i k : Nat} {xss : List (List Int)} (hk : k < c) : (tbz r c (ofS xss i k)).set (i * c + k) (ofE xss i k) = tbz r c (ofS xss i (k + 1)) := by
  rw [tbz_set hk]
  refine tbz_congr fun a b _ _ => ?_
  unfold ofS
  by_cases h : a = i ∧ b = k
  · obtain ⟨rfl, rfl⟩ := h; simp
  · rw [if_neg h]
    have e : (a < i ∨ a = i ∧ b < k + 1) = (a < i ∨ a = i ∧ b < k) := by simp; omega
    simp only [e]
theorem ofE_out {i j : Nat} {xss : List (List Int)} (h : (xss.getD i []).length ≤ j) : ofE xss i j = 0 := by
  unfold ofE
  rw [List.getD, List.getElem?_eq_none h]; rfl
theorem ofS_row {r c i k : Nat} {xss : List (List Int)} (hk : (xss.getD i []).length ≤ k) : tbz r c (ofS xss i k) = tbz r c (ofS xss (i + 1) 0) := by
  refine tbz_congr fun a b _ _ => ?_
  unfold ofS
  by_cases h : a = i
  · subst h
    by_cases hb : b < k
    · rw [if_pos (.inr ⟨rfl, hb⟩), if_pos (.inl (by omega))]
    · rw [if_neg (by omega), if_pos (.inl (by omega)), ofE_out (by omega)]
  · have e : (a < i ∨ a = i ∧ b < k) = (a < i + 1 ∨ a = i + 1 ∧ b < 0) := by simp; omega
    simp only [e]
theorem ofS_end {r c i : Nat} {xss : List (List Int)} (hi : r ≤ i) : tbz r c (ofS xss i 0) = tbz r c (ofE xss) := by
  refine tbz_congr fun a b ha _ => ?_
  unfold ofS; rw [if_pos (.inl (by omega))]
def I64 (n : Int) : Prop := -9223372036854775808 ≤ n ∧ n < 9223372036854775808

set_option maxHeartbeats 4000000 in
theorem c_Of (w : World) (v : Value) (xss : List (List Int)) (hv : IsRows w v xss) (hr : xss.length ≤ 200) (hcc : ofC xss xss.length ≤ 200) (hI : ∀ i j, I64 ((xss.getD i []).getD j 0)) :
    Calls Tryd.prog 34 #[v] w (Ret fun v w' => Kp [] w w' ∧ GivesM (ofZ xss) w v w') := by
  obtain ⟨ss, hss, hrow⟩ := hv
  have hrc := rcZ hr hcc
  have hlen : ∀ i, i < xss.length → (xss.getD i []).length ≤ 200 := fun i hi => Nat.le_trans (ofC_le xss hi) hcc
  have hsl : ss.length = xss.length := by have := hss.1; omega
  refine calls_of_S [⟨16, 2, [], []⟩] [] (by simp) [] Tryd.func34 rfl mixed (by kernel_rfl) Tryd.ntmps34 Tryd.results34 rfl ⟨by simp, by simp⟩ (by simp) ?_
  simp only [toS, textOps, toSOp, kindAt, kindOf, odAt, sopsAt, ordOf, zipF]
  have hR : Rd ⟨Tryd.prog, 58, w, [], by simp⟩ [] 1 v xss.length ss := hss.rd rfl []
  (repeat' (first | refine JC.seq ?_ | refine JC.ops ?_ | refine JO.nil ?_ | refine JX.thenN ?_ | (apply r_move; (iterate 3 exact rfl)) | (apply r_assign; (iterate 3 exact rfl)) | (apply r_allocZ; (iterate 3 exact rfl); intro _)))
  rename_i b2
  refine r_lenR rfl rfl rfl hR ?_
  (repeat' (first | refine JO.nil ?_ | refine JX.thenN ?_ | (apply r_move; (iterate 3 exact rfl)) | refine JC.block ?_))
  refine JC.loopH (ι := Nat) ⟨fun k => [(13, nv k), (12, nv xss.length), (11, v), (3, nv (ofC xss k)), (0, v), (2, .pointer (some ⟨b2, 0, none⟩))], fun _ => [(b2, .cells #[iv 0, iv 0, .slice none 0 0] 29)],
    fun k => k ≤ xss.length, fun k => xss.length - k⟩ 0 (by dsimp only; omega) (by repeat first | exact trivial | refine ⟨rfl, ?_⟩) (by (first | exact HSub.refl _ | (repeat' first | exact HSub.nil _ | exact HSub.refl _ | refine HSub.at 0 rfl ?_ | refine HSub.at 1 rfl ?_ | refine HSub.at 2 rfl ?_ | refine HSub.at 3 rfl ?_ | refine HSub.at 4 rfl ?_ | refine HSub.at 5 rfl ?_ | refine HSub.at 6 rfl ?_ | refine HSub.at 7 rfl ?_))) (fun k hk => ?_)
  dsimp only at hk ⊢
  by_cases hkk : k < xss.length
  · have hwi := hrow k hkk
    have hl4 := hlen k hkk
    (repeat' (first | refine JC.seq ?_ | refine JC.ops ?_ | refine JO.nil ?_ | refine JX.thenN ?_ | (apply r_lss; (iterate 4 exact rfl); all_goals intro hc; all_goals try (exfalso; omega)) | refine JC.skip ?_ | refine JC.condT rfl ?_ | refine JC.block ?_))
    refine r_idxR1 rfl rfl rfl rfl hR hkk ?_
    refine r_ldR rfl rfl rfl rfl hR (HSub.nil _) (gD_lt (d := iv 0) (by omega)) ?_
    (repeat' (first | refine JC.ops ?_ | refine JO.nil ?_ | refine JX.thenN ?_ | (apply r_move; (iterate 3 exact rfl)) | (apply r_assign; (iterate 3 exact rfl)) | (apply r_lenI; (iterate 3 exact rfl); (first | assumption | exact WI.rd (by assumption) rfl [] | exact OwnI.rd (by assumption))) | (apply r_add1; (iterate 4 exact rfl); omega) | (apply r_max; (iterate 4 exact rfl)) | refine JX.blockN ?_))
    refine JX.roundH (k + 1) (by dsimp only; omega) (by dsimp only; omega) (by dsimp only [ofC]; unfold nv; rw [← max_nv]; exact (by repeat first | exact trivial | refine ⟨rfl, ?_⟩)) (by (first | exact HSub.refl _ | (repeat' first | exact HSub.nil _ | exact HSub.refl _ | refine HSub.at 0 rfl ?_ | refine HSub.at 1 rfl ?_ | refine HSub.at 2 rfl ?_ | refine HSub.at 3 rfl ?_ | refine HSub.at 4 rfl ?_ | refine HSub.at 5 rfl ?_ | refine HSub.at 6 rfl ?_ | refine HSub.at 7 rfl ?_)))
  · have : k = xss.length := by omega
    subst this
    (repeat' (first | refine JC.seq ?_ | refine JC.ops ?_ | refine JO.nil ?_ | refine JX.thenN ?_ | (apply r_move; (iterate 3 exact rfl)) | (apply r_lss; (iterate 4 exact rfl); all_goals intro hc; all_goals try (exfalso; omega)) | refine JX.thenE ?_ | refine JC.exit ?_ | refine JC.condF rfl ?_ | refine JX.blockE ?_))
    refine r_lenR rfl rfl rfl hR ?_
    (repeat' (first | (apply r_move; (iterate 3 exact rfl))))
    refine r_callA (A := [_]) (B := []) rfl trivial rfl rfl rfl (fun w hk _ => c_Zero xss.length _ hr hcc w) fun w v' w' _ _ _ hR' => ?_
    obtain ⟨N, Eo, hN, rfl, hO⟩ := hR'
    obtain ⟨Ao, co, rfl⟩ := hO.form
    refine ⟨N, hN, ?_⟩
    have hdone : ∀ N', OwnZ N' (.slice Ao (xss.length * ofC xss xss.length) co) (xss.length * ofC xss xss.length) (tbz xss.length (ofC xss xss.length) (ofE xss)) → OwnM N' (.agg #[nv xss.length, nv (ofC xss xss.length), .slice Ao (xss.length * ofC xss xss.length) co]) (ofZ xss) := fun N' h => OwnM.mk' h
    (repeat' (first | refine JC.seq ?_ | refine JC.ops ?_ | refine JO.nil ?_ | refine JX.thenN ?_ | (apply r_move; (iterate 3 exact rfl)) | (apply r_fieldAddr; (iterate 3 exact rfl)) | (apply r_load; (iterate 4 exact rfl); (first | exact at0 | exact at1); exact rfl) | (apply r_loadN; (iterate 4 exact rfl); (first | exact at0 | exact at1); exact rfl) | (apply r_lenZ; (iterate 3 exact rfl); (first | assumption | exact WZ.rd (by assumption) rfl [] | exact OwnZ.rd (by assumption))) | (apply r_storeN; exact rfl; (first | exact trivial | exact ⟨rfl, rfl⟩); exact rfl; exact rfl; (first | exact at0 | exact at1); (iterate 3 exact rfl)) | (apply r_eql; (iterate 4 exact rfl); all_goals intro hc; all_goals try (exfalso; omega)) | (apply r_allocZ; (iterate 3 exact rfl); intro _) | (apply r_storeN; exact rfl; (first | exact trivial | exact ⟨rfl, rfl⟩); exact rfl; exact rfl; (first | exact at0 | exact at1); (iterate 3 exact rfl)) | refine JX.thenR ?_ | refine JC.skip ?_ | refine JC.ret ?_ | refine JC.condT rfl ?_ | refine JC.condF rfl ?_))
    · rename_i b6 h0
      refine JX.retC 1 rfl rfl rfl (fun a w' st => ⟨st.kp, N, st.newOf rfl (by (repeat' first | exact HSub.nil _ | exact HSub.hd | exact HSub.in0 | exact HSub.refl _ | refine HSub.skip ?_ | refine HSub.skipN ?_)), hdone _ ?_⟩)
      have e : tbz xss.length (ofC xss xss.length) (ofE xss) = tab (xss.length * ofC xss xss.length) fun _ => 0 := by
        unfold tbz
        exact tab_congr fun i hi => by omega
      rw [e]; exact hO
    · refine r_lenR rfl rfl rfl hR ?_
      (repeat' (first | refine JO.nil ?_ | refine JX.thenN ?_ | (apply r_move; (iterate 3 exact rfl)) | refine JC.block ?_))
      rename_i b6
      refine JC.loopH (ι := Nat × SHeap) ⟨fun z => [(33, nv z.1), (32, nv xss.length), (31, v), (3, nv (ofC xss xss.length)), (6, .pointer (some ⟨b6, 0, none⟩)), (2, .pointer (some ⟨b2, 0, none⟩))],
        fun z => [(b6, .cells #[nv xss.length, nv (ofC xss xss.length), .slice Ao (xss.length * ofC xss xss.length) co] 29), (b2, .cells #[iv 0, iv 0, .slice none 0 0] 29)] ++ (z.2 ++ []),
        fun z => z.1 ≤ xss.length ∧ OwnZ z.2 (.slice Ao (xss.length * ofC xss xss.length) co) (xss.length * ofC xss xss.length) (tbz xss.length (ofC xss xss.length) (ofS xss z.1 0)), fun z => xss.length - z.1⟩ (0, N) ⟨by dsimp only; omega, by rw [ofS_zero]; exact hO⟩ (by repeat first | exact trivial | refine ⟨rfl, ?_⟩) (by (first | exact HSub.refl _ | (repeat' first | exact HSub.nil _ | exact HSub.refl _ | refine HSub.at 0 rfl ?_ | refine HSub.at 1 rfl ?_ | refine HSub.at 2 rfl ?_ | refine HSub.at 3 rfl ?_ | refine HSub.at 4 rfl ?_ | refine HSub.at 5 rfl ?_ | refine HSub.at 6 rfl ?_ | refine HSub.at 7 rfl ?_))) (fun z hz => ?_)
      clear hO
      obtain ⟨i, N⟩ := z
      obtain ⟨hi, hO⟩ := hz
      dsimp only at hi hO ⊢
      by_cases hii : i < xss.length
      · have hwi := hrow i hii
        have hl4 := hlen i hii
        have hlc := ofC_le xss hii
        (repeat' (first | refine JC.seq ?_ | refine JC.ops ?_ | refine JO.nil ?_ | refine JX.thenN ?_ | (apply r_move; (iterate 3 exact rfl)) | (apply r_lss; (iterate 4 exact rfl); all_goals intro hc; all_goals try (exfalso; omega)) | refine JC.skip ?_ | refine JC.condT rfl ?_ | refine JC.block ?_))
        refine r_idxR1 rfl rfl rfl rfl hR hii ?_
        refine r_ldR rfl rfl rfl rfl hR (HSub.nil _) (gD_lt (d := iv 0) (by omega)) ?_
        (repeat' (first | refine JC.seq ?_ | refine JC.ops ?_ | refine JO.nil ?_ | refine JX.thenN ?_ | (apply r_move; (iterate 3 exact rfl)) | (apply r_assign; (iterate 3 exact rfl)) | (apply r_lenI; (iterate 3 exact rfl); (first | assumption | exact WI.rd (by assumption) rfl [] | exact OwnI.rd (by assumption))) | refine JC.block ?_))
        refine JC.loopH (ι := Nat × SHeap) ⟨fun z => [(40, nv z.1), (39, nv (xss.getD i []).length), (38, ss.getD i (iv 0)), (7, nv i), (33, nv i), (32, nv xss.length), (31, v), (3, nv (ofC xss xss.length)), (6, .pointer (some ⟨b6, 0, none⟩)), (2, .pointer (some ⟨b2, 0, none⟩))],
          fun z => [(b6, .cells #[nv xss.length, nv (ofC xss xss.length), .slice Ao (xss.length * ofC xss xss.length) co] 29), (b2, .cells #[iv 0, iv 0, .slice none 0 0] 29)] ++ (z.2 ++ []),
          fun z => z.1 ≤ (xss.getD i []).length ∧ OwnZ z.2 (.slice Ao (xss.length * ofC xss xss.length) co) (xss.length * ofC xss xss.length) (tbz xss.length (ofC xss xss.length) (ofS xss i z.1)), fun z => (xss.getD i []).length - z.1⟩ (0, N) ⟨by dsimp only; omega, hO⟩ (by repeat first | exact trivial | refine ⟨rfl, ?_⟩) (by (first | exact HSub.refl _ | (repeat' first | exact HSub.nil _ | exact HSub.refl _ | refine HSub.at 0 rfl ?_ | refine HSub.at 1 rfl ?_ | refine HSub.at 2 rfl ?_ | refine HSub.at 3 rfl ?_ | refine HSub.at 4 rfl ?_ | refine HSub.at 5 rfl ?_ | refine HSub.at 6 rfl ?_ | refine HSub.at 7 rfl ?_))) (fun z hz => ?_)
        clear hO
        obtain ⟨j, N⟩ := z
        obtain ⟨hj, hO⟩ := hz
        dsimp only at hj hO ⊢
        by_cases hjj : j < (xss.getD i []).length
        · have hjc : j < ofC xss xss.length := by omega
          have hidx := idx_lt hii hjc
          have hb1 : i * ofC xss xss.length ≤ 40000 := Nat.mul_le_mul (show i ≤ 200 by omega) hcc
          have hI2 := hI i j
          (repeat' (first | refine JC.seq ?_ | refine JC.ops ?_ | refine JC.opsD ?_ | refine JO.nil ?_ | refine JX.thenN ?_ | (apply r_move; (iterate 3 exact rfl)) | (apply r_fieldAddr; (iterate 3 exact rfl)) | (apply r_assign; (iterate 3 exact rfl)) | (apply r_load; (iterate 4 exact rfl); exact at0; exact rfl) | (apply r_idxI; (iterate 4 exact rfl); (first | assumption | exact WI.rd (by assumption) rfl [] | exact OwnI.rd (by assumption)); (first | assumption | omega)) | (apply r_ldI; (iterate 4 exact rfl); (first | assumption | exact WI.rd (by assumption) rfl [] | exact OwnI.rd (by assumption)); (repeat' first | exact HSub.nil _ | exact HSub.hd | exact HSub.in0 | exact HSub.refl _ | refine HSub.skip ?_ | refine HSub.skipN ?_); (first | assumption | omega)) | (apply r_addN; (iterate 4 exact rfl); omega) | (apply r_mulN; (iterate 4 exact rfl); (first | assumption | omega)) | (apply r_lss; (iterate 4 exact rfl); all_goals intro hc; all_goals try (exfalso; omega)) | refine JC.skip ?_ | refine JC.condT rfl ?_ | refine JC.block ?_))
          refine r_call0 (by first | trivial | exact ⟨rfl, rfl⟩) rfl rfl rfl (fun w _ _ => c_From w ((xss.getD i []).getD j 0) hI2.1 hI2.2) fun w v w' _ _ _ hR => ?_
          subst hR
          (repeat' (first | (apply r_idxZ; (iterate 4 exact rfl); (first | assumption | exact WZ.rd (by assumption) rfl [] | exact OwnZ.rd (by assumption)); (first | assumption | omega))))
          refine r_stZ (A := [_, _]) (u := ofE xss i j) hO rfl rfl (by first | trivial | exact ⟨rfl, rfl⟩) rfl rfl hidx (fun N' hO' => ?_)
          rw [ofS_set hjc] at hO'
          (repeat' (first | refine JC.ops ?_ | refine JO.nil ?_ | refine JX.thenN ?_ | (apply r_move; (iterate 3 exact rfl)) | (apply r_add1; (iterate 4 exact rfl); omega) | refine JX.blockN ?_))
          exact JX.roundH (j + 1, N') ⟨by dsimp only; omega, hO'⟩ (by dsimp only; omega) (by repeat first | exact trivial | refine ⟨rfl, ?_⟩) (by (first | exact HSub.refl _ | (repeat' first | exact HSub.nil _ | exact HSub.refl _ | refine HSub.at 0 rfl ?_ | refine HSub.at 1 rfl ?_ | refine HSub.at 2 rfl ?_ | refine HSub.at 3 rfl ?_ | refine HSub.at 4 rfl ?_ | refine HSub.at 5 rfl ?_ | refine HSub.at 6 rfl ?_ | refine HSub.at 7 rfl ?_)))
        · rw [ofS_row (show (xss.getD i []).length ≤ j by omega)] at hO
          (repeat' (first | refine JC.seq ?_ | refine JC.ops ?_ | refine JO.nil ?_ | refine JX.thenN ?_ | (apply r_move; (iterate 3 exact rfl)) | (apply r_add1; (iterate 4 exact rfl); omega) | (apply r_lss; (iterate 4 exact rfl); all_goals intro hc; all_goals try (exfalso; omega)) | refine JX.thenE ?_ | refine JC.exit ?_ | refine JC.condF rfl ?_ | refine JX.blockN ?_ | refine JX.blockE ?_))
          exact JX.roundH (i + 1, N) ⟨by dsimp only; omega, hO⟩ (by dsimp only; omega) (by repeat first | exact trivial | refine ⟨rfl, ?_⟩) (by (first | exact HSub.refl _ | (repeat' first | exact HSub.nil _ | exact HSub.refl _ | refine HSub.at 0 rfl ?_ | refine HSub.at 1 rfl ?_ | refine HSub.at 2 rfl ?_ | refine HSub.at 3 rfl ?_ | refine HSub.at 4 rfl ?_ | refine HSub.at 5 rfl ?_ | refine HSub.at 6 rfl ?_ | refine HSub.at 7 rfl ?_)))
      · rw [ofS_end (show xss.length ≤ i by omega)] at hO
        (repeat' (first | refine JC.seq ?_ | refine JC.ops ?_ | refine JO.nil ?_ | refine JX.thenN ?_ | (apply r_loadN; (iterate 4 exact rfl); (first | exact at0 | exact at1); exact rfl) | (apply r_storeN; exact rfl; (first | exact trivial | exact ⟨rfl, rfl⟩); exact rfl; exact rfl; (first | exact at0 | exact at1); (iterate 3 exact rfl)) | (apply r_lss; (iterate 4 exact rfl); all_goals intro hc; all_goals try (exfalso; omega)) | (apply r_storeN; exact rfl; (first | exact trivial | exact ⟨rfl, rfl⟩); exact rfl; exact rfl; (first | exact at0 | exact at1); (iterate 3 exact rfl)) | refine JX.thenE ?_ | refine JC.exit ?_ | refine JC.ret ?_ | refine JC.condF rfl ?_ | refine JX.blockE ?_))
        exact JX.retC 1 rfl rfl rfl (fun a w' st => ⟨st.kp, N, st.newOf rfl (by (repeat' first | exact HSub.nil _ | exact HSub.hd | exact HSub.in0 | exact HSub.refl _ | refine HSub.skip ?_ | refine HSub.skipN ?_)), hdone _ hO⟩)


theorem c_refFits (r c : Int) (w : World) : Calls Tryd.prog 73 #[.int .i64 r, .int .i64 c] w (Ret fun v w' => Kp [] w w' ∧ IsB (0 ≤ r ∧ r ≤ 200 ∧ 0 ≤ c ∧ c ≤ 200) v) := by
  refine calls_of_S [] [] (by simp) [] Tryd.func73 rfl mixed (by kernel_rfl) Tryd.ntmps73 Tryd.results73 rfl ⟨by simp, by simp⟩ (by simp) ?_
  simp only [toS, textOps, toSOp, kindAt, kindOf, odAt, sopsAt, ordOf, zipF]
  (repeat' (first | refine JC.seq ?_ | refine JC.ops ?_ | refine JO.nil ?_ | refine JX.thenN ?_ | (apply r_move; (iterate 3 exact rfl)) | (apply r_assign; (iterate 3 exact rfl)) | (apply r_pickT; (iterate 4 exact rfl)) | (apply r_pickF; (iterate 4 exact rfl)) | (apply r_leq; (iterate 4 exact rfl); all_goals intro hc; all_goals try (exfalso; omega)) | (apply r_geq; (iterate 4 exact rfl); all_goals intro hc; all_goals try (exfalso; omega)) | refine JC.ret ?_ | (apply r_skip; exact rfl; exact rfl; (first | (intro h; cases h; done) | (intro _; rfl)))))
  all_goals first
    | exact JX.ret1 rfl (fun a w st => ⟨st.kp, IsB.t (by omega)⟩)
    | exact JX.ret1 rfl (fun a w st => ⟨st.kp, IsB.f (by omega)⟩)

set_option maxHeartbeats 1000000 in
theorem c_refZero (r c : Nat) (hr : r ≤ 200) (hc : c ≤ 200) (w : World) : Calls Tryd.prog 38 #[.int .i64 r, .int .i64 c] w (Ret fun v w' => Kp [] w w' ∧ Zeros r c w v w') := by
  have hb := rcZ hr hc
  refine calls_of_S [] [] (by simp) [] Tryd.func38 rfl mixed (by kernel_rfl) Tryd.ntmps38 Tryd.results38 rfl ⟨by simp, by simp⟩ (by simp) ?_
  simp only [toS, textOps, toSOp, kindAt, kindOf, odAt, sopsAt, ordOf, zipF]
  (repeat' (first | refine JC.seq ?_ | refine JC.ops ?_ | refine JO.nil ?_ | refine JX.thenN ?_ | (apply r_move; (iterate 3 exact rfl)) | (apply r_allocZ; (iterate 3 exact rfl); intro _)))
  refine r_call0 trivial rfl rfl rfl (fun w _ _ => c_refFits r c w) fun w v w' _ _ _ hR => ?_
  obtain ⟨b, rfl, hb⟩ := hR
  obtain rfl := hb.2 (by omega)
  (repeat' (first | refine JC.seq ?_ | refine JC.ops ?_ | refine JO.nil ?_ | refine JX.thenN ?_ | (apply r_move; (iterate 3 exact rfl)) | (apply r_assign; (iterate 3 exact rfl)) | (apply r_mulN; (iterate 4 exact rfl); (first | assumption | omega)) | (apply r_not; (iterate 3 exact rfl)) | refine JC.skip ?_ | refine JC.condF rfl ?_))
  refine r_make rfl rfl rfl rfl rfl (by omega) (by omega) (fun b => ?_)
  (repeat' (first | refine JO.nil ?_ | refine JX.thenN ?_ | (apply r_storeN; exact rfl; (first | exact trivial | exact ⟨rfl, rfl⟩); exact rfl; exact rfl; exact at1; (iterate 3 exact rfl)) | (apply r_buildL; (iterate 5 exact rfl)) | (apply r_storeN; exact rfl; (first | exact trivial | exact ⟨rfl, rfl⟩); exact rfl; exact rfl; exact at1; (iterate 3 exact rfl)) | refine JC.ret ?_))
  have := own_zerosZ b (r * c) (by simp only [maxLen]; omega)
  exact JX.retC 1 rfl rfl rfl (fun a w st => ⟨st.kp, _, _, st.newOf rfl (HSub.at 0 rfl (HSub.nil _)), rfl, this⟩)

section
variable {c : Cx} {Q : Exit → Act → World → Prop} {m : Mode} {F : SFrame} {H : SHeap} {r : List SOp} {g : Option (Option Tmp × Bool)} {ns : Bool} {d : Tmp} {ty t t' : TypeId} {x y : Operand}
theorem r_modK {k : IntKind} {i : Nat} (j : Nat) (hd : dstOk c.n (some d) = true) (hg : guardF F g = some true) (hx : ev F x = some (.int k i)) (hy : ev F y = some (.int k (j : Nat))) (hb : 0 < j)
    (h : JO c Q m r ((d, (.int k ((i % j : Nat) : Int))) :: F) H) : JO c Q m (⟨some d, .binOp .rem t x y t', ty, g, .mov, ns⟩ :: r) F H :=
  r_arith hd hg hx hy (fun w => by
    have h0 : ¬ ((j : Int) = 0) := by omega
    rw [binOp_rem]; simp only [Op.intDiv, h0, if_false, Sem.run_pure, Int.ofNat_tmod]) h
end

def IsS (w : World) (v : Value) (R C : Nat) (L : List Int) : Prop := R < 256 ∧ C < 256 ∧ (∀ i, I64 (L.getD i 0)) ∧ ∃ E, v = .agg #[.int .u8 (R : Int), .int .u8 (C : Int), E] ∧ WI w E L.length L
theorem IsS.mono {w w' : World} {v : Value} {R C : Nat} {L : List Int} (h : IsS w v R C L) (hk : Kp [] w w') : IsS w' v R C L := by
  obtain ⟨h1, h2, h3, E, h5, h6⟩ := h
  exact ⟨h1, h2, h3, E, h5, h6.mono hk⟩

def shF (L : List Int) (k : Nat) : Int := if L = [] then 0 else L.getD ((k + k / L.length) % L.length) 0
def shZ (L : List Int) (r c : Nat) : ZM := ⟨r, c, tab (r * c) (shF L)⟩
theorem RtZ.sh (L : List Int) {r c : Nat} (hr : r ≤ 200) (hc : c ≤ 200) : RtZ (shZ L r c) := ⟨hr, hc, by simp [shZ, tab]⟩
theorem shF_64 {L : List Int} (h : ∀ i, I64 (L.getD i 0)) (k : Nat) : I64 (shF L k) := by
  unfold shF
  split
  · exact ⟨by decide, by decide⟩
  · exact h _
theorem BdZ.sh {L : List Int} (h : ∀ i, I64 (L.getD i 0)) (r c : Nat) : BdZ 8 (shZ L r c) := fun i => by
  have h1 : I64 ((tab (r * c) (shF L)).getD i 0) := by
    rcases Nat.lt_or_ge i (r * c) with hi | hi
    · rw [tab_getD hi]; exact shF_64 h i
    · have : (tab (r * c) (shF L))[i]? = none := List.getElem?_eq_none (by simp [tab]; omega)
      rw [List.getD, this]; exact ⟨by decide, by decide⟩
  have h2 : (256 : Nat) ^ 8 = 18446744073709551616 := by decide
  show ((tab (r * c) (shF L)).getD i 0).natAbs < 256 ^ 8
  obtain ⟨h3, h4⟩ := h1
  omega
def shS (n : Nat) (L : List Int) (k : Nat) : List Int := tab n fun i => if i < k then shF L i else 0
theorem shS_zero (n : Nat) (L : List Int) : shS n L 0 = tab n fun _ => 0 := by
  unfold shS
  exact tab_congr fun i _ => by simp
theorem shS_end {n k : Nat} {L : List Int} (h : n ≤ k ∨ L = []) : shS n L k = tab n (shF L) := by
  unfold shS
  refine tab_congr fun i hi => ?_
  rcases h with h | h
  · rw [if_pos (by omega)]
  · subst h; simp [shF]
theorem shS_set {n k : Nat} {L : List Int} (hk : k < n) : (shS n L k).set k (shF L k) = shS n L (k + 1) := by
  unfold shS
  rw [tab_set]
  refine tab_congr fun i hi => ?_
  by_cases h : i = k
  · subst h; rw [if_pos rfl, if_pos (by omega)]
  · rw [if_neg h]
    by_cases h2 : i < k
    · rw [if_pos h2, if_pos (by omega)]
    · rw [if_neg h2, if_neg (by omega)]

set_option maxHeartbeats 4000000 in
theorem c_With (w : World) (v : Value) (R C r c : Nat) (L : List Int) (hv : IsS w v R C L) (hr : r ≤ 200) (hc : c ≤ 200) :
    Calls Tryd.prog 15 #[v, nv r, nv c] w (Ret fun v w' => Kp [] w w' ∧ GivesM (shZ L r c) w v w') := by
  obtain ⟨h1, h2, h3, E, rfl, hE⟩ := hv
  have hrc := rcZ hr hc
  refine calls_of_S [⟨5, 2, [], []⟩] [] (by simp) [] Tryd.func15 rfl mixed (by kernel_rfl) Tryd.ntmps15 Tryd.results15 rfl ⟨by simp, by simp⟩ (by simp) ?_
  simp only [toS, textOps, toSOp, kindAt, kindOf, odAt, sopsAt, ordOf, zipF]
  (repeat' (first | refine JC.seq ?_ | refine JC.ops ?_ | refine JO.nil ?_ | refine JX.thenN ?_ | (apply r_move; (iterate 3 exact rfl)) | (apply r_allocZ; (iterate 3 exact rfl); intro _) | (apply r_boxA; (iterate 4 exact rfl); intro _)))
  rename_i b3 b6
  refine r_callA (A := [_, _]) (B := []) rfl trivial rfl rfl rfl (fun w hk _ => c_refZero r c hr hc w) fun w v w' _ _ _ hR => ?_
  obtain ⟨N, Eo, hN, rfl, hO⟩ := hR
  obtain ⟨Ao, co, rfl⟩ := hO.form
  refine ⟨N, hN, ?_⟩
  (repeat' (first | refine JC.seq ?_ | refine JC.ops ?_ | refine JO.nil ?_ | refine JX.thenN ?_ | (apply r_assign; (iterate 3 exact rfl)) | (apply r_storeN; exact rfl; (first | exact trivial | exact ⟨rfl, rfl⟩); exact rfl; exact rfl; exact at0; (iterate 3 exact rfl)) | (apply r_allocZ; (iterate 3 exact rfl); intro _) | (apply r_storeN; exact rfl; (first | exact trivial | exact ⟨rfl, rfl⟩); exact rfl; exact rfl; exact at0; (iterate 3 exact rfl)) | refine JC.block ?_))
  rename_i b7
  refine JC.loopH (ι := Nat × SHeap) ⟨fun z => [(8, nv z.1), (7, .pointer (some ⟨b7, 0, none⟩)), (6, .pointer (some ⟨b6, 0, none⟩)), (3, .pointer (some ⟨b3, 0, none⟩))],
    fun z => [(b7, .cells #[nv r, nv c, .slice Ao (r * c) co] 29), (b6, .cells #[iv 0, iv 0, .slice none 0 0] 29), (b3, .cells #[.int .u8 (R : Int), .int .u8 (C : Int), E] 24)] ++ (z.2 ++ []),
    fun z => z.1 ≤ r * c ∧ OwnZ z.2 (.slice Ao (r * c) co) (r * c) (shS (r * c) L z.1), fun z => r * c - z.1⟩ (0, N) ⟨by dsimp only; omega, by rw [shS_zero]; exact hO⟩ (by repeat first | exact trivial | refine ⟨rfl, ?_⟩) (by (first | exact HSub.refl _ | (repeat' first | exact HSub.nil _ | exact HSub.refl _ | refine HSub.at 0 rfl ?_ | refine HSub.at 1 rfl ?_ | refine HSub.at 2 rfl ?_ | refine HSub.at 3 rfl ?_ | refine HSub.at 4 rfl ?_ | refine HSub.at 5 rfl ?_ | refine HSub.at 6 rfl ?_ | refine HSub.at 7 rfl ?_))) (fun z hz => ?_)
  clear hO
  obtain ⟨k, N⟩ := z
  obtain ⟨hk, hO⟩ := hz
  dsimp only at hk hO ⊢
  by_cases hkk : k < r * c
  · by_cases hL : 0 < L.length
    · have hq1 : k / L.length ≤ k := Nat.div_le_self _ _
      have hlt : (k + k / L.length) % L.length < L.length := Nat.mod_lt _ hL
      have hne : L ≠ [] := fun e => by subst e; exact Nat.lt_irrefl _ hL
      have hI := h3 ((k + k / L.length) % L.length)
      (repeat' (first | refine JC.seq ?_ | refine JC.ops ?_ | refine JC.opsD ?_ | refine JO.nil ?_ | refine JX.thenN ?_ | (apply r_move; (iterate 3 exact rfl)) | (apply r_fieldAddr; (iterate 3 exact rfl)) | (apply r_load; (iterate 4 exact rfl); (first | exact at0 | exact at2); exact rfl) | (apply r_lenZ; (iterate 3 exact rfl); (first | assumption | exact WZ.rd (by assumption) rfl [] | exact OwnZ.rd (by assumption))) | (apply r_idxI; (iterate 4 exact rfl); (first | assumption | exact WI.rd (by assumption) rfl [] | exact OwnI.rd (by assumption)); (first | assumption | omega)) | (apply r_ldI; (iterate 4 exact rfl); (first | assumption | exact WI.rd (by assumption) rfl [] | exact OwnI.rd (by assumption)); (repeat' first | exact HSub.nil _ | exact HSub.hd | exact HSub.in0 | exact HSub.refl _ | refine HSub.skip ?_ | refine HSub.skipN ?_); (first | assumption | omega)) | (apply r_lenI; (iterate 3 exact rfl); (first | assumption | exact WI.rd (by assumption) rfl [] | exact OwnI.rd (by assumption))) | (apply r_addN; (iterate 4 exact rfl); omega) | (apply r_modN; (iterate 4 exact rfl); omega) | (apply r_divN; (iterate 4 exact rfl); omega) | (apply r_pickT; (iterate 4 exact rfl)) | (apply r_lss; (iterate 4 exact rfl); all_goals intro hc; all_goals try (exfalso; omega)) | (apply r_gtr; (iterate 4 exact rfl); all_goals intro hc; all_goals try (exfalso; omega)) | refine JC.skip ?_ | refine JC.condT rfl ?_ | refine JC.block ?_))
      refine r_call0 (by first | trivial | exact ⟨rfl, rfl⟩) rfl rfl rfl (fun w hk _ => c_FromR w (L.getD ((k + k / L.length) % L.length) 0) hI.1 hI.2) fun w v w' _ _ _ hR => ?_
      subst hR
      have hF : L.getD ((k + k / L.length) % L.length) 0 = shF L k := by unfold shF; rw [if_neg hne]
      rw [hF]
      (repeat' (first | (apply r_idxZ; (iterate 4 exact rfl); (first | assumption | exact WZ.rd (by assumption) rfl [] | exact OwnZ.rd (by assumption)); (first | assumption | omega))))
      refine r_stZ (A := [_, _, _]) (u := shF L k) hO rfl rfl (by first | trivial | exact ⟨rfl, rfl⟩) rfl rfl hkk (fun N' hO' => ?_)
      rw [shS_set hkk] at hO'
      (repeat' (first | refine JC.ops ?_ | refine JO.nil ?_ | refine JX.thenN ?_ | (apply r_move; (iterate 3 exact rfl)) | (apply r_assign; (iterate 3 exact rfl)) | (apply r_add1; (iterate 4 exact rfl); omega) | refine JX.blockN ?_))
      exact JX.roundH (k + 1, N') ⟨by dsimp only; omega, hO'⟩ (by dsimp only; omega) (by repeat first | exact trivial | refine ⟨rfl, ?_⟩) (by (first | exact HSub.refl _ | (repeat' first | exact HSub.nil _ | exact HSub.refl _ | refine HSub.at 0 rfl ?_ | refine HSub.at 1 rfl ?_ | refine HSub.at 2 rfl ?_ | refine HSub.at 3 rfl ?_ | refine HSub.at 4 rfl ?_ | refine HSub.at 5 rfl ?_ | refine HSub.at 6 rfl ?_ | refine HSub.at 7 rfl ?_)))
    · (repeat' (first | refine JC.seq ?_ | refine JC.ops ?_ | refine JO.nil ?_ | refine JX.thenN ?_ | (apply r_move; (iterate 3 exact rfl)) | (apply r_fieldAddr; (iterate 3 exact rfl)) | (apply r_load; (iterate 4 exact rfl); (first | exact at0 | exact at1 | exact at2); exact rfl) | (apply r_loadN; (iterate 4 exact rfl); (first | exact at0 | exact at1 | exact at2); exact rfl) | (apply r_lenZ; (iterate 3 exact rfl); (first | assumption | exact WZ.rd (by assumption) rfl [] | exact OwnZ.rd (by assumption))) | (apply r_lenI; (iterate 3 exact rfl); (first | assumption | exact WI.rd (by assumption) rfl [] | exact OwnI.rd (by assumption))) | (apply r_pickT; (iterate 4 exact rfl)) | (apply r_storeN; exact rfl; (first | exact trivial | exact ⟨rfl, rfl⟩); exact rfl; exact rfl; (first | exact at0 | exact at1 | exact at2); (iterate 3 exact rfl)) | (apply r_lss; (iterate 4 exact rfl); all_goals intro hc; all_goals try (exfalso; omega)) | (apply r_gtr; (iterate 4 exact rfl); all_goals intro hc; all_goals try (exfalso; omega)) | (apply r_storeN; exact rfl; (first | exact trivial | exact ⟨rfl, rfl⟩); exact rfl; exact rfl; (first | exact at0 | exact at1 | exact at2); (iterate 3 exact rfl)) | refine JX.thenE ?_ | refine JC.exit ?_ | refine JC.ret ?_ | refine JC.condF rfl ?_ | refine JX.blockE ?_))
      have hL0 : L = [] := List.eq_nil_of_length_eq_zero (by omega)
      rw [shS_end (.inr hL0)] at hO
      exact JX.retC 1 rfl rfl rfl (fun a w' st => ⟨st.kp, N, st.newOf rfl (by (repeat' first | exact HSub.nil _ | exact HSub.hd | exact HSub.in0 | exact HSub.refl _ | refine HSub.skip ?_ | refine HSub.skipN ?_)), OwnM.mk' hO⟩)
  · (repeat' (first | refine JC.seq ?_ | refine JC.ops ?_ | refine JO.nil ?_ | refine JX.thenN ?_ | (apply r_move; (iterate 3 exact rfl)) | (apply r_fieldAddr; (iterate 3 exact rfl)) | (apply r_load; (iterate 4 exact rfl); (first | exact at0 | exact at1); exact rfl) | (apply r_loadN; (iterate 4 exact rfl); (first | exact at0 | exact at1); exact rfl) | (apply r_lenZ; (iterate 3 exact rfl); (first | assumption | exact WZ.rd (by assumption) rfl [] | exact OwnZ.rd (by assumption))) | (apply r_pickF; (iterate 4 exact rfl)) | (apply r_storeN; exact rfl; (first | exact trivial | exact ⟨rfl, rfl⟩); exact rfl; exact rfl; (first | exact at0 | exact at1); (iterate 3 exact rfl)) | (apply r_lss; (iterate 4 exact rfl); all_goals intro hc; all_goals try (exfalso; omega)) | (apply r_storeN; exact rfl; (first | exact trivial | exact ⟨rfl, rfl⟩); exact rfl; exact rfl; (first | exact at0 | exact at1); (iterate 3 exact rfl)) | refine JX.thenE ?_ | refine JC.exit ?_ | refine JC.ret ?_ | refine JC.condF rfl ?_ | refine JX.blockE ?_ | (apply r_skip; exact rfl; exact rfl; (first | (intro h; cases h; done) | (intro _; rfl)))))
    rw [shS_end (.inl (by omega))] at hO
    exact JX.retC 1 rfl rfl rfl (fun a w' st => ⟨st.kp, N, st.newOf rfl (by (repeat' first | exact HSub.nil _ | exact HSub.hd | exact HSub.in0 | exact HSub.refl _ | refine HSub.skip ?_ | refine HSub.skipN ?_)), OwnM.mk' hO⟩)

end Go.Proofs.YtdlmnloikakjpaaDoor

