import Derived.Test.YtdoogoglfbohaaaDoorMh
import Derived.KernelRfl
import Derived.Test.YtdoogoglfbohaaaDoorMg
import Derived.Test.YtdoogoglfbohaaaDoorMe
namespace Go.Proofs.YtdoogoglfbohaaaDoor
open Go Go.RowKit
set_option linter.unusedSimpArgs false
set_option linter.unusedVariables false
set_option linter.unusedSectionVars false

abbrev WR := Bool × List UInt8
def xc (x : WR) : List Value := [.bool x.1, sv x.2]
abbrev xv (x : WR) : Value := wv x.1 x.2
def xcs (xs : List WR) : List Value := xs.flatMap xc
def wz (z : Int) : WR := (decide (z < 0), magU z.natAbs)
abbrev w0x : WR := (false, [])

theorem wz_zero : wz 0 = w0x := by
  unfold wz
  rw [show magU (0 : Int).natAbs = [] from magU_nil.2 rfl]
  rfl

theorem xcs_len : ∀ (xs : List WR), (xcs xs).length = xs.length * 2
  | [] => rfl
  | x :: r => by
    show (xc x ++ xcs r).length = _
    rw [List.length_append, xcs_len r, List.length_cons]
    show 2 + r.length * 2 = _
    omega
theorem xcs_cons (x : WR) (r : List WR) : xcs (x :: r) = .bool x.1 :: sv x.2 :: xcs r := rfl
theorem xcs_append (a b : List WR) : xcs (a ++ b) = xcs a ++ xcs b := by simp [xcs]
theorem xcs_get : ∀ {xs : List WR} {i : Nat}, i < xs.length → (xcs xs)[i * 2]? = some (.bool (xs.getD i w0x).1) ∧ (xcs xs)[i * 2 + 1]? = some (sv (xs.getD i w0x).2)
  | [], i, h => absurd h (Nat.not_lt_zero _)
  | x :: r, 0, _ => ⟨rfl, rfl⟩
  | x :: r, i + 1, h => by
    have h' := xcs_get (xs := r) (i := i) (by simpa using h)
    rw [xcs_cons, show (i + 1) * 2 = i * 2 + 1 + 1 by omega]
    simpa using h'
theorem xcs_set : ∀ {xs : List WR} {i : Nat} {x : WR}, i < xs.length → ((xcs xs).set (i * 2) (.bool x.1)).set (i * 2 + 1) (sv x.2) = xcs (xs.set i x)
  | [], i, _, h => absurd h (Nat.not_lt_zero _)
  | y :: r, 0, x, _ => rfl
  | y :: r, i + 1, x, h => by
    have h' := xcs_set (xs := r) (i := i) (x := x) (by simpa using h)
    rw [xcs_cons, show (i + 1) * 2 = i * 2 + 1 + 1 by omega]
    simp only [List.set_cons_succ]
    rw [h']
    rfl
theorem xcs_one : ∀ {xs : List WR}, ∀ u ∈ xcs xs, u.oneCell' = true
  | [], u, h => nomatch h
  | x :: r, u, h => by
    rw [xcs_cons] at h
    rcases List.mem_cons.1 h with rfl | h
    · rfl
    · rcases List.mem_cons.1 h with rfl | h
      · rfl
      · exact xcs_one u h

def WX (w : World) (v : Value) (n : Nat) (xs : List WR) : Prop := RdW w 2 v n (xcs xs)
def RdX (c : Cx) (N : SHeap) (v : Value) (n : Nat) (xs : List WR) : Prop := Rd c N 2 v n (xcs xs)
def OwnX (N : SHeap) (v : Value) (n : Nat) (xs : List WR) : Prop := OwnRow 56 2 N v n (xcs xs)
theorem WX.len {w : World} {v : Value} {n : Nat} {xs : List WR} (h : WX w v n xs) : xs.length = n := by have := h.1; rw [xcs_len] at this; omega
theorem RdX.len {c : Cx} {N : SHeap} {v : Value} {n : Nat} {xs : List WR} (h : RdX c N v n xs) : xs.length = n := by have := h.1; rw [xcs_len] at this; omega
theorem OwnX.len {N : SHeap} {v : Value} {n : Nat} {xs : List WR} (h : OwnX N v n xs) : xs.length = n := by have := h.1; rw [xcs_len] at this; omega
theorem WX.mono {w w' : World} {v : Value} {n : Nat} {xs : List WR} (h : WX w v n xs) (hk : Kp [] w w') : WX w' v n xs := RdW.mono h hk
theorem WX.rd {c : Cx} {v : Value} {n : Nat} {xs : List WR} (h : WX c.w0 v n xs) (hM : c.M = []) (N : SHeap) : RdX c N v n xs := RdW.rd h hM N
theorem RdX.at {c : Cx} {N H : SHeap} {w : World} {v : Value} {n : Nat} {xs : List WR} (h : RdX c N v n xs) (hk : Kp c.M c.w0 w) (hs : Hsat H w) (hN : HSub N H) : WX w v n xs := Rd.at h hk hs hN
theorem OwnX.rd {c : Cx} {N : SHeap} {v : Value} {n : Nat} {xs : List WR} (h : OwnX N v n xs) : RdX c N v n xs := OwnRow.rd h
theorem OwnX.new {N : SHeap} {v : Value} {n : Nat} {xs : List WR} {w w' : World} (h : OwnX N v n xs) (hn : New N w w') : WX w' v n xs := New.rd (c := ⟨Tryd.prog, 0, w, [], by simp⟩) h hn
theorem OwnX.form {N : SHeap} {v : Value} {n : Nat} {xs : List WR} (h : OwnX N v n xs) : ∃ A cap, v = .slice A n cap := by
  obtain ⟨_, ⟨rfl, rfl, rfl⟩ | ⟨b, cap, cur, rfl, _⟩⟩ := h
  · exact ⟨_, _, rfl⟩
  · exact ⟨_, _, rfl⟩
theorem WX.form {w : World} {v : Value} {n : Nat} {xs : List WR} (h : WX w v n xs) : ∃ A cap, v = .slice A n cap := by
  obtain ⟨_, A, cap, rfl, _⟩ := h
  exact ⟨_, _, rfl⟩
theorem RdX.form {c : Cx} {N : SHeap} {v : Value} {n : Nat} {xs : List WR} (h : RdX c N v n xs) : ∃ A cap, v = .slice A n cap := by
  obtain ⟨_, A, cap, rfl, _⟩ := h
  exact ⟨_, _, rfl⟩
theorem OwnX.nil : OwnX [] (.slice none 0 0) 0 [] := OwnRow.nil _ 2
theorem OwnX.cells {N : SHeap} {v : Value} {n : Nat} {xs : List WR} (h : OwnX N v n xs) : Cells N := OwnRow.cells' h

def WZ (w : World) (v : Value) (n : Nat) (zs : List Int) : Prop := WX w v n (zs.map wz)
def RdZ (c : Cx) (N : SHeap) (v : Value) (n : Nat) (zs : List Int) : Prop := RdX c N v n (zs.map wz)
def OwnZ (N : SHeap) (v : Value) (n : Nat) (zs : List Int) : Prop := OwnX N v n (zs.map wz)
theorem WZ.len {w : World} {v : Value} {n : Nat} {xs : List Int} (h : WZ w v n xs) : xs.length = n := by simpa using WX.len h
theorem RdZ.len {c : Cx} {N : SHeap} {v : Value} {n : Nat} {xs : List Int} (h : RdZ c N v n xs) : xs.length = n := by simpa using RdX.len h
theorem OwnZ.len {N : SHeap} {v : Value} {n : Nat} {xs : List Int} (h : OwnZ N v n xs) : xs.length = n := by simpa using OwnX.len h
theorem WZ.mono {w w' : World} {v : Value} {n : Nat} {xs : List Int} (h : WZ w v n xs) (hk : Kp [] w w') : WZ w' v n xs := WX.mono h hk
theorem WZ.rd {c : Cx} {v : Value} {n : Nat} {xs : List Int} (h : WZ c.w0 v n xs) (hM : c.M = []) (N : SHeap) : RdZ c N v n xs := WX.rd h hM N
theorem RdZ.at {c : Cx} {N H : SHeap} {w : World} {v : Value} {n : Nat} {xs : List Int} (h : RdZ c N v n xs) (hk : Kp c.M c.w0 w) (hs : Hsat H w) (hN : HSub N H) : WZ w v n xs := RdX.at h hk hs hN
theorem OwnZ.rd {c : Cx} {N : SHeap} {v : Value} {n : Nat} {xs : List Int} (h : OwnZ N v n xs) : RdZ c N v n xs := OwnX.rd h
theorem OwnZ.new {N : SHeap} {v : Value} {n : Nat} {xs : List Int} {w w' : World} (h : OwnZ N v n xs) (hn : New N w w') : WZ w' v n xs := OwnX.new h hn
theorem OwnZ.form {N : SHeap} {v : Value} {n : Nat} {xs : List Int} (h : OwnZ N v n xs) : ∃ A cap, v = .slice A n cap := OwnX.form h
theorem WZ.form {w : World} {v : Value} {n : Nat} {xs : List Int} (h : WZ w v n xs) : ∃ A cap, v = .slice A n cap := WX.form h
theorem RdZ.form {c : Cx} {N : SHeap} {v : Value} {n : Nat} {xs : List Int} (h : RdZ c N v n xs) : ∃ A cap, v = .slice A n cap := RdX.form h
theorem OwnZ.nil : OwnZ [] (.slice none 0 0) 0 [] := OwnX.nil
theorem OwnZ.cells {N : SHeap} {v : Value} {n : Nat} {xs : List Int} (h : OwnZ N v n xs) : Cells N := OwnX.cells h
theorem map_wz_getD (zs : List Int) (i : Nat) : (zs.map wz).getD i w0x = wz (zs.getD i 0) := by
  simp only [List.getD, List.getElem?_map]
  cases h : zs[i]? with
  | none => exact wz_zero.symm
  | some z => rfl

theorem OwnRow.set2 {e : TypeId} {N : SHeap} {n i : Nat} {v : Value} {cs : List Value} (h : OwnRow e 2 N v n cs) (hi : i < n) :
    ∃ b cap cur, v = .slice (some ⟨b, 0, none⟩) n cap ∧ N = [(b, .cells cur e (0, 0))] ∧ i * 2 + 2 ≤ cur.size ∧ (∀ u u', OwnRow e 2 [(b, .cells (storeL cur (i * 2) [u, u']) e (0, 0))] v n ((cs.set (i * 2) u).set (i * 2 + 1) u')) := by
  obtain ⟨hl, ⟨rfl, rfl, rfl⟩ | ⟨b, cap, cur, rfl, rfl, h2, h3, h4, h5⟩⟩ := h
  · omega
  · refine ⟨b, cap, cur, rfl, rfl, by omega, fun u u' => ⟨by simpa using hl, .inr ⟨b, cap, _, rfl, rfl, h2, h3, ?_, ?_⟩⟩⟩
    · rw [storeL_size]; exact h4
    · rw [storeL, storeL, storeL, Array.toList_setIfInBounds, Array.toList_setIfInBounds, ← h5, List.take_set, List.take_set]

section
variable {c : Cx} {Q : Exit → Act → World → Prop} {m : Mode} {F : SFrame} {H : SHeap} {r : List SOp} {g : Option (Option Tmp × Bool)} {ns : Bool} {d : Tmp} {ty t t' : TypeId} {x y : Operand} {N : SHeap} {n : Nat} {v : Value}

theorem r_lenX {e : TypeId} {xs : List WR} [TSl c.P t e] (hd : dstOk c.n (some d) = true) (hg : guardF F g = some true) (hx : ev F x = some v) (hv : RdX c N v n xs)
    (h : JO c Q m r ((d, .int .i64 n) :: F) H) : JO c Q m (⟨some d, .call ⟨.builtin .len, #[x], #[t]⟩, ty, g, .mov, ns⟩ :: r) F H := r_lenR hd hg hx hv h
theorem r_lenZ {e : TypeId} {xs : List Int} [TSl c.P t e] (hd : dstOk c.n (some d) = true) (hg : guardF F g = some true) (hx : ev F x = some v) (hv : RdZ c N v n xs)
    (h : JO c Q m r ((d, .int .i64 n) :: F) H) : JO c Q m (⟨some d, .call ⟨.builtin .len, #[x], #[t]⟩, ty, g, .mov, ns⟩ :: r) F H := r_lenX hd hg hx hv h
theorem r_idxX {e : TypeId} {xs : List WR} {j : Nat} {k : IntKind} [TSl c.P t e] [TSz c.P e 2] (hd : dstOk c.n (some d) = true) (hg : guardF F g = some true) (hx : ev F x = some v) (hy : ev F y = some (.int k j)) (hv : RdX c N v n xs) (hj : j < n)
    (h : JO c Q m r ((d, .pointer (some (vAt v (j * 2)))) :: F) H) : JO c Q m (⟨some d, .indexAddr t x y, ty, g, .mov, ns⟩ :: r) F H := r_idxR hd hg hx hy hv hj h
theorem r_idxZ {e : TypeId} {xs : List Int} {j : Nat} {k : IntKind} [TSl c.P t e] [TSz c.P e 2] (hd : dstOk c.n (some d) = true) (hg : guardF F g = some true) (hx : ev F x = some v) (hy : ev F y = some (.int k j)) (hv : RdZ c N v n xs) (hj : j < n)
    (h : JO c Q m r ((d, .pointer (some (vAt v (j * 2)))) :: F) H) : JO c Q m (⟨some d, .indexAddr t x y, ty, g, .mov, ns⟩ :: r) F H := r_idxR hd hg hx hy hv hj h
theorem r_ldX {xs : List WR} {i : Nat} [TN c.P t 2] (hd : dstOk c.n (some d) = true) (hg : guardF F g = some true) (hx : ev F x = some (.pointer (some (vAt v (i * 2))))) (hl : m.live = true) (hv : RdX c N v n xs) (hN : HSub N (m.src H)) (hi : i < n)
    (h : JO c Q m r ((d, xv (xs.getD i w0x)) :: F) H) : JO c Q m (⟨some d, .load t x, ty, g, .ld, ns⟩ :: r) F H := by
  have hg2 := xcs_get (xs := xs) (i := i) (by have := hv.len; omega)
  refine r_ldRN hd hg hx hl hv hN (by omega) (us := #[.bool (xs.getD i w0x).1, sv (xs.getD i w0x).2]) rfl (fun j hj => ?_) h
  have hj : j < 2 := hj
  have : j = 0 ∨ j = 1 := by omega
  rcases this with rfl | rfl
  · exact hg2.1
  · exact hg2.2
theorem r_ldZ {xs : List Int} {i : Nat} [TN c.P t 2] (hd : dstOk c.n (some d) = true) (hg : guardF F g = some true) (hx : ev F x = some (.pointer (some (vAt v (i * 2))))) (hl : m.live = true) (hv : RdZ c N v n xs) (hN : HSub N (m.src H)) (hi : i < n)
    (h : JO c Q m r ((d, Wv (xs.getD i 0)) :: F) H) : JO c Q m (⟨some d, .load t x, ty, g, .ld, ns⟩ :: r) F H :=
  r_ldX hd hg hx hl hv hN hi (by rw [map_wz_getD]; exact h)
theorem r_ldXm {xs : List WR} {i : Nat} [T1 c.P t] (hd : dstOk c.n (some d) = true) (hg : guardF F g = some true) (hx : ev F x = some (.pointer (some (vAt v (i * 2 + 1))))) (hl : m.live = true) (hv : RdX c N v n xs) (hN : HSub N (m.src H)) (hi : i < n)
    (h : JO c Q m r ((d, sv (xs.getD i w0x).2) :: F) H) : JO c Q m (⟨some d, .load t x, ty, g, .ld, ns⟩ :: r) F H :=
  r_ldR hd hg hx hl hv hN (xcs_get (by have := hv.len; omega)).2 h
theorem r_ldXs {xs : List WR} {i : Nat} [T1 c.P t] (hd : dstOk c.n (some d) = true) (hg : guardF F g = some true) (hx : ev F x = some (.pointer (some (vAt v (i * 2 + 0))))) (hl : m.live = true) (hv : RdX c N v n xs) (hN : HSub N (m.src H)) (hi : i < n)
    (h : JO c Q m r ((d, .bool (xs.getD i w0x).1) :: F) H) : JO c Q m (⟨some d, .load t x, ty, g, .ld, ns⟩ :: r) F H :=
  r_ldR hd hg hx hl hv hN (xcs_get (by have := hv.len; omega)).1 h
theorem r_fieldV {s : TypeId} {f off i : Nat} [FA c.P s f off] {b o len cap : Nat} (hd : dstOk c.n (some d) = true) (hg : guardF F g = some true) (hx : ev F x = some (.pointer (some (vAt v i))))
    (h : JO c Q m r ((d, (.pointer (some (vAt v (i + off))))) :: F) H) (hv : v = .slice (some ⟨b, o, none⟩) len cap) : JO c Q m (⟨some d, .fieldAddr s x f, ty, g, .mov, ns⟩ :: r) F H := by
  subst hv
  exact r_fieldAddr hd hg hx (by rw [Nat.add_assoc]; exact h)
theorem r_fieldX {s : TypeId} {f off i : Nat} {xs : List WR} [FA c.P s f off] (hd : dstOk c.n (some d) = true) (hg : guardF F g = some true) (hx : ev F x = some (.pointer (some (vAt v i)))) (hv : RdX c N v n xs) (hn : 0 < n)
    (h : JO c Q m r ((d, (.pointer (some (vAt v (i + off))))) :: F) H) : JO c Q m (⟨some d, .fieldAddr s x f, ty, g, .mov, ns⟩ :: r) F H := by
  obtain ⟨_, A, cap, rfl, _, hv⟩ := hv
  obtain ⟨⟨b, o, rfl⟩, _⟩ := hv hn
  exact r_fieldV hd hg hx h rfl
theorem r_stX {A B : SHeap} {i : Nat} {u : WR} {xs : List WR} [TN c.P t 2] (hO : OwnX N v n xs) (hH : H = A ++ (N ++ B)) (hg : guardF F g = some true) (hm : m.mayStore ns r) (hx : ev F x = some (.pointer (some (vAt v (i * 2))))) (hy : ev F y = some (xv u))
    (hi : i < n) (h : ∀ N', OwnX N' v n (xs.set i u) → JO c Q m.spent r F (A ++ (N' ++ B))) : JO c Q m (⟨none, .store t x y, ty, g, .seq, ns⟩ :: r) F H := by
  have hl := hO.len
  obtain ⟨b, cap, cur, rfl, rfl, h1, h2⟩ := OwnRow.set2 hO hi
  subst hH
  simp only [vAt_lit, Nat.zero_add] at hx
  refine r_storeG A.length (b := b) (o := i * 2) (cs := cur) (T := 56) (l := [.bool u.1, sv u.2]) (TN.size (P := c.P) (t := t) (n := 2)) hg hm hx hy (by simp) rfl rfl rfl h1 ?_
  have := h _ (by unfold OwnX; rw [← xcs_set (by omega)]; exact h2 (.bool u.1) (sv u.2))
  simpa using this
theorem r_stZ {A B : SHeap} {i : Nat} {u : Int} {xs : List Int} [TN c.P t 2] (hO : OwnZ N v n xs) (hH : H = A ++ (N ++ B)) (hg : guardF F g = some true) (hm : m.mayStore ns r) (hx : ev F x = some (.pointer (some (vAt v (i * 2))))) (hy : ev F y = some (Wv u))
    (hi : i < n) (h : ∀ N', OwnZ N' v n (xs.set i u) → JO c Q m.spent r F (A ++ (N' ++ B))) : JO c Q m (⟨none, .store t x y, ty, g, .seq, ns⟩ :: r) F H :=
  r_stX (u := wz u) hO hH hg hm hx hy hi (fun N' h' => h N' (by unfold OwnZ; rw [List.map_set]; exact h'))

theorem r_appendXL {A B N2 Hs : SHeap} {v2 : Value} {k : Nat} {xs ys : List WR} [TSl c.P t 56] [TE c.P 56 2 24 #[.bool false, .string ⟨#[]⟩]] (hO : OwnX N v n xs) (h2 : RdX c N2 v2 k ys) (hN2 : HSub N2 H) (hH : H = A ++ (N ++ B)) (hm : HSub Hs (A ++ B)) (hd : dstOk c.n (some d) = true) (hg : guardF F g = some true) (hx : ev F x = some v) (hy : ev F y = some v2)
    (hb : n + k ≤ 1000000000) (h : ∀ v' N', OwnX N' v' (n + k) (xs ++ ys) → JO c Q (.draw Hs true) r ((d, v') :: F) (A ++ (N' ++ B))) :
    JO c Q (.draw Hs true) (⟨some d, .call ⟨.builtin .append, #[x, y], #[t, t]⟩, ty, g, .seq, ns⟩ :: r) F H :=
  r_appendL (e := 56) (sz := 2) (bytes := 24) (zc := #[.bool false, .string ⟨#[]⟩]) (xs := xcs xs) (news := xcs ys) (n := n) (mm := k) rfl hO h2 hN2 hH hm hd hg hx hy (fun u hu => xcs_one u hu) (by simp only [maxLen]; omega) (by omega) (fun v' N' h' => h v' N' (by unfold OwnX; rw [xcs_append]; exact h'))
end

section
variable {c : Cx} {Q : Exit → Act → World → Prop} {m : Mode} {F : SFrame} {H : SHeap} {r : List SOp} {g : Option (Option Tmp × Bool)} {ns : Bool} {d : Tmp} {ty t : TypeId} {x y : Operand}
end

theorem xcs_tab : ∀ n : Nat, xcs ((tab n fun _ => (0 : Int)).map wz) = (zerosOf #[.bool false, .string ⟨#[]⟩] (n * 2)).toList
  | 0 => by simp [tab, xcs, zerosOf]
  | n + 1 => by
    have h1 : (tab (n + 1) fun _ => (0 : Int)) = tab n (fun _ => 0) ++ [0] := by simp [tab, List.range_succ]
    have h2 : ∀ k, (zerosOf #[Value.bool false, .string ⟨#[]⟩] (k * 2)).toList = (List.range (k * 2)).map fun i => #[Value.bool false, Value.string ⟨#[]⟩][i % 2]! := fun k => by
      unfold zerosOf
      rw [Array.toList_map, Array.toList_range]
      rfl
    rw [h1, List.map_append, xcs_append, xcs_tab n, h2, h2, show (n + 1) * 2 = n * 2 + 1 + 1 by omega, List.range_succ, List.range_succ, List.map_append, List.map_append, List.append_assoc]
    congr 1
    show xc (wz 0) = [#[Value.bool false, Value.string ⟨#[]⟩][(n * 2) % 2]!, #[Value.bool false, Value.string ⟨#[]⟩][(n * 2 + 1) % 2]!]
    rw [wz_zero, show (n * 2) % 2 = 0 by omega, show (n * 2 + 1) % 2 = 1 by omega]
    rfl
theorem own_zerosZ (b n : Nat) (hn : n ≤ maxLen) : OwnZ [(b, .cells (zerosOf #[.bool false, .string ⟨#[]⟩] (n * 2)) 56)] (.slice (some ⟨b, 0, none⟩) n n) n (tab n fun _ => 0) := by
  have h := OwnRow.mk' (e := 56) (sz := 2) (n := n) (b := b) (cs := zerosOf #[.bool false, .string ⟨#[]⟩] (n * 2)) (by unfold zerosOf; simp) hn
  unfold OwnZ OwnX
  rw [xcs_tab]
  exact h


def IsB (q : Prop) (v : Value) : Prop := ∃ b : Bool, v = .bool b ∧ (b = true ↔ q)
theorem IsB.t {q : Prop} (h : q) : IsB q (.bool true) := ⟨true, rfl, by simp [h]⟩
theorem IsB.f {q : Prop} (h : ¬ q) : IsB q (.bool false) := ⟨false, rfl, by simp [h]⟩
theorem IsB.d {q : Prop} [Decidable q] : IsB q (.bool (decide q)) := ⟨_, rfl, by simp⟩

def badW (x : WR) : Bool := (decide (x.2 = []) && x.1) || (match x.2 with | [] => false | a :: _ => decide (a = 0))

theorem dropWhile_head {l : List UInt8} (h : l.dropWhile (· == 0) = l) : ∀ a r, l = a :: r → a ≠ 0 := by
  rintro a r rfl rfl
  rw [List.dropWhile] at h
  simp only [BEq.rfl] at h
  have h1 : (r.dropWhile (· == 0)).length ≤ r.length := (List.dropWhile_sublist _).length_le
  rw [h, List.length_cons] at h1
  omega
theorem magU_fix (n : Nat) : (magU n).dropWhile (· == 0) = magU n := by rw [magU_of, bval_magU]
theorem good_wz (z : Int) : badW (wz z) = false := by
  unfold badW wz
  simp only
  by_cases h : z = 0
  · subst h
    rw [show magU (0 : Int).natAbs = [] from magU_nil.2 rfl]
    rfl
  · have h1 : magU z.natAbs ≠ [] := fun e => h (by have := magU_nil.1 e; omega)
    rw [decide_eq_false h1]
    cases hm : magU z.natAbs with
    | nil => exact absurd hm h1
    | cons a r =>
      have := dropWhile_head (magU_fix z.natAbs) a r hm
      simp [this]
theorem good_of {x : WR} (h : badW x = false) : ∃ z, x = wz z := by
  obtain ⟨p, l⟩ := x
  unfold badW at h
  simp only [Bool.or_eq_false_iff] at h
  obtain ⟨h1, h2⟩ := h
  cases l with
  | nil =>
    have hp : p = false := by simpa using h1
    subst hp
    exact ⟨0, wz_zero.symm⟩
  | cons a r =>
    have ha : a ≠ 0 := by simpa using h2
    have hf : (a :: r).dropWhile (· == 0) = a :: r := by
      rw [List.dropWhile]
      have : (a == 0) = false := by simpa using ha
      rw [this]
    rw [magU_of] at hf
    have hn : bval (bts (a :: r)) ≠ 0 := fun e => by
      rw [e, magU_nil.2 rfl] at hf
      cases hf
    refine ⟨sgn p (bval (bts (a :: r))), ?_⟩
    unfold wz
    rw [sgn_neg, sgn_natAbs, hf]
    simp [hn]
theorem good_list : ∀ {xs : List WR}, (∀ x ∈ xs, badW x = false) → ∃ zs : List Int, xs = zs.map wz
  | [], _ => ⟨[], rfl⟩
  | x :: r, h => by
    obtain ⟨z, rfl⟩ := good_of (h x (by simp))
    obtain ⟨zs, rfl⟩ := good_list (xs := r) (fun y hy => h y (by simp [hy]))
    exact ⟨z :: zs, rfl⟩
structure XM where
  R : Int
  C : Int
  E : List WR
structure ZM where
  r : Nat
  c : Nat
  e : List Int
def ZM.xm (m : ZM) : XM := ⟨m.r, m.c, m.e.map wz⟩
structure RtZ (m : ZM) : Prop where
  r : m.r ≤ 200
  c : m.c ≤ 200
  len : m.e.length = m.r * m.c
def RX (a : XM) : Prop := ∃ m, RtZ m ∧ a = m.xm
def IsX (w : World) (v : Value) (a : XM) : Prop := ∃ E, v = .agg #[iv a.R, iv a.C, E] ∧ WX w E a.E.length a.E
def IsM (w : World) (v : Value) (m : ZM) : Prop := ∃ E, v = .agg #[nv m.r, nv m.c, E] ∧ WZ w E m.e.length m.e
def OwnM (N : SHeap) (v : Value) (m : ZM) : Prop := ∃ E, v = .agg #[nv m.r, nv m.c, E] ∧ OwnZ N E m.e.length m.e
theorem IsX.mono {w w' : World} {v : Value} {a : XM} (h : IsX w v a) (hk : Kp [] w w') : IsX w' v a := by
  obtain ⟨E, rfl, h⟩ := h
  exact ⟨E, rfl, h.mono hk⟩
theorem IsM.mono {w w' : World} {v : Value} {m : ZM} (h : IsM w v m) (hk : Kp [] w w') : IsM w' v m := by
  obtain ⟨E, rfl, h⟩ := h
  exact ⟨E, rfl, h.mono hk⟩
theorem IsM.x {w : World} {v : Value} {m : ZM} (h : IsM w v m) : IsX w v m.xm := by
  obtain ⟨E, rfl, h⟩ := h
  exact ⟨E, rfl, by unfold WZ at h; simpa [ZM.xm] using h⟩
theorem OwnM.new {N : SHeap} {v : Value} {m : ZM} {w w' : World} (h : OwnM N v m) (hn : New N w w') : IsM w' v m := by
  obtain ⟨E, rfl, h⟩ := h
  exact ⟨E, rfl, h.new hn⟩
theorem OwnM.mk' {N : SHeap} {r c n : Nat} {E : Value} {e : List Int} (h : OwnZ N E n e) : OwnM N (.agg #[nv r, nv c, E]) ⟨r, c, e⟩ := ⟨E, rfl, by have := h.len; subst this; exact h⟩
def zeroM : Value := .agg #[iv 0, iv 0, .slice none 0 0]
def GivesM (m : ZM) (w : World) (v : Value) (w' : World) : Prop := ∃ N, New N w w' ∧ OwnM N v m
def GivesMB (m : ZM) (b : Bool) (w : World) (v : Value) (w' : World) : Prop := ∃ N u, v = .tuple #[u, .bool b] ∧ New N w w' ∧ OwnM N u m
def zM : ZM := ⟨0, 0, []⟩
theorem OwnM.zero : OwnM [] zeroM zM := ⟨_, rfl, OwnZ.nil⟩
theorem RtZ.le {m : ZM} (h : RtZ m) : m.e.length ≤ 40000 := by rw [h.len]; exact Nat.mul_le_mul h.r h.c
theorem RtZ.rx {m : ZM} (h : RtZ m) : RX m.xm := ⟨m, h, rfl⟩
theorem rcZ {r c : Nat} (hr : r ≤ 200) (hc : c ≤ 200) : r * c ≤ 40000 := Nat.mul_le_mul hr hc

def Canon (xs : List WR) : Prop := ∃ zs : List Int, xs = zs.map wz
theorem canon_iff {xs : List WR} : Canon xs ↔ ¬ ∃ x ∈ xs, badW x = true := by
  constructor
  · rintro ⟨zs, rfl⟩ ⟨x, hx, hb⟩
    obtain ⟨z, _, rfl⟩ := List.mem_map.1 hx
    rw [good_wz] at hb; cases hb
  · intro h
    exact good_list fun x hx => by
      cases hb : badW x with
      | false => rfl
      | true => exact absurd ⟨x, hx, hb⟩ h

theorem RX.iff {r c : Nat} {E : List WR} (hr : r ≤ 200) (hc : c ≤ 200) : RX ⟨r, c, E⟩ ↔ E.length = r * c ∧ Canon E := by
  constructor
  · rintro ⟨⟨r', c', e⟩, hm, he⟩
    simp only [ZM.xm, XM.mk.injEq] at he
    obtain ⟨h2, h3, rfl⟩ := he
    have h2 : r = r' := by omega
    have h3 : c = c' := by omega
    subst h2 h3
    exact ⟨by simpa using hm.len, e, rfl⟩
  · rintro ⟨hl, zs, rfl⟩
    exact ⟨⟨r, c, zs⟩, ⟨hr, hc, by simpa using hl⟩, rfl⟩
theorem RX.fits {a : XM} (h : RX a) : 0 ≤ a.R ∧ a.R ≤ 200 ∧ 0 ≤ a.C ∧ a.C ≤ 200 := by
  obtain ⟨m, hm, rfl⟩ := h
  have h1 := hm.r
  have h2 := hm.c
  simp only [ZM.xm]
  omega

def Alike (a b : XM) : Prop := RX a ∧ RX b ∧ a.R = b.R ∧ a.C = b.C

end Go.Proofs.YtdoogoglfbohaaaDoor

namespace Go.Proofs.YtdoogoglfbohaaaDoor
open Go
set_option linter.unusedSimpArgs false
set_option linter.unusedVariables false
set_option linter.unusedSectionVars false

section

abbrev Mi := Nat → Nat → Int

def smI : Nat → (Nat → Int) → Int
  | 0, _ => 0
  | n + 1, f => smI n f + f n

theorem smI_congr : ∀ {n : Nat} {f g : Nat → Int}, (∀ i, i < n → f i = g i) → smI n f = smI n g
  | 0, _, _, _ => rfl
  | n + 1, f, g, h => by rw [smI, smI, smI_congr (fun i hi => h i (by omega)), h n (by omega)]
theorem smI_zero : ∀ {n : Nat} {f : Nat → Int}, (∀ i, i < n → f i = 0) → smI n f = 0
  | 0, _, _ => rfl
  | n + 1, f, h => by rw [smI, smI_zero (fun i hi => h i (by omega)), h n (by omega)]; grind
theorem smI_add : ∀ {n : Nat} {f g : Nat → Int}, smI n (fun i => f i + g i) = smI n f + smI n g
  | 0, _, _ => by simp only [smI]; grind
  | n + 1, f, g => by simp only [smI]; rw [smI_add]; grind
theorem smI_mull : ∀ {n : Nat} {f : Nat → Int} (x : Int), smI n (fun i => x * f i) = x * smI n f
  | 0, _, x => by simp only [smI]; grind
  | n + 1, f, x => by simp only [smI]; rw [smI_mull]; grind
theorem smI_one : ∀ {n k : Nat} {f : Nat → Int}, k < n → (∀ i, i < n → i ≠ k → f i = 0) → smI n f = f k
  | 0, k, _, h, _ => by omega
  | n + 1, k, f, h, h' => by
    rw [smI]
    by_cases hk : k = n
    · subst hk; rw [smI_zero (fun i hi => h' i (by omega) (by omega))]; grind
    · rw [smI_one (k := k) (by omega) (fun i hi hne => h' i (by omega) hne), h' n (by omega) (by omega)]; grind
theorem smI_cut : ∀ {n k : Nat} {f : Nat → Int}, k ≤ n → (∀ i, k ≤ i → i < n → f i = 0) → smI n f = smI k f
  | 0, k, f, h, _ => by obtain rfl : k = 0 := by omega
                        rfl
  | n + 1, k, f, h, h' => by
    by_cases hk : k = n + 1
    · subst hk; rfl
    · rw [smI, smI_cut (k := k) (by omega) (fun i a b => h' i a (by omega)), h' n (by omega) (by omega)]; grind
def mmI (n : Nat) (A B : Mi) : Mi := fun i j => smI n fun k => A i k * B k j
def idI : Mi := fun i j => if i = j then 1 else 0
theorem mmI_idr {r : Nat} {A : Mi} {i j : Nat} (hj : j < r) : mmI r A idI i j = A i j := by
  unfold mmI idI
  rw [smI_one hj (fun k _ hk => by rw [if_neg hk]; grind)]
  rw [if_pos rfl]; grind
end


def sk (i a : Nat) : Nat := if a < i then a else a + 1
def sg (i : Nat) : Int := if i % 2 = 0 then 1 else -1
def det : Nat → Mi → Int
  | 0, _ => 1
  | n + 1, A => smI (n + 1) fun i => sg i * A i 0 * det n (fun a b => A (sk i a) (b + 1))

theorem det_congr : ∀ {n : Nat} {A B : Mi}, (∀ i, i < n → ∀ j, j < n → A i j = B i j) → det n A = det n B
  | 0, _, _, _ => rfl
  | n + 1, A, B, h => by
    rw [det, det]
    refine smI_congr fun i hi => ?_
    rw [h i hi 0 (by omega), det_congr (n := n) (fun a ha b hb => h (sk i a) (by unfold sk; split <;> omega) (b + 1) (by omega))]

def setRow (A : Mi) (r : Nat) (f : Nat → Int) : Mi := fun i j => if i = r then f j else A i j
theorem setRow_self (A : Mi) (r : Nat) (f : Nat → Int) (j : Nat) : setRow A r f r j = f j := if_pos rfl
theorem setRow_ne {A : Mi} {r i : Nat} (h : i ≠ r) (f : Nat → Int) (j : Nat) : setRow A r f i j = A i j := if_neg h

def unsk (i r : Nat) : Nat := if r < i then r else r - 1
theorem unsk_lt {n i r : Nat} (hi : i < n + 1) (hr : r < n + 1) (h : r ≠ i) : unsk i r < n := by unfold unsk; split <;> omega
theorem sk_eq {i r a : Nat} (h : r ≠ i) : sk i a = r ↔ a = unsk i r := by unfold sk unsk; split <;> split <;> omega

theorem minor_set {A : Mi} {r i : Nat} {f : Nat → Int} (h : r ≠ i) : (fun a b => setRow A r f (sk i a) (b + 1)) = setRow (fun a b => A (sk i a) (b + 1)) (unsk i r) (fun b => f (b + 1)) := by
  funext a b
  unfold setRow
  by_cases h1 : sk i a = r
  · rw [if_pos h1, if_pos ((sk_eq h).1 h1)]
  · rw [if_neg h1, if_neg (fun e => h1 ((sk_eq h).2 e))]
theorem minor_set_self {A : Mi} {i : Nat} {f : Nat → Int} : (fun a b => setRow A i f (sk i a) (b + 1)) = fun a b => A (sk i a) (b + 1) := by
  funext a b
  exact setRow_ne (by unfold sk; split <;> omega) _ _

theorem det_lin : ∀ {n : Nat} {A : Mi} {r : Nat} {f g : Nat → Int} (t : Int), r < n → det n (setRow A r fun j => f j + t * g j) = det n (setRow A r f) + t * det n (setRow A r g)
  | 0, _, _, _, _, _, h => absurd h (Nat.not_lt_zero _)
  | n + 1, A, r, f, g, t, h => by
    rw [det, det, det, ← smI_mull, ← smI_add]
    refine smI_congr fun i hi => ?_
    by_cases hir : r = i
    · subst hir
      rw [minor_set_self, minor_set_self, minor_set_self, setRow_self, setRow_self, setRow_self]
      grind
    · rw [minor_set hir, minor_set hir, minor_set hir, setRow_ne (Ne.symm hir), setRow_ne (Ne.symm hir), setRow_ne (Ne.symm hir), det_lin (f := fun b => f (b + 1)) (g := fun b => g (b + 1)) t (unsk_lt hi h hir)]
      grind

theorem smI_pair : ∀ {n r : Nat} {f : Nat → Int}, r + 1 < n → (∀ i, i < n → i ≠ r → i ≠ r + 1 → f i = 0) → f r + f (r + 1) = 0 → smI n f = 0
  | 0, _, _, h, _, _ => by omega
  | n + 1, r, f, h, h', h2 => by
    rw [smI]
    by_cases hk : r + 1 = n
    · subst hk
      rw [smI_one (k := r) (by omega) (fun i hi hne => h' i (by omega) hne (by omega))]
      exact h2
    · rw [smI_pair (r := r) (by omega) (fun i hi => h' i (by omega)) h2, h' n (by omega) (by omega) (by omega)]
      rfl
theorem sg_succ (r : Nat) : sg (r + 1) = -sg r := by
  unfold sg
  rcases Nat.mod_two_eq_zero_or_one r with h | h
  · rw [if_neg (by omega), if_pos h]
  · rw [if_pos (by omega), if_neg (by omega)]; rfl
theorem det_adj : ∀ {n : Nat} {A : Mi} {r : Nat}, r + 1 < n → (∀ j, A r j = A (r + 1) j) → det n A = 0
  | 0, _, _, h, _ => by omega
  | n + 1, A, r, h, he => by
    rw [det]
    refine smI_pair h (fun i hi h1 h2 => ?_) ?_
    · have : det n (fun a b => A (sk i a) (b + 1)) = 0 := by
        by_cases hir : i < r
        · refine det_adj (r := r - 1) (by omega) (fun j => ?_)
          show A (sk i (r - 1)) (j + 1) = A (sk i (r - 1 + 1)) (j + 1)
          rw [show sk i (r - 1) = r by unfold sk; split <;> omega, show sk i (r - 1 + 1) = r + 1 by unfold sk; split <;> omega]
          exact he _
        · refine det_adj (r := r) (by omega) (fun j => ?_)
          show A (sk i r) (j + 1) = A (sk i (r + 1)) (j + 1)
          rw [show sk i r = r by unfold sk; split <;> omega, show sk i (r + 1) = r + 1 by unfold sk; split <;> omega]
          exact he _
      rw [this, Int.mul_zero]
    · have : det n (fun a b => A (sk (r + 1) a) (b + 1)) = det n (fun a b => A (sk r a) (b + 1)) := det_congr fun a _ b _ => by
        by_cases har : a = r
        · subst har
          rw [show sk (a + 1) a = a by unfold sk; split <;> omega, show sk a a = a + 1 by unfold sk; split <;> omega]
          exact he _
        · rw [show sk (r + 1) a = sk r a by unfold sk; split <;> split <;> omega]
      rw [this, sg_succ, he 0]
      grind

def swp (A : Mi) (r s : Nat) : Mi := fun i j => if i = r then A s j else if i = s then A r j else A i j
theorem setRow_comm {A : Mi} {r s : Nat} (h : r ≠ s) (f g : Nat → Int) : setRow (setRow A r f) s g = setRow (setRow A s g) r f := by
  funext i j
  unfold setRow
  by_cases h1 : i = s
  · subst h1; rw [if_pos rfl, if_neg (Ne.symm h), if_pos rfl]
  · rw [if_neg h1]
    by_cases h2 : i = r
    · rw [if_pos h2, if_pos h2]
    · rw [if_neg h2, if_neg h2, if_neg h1]
theorem setRow_id (A : Mi) (r : Nat) : setRow A r (A r) = A := by
  funext i j
  unfold setRow
  by_cases h : i = r
  · rw [if_pos h, h]
  · rw [if_neg h]
theorem swp_set {A : Mi} {r s : Nat} (h : r ≠ s) : swp A r s = setRow (setRow A r (A s)) s (A r) := by
  funext i j
  unfold swp setRow
  by_cases h1 : i = r
  · subst h1; rw [if_pos rfl, if_neg h, if_pos rfl]
  · rw [if_neg h1]
    by_cases h2 : i = s
    · rw [if_pos h2, if_pos h2]
    · rw [if_neg h2, if_neg h2, if_neg h1]
theorem det_two {n : Nat} {A : Mi} {r : Nat} (h : r + 1 < n) (u v : Nat → Int) : det n (setRow (setRow A r v) (r + 1) u) = -det n (setRow (setRow A r u) (r + 1) v) := by
  have hz : ∀ f, det n (setRow (setRow A r f) (r + 1) f) = 0 := fun f => det_adj h fun j => by
    rw [setRow_self, setRow_ne (by omega), setRow_self]
  have hne : r ≠ r + 1 := by omega
  have h0 := hz (fun j => u j + 1 * v j)
  rw [det_lin 1 h, setRow_comm hne, setRow_comm hne, det_lin 1 (by omega), det_lin 1 (by omega), ← setRow_comm hne, ← setRow_comm hne, ← setRow_comm hne, ← setRow_comm hne, hz u, hz v] at h0
  omega
theorem det_swp {n : Nat} {A : Mi} {r : Nat} (h : r + 1 < n) : det n (swp A r (r + 1)) = -det n A := by
  rw [swp_set (by omega), det_two h]
  have : setRow (setRow A r (A r)) (r + 1) (A (r + 1)) = A := by rw [setRow_id, setRow_id]
  rw [this]

theorem det_eqr : ∀ {d n : Nat} {A : Mi} {r s : Nat}, s = r + 1 + d → s < n → (∀ j, A r j = A s j) → det n A = 0
  | 0, n, A, r, s, h, hs, he => by
    obtain rfl : s = r + 1 := by omega
    exact det_adj hs he
  | d + 1, n, A, r, s, h, hs, he => by
    obtain ⟨q, rfl⟩ : ∃ q, s = q + 1 := ⟨s - 1, by omega⟩
    have h1 := det_swp (A := A) (r := q) hs
    have h2 : det n (swp A q (q + 1)) = 0 := det_eqr (d := d) (r := r) (s := q) (by omega) (by omega) (fun j => by
      unfold swp
      rw [if_neg (by omega), if_neg (by omega), if_pos rfl]
      exact he j)
    omega
theorem det_same {n : Nat} {A : Mi} {r s : Nat} (hr : r < n) (hs : s < n) (h : r ≠ s) (he : ∀ j, A r j = A s j) : det n A = 0 := by
  rcases Nat.lt_or_gt_of_ne h with h1 | h1
  · exact det_eqr (d := s - r - 1) (by omega) hs he
  · exact det_eqr (d := r - s - 1) (by omega) hr (fun j => (he j).symm)
theorem det_addr {n : Nat} {A : Mi} {r s : Nat} (t : Int) (hr : r < n) (hs : s < n) (h : r ≠ s) : det n (setRow A r fun j => A r j + t * A s j) = det n A := by
  rw [det_lin t hr, setRow_id, det_same (A := setRow A r (A s)) hr hs h (fun j => by rw [setRow_self, setRow_ne (Ne.symm h)]), Int.mul_zero, Int.add_zero]
theorem det_swap {n : Nat} {A : Mi} {r s : Nat} (hr : r < n) (hs : s < n) (h : r ≠ s) : det n (swp A r s) = -det n A := by
  have hz : ∀ f, det n (setRow (setRow A r f) s f) = 0 := fun f => det_same hr hs h fun j => by
    rw [setRow_self, setRow_ne h, setRow_self]
  have h0 := hz (fun j => A r j + 1 * A s j)
  rw [det_lin 1 hs, setRow_comm h, setRow_comm h, det_lin 1 hr, det_lin 1 hr, ← setRow_comm h, ← setRow_comm h, ← setRow_comm h, ← setRow_comm h, hz (A r), hz (A s)] at h0
  have h1 : setRow (setRow A r (A r)) s (A s) = A := by rw [setRow_id, setRow_id]
  rw [h1, ← swp_set h] at h0
  omega
theorem det_sum : ∀ {m n : Nat} {A : Mi} {r : Nat} {t : Nat → Int} {g : Nat → Nat → Int}, r < n → det n (setRow A r fun j => smI m fun k => t k * g k j) = smI m fun k => t k * det n (setRow A r (g k))
  | 0, n, A, r, t, g, h => by
    have h1 := det_lin (A := A) (f := fun _ => 0) (g := fun _ => 0) 1 h
    have h2 : (fun j : Nat => (0 : Int) + 1 * 0) = fun _ => 0 := by funext j; rfl
    rw [h2] at h1
    show det n (setRow A r fun _ => 0) = 0
    omega
  | m + 1, n, A, r, t, g, h => by
    have h1 := det_lin (A := A) (f := fun j => smI m fun k => t k * g k j) (g := g m) (t m) h
    rw [det_sum h] at h1
    exact h1
def prd : Nat → (Nat → Int) → Int
  | 0, _ => 1
  | n + 1, f => f 0 * prd n fun i => f (i + 1)
theorem det_tri : ∀ {n : Nat} {A : Mi}, (∀ i j, j < i → i < n → A i j = 0) → det n A = prd n fun i => A i i
  | 0, _, _ => rfl
  | n + 1, A, h => by
    rw [det, prd, smI_one (k := 0) (by omega) (fun i hi hne => by rw [h i 0 (by omega) hi]; grind)]
    have e : (fun a b => A (sk 0 a) (b + 1)) = fun a b => A (a + 1) (b + 1) := by
      funext a b
      rw [show sk 0 a = a + 1 by unfold sk; rfl]
    rw [e, det_tri (A := fun a b => A (a + 1) (b + 1)) (fun i j hij hi => h (i + 1) (j + 1) (by omega) (by omega))]
    show sg 0 * _ * _ = _
    rw [show sg 0 = 1 from rfl, Int.one_mul]


inductive Red (n : Nat) : Mi → Mi → Prop
  | refl (A) : Red n A A
  | add {A B} (r s : Nat) (t : Int) : r < n → s < n → r ≠ s → Red n (setRow A r fun j => A r j + t * A s j) B → Red n A B
  | swap {A B} (r s : Nat) : r < n → s < n → r ≠ s → Red n (swp A r s) B → Red n A B
theorem Red.trans {n : Nat} {A B C : Mi} (h : Red n A B) (h' : Red n B C) : Red n A C := by
  induction h with
  | refl => exact h'
  | add r s t hr hs hn _ ih => exact .add r s t hr hs hn (ih h')
  | swap r s hr hs hn _ ih => exact .swap r s hr hs hn (ih h')

theorem clear1 {n k i : Nat} (hk : k < n) (hi : i < n) (hki : k ≠ i) : ∀ (m : Nat) (A : Mi), (A i k).natAbs ≤ m →
    ∃ B, Red n A B ∧ B i k = 0 ∧ (∀ a, a ≠ k → a ≠ i → ∀ j, B a j = A a j) ∧ (∀ j, A k j = 0 → A i j = 0 → B k j = 0 ∧ B i j = 0)
  | 0, A, h => ⟨A, .refl A, by omega, fun _ _ _ _ => rfl, fun _ h1 h2 => ⟨h1, h2⟩⟩
  | m + 1, A, h => by
    by_cases h0 : A i k = 0
    · exact ⟨A, .refl A, h0, fun _ _ _ _ => rfl, fun _ h1 h2 => ⟨h1, h2⟩⟩
    · let A1 := setRow A k fun j => A k j + (-(A k k / A i k)) * A i j
      let A2 := swp A1 k i
      have e1 : ∀ j, A1 k j = A k j + (-(A k k / A i k)) * A i j := fun j => setRow_self _ _ _ _
      have e2 : ∀ a, a ≠ k → ∀ j, A1 a j = A a j := fun a ha j => setRow_ne ha _ _
      have f1 : ∀ j, A2 i j = A1 k j := fun j => by
        show swp A1 k i i j = _
        unfold swp
        rw [if_neg (Ne.symm hki), if_pos rfl]
      have f2 : ∀ j, A2 k j = A i j := fun j => by
        show swp A1 k i k j = _
        unfold swp
        rw [if_pos rfl, e2 i (Ne.symm hki)]
      have f3 : ∀ a, a ≠ k → a ≠ i → ∀ j, A2 a j = A a j := fun a h1 h2 j => by
        show swp A1 k i a j = _
        unfold swp
        rw [if_neg h1, if_neg h2, e2 a h1]
      have hm : A2 i k = A k k % A i k := by
        rw [f1, e1]
        have := Int.mul_ediv_add_emod (A k k) (A i k)
        have h3 : -(A k k / A i k) * A i k = -(A i k * (A k k / A i k)) := by rw [Int.neg_mul, Int.mul_comm]
        omega
      have hlt : (A2 i k).natAbs ≤ m := by
        have h1 := Int.emod_nonneg (A k k) h0
        have h2 := Int.emod_lt (A k k) h0
        rw [hm]
        omega
      obtain ⟨B, b1, b2, b3, b4⟩ := clear1 hk hi hki m A2 hlt
      refine ⟨B, .add k i _ hk hi hki (.swap k i hk hi hki b1), b2, fun a h1 h2 j => (b3 a h1 h2 j).trans (f3 a h1 h2 j), fun j h1 h2 => b4 j ?_ ?_⟩
      · rw [f2, h2]
      · rw [f1, e1, h1, h2]; simp
theorem clearC {n k : Nat} (hk : k < n) : ∀ (d : Nat) (A : Mi), k + 1 + d ≤ n → (∀ i j, j < k → k ≤ i → i < n → A i j = 0) →
    ∃ B, Red n A B ∧ (∀ i, k < i → i < k + 1 + d → B i k = 0) ∧ (∀ a, a < k → ∀ j, B a j = A a j) ∧ (∀ i j, j < k → k ≤ i → i < n → B i j = 0)
  | 0, A, _, h => ⟨A, .refl A, fun i h1 h2 => by omega, fun _ _ _ => rfl, h⟩
  | d + 1, A, hd, h => by
    obtain ⟨B, b1, b2, b3, b4⟩ := clearC hk d A (by omega) h
    obtain ⟨C, c1, c2, c3, c4⟩ := clear1 hk (show k + 1 + d < n by omega) (show k ≠ k + 1 + d by omega) _ B (Nat.le_refl _)
    refine ⟨C, b1.trans c1, fun i h1 h2 => ?_, fun a ha j => ?_, fun i j hj hki hin => ?_⟩
    · by_cases hi : i = k + 1 + d
      · subst hi; exact c2
      · rw [c3 i (by omega) hi]; exact b2 i h1 (by omega)
    · rw [c3 a (by omega) (by omega), b3 a ha]
    · have h5 := c4 j (b4 k j hj (Nat.le_refl _) hk) (b4 (k + 1 + d) j hj (by omega) (by omega))
      by_cases h6 : i = k
      · rw [h6]; exact h5.1
      · by_cases h7 : i = k + 1 + d
        · rw [h7]; exact h5.2
        · rw [c3 i h6 h7]; exact b4 i j hj hki hin
theorem exists_tri (n : Nat) : ∀ (k : Nat) (A : Mi), k ≤ n → ∃ T, Red n A T ∧ ∀ j, j < k → ∀ i, j < i → i < n → T i j = 0
  | 0, A, _ => ⟨A, .refl A, fun j h => absurd h (Nat.not_lt_zero _)⟩
  | k + 1, A, h => by
    obtain ⟨T, t1, t2⟩ := exists_tri n k A (by omega)
    obtain ⟨B, b1, b2, b3, b4⟩ := clearC (show k < n by omega) (n - (k + 1)) T (by omega) (fun i j hj hki hin => t2 j hj i (by omega) hin)
    refine ⟨B, t1.trans b1, fun j hj i hji hin => ?_⟩
    by_cases hjk : j = k
    · subst hjk; exact b2 i hji (by omega)
    · by_cases hik : k ≤ i
      · exact b4 i j (by omega) hik hin
      · rw [b3 i (by omega)]; exact t2 j (by omega) i hji hin


theorem prd_snoc : ∀ {n : Nat} {f : Nat → Int}, prd (n + 1) f = prd n f * f n
  | 0, f => by show f 0 * 1 = 1 * f 0; grind
  | n + 1, f => by
    rw [prd, prd_snoc (n := n), prd]
    grind
theorem mm_addr {n : Nat} {A B : Mi} {r s : Nat} {t : Int} : mmI n (setRow A r fun j => A r j + t * A s j) B = setRow (mmI n A B) r fun j => mmI n A B r j + t * mmI n A B s j := by
  funext i j
  by_cases h : i = r
  · subst h
    rw [setRow_self]
    unfold mmI
    rw [← smI_mull, ← smI_add]
    refine smI_congr fun k _ => ?_
    rw [setRow_self]
    grind
  · rw [setRow_ne h]
    unfold mmI
    exact smI_congr fun k _ => by rw [setRow_ne h]
theorem mm_swp {n : Nat} {A B : Mi} {r s : Nat} : mmI n (swp A r s) B = swp (mmI n A B) r s := by
  funext i j
  unfold swp mmI
  by_cases h1 : i = r
  · simp only [h1, if_true]
  · by_cases h2 : i = s
    · subst h2
      simp only [if_neg h1, if_true]
    · simp only [if_neg h1, if_neg h2]

theorem det_triM {n : Nat} {T B : Mi} (hT : ∀ i j, j < i → i < n → T i j = 0) : ∀ m, m ≤ n → det n (fun i j => if i < m then smI n (fun k => T i k * B k j) else B i j) = prd m (fun i => T i i) * det n B
  | 0, _ => by
    show det n _ = 1 * _
    rw [Int.one_mul]
    exact det_congr fun i _ j _ => if_neg (Nat.not_lt_zero _)
  | m + 1, h => by
    have ih := det_triM (B := B) hT m (by omega)
    generalize hC : (fun i j => if i < m then smI n (fun k => T i k * B k j) else B i j : Mi) = C at ih
    have e : (fun i j => if i < m + 1 then smI n (fun k => T i k * B k j) else B i j : Mi) = setRow C m fun j => smI n fun k => T m k * B k j := by
      subst hC
      funext i j
      unfold setRow
      by_cases h1 : i = m
      · subst h1; rw [if_pos (by omega), if_pos rfl]
      · rw [if_neg h1]
        by_cases h2 : i < m
        · show (if i < m + 1 then _ else _) = if i < m then _ else _
          rw [if_pos (by omega), if_pos h2]
        · show (if i < m + 1 then _ else _) = if i < m then _ else _
          rw [if_neg (by omega), if_neg h2]
    have hrow : ∀ k, m ≤ k → ∀ j, C k j = B k j := fun k hk j => by subst hC; exact if_neg (by omega)
    rw [e, det_sum (by omega), smI_one (k := m) (by omega) (fun k hk hne => ?_)]
    · have h2 : setRow C m (B m) = C := by
        have : C m = B m := funext fun j => hrow m (Nat.le_refl _) j
        rw [← this, setRow_id]
      rw [h2, ih, prd_snoc]
      grind
    · by_cases hkm : k < m
      · rw [hT m k hkm (by omega), Int.zero_mul]
      · rw [det_same (A := setRow C m (B k)) (show m < n by omega) hk (Ne.symm hne) (fun j => by rw [setRow_self, setRow_ne hne, hrow k (by omega)]), Int.mul_zero]

theorem det_mm {n : Nat} {A B : Mi} : det n (mmI n A B) = det n A * det n B := by
  obtain ⟨T, hR, hT⟩ := exists_tri n n A (Nat.le_refl _)
  have hT' : ∀ i j, j < i → i < n → T i j = 0 := fun i j hji hi => hT j (by omega) i hji hi
  have hb : det n (mmI n T B) = det n T * det n B := by
    rw [det_tri hT', ← det_triM hT' n (Nat.le_refl _)]
    exact det_congr fun i hi j _ => by rw [if_pos hi]; rfl
  clear hT hT'
  induction hR with
  | refl => exact hb
  | add r s t hr hs hn _ ih =>
    have := ih hb
    rw [mm_addr, det_addr t hr hs hn, det_addr t hr hs hn] at this
    exact this
  | swap r s hr hs hn _ ih =>
    have := ih hb
    rw [mm_swp, det_swap hr hs hn, det_swap hr hs hn, Int.neg_mul] at this
    omega


def tr (A : Mi) : Mi := fun i j => A j i
theorem det_id : ∀ {n : Nat}, det n idI = 1 := by
  intro n
  rw [det_tri (fun i j h _ => by unfold idI; rw [if_neg (by omega)])]
  have : ∀ m, prd m (fun i => idI i i) = 1 := fun m => by
    induction m with
    | zero => rfl
    | succ m ih => rw [prd_snoc, ih]; show (1 : Int) * (if m = m then 1 else 0) = 1; rw [if_pos rfl]; rfl
  exact this n
theorem det_low {n : Nat} {L : Mi} (hL : ∀ i j, i < j → j < n → L i j = 0) : ∀ d m, m + d = n → det n (fun i j => if m ≤ i then L i j else idI i j) = prd d (fun i => L (m + i) (m + i))
  | 0, m, h => by
    rw [det_congr (B := idI) (fun i hi j _ => if_neg (by omega)), det_id]
    rfl
  | d + 1, m, h => by
    have ih := det_low hL d (m + 1) (by omega)
    generalize hC : (fun i j => if m + 1 ≤ i then L i j else idI i j : Mi) = C at ih
    have hrow : ∀ k, k < m + 1 → ∀ j, C k j = idI k j := fun k hk j => by subst hC; exact if_neg (by omega)
    have e : det n (fun i j => if m ≤ i then L i j else idI i j : Mi) = det n (setRow C m fun j => smI n fun k => L m k * idI k j) := det_congr fun i hi j hj => by
      subst hC
      unfold setRow
      by_cases h1 : i = m
      · subst h1
        rw [if_pos (Nat.le_refl _), if_pos rfl]
        exact (mmI_idr (A := L) (r := n) hj).symm
      · rw [if_neg h1]
        by_cases h2 : m ≤ i
        · show _ = if m + 1 ≤ i then _ else _
          rw [if_pos h2, if_pos (by omega)]
        · show _ = if m + 1 ≤ i then _ else _
          rw [if_neg h2, if_neg (by omega)]
    rw [e, det_sum (by omega), smI_one (k := m) (by omega) (fun k hk hne => ?_)]
    · have h2 : setRow C m (idI m) = C := by
        have : C m = idI m := funext fun j => hrow m (by omega) j
        rw [← this, setRow_id]
      rw [h2, ih, prd]
      show L m m * _ = L m m * _
      congr 2
      funext i
      rw [show m + 1 + i = m + (i + 1) by omega]
    · by_cases hkm : m < k
      · rw [hL m k hkm hk, Int.zero_mul]
      · rw [det_same (A := setRow C m (idI k)) (show m < n by omega) hk (Ne.symm hne) (fun j => by rw [setRow_self, setRow_ne hne, hrow k (by omega)]), Int.mul_zero]

theorem det_tr {n : Nat} {A : Mi} : det n (tr A) = det n A := by
  obtain ⟨T, hR, hT⟩ := exists_tri n n A (Nat.le_refl _)
  have hT' : ∀ i j, j < i → i < n → T i j = 0 := fun i j hji hi => hT j (by omega) i hji hi
  have hb : det n (tr T) = det n T := by
    have h1 := det_low (L := tr T) (n := n) (fun i j hij hj => hT' j i hij hj) n 0 (by omega)
    rw [det_tri hT']
    have e : (fun i j => if 0 ≤ i then tr T i j else idI i j : Mi) = tr T := by
      funext i j
      exact if_pos (Nat.zero_le _)
    rw [e] at h1
    rw [h1]
    have : ∀ i, tr T (0 + i) (0 + i) = T i i := fun i => by rw [Nat.zero_add]; rfl
    simp only [this]
  clear hT hT'
  induction hR with
  | refl => exact hb
  | @add A B r s t hr hs hn _ ih =>
    have h0 := ih hb
    rw [det_addr t hr hs hn] at h0
    rw [← h0]
    have e1 : det n (tr (setRow A r fun j => A r j + t * A s j)) = det n (mmI n (tr A) (setRow idI s fun j => idI s j + t * idI r j)) := det_congr fun i hi j hj => by
      show setRow A r _ j i = _
      have h2 : mmI n (tr A) (setRow idI s fun j => idI s j + t * idI r j) i j = mmI n (tr A) idI i j + t * (tr A i s * idI r j) := by
        unfold mmI
        have h3 : ∀ k, k < n → tr A i k * setRow idI s (fun j => idI s j + t * idI r j) k j = tr A i k * idI k j + (if k = s then t * (tr A i s * idI r j) else 0) := fun k _ => by
          by_cases hk : k = s
          · subst hk; rw [setRow_self, if_pos rfl]; grind
          · rw [setRow_ne hk, if_neg hk, Int.add_zero]
        rw [smI_congr h3, smI_add, smI_one (f := fun k => if k = s then t * (tr A i s * idI r j) else 0) hs (fun k _ hk => if_neg hk), if_pos rfl]
      rw [h2, mmI_idr hj]
      by_cases hj2 : j = r
      · subst hj2
        rw [setRow_self]
        unfold tr idI
        rw [if_pos rfl]; grind
      · rw [setRow_ne hj2]
        unfold tr idI
        rw [if_neg (Ne.symm hj2)]; grind
    rw [e1, det_mm, det_addr t hs hr (Ne.symm hn), det_id, Int.mul_one]
  | @swap A B r s hr hs hn _ ih =>
    have h0 := ih hb
    rw [det_swap hr hs hn] at h0
    have e1 : det n (tr (swp A r s)) = det n (mmI n (tr A) (swp idI r s)) := det_congr fun i hi j hj => by
      show swp A r s j i = _
      have h2 : mmI n (tr A) (swp idI r s) i j = mmI n (tr A) idI i (if j = r then s else if j = s then r else j) := by
        unfold mmI
        refine smI_congr fun k _ => ?_
        congr 1
        unfold swp idI
        by_cases hj1 : j = r <;> by_cases hj2 : j = s <;> by_cases hk1 : k = r <;> by_cases hk2 : k = s <;> grind
      rw [h2, mmI_idr (by split <;> (try split) <;> omega)]
      unfold swp tr
      by_cases hj1 : j = r
      · rw [if_pos hj1, if_pos hj1]
      · rw [if_neg hj1, if_neg hj1]
        by_cases hj2 : j = s
        · rw [if_pos hj2, if_pos hj2]
        · rw [if_neg hj2, if_neg hj2]
    rw [e1, det_mm, det_swap hr hs hn, det_id] at h0
    omega


theorem det_zrow {n r : Nat} {A : Mi} {f : Nat → Int} (hr : r < n) (hf : ∀ j, j < n → f j = 0) : det n (setRow A r f) = 0 := by
  have h := det_sum (m := 0) (A := A) (t := fun _ => 0) (g := fun _ _ => 0) hr
  rw [det_congr (B := setRow A r fun j => smI 0 fun k => (fun _ => (0 : Int)) k * (fun _ _ => (0 : Int)) k j) ?_, h]
  · rfl
  · intro i hi j hj
    unfold setRow
    split
    · rw [hf j hj]; rfl
    · rfl

theorem cramer {n : Nat} {A : Mi} {g : Nat → Int} (hd : det n A ≠ 0) (h : ∀ j, j < n → smI n (fun t => g t * A t j) = 0) : ∀ r, r < n → g r = 0 := fun r hr => by
  have h1 := det_zrow (A := A) (f := fun j => smI n fun t => g t * A t j) hr h
  rw [det_sum hr, smI_one hr (fun t ht hne => ?_), setRow_id] at h1
  · rcases Int.mul_eq_zero.1 h1 with h2 | h2
    · exact h2
    · exact absurd h2 hd
  · rw [det_same hr ht (Ne.symm hne) (fun j => by rw [setRow_self, setRow_ne hne]), Int.mul_zero]

def unit (t : Nat) : Nat → Int := fun b => if t = b then 1 else 0

theorem smI_unit {n b : Nat} {f : Nat → Int} (hb : b < n) : smI n (fun t => f t * unit t b) = f b := by
  rw [smI_one hb (fun i _ hne => by unfold unit; rw [if_neg hne, Int.mul_zero])]
  unfold unit
  rw [if_pos rfl, Int.mul_one]

theorem det_units {n r : Nat} {A : Mi} {f : Nat → Int} (hr : r < n) : det n (setRow A r f) = smI n fun t => f t * det n (setRow A r (unit t)) := by
  rw [← det_sum hr]
  refine det_congr fun i _ j hj => ?_
  unfold setRow
  split
  · exact (smI_unit hj).symm
  · rfl

theorem det_last : ∀ {n : Nat} {M : Mi}, (∀ j, j < n + 1 → M n j = unit n j) → det (n + 1) M = det n M
  | 0, M, h => by
    rw [det]
    show smI 0 _ + sg 0 * M 0 0 * 1 = 1
    rw [h 0 (by omega)]
    rfl
  | n + 1, M, h => by
    rw [det, det, smI, h 0 (by omega)]
    have e : unit (n + 1) 0 = 0 := if_neg (by omega)
    rw [e, Int.mul_zero, Int.zero_mul, Int.add_zero]
    refine smI_congr fun i hi => ?_
    rw [det_last (n := n) (fun j hj => ?_)]
    have : sk i n = n + 1 := by unfold sk; rw [if_neg (by omega)]
    rw [this, h (j + 1) (by omega)]
    unfold unit
    by_cases hj : n = j
    · rw [if_pos hj, if_pos (by omega)]
    · rw [if_neg hj, if_neg (by omega)]

def bd (k : Nat) (A : Mi) (i j : Nat) : Mi := fun a b => A (if a < k then a else i) (if b < k then b else j)
def bm (k : Nat) (A : Mi) (i j : Nat) : Int := det (k + 1) (bd k A i j)

theorem bm_zero (A : Mi) (i j : Nat) : bm 0 A i j = A i j := by
  unfold bm
  rw [det, smI, smI]
  show 0 + 1 * A i j * 1 = A i j
  omega

theorem bm_row {k i j : Nat} {A : Mi} (hi : i < k) : bm k A i j = 0 := by
  unfold bm
  refine det_same (r := i) (s := k) (by omega) (by omega) (by omega) (fun b => ?_)
  unfold bd
  rw [if_pos hi, if_neg (Nat.lt_irrefl k)]

def cf (k : Nat) (A : Mi) (i t : Nat) : Int := det (k + 1) (setRow (tr (bd k A i 0)) k (unit t))
theorem bm_none {n k : Nat} {A : Mi} (hk : k < n) (hd : det k A ≠ 0) (h : ∀ i, k ≤ i → i < n → bm k A i k = 0) : det n A = 0 := by
  refine Decidable.byContradiction fun hn => ?_
  have hn' : det n (tr A) ≠ 0 := by rw [det_tr]; exact hn
  have hrow : ∀ i, bm k A i k = smI (k + 1) (fun t => A i t * det (k + 1) (setRow (bd k A 0 k) k (unit t))) := fun i => by
    unfold bm
    rw [← det_units (f := fun t => A i t) (by omega)]
    refine det_congr fun a ha b hb => ?_
    have hbk : (if b < k then b else k) = b := by split <;> omega
    by_cases hak : a = k
    · subst hak
      rw [setRow_self]
      unfold bd
      rw [if_neg (Nat.lt_irrefl a), hbk]
    · rw [setRow_ne hak]
      have hak' : a < k := by omega
      unfold bd
      rw [if_pos hak', if_pos hak']
  have hz := cramer (g := fun t => if t < k + 1 then det (k + 1) (setRow (bd k A 0 k) k (unit t)) else 0) hn' (fun i hi => by
    rw [smI_cut (k := k + 1) (by omega) (fun t ht _ => by rw [if_neg (by omega), Int.zero_mul])]
    have h1 : bm k A i k = 0 := by
      by_cases hik : i < k
      · exact bm_row hik
      · exact h i (by omega) hi
    rw [hrow] at h1
    rw [← h1]
    refine smI_congr fun t ht => ?_
    rw [if_pos ht]
    unfold tr
    exact Int.mul_comm _ _) k hk
  rw [if_pos (by omega), det_last (fun j _ => setRow_self _ _ _ _)] at hz
  refine hd ?_
  rw [← hz]
  refine det_congr fun a ha b hb => ?_
  rw [setRow_ne (by omega)]
  unfold bd
  rw [if_pos ha, if_pos hb]

structure Bar (n : Nat) (A : Mi) (k : Nat) (M : Mi) (last : Int) : Prop where
  eqd : last = det k A
  ne : last ≠ 0
  eq : ∀ i j, k ≤ i → i < n → k ≤ j → j < n → M i j = bm k A i j

theorem Bar.start (n : Nat) (A : Mi) : Bar n A 0 A 1 := ⟨rfl, by decide, fun i j _ _ _ _ => (bm_zero A i j).symm⟩

theorem Bar.none {n k : Nat} {A M : Mi} {last : Int} (h : Bar n A k M last) (hk : k < n) (hz : ∀ i, k ≤ i → i < n → M i k = 0) : det n A = 0 :=
  bm_none hk (by rw [← h.eqd]; exact h.ne) fun i hi hin => by rw [← h.eq i k hi hin (Nat.le_refl _) hk]; exact hz i hi hin

theorem Bar.done {n : Nat} {A M : Mi} {last : Int} (h : Bar n A n M last) : last = det n A := h.eqd

theorem bm_scale {k i i' j : Nat} {A A' : Mi} (s : Int) (h1 : ∀ a, a < k → ∀ b, A' a b = A a b) (h2 : ∀ b, A' i b = s * A i' b) : bm k A' i j = s * bm k A i' j := by
  unfold bm
  have h := det_lin (A := bd k A i' j) (r := k) (f := fun _ => 0) (g := bd k A i' j k) s (Nat.lt_succ_self k)
  rw [setRow_id, det_zrow (Nat.lt_succ_self k) (fun _ _ => rfl), Int.zero_add] at h
  rw [← h]
  refine det_congr fun a ha b hb => ?_
  by_cases hak : a = k
  · subst hak
    rw [setRow_self, Int.zero_add]
    unfold bd
    rw [if_neg (Nat.lt_irrefl a), if_neg (Nat.lt_irrefl a), h2]
  · rw [setRow_ne hak]
    have hak' : a < k := by omega
    unfold bd
    rw [if_pos hak', if_pos hak']
    exact h1 a hak' _

theorem Bar.swap {n k q : Nat} {A M M' : Mi} {last : Int} (s : Int) (h : Bar n A k M last) (hk : k < q) (hq : q < n) (h1 : ∀ j, j < n → M' k j = s * M q j) (h2 : ∀ j, j < n → M' q j = M k j) (h3 : ∀ i j, i < n → j < n → i ≠ k → i ≠ q → M' i j = M i j) :
    Bar n (setRow (swp A k q) k (fun j => s * A q j)) k M' last ∧ det n (setRow (swp A k q) k (fun j => s * A q j)) = -(s * det n A) := by
  have hA : ∀ a, a < k → ∀ b, setRow (swp A k q) k (fun j => s * A q j) a b = A a b := fun a ha b => by
    rw [setRow_ne (by omega)]
    unfold swp
    rw [if_neg (by omega), if_neg (by omega)]
  refine ⟨⟨?_, h.ne, fun i j hi hin hj hjn => ?_⟩, ?_⟩
  · rw [h.eqd]
    exact det_congr fun a ha b _ => (hA a ha b).symm
  · by_cases hik : i = k
    · subst hik
      rw [h1 j hjn, h.eq q j (by omega) hq hj hjn, bm_scale (i' := q) s hA (fun b => setRow_self _ _ _ _)]
    · by_cases hiq : i = q
      · subst hiq
        rw [h2 j hjn, h.eq k j (Nat.le_refl _) (by omega) hj hjn, bm_scale (i' := k) 1 hA (fun b => by
          rw [setRow_ne hik]; unfold swp; rw [if_neg hik, if_pos rfl, Int.one_mul]), Int.one_mul]
      · rw [h3 i j hin hjn hik hiq, h.eq i j hi hin hj hjn, bm_scale (i' := i) 1 hA (fun b => by
          rw [setRow_ne hik]; unfold swp; rw [if_neg hik, if_neg hiq, Int.one_mul]), Int.one_mul]
  · have h4 := det_lin (n := n) (A := swp A k q) (r := k) (f := fun _ => 0) (g := swp A k q k) s (by omega)
    rw [setRow_id, det_zrow (by omega) (fun _ _ => rfl), Int.zero_add, det_swap (by omega) hq (by omega)] at h4
    rw [← Int.mul_neg, ← h4]
    refine det_congr fun a ha b hb => ?_
    by_cases hak : a = k
    · subst hak
      rw [setRow_self, setRow_self, Int.zero_add]
      unfold swp
      rw [if_pos rfl]
    · rw [setRow_ne hak, setRow_ne hak]

end Go.Proofs.YtdoogoglfbohaaaDoor

namespace Go.Proofs.YtdoogoglfbohaaaDoor
open Go Go.RowKit
set_option linter.unusedSimpArgs false
set_option linter.unusedVariables false
set_option linter.unusedSectionVars false

theorem zx_lt {r c i j : Nat} (hi : i < r) (hj : j < c) : i * c + j < r * c := by
  have h : (i + 1) * c ≤ r * c := Nat.mul_le_mul_right c hi
  rw [Nat.add_mul, Nat.one_mul] at h; omega
theorem zx_div {c i j : Nat} (hj : j < c) : (i * c + j) / c = i := by
  rw [Nat.mul_comm, Nat.mul_add_div (by omega), Nat.div_eq_of_lt hj, Nat.add_zero]
theorem zx_mod {c i j : Nat} (hj : j < c) : (i * c + j) % c = j := by
  rw [Nat.mul_comm, Nat.mul_add_mod, Nat.mod_eq_of_lt hj]
theorem zx_split {r c k : Nat} (h : k < r * c) : k / c < r ∧ k % c < c ∧ k = (k / c) * c + k % c := by
  have hc : 0 < c := by
    rcases Nat.eq_zero_or_pos c with h0 | h0
    · subst h0; omega
    · exact h0
  refine ⟨(Nat.div_lt_iff_lt_mul hc).2 h, Nat.mod_lt _ hc, ?_⟩
  rw [Nat.mul_comm, Nat.div_add_mod]
def enz (c : Nat) (xs : List Int) (i j : Nat) : Int := xs.getD (i * c + j) 0
def ZM.at (m : ZM) : Mi := fun i j => enz m.c m.e i j
def tbz (r c : Nat) (g : Mi) : List Int := tab (r * c) fun k => g (k / c) (k % c)
theorem tbz_len (r c : Nat) (g : Mi) : (tbz r c g).length = r * c := by simp [tbz, tab]
theorem enz_tbz {r c i j : Nat} {g : Mi} (hi : i < r) (hj : j < c) : enz c (tbz r c g) i j = g i j := by
  unfold enz tbz
  rw [tab_getD (zx_lt hi hj), zx_div hj, zx_mod hj]
theorem tbz_get {r c i j : Nat} {g : Mi} (hi : i < r) (hj : j < c) : (tbz r c g).getD (i * c + j) 0 = g i j := enz_tbz hi hj
theorem tbz_congr {r c : Nat} {g g' : Mi} (h : ∀ i j, i < r → j < c → g i j = g' i j) : tbz r c g = tbz r c g' := tab_congr fun k hk => by
  obtain ⟨h1, h2, _⟩ := zx_split hk
  exact h _ _ h1 h2
theorem tbz_set {r c i j : Nat} {x : Int} {g : Mi} (hj : j < c) : (tbz r c g).set (i * c + j) x = tbz r c (fun a b => if a = i ∧ b = j then x else g a b) := by
  unfold tbz
  rw [tab_set]
  refine tab_congr fun k hk => ?_
  obtain ⟨h1, h2, h3⟩ := zx_split hk
  by_cases h : k = i * c + j
  · have : k / c = i ∧ k % c = j := by subst h; exact ⟨zx_div hj, zx_mod hj⟩
    rw [if_pos h]
    exact (if_pos this).symm
  · rw [if_neg h]
    refine (if_neg ?_).symm
    rintro ⟨e1, e2⟩
    rw [e1, e2] at h3
    exact h h3
theorem tbz_of {r c : Nat} {xs : List Int} (hl : xs.length = r * c) : tbz r c (enz c xs) = xs := by
  unfold tbz
  rw [tab_congr (g' := fun i => xs.getD i 0)]
  · exact tab_of hl
  · intro k hk
    obtain ⟨_, _, h3⟩ := zx_split hk
    unfold enz
    rw [← h3]
theorem tbz_zero (r c : Nat) : tbz r c (fun _ _ => 0) = tab (r * c) fun _ => 0 := rfl

def zof (r c : Nat) (g : Mi) : ZM := ⟨r, c, tbz r c g⟩
theorem zof_rt {r c : Nat} {g : Mi} (hr : r ≤ 200) (hc : c ≤ 200) : RtZ (zof r c g) := ⟨hr, hc, tbz_len r c g⟩
theorem zof_at {r c i j : Nat} {g : Mi} (hi : i < r) (hj : j < c) : (zof r c g).at i j = g i j := enz_tbz hi hj
theorem zof_of {m : ZM} (h : RtZ m) : zof m.r m.c m.at = m := by
  unfold zof ZM.at
  rw [tbz_of h.len]
theorem zof_congr {r c : Nat} {g g' : Mi} (h : ∀ i j, i < r → j < c → g i j = g' i j) : zof r c g = zof r c g' := by
  unfold zof
  rw [tbz_congr h]
theorem ZM.ext' {m n : ZM} (hm : RtZ m) (hn : RtZ n) (hr : m.r = n.r) (hc : m.c = n.c) (h : ∀ i j, i < m.r → j < m.c → m.at i j = n.at i j) : m = n := by
  rw [← zof_of hm, ← zof_of hn, ← hr, ← hc]
  exact zof_congr h
def BdZ (K : Nat) (m : ZM) : Prop := ∀ i, (m.e.getD i 0).natAbs < 256 ^ K
theorem BdZ.mono {K K' : Nat} {m : ZM} (h : BdZ K m) (hk : K ≤ K') : BdZ K' m := fun i => Nat.lt_of_lt_of_le (h i) (Nat.pow_le_pow_right (by decide) hk)
theorem BdZ.at {K : Nat} {m : ZM} (h : BdZ K m) (i j : Nat) : (m.at i j).natAbs < 256 ^ K := h _
theorem BdZ.of {K r c : Nat} {g : Mi} (h : ∀ i j, i < r → j < c → (g i j).natAbs < 256 ^ K) : BdZ K (zof r c g) := fun k => by
  rcases Nat.lt_or_ge k (r * c) with hk | hk
  · obtain ⟨h1, h2, h3⟩ := zx_split hk
    show ((tbz r c g).getD k 0).natAbs < _
    rw [h3, tbz_get h1 h2]
    exact h _ _ h1 h2
  · show ((tbz r c g).getD k 0).natAbs < _
    simp only [List.getD, List.getElem?_eq_none (show (tbz r c g).length ≤ k by rw [tbz_len]; exact hk), Option.getD_none]
    exact Nat.pow_pos (by decide)
theorem pos256 (K : Nat) : 0 < 256 ^ K := Nat.pow_pos (by decide)

def addZ (m n : ZM) : ZM := zof m.r m.c fun i j => m.at i j + n.at i j
def subZ (m n : ZM) : ZM := zof m.r m.c fun i j => m.at i j - n.at i j
def mulZ (m n : ZM) : ZM := zof m.r n.c (mmI m.c m.at n.at)
def trZ (m : ZM) : ZM := zof m.c m.r (tr m.at)
def joinZ (m n : ZM) : ZM := zof m.r (m.c + n.c) fun i j => if j < m.c then m.at i j else n.at i (j - m.c)
def partZ (m : ZM) (i j r c : Nat) : ZM := zof r c fun a b => m.at (i + a) (j + b)
def oneZ (n : Nat) : ZM := zof n n idI
def zeroZ (r c : Nat) : ZM := zof r c fun _ _ => 0

theorem smI_bd {B : Nat} : ∀ {n : Nat} {f : Nat → Int}, (∀ i, i < n → (f i).natAbs ≤ B) → (smI n f).natAbs ≤ n * B
  | 0, f, _ => by simp [smI]
  | n + 1, f, h => by
    rw [smI]
    have h1 := smI_bd (n := n) (f := f) (fun i hi => h i (by omega))
    have h2 := h n (by omega)
    have h3 := Int.natAbs_add_le (smI n f) (f n)
    rw [Nat.add_mul, Nat.one_mul]
    omega
theorem mul_bd {x y : Int} {K L : Nat} (hx : x.natAbs < 256 ^ K) (hy : y.natAbs < 256 ^ L) : (x * y).natAbs < 256 ^ (K + L) := by
  rw [Int.natAbs_mul, Nat.pow_add]
  exact Nat.mul_lt_mul'' hx hy
theorem add_bd {x y : Int} {K : Nat} (hx : x.natAbs < 256 ^ K) (hy : y.natAbs < 256 ^ K) : (x + y).natAbs < 256 ^ (K + 1) := by
  have h := Int.natAbs_add_le x y
  rw [Nat.pow_succ]; omega
theorem sub_bd {x y : Int} {K : Nat} (hx : x.natAbs < 256 ^ K) (hy : y.natAbs < 256 ^ K) : (x - y).natAbs < 256 ^ (K + 1) := by
  rw [Nat.pow_succ]; omega
theorem bd_up {x : Int} {K L : Nat} (h : x.natAbs < 256 ^ K) (hk : K ≤ L) : x.natAbs < 256 ^ L := Nat.lt_of_lt_of_le h (Nat.pow_le_pow_right (by decide) hk)
theorem mm_bd {K L n : Nat} {A B : Mi} {i j : Nat} (hn : n ≤ 200) (hA : ∀ k, k < n → (A i k).natAbs < 256 ^ K) (hB : ∀ k, k < n → (B k j).natAbs < 256 ^ L) : (mmI n A B i j).natAbs < 256 ^ (K + L + 1) := by
  have h := smI_bd (n := n) (f := fun k => A i k * B k j) (B := 256 ^ (K + L)) (fun k hk => Nat.le_of_lt (mul_bd (hA k hk) (hB k hk)))
  have h2 : n * 256 ^ (K + L) ≤ 200 * 256 ^ (K + L) := Nat.mul_le_mul_right _ hn
  have h3 := pos256 (K + L)
  show (smI n _).natAbs < _
  rw [Nat.pow_succ]
  omega
theorem BdZ.add {K : Nat} {m n : ZM} (h : BdZ K m) (h' : BdZ K n) : BdZ (K + 1) (addZ m n) := BdZ.of fun i j _ _ => add_bd (h.at i j) (h'.at i j)
theorem BdZ.sub {K : Nat} {m n : ZM} (h : BdZ K m) (h' : BdZ K n) : BdZ (K + 1) (subZ m n) := BdZ.of fun i j _ _ => sub_bd (h.at i j) (h'.at i j)
theorem BdZ.mul {K L : Nat} {m n : ZM} (hc : m.c ≤ 200) (h : BdZ K m) (h' : BdZ L n) : BdZ (K + L + 1) (mulZ m n) := BdZ.of fun i j _ _ => mm_bd hc (fun k _ => h.at i k) (fun k _ => h'.at k j)
theorem BdZ.tr {K : Nat} {m : ZM} (h : BdZ K m) : BdZ K (trZ m) := BdZ.of fun i j _ _ => h.at j i
theorem BdZ.join {K : Nat} {m n : ZM} (h : BdZ K m) (h' : BdZ K n) : BdZ K (joinZ m n) := BdZ.of fun i j _ _ => by
  split
  · exact h.at _ _
  · exact h'.at _ _
theorem BdZ.part {K : Nat} {m : ZM} (h : BdZ K m) (i j r c : Nat) : BdZ K (partZ m i j r c) := BdZ.of fun a b _ _ => h.at _ _
theorem BdZ.one (n : Nat) : BdZ 1 (oneZ n) := BdZ.of fun i j _ _ => by unfold idI; split <;> decide
theorem BdZ.zero (r c : Nat) : BdZ 0 (zeroZ r c) := BdZ.of fun i j _ _ => by decide


def Zeros (r c : Nat) (w : World) (v : Value) (w' : World) : Prop := ∃ N E, New N w w' ∧ v = .agg #[nv r, nv c, E] ∧ OwnZ N E (r * c) (tab (r * c) fun _ => 0)

theorem XM.ext' {a b : XM} (h2 : a.R = b.R) (h3 : a.C = b.C) (h4 : a.E = b.E) : a = b := by
  cases a; cases b; simp_all
def BdL (K : Nat) (xs : List Int) : Prop := ∀ i, (xs.getD i 0).natAbs < 256 ^ K

theorem zip_step {f : Nat → Int} {n k : Nat} : (tab n fun i => if i < k then f i else 0).set k (f k) = tab n fun i => if i < k + 1 then f i else 0 := by
  rw [tab_set]
  refine tab_congr fun i hi => ?_
  by_cases h : i = k
  · subst h; simp
  · by_cases h' : i < k
    · rw [if_neg h, if_pos h', if_pos (by omega)]
    · rw [if_neg h, if_neg h', if_neg (by omega)]

theorem mapZ_eq {m n : ZM} (g : Int → Int → Int) (hm : RtZ m) (hn : RtZ n) (hr : m.r = n.r) (hc : m.c = n.c) : (tab (m.r * m.c) fun i => g (m.e.getD i 0) (n.e.getD i 0)) = (zof m.r m.c fun i j => g (m.at i j) (n.at i j)).e := by
  show _ = tab (m.r * m.c) _
  refine tab_congr fun k hk => ?_
  obtain ⟨_, _, h3⟩ := zx_split hk
  show g (m.e.getD k 0) (n.e.getD k 0) = g (m.e.getD _ 0) (n.e.getD _ 0)
  rw [← hc, ← h3]


def IsRows (w : World) (v : Value) (xss : List (List Int)) : Prop := ∃ ss : List Value, RdW w 1 v xss.length ss ∧ ∀ i, i < xss.length → WI w (ss.getD i (iv 0)) (xss.getD i []).length (xss.getD i [])
theorem IsRows.mono {w w' : World} {v : Value} {xss : List (List Int)} (h : IsRows w v xss) (hk : Kp [] w w') : IsRows w' v xss := by
  obtain ⟨ss, h1, h2⟩ := h
  exact ⟨ss, h1.mono hk, fun i hi => (h2 i hi).mono hk⟩
def I64 (n : Int) : Prop := -9223372036854775808 ≤ n ∧ n < 9223372036854775808


theorem c_refFits (r c : Int) (w : World) : Calls Tryd.prog 62 #[.int .i64 r, .int .i64 c] w (Ret fun v w' => Kp [] w w' ∧ IsB (0 ≤ r ∧ r ≤ 200 ∧ 0 ≤ c ∧ c ≤ 200) v) := by
  refine calls_of_S [] [] (by simp) [] Tryd.func62 rfl mixed (by kernel_rfl) Tryd.ntmps62 Tryd.results62 rfl ⟨by simp, by simp⟩ (by simp) ?_
  simp only [toS, textOps, toSOp, kindAt, kindOf, odAt, sopsAt, ordOf, zipF]
  (repeat' (first | refine JC.seq ?_ | refine JC.ops ?_ | refine JO.nil ?_ | refine JX.thenN ?_ | (apply r_move; (iterate 3 exact rfl)) | (apply r_assign; (iterate 3 exact rfl)) | (apply r_pickT; (iterate 4 exact rfl)) | (apply r_pickF; (iterate 4 exact rfl)) | (apply r_leq; (iterate 4 exact rfl); all_goals intro hc; all_goals try (exfalso; omega)) | (apply r_geq; (iterate 4 exact rfl); all_goals intro hc; all_goals try (exfalso; omega)) | refine JC.ret ?_ | (apply r_skip; exact rfl; exact rfl; (first | (intro h; cases h; done) | (intro _; rfl)))))
  all_goals first
    | exact JX.ret1 rfl (fun a w st => ⟨st.kp, IsB.t (by omega)⟩)
    | exact JX.ret1 rfl (fun a w st => ⟨st.kp, IsB.f (by omega)⟩)

set_option maxHeartbeats 1000000 in
theorem c_refZero (r c : Nat) (hr : r ≤ 200) (hc : c ≤ 200) (w : World) : Calls Tryd.prog 37 #[.int .i64 r, .int .i64 c] w (Ret fun v w' => Kp [] w w' ∧ Zeros r c w v w') := by
  have hb := rcZ hr hc
  refine calls_of_S [] [] (by simp) [] Tryd.func37 rfl mixed (by kernel_rfl) Tryd.ntmps37 Tryd.results37 rfl ⟨by simp, by simp⟩ (by simp) ?_
  simp only [toS, textOps, toSOp, kindAt, kindOf, odAt, sopsAt, ordOf, zipF]
  (repeat' (first | refine JC.seq ?_ | refine JC.ops ?_ | refine JO.nil ?_ | refine JX.thenN ?_ | (apply r_move; (iterate 3 exact rfl)) | (apply r_allocZ; (iterate 3 exact rfl); intro _)))
  refine r_call0 trivial rfl rfl rfl (fun w _ _ => c_refFits r c w) fun w v w' _ _ _ hR => ?_
  obtain ⟨b, rfl, hb⟩ := hR
  obtain rfl := hb.2 (by omega)
  (repeat' (first | refine JC.seq ?_ | refine JC.ops ?_ | refine JO.nil ?_ | refine JX.thenN ?_ | (apply r_move; (iterate 3 exact rfl)) | (apply r_assign; (iterate 3 exact rfl)) | (apply r_mulN; (iterate 4 exact rfl); (first | assumption | omega)) | (apply r_not; (iterate 3 exact rfl)) | refine JC.skip ?_ | refine JC.condF rfl ?_))
  refine r_make rfl rfl rfl rfl rfl (by omega) (by omega) (fun b => ?_)
  (repeat' (first | refine JO.nil ?_ | refine JX.thenN ?_ | (apply r_storeN; exact rfl; (first | exact trivial | exact ⟨rfl, rfl⟩); exact rfl; exact rfl; exact at1; (iterate 3 exact rfl)) | (apply r_buildL; (iterate 5 exact rfl)) | (apply r_storeN; exact rfl; (first | exact trivial | exact ⟨rfl, rfl⟩); exact rfl; exact rfl; exact at1; (iterate 3 exact rfl)) | refine JC.ret ?_))
  have := own_zerosZ b (r * c) (by simp only [maxLen]; omega)
  exact JX.retC 1 rfl rfl rfl (fun a w st => ⟨st.kp, _, _, st.newOf rfl (HSub.at 0 rfl (HSub.nil _)), rfl, this⟩)

section
variable {c : Cx} {Q : Exit → Act → World → Prop} {m : Mode} {F : SFrame} {H : SHeap} {r : List SOp} {g : Option (Option Tmp × Bool)} {ns : Bool} {d : Tmp} {ty t t' : TypeId} {x y : Operand}
theorem r_modK {k : IntKind} {i : Nat} (j : Nat) (hd : dstOk c.n (some d) = true) (hg : guardF F g = some true) (hx : ev F x = some (.int k i)) (hy : ev F y = some (.int k (j : Nat))) (hb : 0 < j)
    (h : JO c Q m r ((d, (.int k ((i % j : Nat) : Int))) :: F) H) : JO c Q m (⟨some d, .binOp .rem t x y t', ty, g, .mov, ns⟩ :: r) F H :=
  r_arith hd hg hx hy (fun w => by
    have h0 : ¬ ((j : Int) = 0) := by omega
    rw [binOp_rem]; simp only [Op.intDiv, h0, if_false, Sem.run_pure, Int.ofNat_tmod]) h
end

def IsS (w : World) (v : Value) (R C : Nat) (L : List Int) : Prop := R < 256 ∧ C < 256 ∧ (∀ i, I64 (L.getD i 0)) ∧ ∃ E, v = .agg #[.int .u8 (R : Int), .int .u8 (C : Int), E] ∧ WI w E L.length L
theorem IsS.mono {w w' : World} {v : Value} {R C : Nat} {L : List Int} (h : IsS w v R C L) (hk : Kp [] w w') : IsS w' v R C L := by
  obtain ⟨h1, h2, h3, E, h5, h6⟩ := h
  exact ⟨h1, h2, h3, E, h5, h6.mono hk⟩

def shF (L : List Int) (k : Nat) : Int := if L = [] then 0 else L.getD ((k + k / L.length) % L.length) 0
def shZ (L : List Int) (r c : Nat) : ZM := ⟨r, c, tab (r * c) (shF L)⟩
theorem RtZ.sh (L : List Int) {r c : Nat} (hr : r ≤ 200) (hc : c ≤ 200) : RtZ (shZ L r c) := ⟨hr, hc, by simp [shZ, tab]⟩
theorem shF_64 {L : List Int} (h : ∀ i, I64 (L.getD i 0)) (k : Nat) : I64 (shF L k) := by
  unfold shF
  split
  · exact ⟨by decide, by decide⟩
  · exact h _
theorem BdZ.sh {L : List Int} (h : ∀ i, I64 (L.getD i 0)) (r c : Nat) : BdZ 8 (shZ L r c) := fun i => by
  have h1 : I64 ((tab (r * c) (shF L)).getD i 0) := by
    rcases Nat.lt_or_ge i (r * c) with hi | hi
    · rw [tab_getD hi]; exact shF_64 h i
    · have : (tab (r * c) (shF L))[i]? = none := List.getElem?_eq_none (by simp [tab]; omega)
      rw [List.getD, this]; exact ⟨by decide, by decide⟩
  have h2 : (256 : Nat) ^ 8 = 18446744073709551616 := by decide
  show ((tab (r * c) (shF L)).getD i 0).natAbs < 256 ^ 8
  obtain ⟨h3, h4⟩ := h1
  omega
def shS (n : Nat) (L : List Int) (k : Nat) : List Int := tab n fun i => if i < k then shF L i else 0
theorem shS_zero (n : Nat) (L : List Int) : shS n L 0 = tab n fun _ => 0 := by
  unfold shS
  exact tab_congr fun i _ => by simp
theorem shS_end {n k : Nat} {L : List Int} (h : n ≤ k ∨ L = []) : shS n L k = tab n (shF L) := by
  unfold shS
  refine tab_congr fun i hi => ?_
  rcases h with h | h
  · rw [if_pos (by omega)]
  · subst h; simp [shF]
theorem shS_set {n k : Nat} {L : List Int} (hk : k < n) : (shS n L k).set k (shF L k) = shS n L (k + 1) := by
  unfold shS
  rw [tab_set]
  refine tab_congr fun i hi => ?_
  by_cases h : i = k
  · subst h; rw [if_pos rfl, if_pos (by omega)]
  · rw [if_neg h]
    by_cases h2 : i < k
    · rw [if_pos h2, if_pos (by omega)]
    · rw [if_neg h2, if_neg (by omega)]

set_option maxHeartbeats 4000000 in
theorem c_With (w : World) (v : Value) (R C r c : Nat) (L : List Int) (hv : IsS w v R C L) (hr : r ≤ 200) (hc : c ≤ 200) :
    Calls Tryd.prog 16 #[v, nv r, nv c] w (Ret fun v w' => Kp [] w w' ∧ GivesM (shZ L r c) w v w') := by
  obtain ⟨h1, h2, h3, E, rfl, hE⟩ := hv
  have hrc := rcZ hr hc
  refine calls_of_S [⟨5, 2, [], []⟩] [] (by simp) [] Tryd.func16 rfl mixed (by kernel_rfl) Tryd.ntmps16 Tryd.results16 rfl ⟨by simp, by simp⟩ (by simp) ?_
  simp only [toS, textOps, toSOp, kindAt, kindOf, odAt, sopsAt, ordOf, zipF]
  (repeat' (first | refine JC.seq ?_ | refine JC.ops ?_ | refine JO.nil ?_ | refine JX.thenN ?_ | (apply r_move; (iterate 3 exact rfl)) | (apply r_allocZ; (iterate 3 exact rfl); intro _) | (apply r_boxA; (iterate 4 exact rfl); intro _)))
  rename_i b3 b6
  refine r_callA (A := [_, _]) (B := []) rfl trivial rfl rfl rfl (fun w hk _ => c_refZero r c hr hc w) fun w v w' _ _ _ hR => ?_
  obtain ⟨N, Eo, hN, rfl, hO⟩ := hR
  obtain ⟨Ao, co, rfl⟩ := hO.form
  refine ⟨N, hN, ?_⟩
  (repeat' (first | refine JC.seq ?_ | refine JC.ops ?_ | refine JO.nil ?_ | refine JX.thenN ?_ | (apply r_assign; (iterate 3 exact rfl)) | (apply r_storeN; exact rfl; (first | exact trivial | exact ⟨rfl, rfl⟩); exact rfl; exact rfl; exact at0; (iterate 3 exact rfl)) | (apply r_allocZ; (iterate 3 exact rfl); intro _) | (apply r_storeN; exact rfl; (first | exact trivial | exact ⟨rfl, rfl⟩); exact rfl; exact rfl; exact at0; (iterate 3 exact rfl)) | refine JC.block ?_))
  rename_i b7
  refine JC.loopH (ι := Nat × SHeap) ⟨fun z => [(8, nv z.1), (7, .pointer (some ⟨b7, 0, none⟩)), (6, .pointer (some ⟨b6, 0, none⟩)), (3, .pointer (some ⟨b3, 0, none⟩))],
    fun z => [(b7, .cells #[nv r, nv c, .slice Ao (r * c) co] 36), (b6, .cells #[iv 0, iv 0, .slice none 0 0] 36), (b3, .cells #[.int .u8 (R : Int), .int .u8 (C : Int), E] 25)] ++ (z.2 ++ []),
    fun z => z.1 ≤ r * c ∧ OwnZ z.2 (.slice Ao (r * c) co) (r * c) (shS (r * c) L z.1), fun z => r * c - z.1⟩ (0, N) ⟨by dsimp only; omega, by rw [shS_zero]; exact hO⟩ (by repeat first | exact trivial | refine ⟨rfl, ?_⟩) (by (first | exact HSub.refl _ | (repeat' first | exact HSub.nil _ | exact HSub.refl _ | refine HSub.at 0 rfl ?_ | refine HSub.at 1 rfl ?_ | refine HSub.at 2 rfl ?_ | refine HSub.at 3 rfl ?_ | refine HSub.at 4 rfl ?_ | refine HSub.at 5 rfl ?_ | refine HSub.at 6 rfl ?_ | refine HSub.at 7 rfl ?_))) (fun z hz => ?_)
  clear hO
  obtain ⟨k, N⟩ := z
  obtain ⟨hk, hO⟩ := hz
  dsimp only at hk hO ⊢
  by_cases hkk : k < r * c
  · by_cases hL : 0 < L.length
    · have hq1 : k / L.length ≤ k := Nat.div_le_self _ _
      have hlt : (k + k / L.length) % L.length < L.length := Nat.mod_lt _ hL
      have hne : L ≠ [] := fun e => by subst e; exact Nat.lt_irrefl _ hL
      have hI := h3 ((k + k / L.length) % L.length)
      (repeat' (first | refine JC.seq ?_ | refine JC.ops ?_ | refine JC.opsD ?_ | refine JO.nil ?_ | refine JX.thenN ?_ | (apply r_move; (iterate 3 exact rfl)) | (apply r_fieldAddr; (iterate 3 exact rfl)) | (apply r_load; (iterate 4 exact rfl); (first | exact at0 | exact at2); exact rfl) | (apply r_lenZ; (iterate 3 exact rfl); (first | assumption | exact WZ.rd (by assumption) rfl [] | exact OwnZ.rd (by assumption))) | (apply r_idxI; (iterate 4 exact rfl); (first | assumption | exact WI.rd (by assumption) rfl [] | exact OwnI.rd (by assumption)); (first | assumption | omega)) | (apply r_ldI; (iterate 4 exact rfl); (first | assumption | exact WI.rd (by assumption) rfl [] | exact OwnI.rd (by assumption)); (repeat' first | exact HSub.nil _ | exact HSub.hd | exact HSub.in0 | exact HSub.refl _ | refine HSub.skip ?_ | refine HSub.skipN ?_); (first | assumption | omega)) | (apply r_lenI; (iterate 3 exact rfl); (first | assumption | exact WI.rd (by assumption) rfl [] | exact OwnI.rd (by assumption))) | (apply r_addN; (iterate 4 exact rfl); omega) | (apply r_modN; (iterate 4 exact rfl); omega) | (apply r_divN; (iterate 4 exact rfl); omega) | (apply r_pickT; (iterate 4 exact rfl)) | (apply r_lss; (iterate 4 exact rfl); all_goals intro hc; all_goals try (exfalso; omega)) | (apply r_gtr; (iterate 4 exact rfl); all_goals intro hc; all_goals try (exfalso; omega)) | refine JC.skip ?_ | refine JC.condT rfl ?_ | refine JC.block ?_))
      refine r_call0 (by first | trivial | exact ⟨rfl, rfl⟩) rfl rfl rfl (fun w hk _ => c_FromR w (L.getD ((k + k / L.length) % L.length) 0) hI.1 hI.2) fun w v w' _ _ _ hR => ?_
      subst hR
      have hF : L.getD ((k + k / L.length) % L.length) 0 = shF L k := by unfold shF; rw [if_neg hne]
      rw [hF]
      (repeat' (first | (apply r_idxZ; (iterate 4 exact rfl); (first | assumption | exact WZ.rd (by assumption) rfl [] | exact OwnZ.rd (by assumption)); (first | assumption | omega))))
      refine r_stZ (A := [_, _, _]) (u := shF L k) hO rfl rfl (by first | trivial | exact ⟨rfl, rfl⟩) rfl rfl hkk (fun N' hO' => ?_)
      rw [shS_set hkk] at hO'
      (repeat' (first | refine JC.ops ?_ | refine JO.nil ?_ | refine JX.thenN ?_ | (apply r_move; (iterate 3 exact rfl)) | (apply r_assign; (iterate 3 exact rfl)) | (apply r_add1; (iterate 4 exact rfl); omega) | refine JX.blockN ?_))
      exact JX.roundH (k + 1, N') ⟨by dsimp only; omega, hO'⟩ (by dsimp only; omega) (by repeat first | exact trivial | refine ⟨rfl, ?_⟩) (by (first | exact HSub.refl _ | (repeat' first | exact HSub.nil _ | exact HSub.refl _ | refine HSub.at 0 rfl ?_ | refine HSub.at 1 rfl ?_ | refine HSub.at 2 rfl ?_ | refine HSub.at 3 rfl ?_ | refine HSub.at 4 rfl ?_ | refine HSub.at 5 rfl ?_ | refine HSub.at 6 rfl ?_ | refine HSub.at 7 rfl ?_)))
    · (repeat' (first | refine JC.seq ?_ | refine JC.ops ?_ | refine JO.nil ?_ | refine JX.thenN ?_ | (apply r_move; (iterate 3 exact rfl)) | (apply r_fieldAddr; (iterate 3 exact rfl)) | (apply r_load; (iterate 4 exact rfl); (first | exact at0 | exact at1 | exact at2); exact rfl) | (apply r_loadN; (iterate 4 exact rfl); (first | exact at0 | exact at1 | exact at2); exact rfl) | (apply r_lenZ; (iterate 3 exact rfl); (first | assumption | exact WZ.rd (by assumption) rfl [] | exact OwnZ.rd (by assumption))) | (apply r_lenI; (iterate 3 exact rfl); (first | assumption | exact WI.rd (by assumption) rfl [] | exact OwnI.rd (by assumption))) | (apply r_pickT; (iterate 4 exact rfl)) | (apply r_storeN; exact rfl; (first | exact trivial | exact ⟨rfl, rfl⟩); exact rfl; exact rfl; (first | exact at0 | exact at1 | exact at2); (iterate 3 exact rfl)) | (apply r_lss; (iterate 4 exact rfl); all_goals intro hc; all_goals try (exfalso; omega)) | (apply r_gtr; (iterate 4 exact rfl); all_goals intro hc; all_goals try (exfalso; omega)) | (apply r_storeN; exact rfl; (first | exact trivial | exact ⟨rfl, rfl⟩); exact rfl; exact rfl; (first | exact at0 | exact at1 | exact at2); (iterate 3 exact rfl)) | refine JX.thenE ?_ | refine JC.exit ?_ | refine JC.ret ?_ | refine JC.condF rfl ?_ | refine JX.blockE ?_))
      have hL0 : L = [] := List.eq_nil_of_length_eq_zero (by omega)
      rw [shS_end (.inr hL0)] at hO
      exact JX.retC 1 rfl rfl rfl (fun a w' st => ⟨st.kp, N, st.newOf rfl (by (repeat' first | exact HSub.nil _ | exact HSub.hd | exact HSub.in0 | exact HSub.refl _ | refine HSub.skip ?_ | refine HSub.skipN ?_)), OwnM.mk' hO⟩)
  · (repeat' (first | refine JC.seq ?_ | refine JC.ops ?_ | refine JO.nil ?_ | refine JX.thenN ?_ | (apply r_move; (iterate 3 exact rfl)) | (apply r_fieldAddr; (iterate 3 exact rfl)) | (apply r_load; (iterate 4 exact rfl); (first | exact at0 | exact at1); exact rfl) | (apply r_loadN; (iterate 4 exact rfl); (first | exact at0 | exact at1); exact rfl) | (apply r_lenZ; (iterate 3 exact rfl); (first | assumption | exact WZ.rd (by assumption) rfl [] | exact OwnZ.rd (by assumption))) | (apply r_pickF; (iterate 4 exact rfl)) | (apply r_storeN; exact rfl; (first | exact trivial | exact ⟨rfl, rfl⟩); exact rfl; exact rfl; (first | exact at0 | exact at1); (iterate 3 exact rfl)) | (apply r_lss; (iterate 4 exact rfl); all_goals intro hc; all_goals try (exfalso; omega)) | (apply r_storeN; exact rfl; (first | exact trivial | exact ⟨rfl, rfl⟩); exact rfl; exact rfl; (first | exact at0 | exact at1); (iterate 3 exact rfl)) | refine JX.thenE ?_ | refine JC.exit ?_ | refine JC.ret ?_ | refine JC.condF rfl ?_ | refine JX.blockE ?_ | (apply r_skip; exact rfl; exact rfl; (first | (intro h; cases h; done) | (intro _; rfl)))))
    rw [shS_end (.inl (by omega))] at hO
    exact JX.retC 1 rfl rfl rfl (fun a w' st => ⟨st.kp, N, st.newOf rfl (by (repeat' first | exact HSub.nil _ | exact HSub.hd | exact HSub.in0 | exact HSub.refl _ | refine HSub.skip ?_ | refine HSub.skipN ?_)), OwnM.mk' hO⟩)

def shMat (R C : Nat) (L : List Int) : ZM := shZ L (R % 7) (C % 7)
theorem RtZ.shMat (R C : Nat) (L : List Int) : RtZ (shMat R C L) := RtZ.sh L (by have := Nat.mod_lt R (show 0 < 7 by omega); omega) (by have := Nat.mod_lt C (show 0 < 7 by omega); omega)

set_option maxHeartbeats 4000000 in
theorem c_Mat (w : World) (v : Value) (R C : Nat) (L : List Int) (hv : IsS w v R C L) :
    Calls Tryd.prog 14 #[v] w (Ret fun v w' => Kp [] w w' ∧ GivesM (shMat R C L) w v w') := by
  have hv0 := hv
  obtain ⟨h1, h2, h3, E, rfl, hE⟩ := hv
  have hr7 : R % 7 < 7 := Nat.mod_lt _ (by omega)
  have hc7 : C % 7 < 7 := Nat.mod_lt _ (by omega)
  refine calls_of_S [] [] (by simp) [] Tryd.func14 rfl mixed (by kernel_rfl) Tryd.ntmps14 Tryd.results14 rfl ⟨by simp, by simp⟩ (by simp) ?_
  simp only [toS, textOps, toSOp, kindAt, kindOf, odAt, sopsAt, ordOf, zipF]
  (repeat' (first | refine JC.seq ?_ | refine JC.ops ?_ | refine JO.nil ?_ | refine JX.thenN ?_ | (apply r_fieldAddr; (iterate 3 exact rfl)) | (apply r_load; (iterate 4 exact rfl); exact at1; exact rfl) | (apply r_loadN; (iterate 4 exact rfl); exact at1; exact rfl) | (apply r_allocZ; (iterate 3 exact rfl); intro _) | (apply r_boxA; (iterate 4 exact rfl); intro _)))
  refine r_modK (i := R) 7 rfl rfl rfl rfl (by omega) ?_
  (repeat' (first | (apply r_fieldAddr; (iterate 3 exact rfl)) | (apply r_load; (iterate 4 exact rfl); exact at1; exact rfl) | (apply r_convN; (iterate 3 exact rfl); omega)))
  refine r_modK (i := C) 7 rfl rfl rfl rfl (by omega) ?_
  (repeat' (first | (apply r_convN; (iterate 3 exact rfl); omega)))
  refine r_callA (A := [_, _]) (B := []) rfl trivial rfl rfl rfl (fun w hk _ => c_With w _ R C (R % 7) (C % 7) L (hv0.mono hk) (by omega) (by omega)) fun w v w' _ _ _ hR => ?_
  obtain ⟨N, hN, Eo, rfl, hO⟩ := hR
  obtain ⟨Ao, co, rfl⟩ := hO.form
  refine ⟨N, hN, ?_⟩
  (repeat' (first | refine JO.nil ?_ | refine JX.thenN ?_ | (apply r_storeN; exact rfl; (first | exact trivial | exact ⟨rfl, rfl⟩); exact rfl; exact rfl; exact at0; (iterate 3 exact rfl)) | (apply r_storeN; exact rfl; (first | exact trivial | exact ⟨rfl, rfl⟩); exact rfl; exact rfl; exact at0; (iterate 3 exact rfl)) | refine JC.ret ?_))
  exact JX.retC 0 rfl rfl rfl (fun a w' st => ⟨st.kp, N, st.newOf rfl (by (repeat' first | exact HSub.nil _ | exact HSub.hd | exact HSub.in0 | exact HSub.refl _ | refine HSub.skip ?_ | refine HSub.skipN ?_)), _, rfl, hO⟩)


theorem canon_bad {xs : List WR} {k : Nat} (hk : k < xs.length) (h : badW (xs.getD k w0x) = true) : ¬ Canon xs := fun hc => canon_iff.1 hc ⟨_, mem_getD hk, h⟩

set_option maxHeartbeats 2000000 in
theorem c_refCanonical (w : World) (E : Value) (n : Nat) (xs : List WR) (hE : WX w E n xs) (hn : n < 1000000000) :
    Calls Tryd.prog 63 #[E] w (Ret fun v w' => Kp [] w w' ∧ IsB (Canon xs) v) := by
  have hl := hE.len
  refine calls_of_S [] [] (by simp) [] Tryd.func63 rfl mixed (by kernel_rfl) Tryd.ntmps63 Tryd.results63 rfl ⟨by simp, by simp⟩ (by simp) ?_
  simp only [toS, textOps, toSOp, kindAt, kindOf, odAt, sopsAt, ordOf, zipF]
  have hR := WX.rd (c := ⟨Tryd.prog, 40, w, [], by simp⟩) hE rfl []
  (repeat' (first | refine JC.seq ?_ | refine JC.ops ?_ | refine JO.nil ?_ | refine JX.thenN ?_ | (apply r_assign; (iterate 3 exact rfl)) | refine JC.block ?_))
  refine JC.loopH (ι := Nat) ⟨fun k => [(3, nv k), (0, E)], fun _ => [], fun k => k ≤ n ∧ ∀ j, j < k → badW (xs.getD j w0x) = false, fun k => n - k⟩ 0 ⟨by omega, fun j h => by omega⟩ (by repeat first | exact trivial | refine ⟨rfl, ?_⟩) (HSub.nil _) (fun k hk => ?_)
  obtain ⟨hkn, hpr⟩ := hk
  dsimp only
  by_cases hlt : k < n
  · (repeat' (first | refine JC.seq ?_ | refine JC.ops ?_ | refine JO.nil ?_ | refine JX.thenN ?_ | (apply r_move; (iterate 3 exact rfl)) | (apply r_idxX; (iterate 4 exact rfl); (first | assumption | exact WX.rd (by assumption) rfl [] | exact OwnX.rd (by assumption)); (first | assumption | omega)) | (apply r_ldXm; (iterate 4 exact rfl); (first | assumption | exact WX.rd (by assumption) rfl [] | exact OwnX.rd (by assumption)); (repeat' first | exact HSub.nil _ | exact HSub.hd | exact HSub.in0 | exact HSub.refl _ | refine HSub.skip ?_ | refine HSub.skipN ?_); (first | assumption | omega)) | (apply r_fieldX; (iterate 3 exact rfl); (first | assumption | exact WX.rd (by assumption) rfl [] | exact OwnX.rd (by assumption)); omega) | (apply r_lenX; (iterate 3 exact rfl); (first | assumption | exact WX.rd (by assumption) rfl [] | exact OwnX.rd (by assumption))) | (apply r_eqS; (iterate 4 exact rfl)) | (apply r_lss; (iterate 4 exact rfl); all_goals intro hc; all_goals try (exfalso; omega)) | refine JC.skip ?_ | refine JC.condT rfl ?_ | refine JC.block ?_))
    have hxk : ∀ x, xs.getD k w0x = x → badW x = true → ¬ Canon xs := fun x hx hb => canon_bad (k := k) (by omega) (by rw [hx]; exact hb)
    have hnx : ∀ x, xs.getD k w0x = x → badW x = false → ∀ j, j < k + 1 → badW (xs.getD j w0x) = false := fun x hx hb j hj => by
      rcases Nat.lt_or_ge j k with h | h
      · exact hpr j h
      · obtain rfl : j = k := by omega
        rw [hx]; exact hb
    rcases hx : xs.getD k w0x with ⟨p, l⟩
    cases l with
    | nil =>
      simp only [decide_true]
      (repeat' (first | (apply r_move; (iterate 3 exact rfl)) | (apply r_idxX; (iterate 4 exact rfl); (first | assumption | exact WX.rd (by assumption) rfl [] | exact OwnX.rd (by assumption)); (first | assumption | omega)) | (apply r_ldXs; (iterate 4 exact rfl); (first | assumption | exact WX.rd (by assumption) rfl [] | exact OwnX.rd (by assumption)); (repeat' first | exact HSub.nil _ | exact HSub.hd | exact HSub.in0 | exact HSub.refl _ | refine HSub.skip ?_ | refine HSub.skipN ?_); (first | assumption | omega)) | (apply r_fieldX; (iterate 3 exact rfl); (first | assumption | exact WX.rd (by assumption) rfl [] | exact OwnX.rd (by assumption)); omega) | (apply r_pickT; (iterate 4 exact rfl))))
      rw [hx]
      cases p
      · (repeat' (first | (apply r_move; (iterate 3 exact rfl)) | (apply r_idxX; (iterate 4 exact rfl); (first | assumption | exact WX.rd (by assumption) rfl [] | exact OwnX.rd (by assumption)); (first | assumption | omega)) | (apply r_ldXm; (iterate 4 exact rfl); (first | assumption | exact WX.rd (by assumption) rfl [] | exact OwnX.rd (by assumption)); (repeat' first | exact HSub.nil _ | exact HSub.hd | exact HSub.in0 | exact HSub.refl _ | refine HSub.skip ?_ | refine HSub.skipN ?_); (first | assumption | omega)) | (apply r_fieldX; (iterate 3 exact rfl); (first | assumption | exact WX.rd (by assumption) rfl [] | exact OwnX.rd (by assumption)); omega) | (apply r_neS; (iterate 4 exact rfl))))
        rw [hx, show decide ((false, ([] : List UInt8)).snd ≠ []) = false from rfl]
        (repeat' (first | refine JC.ops ?_ | refine JO.nil ?_ | refine JX.thenN ?_ | (apply r_move; (iterate 3 exact rfl)) | (apply r_assign; (iterate 3 exact rfl)) | (apply r_add1; (iterate 4 exact rfl); omega) | (apply r_pickF; (iterate 4 exact rfl)) | refine JC.skip ?_ | refine JC.condF rfl ?_ | refine JX.blockN ?_ | (apply r_skip; exact rfl; exact rfl; (first | (intro h; cases h; done) | (intro _; rfl)))))
        exact JX.roundH (k + 1) ⟨by omega, hnx _ hx rfl⟩ (by dsimp only; omega) (by repeat first | exact trivial | refine ⟨rfl, ?_⟩) (HSub.nil _)
      · (repeat' (first | refine JC.seq ?_ | refine JC.ops ?_ | refine JO.nil ?_ | refine JX.thenN ?_ | (apply r_assign; (iterate 3 exact rfl)) | (apply r_pickT; (iterate 4 exact rfl)) | refine JX.thenR ?_ | refine JC.ret ?_ | refine JC.condT rfl ?_ | refine JX.blockR ?_ | (apply r_skip; exact rfl; exact rfl; (first | (intro h; cases h; done) | (intro _; rfl)))))
        exact JX.ret1 rfl (fun a w' st => ⟨st.kp, IsB.f (hxk _ hx rfl)⟩)
    | cons x r =>
      rw [show decide ((p, x :: r).snd = ([] : List UInt8)) = false from rfl]
      (repeat' (first | (apply r_move; (iterate 3 exact rfl)) | (apply r_idxX; (iterate 4 exact rfl); (first | assumption | exact WX.rd (by assumption) rfl [] | exact OwnX.rd (by assumption)); (first | assumption | omega)) | (apply r_ldXm; (iterate 4 exact rfl); (first | assumption | exact WX.rd (by assumption) rfl [] | exact OwnX.rd (by assumption)); (repeat' first | exact HSub.nil _ | exact HSub.hd | exact HSub.in0 | exact HSub.refl _ | refine HSub.skip ?_ | refine HSub.skipN ?_); (first | assumption | omega)) | (apply r_fieldX; (iterate 3 exact rfl); (first | assumption | exact WX.rd (by assumption) rfl [] | exact OwnX.rd (by assumption)); omega) | (apply r_pickF; (iterate 4 exact rfl)) | (apply r_neS; (iterate 4 exact rfl)) | (apply r_skip; exact rfl; exact rfl; (first | (intro h; cases h; done) | (intro _; rfl)))))
      rw [hx, show decide ((p, x :: r).snd ≠ ([] : List UInt8)) = true from rfl]
      (repeat' (first | (apply r_move; (iterate 3 exact rfl)) | (apply r_idxX; (iterate 4 exact rfl); (first | assumption | exact WX.rd (by assumption) rfl [] | exact OwnX.rd (by assumption)); (first | assumption | omega)) | (apply r_ldXm; (iterate 4 exact rfl); (first | assumption | exact WX.rd (by assumption) rfl [] | exact OwnX.rd (by assumption)); (repeat' first | exact HSub.nil _ | exact HSub.hd | exact HSub.in0 | exact HSub.refl _ | refine HSub.skip ?_ | refine HSub.skipN ?_); (first | assumption | omega)) | (apply r_fieldX; (iterate 3 exact rfl); (first | assumption | exact WX.rd (by assumption) rfl [] | exact OwnX.rd (by assumption)); omega)))
      rw [hx]
      (repeat' (first | refine JC.seq ?_ | refine JC.ops ?_ | refine JO.nil ?_ | refine JX.thenN ?_ | (apply r_move; (iterate 3 exact rfl)) | (apply r_assign; (iterate 3 exact rfl)) | (apply r_add1; (iterate 4 exact rfl); omega) | (apply r_pickT; (iterate 4 exact rfl)) | (apply r_pickF; (iterate 4 exact rfl)) | (apply r_idxS0; (iterate 4 exact rfl)) | (apply r_eql; (iterate 4 exact rfl); all_goals intro hc; all_goals try (exfalso; omega)) | refine JX.thenR ?_ | refine JC.skip ?_ | refine JC.ret ?_ | refine JC.condT rfl ?_ | refine JC.condF rfl ?_ | refine JX.blockN ?_ | refine JX.blockR ?_))
      · exact JX.ret1 rfl (fun _ w' st => ⟨st.kp, IsB.f (hxk _ hx (by have : x = 0 := UInt8.toNat.inj (by simpa using hc); subst this; rfl))⟩)
      · exact JX.roundH (k + 1) ⟨by omega, hnx _ hx (by have : x ≠ 0 := fun e => hc (by subst e; rfl); simp [badW, this])⟩ (by dsimp only; omega) (by repeat first | exact trivial | refine ⟨rfl, ?_⟩) (HSub.nil _)
  · (repeat' (first | refine JC.seq ?_ | refine JC.ops ?_ | refine JO.nil ?_ | refine JX.thenN ?_ | (apply r_move; (iterate 3 exact rfl)) | (apply r_assign; (iterate 3 exact rfl)) | (apply r_lenX; (iterate 3 exact rfl); (first | assumption | exact WX.rd (by assumption) rfl [] | exact OwnX.rd (by assumption))) | (apply r_lss; (iterate 4 exact rfl); all_goals intro hc; all_goals try (exfalso; omega)) | refine JX.thenE ?_ | refine JC.exit ?_ | refine JC.ret ?_ | refine JC.condF rfl ?_ | refine JX.blockE ?_))
    refine JX.ret1 rfl (fun a w' st => ⟨st.kp, IsB.t (canon_iff.2 ?_)⟩)
    rintro ⟨x, hx, hb⟩
    obtain ⟨j, hj, rfl⟩ := List.mem_iff_getElem.1 hx
    have := hpr j (by omega)
    rw [List.getD, List.getElem?_eq_getElem hj, Option.getD_some, hb] at this
    cases this

set_option maxHeartbeats 1000000 in
theorem c_refRight (w : World) (v : Value) (a : XM) (ha : IsX w v a) (hl : a.E.length < 1000000000) : Calls Tryd.prog 38 #[v] w (Ret fun v w' => Kp [] w w' ∧ IsB (RX a) v) := by
  obtain ⟨E, rfl, hE⟩ := ha
  by_cases hf : 0 ≤ a.R ∧ a.R ≤ 200 ∧ 0 ≤ a.C ∧ a.C ≤ 200
  · obtain ⟨R, C, xs⟩ := a
    obtain ⟨h1, h2, h3, h4⟩ := hf
    dsimp only at *
    obtain ⟨r, rfl⟩ := Int.eq_ofNat_of_zero_le h1
    obtain ⟨c, rfl⟩ := Int.eq_ofNat_of_zero_le h3
    have hr : r ≤ 200 := by omega
    have hc : c ≤ 200 := by omega
    have hrc := rcZ hr hc
    have hiff := RX.iff (E := xs) hr hc
    refine calls_of_S [] [] (by simp) [] Tryd.func38 rfl mixed (by kernel_rfl) Tryd.ntmps38 Tryd.results38 rfl ⟨by simp, by simp⟩ (by simp) ?_
    simp only [toS, textOps, toSOp, kindAt, kindOf, odAt, sopsAt, ordOf, zipF]
    have hR := WX.rd (c := ⟨Tryd.prog, 25, w, [], by simp⟩) hE rfl []
    (repeat' (first | refine JC.seq ?_ | refine JC.ops ?_ | refine JO.nil ?_ | refine JX.thenN ?_ | (apply r_fieldAddr; (iterate 3 exact rfl)) | (apply r_assign; (iterate 3 exact rfl)) | (apply r_load; (iterate 4 exact rfl); exact at0; exact rfl) | (apply r_boxA; (iterate 4 exact rfl); intro _)))
    refine r_call0 trivial rfl rfl rfl (fun w _ _ => c_refFits r c w) fun w v w' _ _ _ hv => ?_
    obtain ⟨b', rfl, hb⟩ := hv
    obtain rfl := hb.2 ⟨h1, h2, h3, h4⟩
    (repeat' (first | refine JC.seq ?_ | refine JC.ops ?_ | refine JO.nil ?_ | refine JX.thenN ?_ | (apply r_move; (iterate 3 exact rfl)) | (apply r_fieldAddr; (iterate 3 exact rfl)) | (apply r_assign; (iterate 3 exact rfl)) | (apply r_load; (iterate 4 exact rfl); exact at0; exact rfl) | (apply r_lenX; (iterate 3 exact rfl); (first | assumption | exact WX.rd (by assumption) rfl [] | exact OwnX.rd (by assumption))) | (apply r_mulN; (iterate 4 exact rfl); (first | assumption | omega)) | (apply r_pickF; (iterate 4 exact rfl)) | (apply r_not; (iterate 3 exact rfl)) | (apply r_neq; (iterate 4 exact rfl); all_goals intro hc; all_goals try (exfalso; omega)) | refine JX.thenR ?_ | refine JC.skip ?_ | refine JC.ret ?_ | refine JC.condT rfl ?_ | refine JC.condF rfl ?_))
    · exact JX.ret1 rfl (fun a w' st => ⟨st.kp, IsB.f (fun h => by have := (hiff.1 h).1; omega)⟩)
    · refine r_call0 trivial rfl rfl rfl (fun w' hk hs => c_refCanonical w' E _ _ (hE.mono hk) hl) fun w v w' _ _ _ hv => ?_
      obtain ⟨b', rfl, hb⟩ := hv
      (repeat' (first | refine JO.nil ?_ | refine JX.thenN ?_ | (apply r_assign; (iterate 3 exact rfl)) | refine JC.ret ?_))
      exact JX.ret1 rfl (fun a w' st => ⟨st.kp, b', rfl, hb.trans ⟨fun h => hiff.2 ⟨by omega, h⟩, fun h => (hiff.1 h).2⟩⟩)
  · refine calls_of_S [] [] (by simp) [] Tryd.func38 rfl mixed (by kernel_rfl) Tryd.ntmps38 Tryd.results38 rfl ⟨by simp, by simp⟩ (by simp) ?_
    simp only [toS, textOps, toSOp, kindAt, kindOf, odAt, sopsAt, ordOf, zipF]
    (repeat' (first | refine JC.seq ?_ | refine JC.ops ?_ | refine JO.nil ?_ | refine JX.thenN ?_ | (apply r_fieldAddr; (iterate 3 exact rfl)) | (apply r_assign; (iterate 3 exact rfl)) | (apply r_load; (iterate 4 exact rfl); exact at0; exact rfl) | (apply r_boxA; (iterate 4 exact rfl); intro _)))
    refine r_call0 trivial rfl rfl rfl (fun w _ _ => c_refFits a.R a.C w) fun w v w' _ _ _ hv => ?_
    obtain ⟨b', rfl, hb⟩ := hv
    cases b' with
    | true => exact absurd (hb.1 rfl) hf
    | false =>
      (repeat' (first | refine JC.seq ?_ | refine JC.ops ?_ | refine JO.nil ?_ | refine JX.thenN ?_ | (apply r_move; (iterate 3 exact rfl)) | (apply r_assign; (iterate 3 exact rfl)) | (apply r_pickT; (iterate 4 exact rfl)) | (apply r_not; (iterate 3 exact rfl)) | refine JX.thenR ?_ | refine JC.ret ?_ | refine JC.condT rfl ?_ | (apply r_skip; exact rfl; exact rfl; (first | (intro h; cases h; done) | (intro _; rfl)))))
      exact JX.ret1 rfl (fun a w' st => ⟨st.kp, IsB.f (fun h => hf h.fits)⟩)

set_option maxHeartbeats 1000000 in
theorem c_refAlike (w : World) (v u : Value) (a b : XM) (ha : IsX w v a) (hb : IsX w u b) (hl : a.E.length < 1000000000) (hl' : b.E.length < 1000000000) : Calls Tryd.prog 41 #[v, u] w (Ret fun v w' => Kp [] w w' ∧ IsB (Alike a b) v) := by
  obtain ⟨E, rfl, hE⟩ := ha
  obtain ⟨E', rfl, hE'⟩ := hb
  refine calls_of_S [] [] (by simp) [] Tryd.func41 rfl mixed (by kernel_rfl) Tryd.ntmps41 Tryd.results41 rfl ⟨by simp, by simp⟩ (by simp) ?_
  simp only [toS, textOps, toSOp, kindAt, kindOf, odAt, sopsAt, ordOf, zipF]
  (repeat' (first | refine JC.seq ?_ | refine JC.ops ?_ | refine JO.nil ?_ | refine JX.thenN ?_ | (apply r_assign; (iterate 3 exact rfl)) | (apply r_loadN; (iterate 4 exact rfl); exact at1; exact rfl) | (apply r_boxA; (iterate 4 exact rfl); intro _)))
  refine r_call0 trivial rfl rfl rfl (fun w hk _ => c_refRight w _ a ⟨E, rfl, hE.mono hk⟩ hl) fun w v w' _ _ _ hR => ?_
  obtain ⟨b', rfl, hb⟩ := hR
  (repeat' (first | refine JC.seq ?_ | refine JC.ops ?_ | refine JO.nil ?_ | refine JX.thenN ?_ | (apply r_assign; (iterate 3 exact rfl)) | (apply r_loadN; (iterate 4 exact rfl); exact at0; exact rfl)))
  refine r_call0 trivial rfl rfl rfl (fun w hk _ => c_refRight w _ b ⟨E', rfl, hE'.mono hk⟩ hl') fun w v w' _ _ _ hR => ?_
  obtain ⟨b2, rfl, hb'⟩ := hR
  cases b' <;> cases b2
  · (repeat' (first | refine JC.seq ?_ | refine JC.ops ?_ | refine JO.nil ?_ | refine JX.thenN ?_ | (apply r_move; (iterate 3 exact rfl)) | (apply r_assign; (iterate 3 exact rfl)) | (apply r_pickF; (iterate 4 exact rfl)) | refine JC.ret ?_ | (apply r_skip; exact rfl; exact rfl; (first | (intro h; cases h; done) | (intro _; rfl)))))
    exact JX.ret1 rfl (fun a w' st => ⟨st.kp, IsB.f (fun h => by cases hb.2 h.1)⟩)
  · (repeat' (first | refine JC.seq ?_ | refine JC.ops ?_ | refine JO.nil ?_ | refine JX.thenN ?_ | (apply r_move; (iterate 3 exact rfl)) | (apply r_assign; (iterate 3 exact rfl)) | (apply r_pickF; (iterate 4 exact rfl)) | refine JC.ret ?_ | (apply r_skip; exact rfl; exact rfl; (first | (intro h; cases h; done) | (intro _; rfl)))))
    exact JX.ret1 rfl (fun a w' st => ⟨st.kp, IsB.f (fun h => by cases hb.2 h.1)⟩)
  · (repeat' (first | refine JC.seq ?_ | refine JC.ops ?_ | refine JO.nil ?_ | refine JX.thenN ?_ | (apply r_move; (iterate 3 exact rfl)) | (apply r_assign; (iterate 3 exact rfl)) | (apply r_pickT; (iterate 4 exact rfl)) | (apply r_pickF; (iterate 4 exact rfl)) | refine JC.ret ?_ | (apply r_skip; exact rfl; exact rfl; (first | (intro h; cases h; done) | (intro _; rfl)))))
    exact JX.ret1 rfl (fun a w' st => ⟨st.kp, IsB.f (fun h => by cases hb'.2 h.2.1)⟩)
  · (repeat' (first | refine JC.seq ?_ | refine JC.ops ?_ | refine JO.nil ?_ | refine JX.thenN ?_ | (apply r_move; (iterate 3 exact rfl)) | (apply r_fieldAddr; (iterate 3 exact rfl)) | (apply r_assign; (iterate 3 exact rfl)) | (apply r_load; (iterate 4 exact rfl); (first | exact at0 | exact at1); exact rfl) | (apply r_pickT; (iterate 4 exact rfl)) | (apply r_pickF; (iterate 4 exact rfl)) | (apply r_eql; (iterate 4 exact rfl); all_goals intro hc; all_goals try (exfalso; omega)) | refine JC.ret ?_ | (apply r_skip; exact rfl; exact rfl; (first | (intro h; cases h; done) | (intro _; rfl)))))
    all_goals first
      | exact JX.ret1 rfl (fun a w' st => ⟨st.kp, IsB.t ⟨hb.1 rfl, hb'.1 rfl, by omega, by omega⟩⟩)
      | exact JX.ret1 rfl (fun a w' st => ⟨st.kp, IsB.f fun h => by have h1 := h.2.2.1; have h2 := h.2.2.2; omega⟩)

end Go.Proofs.YtdoogoglfbohaaaDoor

namespace Go.Proofs.YtdoogoglfbohaaaDoor
open Go Go.RowKit Go.Shelf
set_option linter.unusedSimpArgs false
set_option linter.unusedVariables false
set_option linter.unusedSectionVars false

attribute [local go_sem] Oper.semAt_some

end Go.Proofs.YtdoogoglfbohaaaDoor

namespace Go.Proofs.YtdoogoglfbohaaaDoor
open Go Go.RowKit
set_option linter.unusedSimpArgs false
set_option linter.unusedVariables false
set_option linter.unusedSectionVars false



abbrev TR := SHeap × Value × List Int
def tH (ts : List TR) : SHeap := (ts.map (·.1)).flatten
structure OwnT (N : SHeap) (v : Value) (c : Nat) (ts : List TR) : Prop where
  outer : OwnRow 34 1 N v ts.length (ts.map (·.2.1))
  rows : ∀ t ∈ ts, OwnZ t.1 t.2.1 c t.2.2
theorem OwnT.cells {N : SHeap} {v : Value} {c : Nat} {ts : List TR} (h : OwnT N v c ts) : Cells (N ++ tH ts) := h.outer.cells'.app fun p hp => by
  obtain ⟨l, hl, hp⟩ := List.mem_flatten.1 hp
  obtain ⟨t, ht, rfl⟩ := List.mem_map.1 hl
  exact (h.rows t ht).cells p hp
theorem OwnT.form {N : SHeap} {v : Value} {c : Nat} {ts : List TR} (h : OwnT N v c ts) : ∃ A cap, v = .slice A ts.length cap := by
  obtain ⟨_, ⟨h1, h2, _⟩ | ⟨b, cap, cur, h1, _⟩⟩ := h.outer
  · exact ⟨none, 0, by rw [h1, h2]⟩
  · exact ⟨_, _, h1⟩


def sumL (ks : List Nat) (f : Nat → Int) : Int := (ks.map f).sum
theorem sumL_snoc (ks : List Nat) (k : Nat) (f : Nat → Int) : sumL (ks ++ [k]) f = sumL ks f + f k := by simp [sumL]
theorem sumL_range (f : Nat → Int) : ∀ n, sumL (List.range n) f = smI n f
  | 0 => rfl
  | n + 1 => by rw [List.range_succ, sumL_snoc, sumL_range f n, smI]
theorem sumL_bd {B : Nat} {f : Nat → Int} (h : ∀ k, (f k).natAbs ≤ B) : ∀ ks : List Nat, (sumL ks f).natAbs ≤ ks.length * B
  | [] => by simp [sumL]
  | k :: ks => by
    have h1 := sumL_bd h ks
    have h2 := h k
    have h3 := Int.natAbs_add_le (f k) (sumL ks f)
    have e : sumL (k :: ks) f = f k + sumL ks f := by simp [sumL]
    rw [e, List.length_cons, Nat.add_mul, Nat.one_mul]
    omega

def muF (m n : ZM) (pre : List Nat) (i : Nat) (ks : List Nat) (k j : Nat) : Mi := fun a b => (pre.count a : Int) * mmI m.c m.at n.at a b + if a = i then sumL ks (fun t => m.at i t * n.at t b) + (if b < j then m.at i k * n.at k b else 0) else 0
def muS (m n : ZM) (pre : List Nat) (i : Nat) (ks : List Nat) (k j : Nat) : List Int := tbz m.r n.c (muF m n pre i ks k j)
def muE (m n : ZM) (pre : List Nat) : List Int := tbz m.r n.c fun a b => (pre.count a : Int) * mmI m.c m.at n.at a b
theorem muE_zero (m n : ZM) : muE m n [] = tab (m.r * n.c) fun _ => 0 := by
  rw [← tbz_zero]
  exact tbz_congr fun i j _ _ => by simp
theorem muS_start (m n : ZM) (pre : List Nat) (i k : Nat) : muS m n pre i [] k 0 = muE m n pre := tbz_congr fun a b _ _ => by simp [muF, sumL]
theorem muS_k (m n : ZM) (pre : List Nat) (i : Nat) (ks : List Nat) (k k' : Nat) : muS m n pre i ks k 0 = muS m n pre i ks k' 0 := tbz_congr fun a b _ _ => by simp [muF]
theorem muS_set {m n : ZM} {pre ks : List Nat} {i k j : Nat} (hi : i < m.r) (hj : j < n.c) : (muS m n pre i ks k j).set (i * n.c + j) (enz n.c (muS m n pre i ks k j) i j + m.at i k * n.at k j) = muS m n pre i ks k (j + 1) := by
  have e : enz n.c (muS m n pre i ks k j) i j = muF m n pre i ks k j i j := enz_tbz hi hj
  rw [e]
  unfold muS
  rw [tbz_set hj]
  refine tbz_congr fun a b ha hb => ?_
  by_cases h : a = i ∧ b = j
  · obtain ⟨rfl, rfl⟩ := h
    simp only [muF, and_self, if_true, Nat.lt_irrefl, if_false, Nat.lt_succ_self]
    omega
  · rw [if_neg h]
    simp only [muF]
    by_cases h1 : a = i
    · rw [if_pos h1, if_pos h1]
      have : (b < j + 1) ↔ (b < j) := by
        have : ¬ b = j := fun e => h ⟨h1, e⟩
        omega
      simp only [this]
    · rw [if_neg h1, if_neg h1]
theorem muS_skip {m n : ZM} {pre ks : List Nat} {i k j : Nat} (h0 : m.at i k * n.at k j = 0) : muS m n pre i ks k j = muS m n pre i ks k (j + 1) := tbz_congr fun a b ha hb => by
  simp only [muF]
  by_cases hb : b = j
  · subst hb
    rw [if_neg (Nat.lt_irrefl b), if_pos (Nat.lt_succ_self b), h0]
  · have : (b < j + 1) ↔ (b < j) := by omega
    simp only [this]
theorem muS_next {m n : ZM} {pre ks : List Nat} {i k : Nat} : muS m n pre i ks k n.c = muS m n pre i (ks ++ [k]) 0 0 := tbz_congr fun a b ha hb => by
  simp only [muF]
  rw [if_pos hb, sumL_snoc]
  simp
theorem muS_jump {m n : ZM} {pre ks : List Nat} {i k : Nat} (h0 : m.at i k = 0) : muS m n pre i ks 0 0 = muS m n pre i (ks ++ [k]) 0 0 := tbz_congr fun a b ha hb => by
  simp only [muF]
  rw [sumL_snoc, h0]
  simp
theorem muS_row {m n : ZM} {pre : List Nat} {i : Nat} : muS m n pre i (List.range m.c) 0 0 = muE m n (pre ++ [i]) := tbz_congr fun a b ha hb => by
  simp only [muF]
  rw [List.count_append]
  by_cases h : a = i
  · subst h
    rw [if_pos rfl, sumL_range]
    simp only [List.count_singleton_self, Nat.not_lt_zero, if_false]
    show _ + (mmI m.c m.at n.at a b + 0) = _
    simp only [Int.natCast_add, Int.add_mul]
    simp
  · rw [if_neg h, List.count_singleton]
    have : (i == a) = false := by simpa using fun e => h e.symm
    simp [this]
theorem muE_end (m n : ZM) : muE m n (List.range m.r) = (mulZ m n).e := tbz_congr fun a b ha hb => by
  have : (List.range m.r).count a = 1 := by
    have h1 := List.nodup_iff_count.1 (List.nodup_range (n := m.r)) a
    have h2 := List.count_pos_iff.2 (List.mem_range.2 ha)
    omega
  rw [this]
  simp
theorem muF_bd {K L : Nat} {m n : ZM} {pre ks : List Nat} {i k j a b : Nat} (hc : m.c ≤ 200) (hm : BdZ K m) (hn : BdZ L n) (hp : pre.length ≤ 200) (hk : ks.length ≤ 200) : (muF m n pre i ks k j a b).natAbs < 256 ^ (K + L + 2) := by
  have hB : ∀ t, (m.at i t * n.at t b).natAbs ≤ 256 ^ (K + L) := fun t => Nat.le_of_lt (mul_bd (hm.at i t) (hn.at t b))
  have h1 : (mmI m.c m.at n.at a b).natAbs ≤ 200 * 256 ^ (K + L) := Nat.le_trans (smI_bd (n := m.c) (f := fun t => m.at a t * n.at t b) (B := 256 ^ (K + L)) (fun t _ => Nat.le_of_lt (mul_bd (hm.at a t) (hn.at t b)))) (Nat.mul_le_mul_right _ hc)
  have h2 : ((pre.count a : Int) * mmI m.c m.at n.at a b).natAbs ≤ 200 * (200 * 256 ^ (K + L)) := by
    rw [Int.natAbs_mul, Int.natAbs_natCast]
    exact Nat.mul_le_mul (Nat.le_trans List.count_le_length hp) h1
  have h3 : (sumL ks (fun t => m.at i t * n.at t b)).natAbs ≤ 200 * 256 ^ (K + L) := Nat.le_trans (sumL_bd hB ks) (Nat.mul_le_mul_right _ hk)
  have h4 := hB k
  have h5 := pos256 (K + L)
  have e : 256 ^ (K + L + 2) = 65536 * 256 ^ (K + L) := by rw [Nat.pow_succ, Nat.pow_succ]; omega
  rw [e]
  unfold muF
  generalize (pre.count a : Int) * mmI m.c m.at n.at a b = x at h2 ⊢
  generalize sumL ks (fun t => m.at i t * n.at t b) = y at h3 ⊢
  generalize m.at i k * n.at k b = z at h4 ⊢
  generalize 256 ^ (K + L) = P at *
  split
  · split <;> omega
  · omega

theorem OwnZ.ty {N : SHeap} {v : Value} {n : Nat} {xs : List Int} (h : OwnZ N v n xs) : ∀ p ∈ N, ∃ cs fz, p.2 = .cells cs 56 fz := by
  obtain ⟨_, ⟨_, _, rfl⟩ | ⟨b, cap, cur, _, rfl, _⟩⟩ := h
  · intro p hp; cases hp
  · intro p hp; cases List.mem_singleton.1 hp; exact ⟨_, _, rfl⟩




theorem xm_len {m : ZM} (h : RtZ m) : m.xm.E.length < 1000000000 := by have := h.le; simp [ZM.xm]; omega

set_option maxHeartbeats 2000000 in
theorem c_refAdd (K : Nat) (w : World) (v u : Value) (m n : ZM) (hm : RtZ m) (hn : RtZ n) (hr : m.r = n.r) (hc : m.c = n.c) (hK : K ≤ 90000000) (hx : BdZ K m) (hy : BdZ K n) (hv : IsM w v m) (hu : IsM w u n) :
    Calls Tryd.prog 18 #[v, u] w (Ret fun v w' => Kp [] w w' ∧ GivesMB (addZ m n) true w v w') := by
  have hvX := hv.x
  have huX := hu.x
  obtain ⟨E, rfl, hE⟩ := hv
  obtain ⟨E', rfl, hE'⟩ := hu
  have hle := hm.le
  have hl := hm.len
  have hl' := hn.len
  rw [← hr, ← hc] at hl'
  rw [hl] at hE
  rw [hl'] at hE'
  have hgx := mapZ_eq (· + ·) hm hn hr hc
  refine calls_of_S [⟨8, 2, [], []⟩] [] (by simp) [] Tryd.func18 rfl mixed (by kernel_rfl) Tryd.ntmps18 Tryd.results18 rfl ⟨by simp, by simp⟩ (by simp) ?_
  simp only [toS, textOps, toSOp, kindAt, kindOf, odAt, sopsAt, ordOf, zipF]
  have hR := WZ.rd (c := ⟨Tryd.prog, 43, w, [], by simp⟩) hE rfl []
  have hR' := WZ.rd (c := ⟨Tryd.prog, 43, w, [], by simp⟩) hE' rfl []
  (repeat' (first | refine JC.seq ?_ | refine JC.ops ?_ | refine JO.nil ?_ | refine JX.thenN ?_ | (apply r_assign; (iterate 3 exact rfl)) | (apply r_loadN; (iterate 4 exact rfl); (first | exact at1 | exact at2); exact rfl) | (apply r_allocZ; (iterate 3 exact rfl); intro _) | (apply r_boxA; (iterate 4 exact rfl); intro _)))
  rename_i b2 b3 b4
  refine r_call0 trivial rfl rfl rfl (fun w hk _ => c_refAlike w _ _ m.xm n.xm (hvX.mono hk) (huX.mono hk) (xm_len hm) (xm_len hn)) fun w v w' _ _ _ hR => ?_
  obtain ⟨b', rfl, hb⟩ := hR
  obtain rfl := hb.2 ⟨hm.rx, hn.rx, by simp [ZM.xm, hr], by simp [ZM.xm, hc]⟩
  (repeat' (first | refine JC.seq ?_ | refine JC.ops ?_ | refine JO.nil ?_ | refine JX.thenN ?_ | (apply r_move; (iterate 3 exact rfl)) | (apply r_fieldAddr; (iterate 3 exact rfl)) | (apply r_assign; (iterate 3 exact rfl)) | (apply r_load; (iterate 4 exact rfl); exact at2; exact rfl) | (apply r_not; (iterate 3 exact rfl)) | refine JC.skip ?_ | refine JC.condF rfl ?_))
  refine r_callA (A := [_, _, _]) (B := []) rfl (by first | trivial | exact ⟨rfl, rfl⟩) rfl rfl rfl (fun w _ _ => c_refZero m.r m.c hm.r hm.c w) fun w v w' _ _ _ hR => ?_
  obtain ⟨N, Eo, hN, rfl, hO⟩ := hR
  obtain ⟨Ao, co, rfl⟩ := hO.form
  refine ⟨N, hN, ?_⟩
  (repeat' (first | refine JC.seq ?_ | refine JC.ops ?_ | refine JO.nil ?_ | refine JX.thenN ?_ | (apply r_assign; (iterate 3 exact rfl)) | (apply r_storeN; exact rfl; (first | exact trivial | exact ⟨rfl, rfl⟩); exact rfl; exact rfl; exact at0; (iterate 3 exact rfl)) | (apply r_allocZ; (iterate 3 exact rfl); intro _) | (apply r_storeN; exact rfl; (first | exact trivial | exact ⟨rfl, rfl⟩); exact rfl; exact rfl; exact at0; (iterate 3 exact rfl)) | refine JC.block ?_))
  rename_i b7
  refine JC.loopH (ι := Nat × SHeap) ⟨fun z => [(8, nv z.1), (2, .pointer (some ⟨b2, 0, none⟩)), (3, .pointer (some ⟨b3, 0, none⟩)), (4, .pointer (some ⟨b4, 0, none⟩)), (7, .pointer (some ⟨b7, 0, none⟩))],
    fun z => [(b7, .cells #[nv m.r, nv m.c, .slice Ao (m.r * m.c) co] 36), (b4, .cells #[iv 0, iv 0, .slice none 0 0] 36), (b3, .cells #[nv n.r, nv n.c, E'] 36), (b2, .cells #[nv m.r, nv m.c, E] 36)] ++ (z.2 ++ []),
    fun z => z.1 ≤ m.r * m.c ∧ OwnZ z.2 (.slice Ao (m.r * m.c) co) (m.r * m.c) (tab (m.r * m.c) fun i => if i < z.1 then m.e.getD i 0 + n.e.getD i 0 else 0), fun z => m.r * m.c - z.1⟩ (0, N) ⟨by omega, by simpa using hO⟩ (by repeat first | exact trivial | refine ⟨rfl, ?_⟩) (by (first | exact HSub.refl _ | (repeat' first | exact HSub.nil _ | exact HSub.refl _ | refine HSub.at 0 rfl ?_ | refine HSub.at 1 rfl ?_ | refine HSub.at 2 rfl ?_ | refine HSub.at 3 rfl ?_ | refine HSub.at 4 rfl ?_ | refine HSub.at 5 rfl ?_ | refine HSub.at 6 rfl ?_ | refine HSub.at 7 rfl ?_))) (fun z hz => ?_)
  clear hO
  obtain ⟨k, N⟩ := z
  obtain ⟨hk, hO⟩ := hz
  dsimp only at hk hO ⊢
  by_cases hkk : k < m.r * m.c
  · (repeat' (first | refine JC.seq ?_ | refine JC.ops ?_ | refine JC.opsD ?_ | refine JO.nil ?_ | refine JX.thenN ?_ | (apply r_move; (iterate 3 exact rfl)) | (apply r_fieldAddr; (iterate 3 exact rfl)) | (apply r_load; (iterate 4 exact rfl); (first | exact at0 | exact at2 | exact at3); exact rfl) | (apply r_idxZ; (iterate 4 exact rfl); (first | assumption | exact WZ.rd (by assumption) rfl [] | exact OwnZ.rd (by assumption)); (first | assumption | omega)) | (apply r_ldZ; (iterate 4 exact rfl); (first | assumption | exact WZ.rd (by assumption) rfl [] | exact OwnZ.rd (by assumption)); (repeat' first | exact HSub.nil _ | exact HSub.hd | exact HSub.in0 | exact HSub.refl _ | refine HSub.skip ?_ | refine HSub.skipN ?_); (first | assumption | omega)) | (apply r_lenZ; (iterate 3 exact rfl); (first | assumption | exact WZ.rd (by assumption) rfl [] | exact OwnZ.rd (by assumption))) | (apply r_lss; (iterate 4 exact rfl); all_goals intro hc; all_goals try (exfalso; omega)) | refine JC.skip ?_ | refine JC.condT rfl ?_ | refine JC.block ?_))
    refine r_call0 (by first | trivial | exact ⟨rfl, rfl⟩) rfl rfl rfl (fun w _ _ => c_AddR w _ _ (m.e.getD k 0) (n.e.getD k 0) K (IsZ.can (hx k)) (IsZ.can (hy k)) (by omega)) fun w v w' _ _ _ hR => ?_
    subst hR
    (repeat' (first | (apply r_idxZ; (iterate 4 exact rfl); (first | assumption | exact WZ.rd (by assumption) rfl [] | exact OwnZ.rd (by assumption)); (first | assumption | omega))))
    refine r_stZ (A := [_, _, _, _]) (u := m.e.getD k 0 + n.e.getD k 0) hO rfl rfl (by first | trivial | exact ⟨rfl, rfl⟩) rfl rfl hkk (fun N' hO' => ?_)
    rw [zip_step (f := fun i => m.e.getD i 0 + n.e.getD i 0)] at hO'
    (repeat' (first | refine JC.ops ?_ | refine JO.nil ?_ | refine JX.thenN ?_ | (apply r_move; (iterate 3 exact rfl)) | (apply r_assign; (iterate 3 exact rfl)) | (apply r_add1; (iterate 4 exact rfl); omega) | refine JX.blockN ?_))
    exact JX.roundH (k + 1, N') ⟨by dsimp only; omega, hO'⟩ (by dsimp only; omega) (by repeat first | exact trivial | refine ⟨rfl, ?_⟩) (HSub.refl _)
  · (repeat' (first | refine JC.seq ?_ | refine JC.ops ?_ | refine JO.nil ?_ | refine JX.thenN ?_ | (apply r_move; (iterate 3 exact rfl)) | (apply r_fieldAddr; (iterate 3 exact rfl)) | (apply r_assign; (iterate 3 exact rfl)) | (apply r_load; (iterate 4 exact rfl); (first | exact at0 | exact at1); exact rfl) | (apply r_loadN; (iterate 4 exact rfl); (first | exact at0 | exact at1); exact rfl) | (apply r_lenZ; (iterate 3 exact rfl); (first | assumption | exact WZ.rd (by assumption) rfl [] | exact OwnZ.rd (by assumption))) | (apply r_storeN; exact rfl; (first | exact trivial | exact ⟨rfl, rfl⟩); exact rfl; exact rfl; (first | exact at0 | exact at1); (iterate 3 exact rfl)) | (apply r_lss; (iterate 4 exact rfl); all_goals intro hc; all_goals try (exfalso; omega)) | (apply r_storeN; exact rfl; (first | exact trivial | exact ⟨rfl, rfl⟩); exact rfl; exact rfl; (first | exact at0 | exact at1); (iterate 3 exact rfl)) | refine JX.thenE ?_ | refine JC.exit ?_ | refine JC.ret ?_ | refine JC.condF rfl ?_ | refine JX.blockE ?_))
    rw [tab_congr (g' := fun i => m.e.getD i 0 + n.e.getD i 0) (fun i hi => if_pos (by omega)), hgx] at hO
    exact JX.retCT 1 rfl rfl rfl rfl (fun a w' st => ⟨st.kp, N, _, rfl, st.newOf rfl (by (repeat' first | exact HSub.nil _ | exact HSub.hd | exact HSub.in0 | exact HSub.refl _ | refine HSub.skip ?_ | refine HSub.skipN ?_)), OwnM.mk' hO⟩)

set_option maxHeartbeats 8000000 in
theorem c_refMul (K L : Nat) (w : World) (v u : Value) (m n : ZM) (hm : RtZ m) (hn : RtZ n) (hr : m.c = n.r) (hK : K + L ≤ 90000000) (hx : BdZ K m) (hy : BdZ L n) (hv : IsM w v m) (hu : IsM w u n) :
    Calls Tryd.prog 17 #[v, u] w (Ret fun v w' => Kp [] w w' ∧ GivesMB (mulZ m n) true w v w') := by
  have hvX := hv.x
  have huX := hu.x
  obtain ⟨E, rfl, hE⟩ := hv
  obtain ⟨E', rfl, hE'⟩ := hu
  have hle := hm.le
  have hle' := hn.le
  have hbr := hm.r
  have hbc := hm.c
  have hbc' := hn.c
  have hrc := rcZ hbr hbc'
  rw [hm.len] at hE
  rw [hn.len] at hE'
  refine calls_of_S [⟨19, 2, [], []⟩] [] (by simp) [] Tryd.func17 rfl mixed (by kernel_rfl) Tryd.ntmps17 Tryd.results17 rfl ⟨by simp, by simp⟩ (by simp) ?_
  simp only [toS, textOps, toSOp, kindAt, kindOf, odAt, sopsAt, ordOf, zipF]
  have hR := WZ.rd (c := ⟨Tryd.prog, 104, w, [], by simp⟩) hE rfl []
  have hR' := WZ.rd (c := ⟨Tryd.prog, 104, w, [], by simp⟩) hE' rfl []
  (repeat' (first | refine JC.seq ?_ | refine JC.ops ?_ | refine JO.nil ?_ | refine JX.thenN ?_ | (apply r_assign; (iterate 3 exact rfl)) | (apply r_loadN; (iterate 4 exact rfl); exact at2; exact rfl) | (apply r_allocZ; (iterate 3 exact rfl); intro _) | (apply r_boxA; (iterate 4 exact rfl); intro _)))
  rename_i b2 b3 b4
  refine r_call0 trivial rfl rfl rfl (fun w hk _ => c_refRight w _ m.xm (hvX.mono hk) (xm_len hm)) fun w v w' _ _ _ hc0 => ?_
  obtain ⟨b', rfl, hb⟩ := hc0
  obtain rfl := hb.2 hm.rx
  (repeat' (first | refine JC.seq ?_ | refine JC.ops ?_ | refine JO.nil ?_ | refine JX.thenN ?_ | (apply r_assign; (iterate 3 exact rfl)) | (apply r_loadN; (iterate 4 exact rfl); exact at1; exact rfl)))
  refine r_call0 trivial rfl rfl rfl (fun w hk _ => c_refRight w _ n.xm (huX.mono hk) (xm_len hn)) fun w v w' _ _ _ hc0 => ?_
  obtain ⟨b', rfl, hb'⟩ := hc0
  obtain rfl := hb'.2 hn.rx
  (repeat' (first | refine JC.seq ?_ | refine JC.ops ?_ | refine JO.nil ?_ | refine JX.thenN ?_ | (apply r_move; (iterate 3 exact rfl)) | (apply r_fieldAddr; (iterate 3 exact rfl)) | (apply r_assign; (iterate 3 exact rfl)) | (apply r_load; (iterate 4 exact rfl); (first | exact at1 | exact at2); exact rfl) | (apply r_pickF; (iterate 4 exact rfl)) | (apply r_not; (iterate 3 exact rfl)) | (apply r_neq; (iterate 4 exact rfl); all_goals intro hc; all_goals try (exfalso; omega)) | refine JC.skip ?_ | refine JC.condF rfl ?_))
  all_goals first
    | (exfalso; omega)
    | skip
  refine r_callA (A := [_, _, _]) (B := []) rfl (by first | trivial | exact ⟨rfl, rfl⟩) rfl rfl rfl (fun w _ _ => c_refZero m.r n.c hbr hbc' w) fun w v w' _ _ _ hR => ?_
  obtain ⟨N, Eo, hN, rfl, hO⟩ := hR
  obtain ⟨Ao, co, rfl⟩ := hO.form
  refine ⟨N, hN, ?_⟩
  (repeat' (first | refine JC.seq ?_ | refine JC.ops ?_ | refine JO.nil ?_ | refine JX.thenN ?_ | (apply r_assign; (iterate 3 exact rfl)) | (apply r_storeN; exact rfl; (first | exact trivial | exact ⟨rfl, rfl⟩); exact rfl; exact rfl; exact at0; (iterate 3 exact rfl)) | (apply r_allocZ; (iterate 3 exact rfl); intro _) | (apply r_storeN; exact rfl; (first | exact trivial | exact ⟨rfl, rfl⟩); exact rfl; exact rfl; exact at0; (iterate 3 exact rfl)) | refine JC.block ?_))
  rename_i b8
  refine JC.loopH (ι := Nat × SHeap) ⟨fun z => [(9, nv z.1), (2, .pointer (some ⟨b2, 0, none⟩)), (3, .pointer (some ⟨b3, 0, none⟩)), (4, .pointer (some ⟨b4, 0, none⟩)), (8, .pointer (some ⟨b8, 0, none⟩))],
    fun z => [(b8, .cells #[nv m.r, nv n.c, .slice Ao (m.r * n.c) co] 36), (b4, .cells #[iv 0, iv 0, .slice none 0 0] 36), (b3, .cells #[nv n.r, nv n.c, E'] 36), (b2, .cells #[nv m.r, nv m.c, E] 36)] ++ (z.2 ++ []),
    fun z => z.1 ≤ m.r ∧ OwnZ z.2 (.slice Ao (m.r * n.c) co) (m.r * n.c) (muE m n (List.range z.1)), fun z => m.r - z.1⟩ (0, N) ⟨by omega, by rw [show List.range 0 = [] from rfl, muE_zero]; exact hO⟩ (by repeat first | exact trivial | refine ⟨rfl, ?_⟩) (by (first | exact HSub.refl _ | (repeat' first | exact HSub.nil _ | exact HSub.refl _ | refine HSub.at 0 rfl ?_ | refine HSub.at 1 rfl ?_ | refine HSub.at 2 rfl ?_ | refine HSub.at 3 rfl ?_ | refine HSub.at 4 rfl ?_ | refine HSub.at 5 rfl ?_ | refine HSub.at 6 rfl ?_ | refine HSub.at 7 rfl ?_))) (fun z hz => ?_)
  clear hO
  obtain ⟨i, N⟩ := z
  obtain ⟨hi, hO⟩ := hz
  dsimp only at hi hO ⊢
  by_cases hii : i < m.r
  · have q1 : i * m.c ≤ 40000 := Nat.mul_le_mul (show i ≤ 200 by omega) hbc
    have q2 : i * n.c ≤ 40000 := Nat.mul_le_mul (show i ≤ 200 by omega) hbc'
    (repeat' (first | refine JC.seq ?_ | refine JC.ops ?_ | refine JO.nil ?_ | refine JX.thenN ?_ | (apply r_move; (iterate 3 exact rfl)) | (apply r_fieldAddr; (iterate 3 exact rfl)) | (apply r_assign; (iterate 3 exact rfl)) | (apply r_load; (iterate 4 exact rfl); exact at3; exact rfl) | (apply r_lss; (iterate 4 exact rfl); all_goals intro hc; all_goals try (exfalso; omega)) | refine JC.skip ?_ | refine JC.condT rfl ?_ | refine JC.block ?_))
    refine JC.loopH (ι := Nat × SHeap) ⟨fun z => [(10, nv z.1), (9, nv i), (2, .pointer (some ⟨b2, 0, none⟩)), (3, .pointer (some ⟨b3, 0, none⟩)), (4, .pointer (some ⟨b4, 0, none⟩)), (8, .pointer (some ⟨b8, 0, none⟩))],
      fun z => [(b8, .cells #[nv m.r, nv n.c, .slice Ao (m.r * n.c) co] 36), (b4, .cells #[iv 0, iv 0, .slice none 0 0] 36), (b3, .cells #[nv n.r, nv n.c, E'] 36), (b2, .cells #[nv m.r, nv m.c, E] 36)] ++ (z.2 ++ []),
      fun z => z.1 ≤ m.c ∧ OwnZ z.2 (.slice Ao (m.r * n.c) co) (m.r * n.c) (muS m n (List.range i) i (List.range z.1) 0 0), fun z => m.c - z.1⟩ (0, N) ⟨by omega, by rw [show List.range 0 = [] from rfl, muS_start]; exact hO⟩ (by repeat first | exact trivial | refine ⟨rfl, ?_⟩) (HSub.refl _) (fun z hz => ?_)
    clear hO
    obtain ⟨k, N⟩ := z
    obtain ⟨hk, hO⟩ := hz
    dsimp only at hk hO ⊢
    by_cases hkk : k < m.c
    · have hik := zx_lt hii hkk
      have q3 : k * n.c ≤ 40000 := Nat.mul_le_mul (show k ≤ 200 by omega) hbc'
      (repeat' (first | refine JC.seq ?_ | refine JC.ops ?_ | refine JO.nil ?_ | refine JX.thenN ?_ | (apply r_move; (iterate 3 exact rfl)) | (apply r_fieldAddr; (iterate 3 exact rfl)) | (apply r_assign; (iterate 3 exact rfl)) | (apply r_load; (iterate 4 exact rfl); (first | exact at0 | exact at3); exact rfl) | (apply r_idxZ; (iterate 4 exact rfl); (first | assumption | exact WZ.rd (by assumption) rfl [] | exact OwnZ.rd (by assumption)); (first | assumption | omega)) | (apply r_ldZ; (iterate 4 exact rfl); (first | assumption | exact WZ.rd (by assumption) rfl [] | exact OwnZ.rd (by assumption)); (repeat' first | exact HSub.nil _ | exact HSub.hd | exact HSub.in0 | exact HSub.refl _ | refine HSub.skip ?_ | refine HSub.skipN ?_); (first | assumption | omega)) | (apply r_addN; (iterate 4 exact rfl); omega) | (apply r_mulN; (iterate 4 exact rfl); (first | assumption | omega)) | (apply r_storeN; exact rfl; (first | exact trivial | exact ⟨rfl, rfl⟩); exact rfl; exact rfl; (first | exact at0 | exact at3); (iterate 3 exact rfl)) | (apply r_lss; (iterate 4 exact rfl); all_goals intro hc; all_goals try (exfalso; omega)) | (apply r_allocZ; (iterate 3 exact rfl); intro _) | (apply r_storeN; exact rfl; (first | exact trivial | exact ⟨rfl, rfl⟩); exact rfl; exact rfl; (first | exact at0 | exact at3); (iterate 3 exact rfl)) | refine JC.skip ?_ | refine JC.condT rfl ?_ | refine JC.block ?_))
      rename_i b11
      refine JC.loopH (ι := Nat × SHeap) ⟨fun z => [(12, nv z.1), (11, .pointer (some ⟨b11, 0, none⟩)), (10, nv k), (9, nv i), (2, .pointer (some ⟨b2, 0, none⟩)), (3, .pointer (some ⟨b3, 0, none⟩)), (4, .pointer (some ⟨b4, 0, none⟩)), (8, .pointer (some ⟨b8, 0, none⟩))],
        fun z => [(b11, .cells (wc (m.at i k)) 56), (b8, .cells #[nv m.r, nv n.c, .slice Ao (m.r * n.c) co] 36), (b4, .cells #[iv 0, iv 0, .slice none 0 0] 36), (b3, .cells #[nv n.r, nv n.c, E'] 36), (b2, .cells #[nv m.r, nv m.c, E] 36)] ++ (z.2 ++ []),
        fun z => z.1 ≤ n.c ∧ (m.at i k = 0 → z.1 = 0) ∧ OwnZ z.2 (.slice Ao (m.r * n.c) co) (m.r * n.c) (muS m n (List.range i) i (List.range k) k z.1), fun z => n.c - z.1⟩ (0, N) ⟨by omega, fun _ => rfl, by rw [muS_k m n (List.range i) i (List.range k) k 0]; exact hO⟩ (by repeat first | exact trivial | refine ⟨rfl, ?_⟩) (HSub.refl _) (fun z hz => ?_)
      clear hO
      obtain ⟨j, N⟩ := z
      obtain ⟨hj, hjz, hO⟩ := hz
      dsimp only at hj hjz hO ⊢
      by_cases hjj : j < n.c
      · have hkj := zx_lt (show k < n.r by omega) hjj
        have hij := zx_lt hii hjj
        (repeat' (first | refine JC.seq ?_ | refine JC.ops ?_ | refine JO.nil ?_ | refine JX.thenN ?_ | (apply r_move; (iterate 3 exact rfl)) | (apply r_fieldAddr; (iterate 3 exact rfl)) | (apply r_load; (iterate 4 exact rfl); (first | exact at0 | exact at3); exact rfl) | (apply r_pickT; (iterate 4 exact rfl)) | (apply r_neS; (iterate 4 exact rfl)) | (apply r_lss; (iterate 4 exact rfl); all_goals intro hc; all_goals try (exfalso; omega))))
        by_cases hz : m.at i k = 0
        · rw [show decide (magU (m.at i k).natAbs ≠ []) = false from decide_eq_false (fun h => h (magU_nil.2 (by omega)))]
          (repeat' (first | refine JC.ops ?_ | refine JO.nil ?_ | refine JX.thenN ?_ | (apply r_move; (iterate 3 exact rfl)) | (apply r_assign; (iterate 3 exact rfl)) | (apply r_add1; (iterate 4 exact rfl); omega) | refine JX.thenE ?_ | refine JC.exit ?_ | refine JC.condF rfl ?_ | refine JX.blockN ?_ | refine JX.blockE ?_))
          have hj0 : j = 0 := hjz hz
          subst hj0
          rw [muS_k m n (List.range i) i (List.range k) k 0, muS_jump hz, ← List.range_succ] at hO
          exact JX.roundH (k + 1, N) ⟨by dsimp only; omega, hO⟩ (by dsimp only; omega) (by repeat first | exact trivial | refine ⟨rfl, ?_⟩) (HSub.skip (HSub.refl _))
        · rw [show decide (magU (m.at i k).natAbs ≠ []) = true from decide_eq_true (fun h => hz (by have := magU_nil.1 h; omega))]
          (repeat' (first | refine JC.seq ?_ | refine JC.ops ?_ | refine JO.nil ?_ | refine JX.thenN ?_ | (apply r_move; (iterate 3 exact rfl)) | (apply r_fieldAddr; (iterate 3 exact rfl)) | (apply r_load; (iterate 4 exact rfl); (first | exact at0 | exact at3); exact rfl) | (apply r_idxZ; (iterate 4 exact rfl); (first | assumption | exact WZ.rd (by assumption) rfl [] | exact OwnZ.rd (by assumption)); (first | assumption | omega)) | (apply r_ldZ; (iterate 4 exact rfl); (first | assumption | exact WZ.rd (by assumption) rfl [] | exact OwnZ.rd (by assumption)); (repeat' first | exact HSub.nil _ | exact HSub.hd | exact HSub.in0 | exact HSub.refl _ | refine HSub.skip ?_ | refine HSub.skipN ?_); (first | assumption | omega)) | (apply r_addN; (iterate 4 exact rfl); omega) | (apply r_mulN; (iterate 4 exact rfl); (first | assumption | omega)) | (apply r_storeN; exact rfl; (first | exact trivial | exact ⟨rfl, rfl⟩); exact rfl; exact rfl; (first | exact at0 | exact at3); (iterate 3 exact rfl)) | (apply r_neS; (iterate 4 exact rfl)) | (apply r_allocZ; (iterate 3 exact rfl); intro _) | (apply r_storeN; exact rfl; (first | exact trivial | exact ⟨rfl, rfl⟩); exact rfl; exact rfl; (first | exact at0 | exact at3); (iterate 3 exact rfl)) | refine JC.skip ?_ | refine JC.condT rfl ?_ | refine JC.block ?_))
          rename_i b13
          by_cases hz2 : n.at k j = 0
          · rw [show decide (magU (n.e.getD (k * n.c + j) 0).natAbs ≠ []) = false from decide_eq_false (fun h => h (magU_nil.2 (by have : n.e.getD (k * n.c + j) 0 = 0 := hz2; omega)))]
            (repeat' (first | refine JC.ops ?_ | refine JO.nil ?_ | refine JX.thenN ?_ | (apply r_move; (iterate 3 exact rfl)) | (apply r_assign; (iterate 3 exact rfl)) | (apply r_add1; (iterate 4 exact rfl); omega) | refine JC.skip ?_ | refine JC.condF rfl ?_ | refine JX.blockN ?_))
            rw [muS_skip (by rw [hz2, Int.mul_zero])] at hO
            exact JX.roundH (j + 1, N) ⟨by dsimp only; omega, fun h => absurd h hz, hO⟩ (by dsimp only; omega) (by repeat first | exact trivial | refine ⟨rfl, ?_⟩) (HSub.skip (HSub.refl _))
          · rw [show decide (magU (n.e.getD (k * n.c + j) 0).natAbs ≠ []) = true from decide_eq_true (fun h => hz2 (by have := magU_nil.1 h; show n.e.getD (k * n.c + j) 0 = 0; omega))]
            (repeat' (first | refine JC.seq ?_ | refine JC.ops ?_ | refine JC.opsD ?_ | refine JO.nil ?_ | refine JX.thenN ?_ | (apply r_move; (iterate 3 exact rfl)) | (apply r_fieldAddr; (iterate 3 exact rfl)) | (apply r_assign; (iterate 3 exact rfl)) | (apply r_load; (iterate 4 exact rfl); (first | exact at0 | exact at1 | exact at2 | exact at4); exact rfl) | (apply r_loadN; (iterate 4 exact rfl); (first | exact at0 | exact at1 | exact at2 | exact at4); exact rfl) | (apply r_idxZ; (iterate 4 exact rfl); (first | assumption | exact WZ.rd (by assumption) rfl [] | exact OwnZ.rd (by assumption)); (first | assumption | omega)) | (apply r_ldZ; (iterate 4 exact rfl); (first | assumption | exact WZ.rd (by assumption) rfl [] | exact OwnZ.rd (by assumption)); (repeat' first | exact HSub.nil _ | exact HSub.hd | exact HSub.in0 | exact HSub.refl _ | refine HSub.skip ?_ | refine HSub.skipN ?_); (first | assumption | omega)) | (apply r_addN; (iterate 4 exact rfl); omega) | (apply r_mulN; (iterate 4 exact rfl); (first | assumption | omega)) | refine JC.condT rfl ?_))
            refine r_call0 (by first | trivial | exact ⟨rfl, rfl⟩) rfl rfl rfl (fun w _ _ => c_MulR w _ _ (m.at i k) (n.at k j) (K + L) (IsZ.can (bd_up (hx.at i k) (by omega))) (IsZ.can (bd_up (hy.at k j) (by omega))) (by omega)) fun w v w' _ _ _ hR => ?_
            subst hR
            skip
            have es : (muS m n (List.range i) i (List.range k) k j).getD (i * n.c + j) 0 = muF m n (List.range i) i (List.range k) k j i j := enz_tbz hii hjj
            refine r_call0 (by first | trivial | exact ⟨rfl, rfl⟩) rfl rfl rfl (fun w _ _ => c_AddR w _ _ ((muS m n (List.range i) i (List.range k) k j).getD (i * n.c + j) 0) (m.at i k * n.at k j) (K + L + 2) (IsZ.can (by rw [es]; exact muF_bd hbc hx hy (by simp; omega) (by simp; omega))) (IsZ.can (bd_up (mul_bd (hx.at i k) (hy.at k j)) (by omega))) (by omega)) fun w v w' _ _ _ hR => ?_
            subst hR
            (repeat' (first | (apply r_idxZ; (iterate 4 exact rfl); (first | assumption | exact WZ.rd (by assumption) rfl [] | exact OwnZ.rd (by assumption)); (first | assumption | omega))))
            refine r_stZ (A := [_, _, _, _, _, _]) hO rfl rfl (by first | trivial | exact ⟨rfl, rfl⟩) rfl rfl hij (fun N' hO' => ?_)
            rw [show (muS m n (List.range i) i (List.range k) k j).getD (i * n.c + j) 0 = enz n.c (muS m n (List.range i) i (List.range k) k j) i j from rfl, muS_set hii hjj] at hO'
            (repeat' (first | refine JC.ops ?_ | refine JO.nil ?_ | refine JX.thenN ?_ | (apply r_move; (iterate 3 exact rfl)) | (apply r_assign; (iterate 3 exact rfl)) | (apply r_add1; (iterate 4 exact rfl); omega) | refine JX.blockN ?_))
            exact JX.roundH (j + 1, N') ⟨by dsimp only; omega, fun h => absurd h hz, hO'⟩ (by dsimp only; omega) (by repeat first | exact trivial | refine ⟨rfl, ?_⟩) (HSub.skip (HSub.refl _))
      · (repeat' (first | refine JC.seq ?_ | refine JC.ops ?_ | refine JO.nil ?_ | refine JX.thenN ?_ | (apply r_move; (iterate 3 exact rfl)) | (apply r_fieldAddr; (iterate 3 exact rfl)) | (apply r_assign; (iterate 3 exact rfl)) | (apply r_load; (iterate 4 exact rfl); exact at3; exact rfl) | (apply r_add1; (iterate 4 exact rfl); omega) | (apply r_pickF; (iterate 4 exact rfl)) | (apply r_lss; (iterate 4 exact rfl); all_goals intro hc; all_goals try (exfalso; omega)) | refine JX.thenE ?_ | refine JC.exit ?_ | refine JC.condF rfl ?_ | refine JX.blockN ?_ | refine JX.blockE ?_ | (apply r_skip; exact rfl; exact rfl; (first | (intro h; cases h; done) | (intro _; rfl)))))
        obtain rfl : j = n.c := by omega
        rw [muS_next, ← List.range_succ] at hO
        exact JX.roundH (k + 1, N) ⟨by dsimp only; omega, hO⟩ (by dsimp only; omega) (by repeat first | exact trivial | refine ⟨rfl, ?_⟩) (HSub.skip (HSub.refl _))
    · (repeat' (first | refine JC.seq ?_ | refine JC.ops ?_ | refine JO.nil ?_ | refine JX.thenN ?_ | (apply r_move; (iterate 3 exact rfl)) | (apply r_fieldAddr; (iterate 3 exact rfl)) | (apply r_assign; (iterate 3 exact rfl)) | (apply r_load; (iterate 4 exact rfl); exact at3; exact rfl) | (apply r_add1; (iterate 4 exact rfl); omega) | (apply r_lss; (iterate 4 exact rfl); all_goals intro hc; all_goals try (exfalso; omega)) | refine JX.thenE ?_ | refine JC.exit ?_ | refine JC.condF rfl ?_ | refine JX.blockN ?_ | refine JX.blockE ?_))
      obtain rfl : k = m.c := by omega
      rw [muS_row, ← List.range_succ] at hO
      exact JX.roundH (i + 1, N) ⟨by dsimp only; omega, hO⟩ (by dsimp only; omega) (by repeat first | exact trivial | refine ⟨rfl, ?_⟩) (HSub.refl _)
  · (repeat' (first | refine JC.seq ?_ | refine JC.ops ?_ | refine JO.nil ?_ | refine JX.thenN ?_ | (apply r_move; (iterate 3 exact rfl)) | (apply r_fieldAddr; (iterate 3 exact rfl)) | (apply r_assign; (iterate 3 exact rfl)) | (apply r_load; (iterate 4 exact rfl); (first | exact at0 | exact at1 | exact at3); exact rfl) | (apply r_loadN; (iterate 4 exact rfl); (first | exact at0 | exact at1 | exact at3); exact rfl) | (apply r_storeN; exact rfl; (first | exact trivial | exact ⟨rfl, rfl⟩); exact rfl; exact rfl; (first | exact at0 | exact at1 | exact at3); (iterate 3 exact rfl)) | (apply r_lss; (iterate 4 exact rfl); all_goals intro hc; all_goals try (exfalso; omega)) | (apply r_storeN; exact rfl; (first | exact trivial | exact ⟨rfl, rfl⟩); exact rfl; exact rfl; (first | exact at0 | exact at1 | exact at3); (iterate 3 exact rfl)) | refine JX.thenE ?_ | refine JC.exit ?_ | refine JC.ret ?_ | refine JC.condF rfl ?_ | refine JX.blockE ?_))
    obtain rfl : i = m.r := by omega
    rw [muE_end] at hO
    exact JX.retCT 1 rfl rfl rfl rfl (fun a w' st => ⟨st.kp, N, _, rfl, st.newOf rfl (by (repeat' first | exact HSub.nil _ | exact HSub.hd | exact HSub.in0 | exact HSub.refl _ | refine HSub.skip ?_ | refine HSub.skipN ?_)), OwnM.mk' hO⟩)


def xval (x : WR) : Int := sgn x.1 (bval (bts x.2))
theorem xval_wz (z : Int) : xval (wz z) = z := by unfold xval wz; dsimp only; rw [bval_magU, sgn_self]
theorem IsZ.x {x : WR} {k : Nat} (h : x.2.length ≤ k) : IsZ (xv x) (xval x) k := ⟨x.1, x.2, rfl, h, rfl⟩

def resL (p : Nat) (E : List WR) : List Nat := tab E.length fun i => md (xval (E.getD i w0x)) p
def resN (p r c : Nat) (E : List WR) : NM := ⟨p, r, c, resL p E⟩
def Res (p : Int) (a : XM) (o : FM) : Prop := ((Fits p a.R a.C ∧ (a.E.length : Int) = a.R * a.C) → o = (resN p.toNat a.R.toNat a.C.toNat a.E).fm) ∧ (¬ (Fits p a.R a.C ∧ (a.E.length : Int) = a.R * a.C) → o = zeroF)
theorem Res.uniq {p : Int} {a : XM} {o o' : FM} (h : Res p a o) (h' : Res p a o') : o = o' := by
  by_cases q : Fits p a.R a.C ∧ (a.E.length : Int) = a.R * a.C
  · rw [h.1 q, h'.1 q]
  · rw [h.2 q, h'.2 q]
def resZ (p : Nat) (m : ZM) : NM := ⟨p, m.r, m.c, tab2 m.r m.c fun i j => md (m.at i j) p⟩
theorem resZ_rt {p : Nat} {m : ZM} (hp : Pr p) (hm : RtZ m) : Rt (resZ p m) :=
  ⟨hp, Nat.le_trans hm.r (by decide), Nat.le_trans hm.c (by decide), by simp [resZ], tab2_lt (r := m.r) (c := m.c) (p := p) (g := fun i j => md (m.at i j) p) fun i j _ _ => md_lt _ (by have := hp.1; omega)⟩
theorem resN_z {p : Nat} {m : ZM} (hm : RtZ m) : resN p m.r m.c m.xm.E = resZ p m := by
  have hl : m.xm.E.length = m.r * m.c := by show (m.e.map wz).length = _; rw [List.length_map, hm.len]
  unfold resN resZ resL tab2
  rw [hl]
  congr 1
  refine tab_congr fun k hk => ?_
  obtain ⟨h1, h2, h3⟩ := idx_split hk
  have e : m.xm.E.getD k w0x = wz (m.e.getD k 0) := by
    show (m.e.map wz).getD k w0x = _
    have hk' : k < m.e.length := by rw [hm.len]; exact hk
    rw [List.getD, List.getElem?_map, List.getD, List.getElem?_eq_getElem hk']
    rfl
  rw [e, xval_wz]
  show md (m.e.getD k 0) p = md (m.e.getD (k / m.c * m.c + k % m.c) 0) p
  rw [← h3]
theorem Res.z {p : Nat} {m : ZM} {o : FM} (hp : Pr p) (hm : RtZ m) (h : Res p m.xm o) : o = (resZ p m).fm := by
  have hl : (m.xm.E.length : Int) = m.xm.R * m.xm.C := by
    show ((m.e.map wz).length : Int) = (m.r : Int) * (m.c : Int)
    rw [List.length_map, hm.len]; exact Int.natCast_mul _ _
  rw [h.1 ⟨⟨p, m.r, m.c, rfl, rfl, rfl, hp, Nat.le_trans hm.r (by decide), Nat.le_trans hm.c (by decide)⟩, hl⟩]
  show (resN p m.r m.c m.xm.E).fm = _
  rw [resN_z hm]

theorem sum_md {p : Nat} {h : Nat → Nat} {f : Nat → Int} : ∀ {n : Nat}, (∀ t, t < n → ((h t : Nat) : Int) % (p : Int) = f t % (p : Int)) → ((sumTo n h : Nat) : Int) % (p : Int) = smI n f % (p : Int)
  | 0, _ => rfl
  | n + 1, e => by
    rw [sumTo, smI, Int.natCast_add, Int.add_emod, sum_md (fun t ht => e t (by omega)), e n (by omega), ← Int.add_emod]
theorem md_mod {p x : Nat} {z : Int} (h : ((x : Nat) : Int) % (p : Int) = z % (p : Int)) : x % p = md z p := by
  unfold md; omega
theorem md_cast (z : Int) {p : Nat} (hp : 0 < p) : ((md z p : Nat) : Int) % (p : Int) = z % (p : Int) := by
  rw [md_eq z hp, Int.emod_emod]
theorem res_mul {p : Nat} {a b : ZM} (hp : 0 < p) (hc : a.c = b.r) : mulM (resZ p a) (resZ p b) = resZ p (mulZ a b) := by
  unfold mulM resZ
  dsimp only
  have e1 : (mulZ a b).r = a.r := rfl
  have e2 : (mulZ a b).c = b.c := rfl
  rw [e1, e2]
  congr 1
  refine tab2_congr fun i j hi hj => ?_
  rw [show (mulZ a b).at i j = mmI a.c a.at b.at i j from zof_at hi hj]
  unfold dot
  dsimp only
  refine md_mod (sum_md fun t ht => ?_)
  rw [ent_tab2 hi ht, ent_tab2 (by omega) hj, Int.natCast_mul, Int.mul_emod, md_cast _ hp, md_cast _ hp, ← Int.mul_emod]
theorem res_add {p : Nat} {a b : ZM} (hp : 0 < p) (hr : a.r = b.r) (hc : a.c = b.c) : addM (resZ p a) (resZ p b) = resZ p (addZ a b) := by
  unfold addM resZ
  dsimp only
  have e1 : (addZ a b).r = a.r := rfl
  have e2 : (addZ a b).c = a.c := rfl
  rw [e1, e2, ← hr, ← hc]
  congr 1
  refine tab_congr fun k hk => ?_
  obtain ⟨hi, hj, h3⟩ := idx_split hk
  show _ = md ((addZ a b).at (k / a.c) (k % a.c)) p
  rw [show (addZ a b).at (k / a.c) (k % a.c) = a.at (k / a.c) (k % a.c) + b.at (k / a.c) (k % a.c) from zof_at hi hj]
  unfold tab2
  rw [tab_getD hk, tab_getD hk]
  refine md_mod ?_
  rw [Int.natCast_add, Int.add_emod, md_cast _ hp, md_cast _ hp, ← Int.add_emod]
theorem res_mulO {p : Nat} {a b : ZM} (hp : Pr p) (ha : RtZ a) (hb : RtZ b) (hc : a.c = b.r) : lift2 mulO (resZ p a).fm (resZ p b).fm = some (resZ p (mulZ a b)) := by
  rw [lift2_fm (resZ_rt hp ha) (resZ_rt hp hb)]
  unfold mulO
  rw [if_pos ⟨rfl, hc⟩, res_mul (by have := hp.1; omega) hc]
theorem res_addO {p : Nat} {a b : ZM} (hp : Pr p) (ha : RtZ a) (hb : RtZ b) (hr : a.r = b.r) (hc : a.c = b.c) : lift2 addO (resZ p a).fm (resZ p b).fm = some (resZ p (addZ a b)) := by
  rw [lift2_fm (resZ_rt hp ha) (resZ_rt hp hb)]
  unfold addO
  rw [if_pos ⟨rfl, hr, hc⟩, res_add (by have := hp.1; omega) hr hc]

end Go.Proofs.YtdoogoglfbohaaaDoor

