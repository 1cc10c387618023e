import Derived.Test.YtdlmnloikakjpaaGreatDoorMf
import Derived.KernelRfl
import Derived.Test.YtdlmnloikakjpaaGreatDoorRows
import Derived.WalkKit
import Derived.ProofKit
import Derived.OpenShut
import Derived.ShutString
import Derived.ChangeOld
import Derived.Below
import Derived.Lib.SmallJoins
import Derived.SizedLaws
namespace Go.Proofs.YtdlmnloikakjpaaGreatDoor
open Go Go.RowKit
set_option linter.unusedSimpArgs false
set_option linter.unusedVariables false
set_option linter.unusedSectionVars false

abbrev WR := Bool × List UInt8
def xc (x : WR) : List Value := [.bool x.1, sv x.2]
abbrev xv (x : WR) : Value := wv x.1 x.2
def xcs (xs : List WR) : List Value := xs.flatMap xc
def wz (z : Int) : WR := (decide (z < 0), magU z.natAbs)
abbrev w0x : WR := (false, [])

theorem wz_zero : wz 0 = w0x := by
 unfold wz
 rw [show magU (0 : Int).natAbs = [] from Q5d.2 rfl]
 rfl

theorem Q6m : ∀ (xs : List WR), (xcs xs).length = xs.length * 2
 | [] => rfl
 | x :: r => by
  show (xc x ++ xcs r).length = _
  rw [List.length_append, Q6m r, List.length_cons]
  show 2 + r.length * 2 = _
  omega
theorem Q5z (x : WR) (r : List WR) : xcs (x :: r) = .bool x.1 :: sv x.2 :: xcs r := rfl
theorem Q6n (a b : List WR) : xcs (a ++ b) = xcs a ++ xcs b := by simp [xcs]
theorem Q9u : ∀ {xs : List WR} {i : Nat}, i < xs.length → (xcs xs)[i * 2]? = some (.bool (xs.getD i w0x).1) ∧ (xcs xs)[i * 2 + 1]? = some (sv (xs.getD i w0x).2)
 | [], i, h => absurd h (Nat.not_lt_zero _)
 | x :: r, 0, _ => ⟨rfl, rfl⟩
 | x :: r, i + 1, h => by
  have h' := Q9u (xs := r) (i := i) (by simpa using h)
  rw [Q5z, show (i + 1) * 2 = i * 2 + 1 + 1 by omega]
  simpa using h'
theorem Qf0 : ∀ {xs : List WR} {i : Nat} {x : WR}, i < xs.length → ((xcs xs).set (i * 2) (.bool x.1)).set (i * 2 + 1) (sv x.2) = xcs (xs.set i x)
 | [], i, _, h => absurd h (Nat.not_lt_zero _)
 | y :: r, 0, x, _ => rfl
 | y :: r, i + 1, x, h => by
  have h' := Qf0 (xs := r) (i := i) (x := x) (by simpa using h)
  rw [Q5z, show (i + 1) * 2 = i * 2 + 1 + 1 by omega]
  simp only [List.set_cons_succ]
  rw [h']
  rfl
theorem Q7i : ∀ {xs : List WR} {i : Nat}, (xcs xs).drop (i * 2) = xcs (xs.drop i)
 | xs, 0 => rfl
 | [], i + 1 => by simp [xcs]
 | x :: r, i + 1 => by
  rw [Q5z, show (i + 1) * 2 = i * 2 + 1 + 1 by omega]
  simp only [List.drop_succ_cons]
  exact Q7i
theorem Q7h : ∀ {xs : List WR} {i : Nat}, (xcs xs).take (i * 2) = xcs (xs.take i)
 | xs, 0 => by simp [xcs]
 | [], i + 1 => by simp [xcs]
 | x :: r, i + 1 => by
  rw [Q5z, show (i + 1) * 2 = i * 2 + 1 + 1 by omega]
  simp only [List.take_succ_cons]
  rw [Q7h]
  rfl
theorem Qc9 : ∀ {xs : List WR}, ∀ u ∈ xcs xs, u.oneCell' = true
 | [], u, h => nomatch h
 | x :: r, u, h => by
  rw [Q5z] at h
  rcases List.mem_cons.1 h with rfl | h
  ·rfl
  ·rcases List.mem_cons.1 h with rfl | h
   ·rfl
   ·exact Qc9 u h

def WX (w : World) (v : Value) (n : Nat) (xs : List WR) : Prop := RdW w 2 v n (xcs xs)
def RdX (c : Cx) (N : SHeap) (v : Value) (n : Nat) (xs : List WR) : Prop := Rd c N 2 v n (xcs xs)
def OwnX (N : SHeap) (v : Value) (n : Nat) (xs : List WR) : Prop := OwnRow 34 2 N v n (xcs xs)
theorem WX.len {w : World} {v : Value} {n : Nat} {xs : List WR} (h : WX w v n xs) : xs.length = n := by have := h.1; rw [Q6m] at this; omega
theorem RdX.len {c : Cx} {N : SHeap} {v : Value} {n : Nat} {xs : List WR} (h : RdX c N v n xs) : xs.length = n := by have := h.1; rw [Q6m] at this; omega
theorem OwnX.len {N : SHeap} {v : Value} {n : Nat} {xs : List WR} (h : OwnX N v n xs) : xs.length = n := by have := h.1; rw [Q6m] at this; omega
theorem WX.mono {w w' : World} {v : Value} {n : Nat} {xs : List WR} (h : WX w v n xs) (hk : Kp [] w w') : WX w' v n xs := RdW.mono h hk
theorem WX.rd {c : Cx} {v : Value} {n : Nat} {xs : List WR} (h : WX c.w0 v n xs) (hM : c.M = []) (N : SHeap) : RdX c N v n xs := RdW.rd h hM N
theorem Qoa {c : Cx} {v : Value} {n : Nat} {xs : List WR} (h : WX c.w0 v n xs) (hM : 0 < n → (vAt v 0).block ∉ c.M) (N : SHeap) : RdX c N v n xs := Qmm h hM N
theorem RdX.at {c : Cx} {N H : SHeap} {w : World} {v : Value} {n : Nat} {xs : List WR} (h : RdX c N v n xs) (hk : Kp c.M c.w0 w) (hs : Hsat H w) (hN : HSub N H) : WX w v n xs := Rd.at h hk hs hN
theorem OwnX.rd {c : Cx} {N : SHeap} {v : Value} {n : Nat} {xs : List WR} (h : OwnX N v n xs) : RdX c N v n xs := OwnRow.rd h
theorem OwnX.new {N : SHeap} {v : Value} {n : Nat} {xs : List WR} {w w' : World} (h : OwnX N v n xs) (hn : New N w w') : WX w' v n xs := New.rd (c := ⟨Tryz.prog, 0, w, [], by simp⟩) h hn
theorem OwnX.form {N : SHeap} {v : Value} {n : Nat} {xs : List WR} (h : OwnX N v n xs) : ∃ A cap, v = .slice A n cap := by
 obtain ⟨_, ⟨rfl, rfl, rfl⟩ | ⟨b, cap, cur, rfl, _⟩⟩ := h
 ·exact ⟨_, _, rfl⟩
 ·exact ⟨_, _, rfl⟩
theorem WX.form {w : World} {v : Value} {n : Nat} {xs : List WR} (h : WX w v n xs) : ∃ A cap, v = .slice A n cap := by
 obtain ⟨_, A, cap, rfl, _⟩ := h
 exact ⟨_, _, rfl⟩
theorem RdX.form {c : Cx} {N : SHeap} {v : Value} {n : Nat} {xs : List WR} (h : RdX c N v n xs) : ∃ A cap, v = .slice A n cap := by
 obtain ⟨_, A, cap, rfl, _⟩ := h
 exact ⟨_, _, rfl⟩
theorem OwnX.nil : OwnX [] (.slice none 0 0) 0 [] := OwnRow.nil _ 2
theorem OwnX.cells {N : SHeap} {v : Value} {n : Nat} {xs : List WR} (h : OwnX N v n xs) : Cells N := OwnRow.cells' h

def WZ (w : World) (v : Value) (n : Nat) (zs : List Int) : Prop := WX w v n (zs.map wz)
def RdZ (c : Cx) (N : SHeap) (v : Value) (n : Nat) (zs : List Int) : Prop := RdX c N v n (zs.map wz)
def OwnZ (N : SHeap) (v : Value) (n : Nat) (zs : List Int) : Prop := OwnX N v n (zs.map wz)
theorem WZ.len {w : World} {v : Value} {n : Nat} {xs : List Int} (h : WZ w v n xs) : xs.length = n := by simpa using WX.len h
theorem RdZ.len {c : Cx} {N : SHeap} {v : Value} {n : Nat} {xs : List Int} (h : RdZ c N v n xs) : xs.length = n := by simpa using RdX.len h
theorem OwnZ.len {N : SHeap} {v : Value} {n : Nat} {xs : List Int} (h : OwnZ N v n xs) : xs.length = n := by simpa using OwnX.len h
theorem WZ.mono {w w' : World} {v : Value} {n : Nat} {xs : List Int} (h : WZ w v n xs) (hk : Kp [] w w') : WZ w' v n xs := WX.mono h hk
theorem WZ.rd {c : Cx} {v : Value} {n : Nat} {xs : List Int} (h : WZ c.w0 v n xs) (hM : c.M = []) (N : SHeap) : RdZ c N v n xs := WX.rd h hM N
theorem Qkc {c : Cx} {v : Value} {n : Nat} {xs : List Int} (h : WZ c.w0 v n xs) (hM : 0 < n → (vAt v 0).block ∉ c.M) (N : SHeap) : RdZ c N v n xs := Qoa h hM N
theorem RdZ.at {c : Cx} {N H : SHeap} {w : World} {v : Value} {n : Nat} {xs : List Int} (h : RdZ c N v n xs) (hk : Kp c.M c.w0 w) (hs : Hsat H w) (hN : HSub N H) : WZ w v n xs := RdX.at h hk hs hN
theorem OwnZ.rd {c : Cx} {N : SHeap} {v : Value} {n : Nat} {xs : List Int} (h : OwnZ N v n xs) : RdZ c N v n xs := OwnX.rd h
theorem OwnZ.new {N : SHeap} {v : Value} {n : Nat} {xs : List Int} {w w' : World} (h : OwnZ N v n xs) (hn : New N w w') : WZ w' v n xs := OwnX.new h hn
theorem OwnZ.form {N : SHeap} {v : Value} {n : Nat} {xs : List Int} (h : OwnZ N v n xs) : ∃ A cap, v = .slice A n cap := OwnX.form h
theorem WZ.form {w : World} {v : Value} {n : Nat} {xs : List Int} (h : WZ w v n xs) : ∃ A cap, v = .slice A n cap := WX.form h
theorem RdZ.form {c : Cx} {N : SHeap} {v : Value} {n : Nat} {xs : List Int} (h : RdZ c N v n xs) : ∃ A cap, v = .slice A n cap := RdX.form h
theorem OwnZ.nil : OwnZ [] (.slice none 0 0) 0 [] := OwnX.nil
theorem OwnZ.cells {N : SHeap} {v : Value} {n : Nat} {xs : List Int} (h : OwnZ N v n xs) : Cells N := OwnX.cells h
theorem Q8c (zs : List Int) (i : Nat) : (zs.map wz).getD i w0x = wz (zs.getD i 0) := by
 simp only [List.getD, List.getElem?_map]
 cases h : zs[i]? with
 | none => exact wz_zero.symm
 | some z => rfl

theorem Qcx {e : TypeId} {N : SHeap} {n i : Nat} {v : Value} {cs : List Value} (h : OwnRow e 2 N v n cs) (hi : i < n) :
  ∃ b cap cur, v = .slice (some ⟨b, 0, none⟩) n cap ∧ N = [(b, .cells cur e (0, 0))] ∧ i * 2 + 2 ≤ cur.size ∧ (∀ u u', OwnRow e 2 [(b, .cells (storeL cur (i * 2) [u, u']) e (0, 0))] v n ((cs.set (i * 2) u).set (i * 2 + 1) u')) := by
 obtain ⟨hl, ⟨rfl, rfl, rfl⟩ | ⟨b, cap, cur, rfl, rfl, h2, h3, h4, h5⟩⟩ := h
 ·omega
 ·refine ⟨b, cap, cur, rfl, rfl, by omega, fun u u' => ⟨by simpa using hl, .inr ⟨b, cap, _, rfl, rfl, h2, h3, ?_, ?_⟩⟩⟩
  ·rw [Q5n]; exact h4
  ·rw [storeL, storeL, storeL, Array.toList_setIfInBounds, Array.toList_setIfInBounds, ← h5, List.take_set, List.take_set]

section
variable {c : Cx} {Q : Exit → Act → World → Prop} {m : Mode} {F : SFrame} {H : SHeap} {r : List SOp} {g : Option (Option Tmp × Bool)} {ns : Bool} {d : Tmp} {ty t t' : TypeId} {x y : Operand} {N : SHeap} {n : Nat} {v : Value}

theorem Q3r {e : TypeId} {xs : List WR} [TSl c.P t e] (hd : dstOk c.n (some d) = true) (hg : guardF F g = some true) (hx : ev F x = some v) (hv : RdX c N v n xs)
  (h : JO c Q m r ((d, .int .i64 n) :: F) H) : JO c Q m (⟨some d, .call ⟨.builtin .len, #[x], #[t]⟩, ty, g, .mov, ns⟩ :: r) F H := Q4t hd hg hx hv h
theorem Q4s {e : TypeId} {xs : List Int} [TSl c.P t e] (hd : dstOk c.n (some d) = true) (hg : guardF F g = some true) (hx : ev F x = some v) (hv : RdZ c N v n xs)
  (h : JO c Q m r ((d, .int .i64 n) :: F) H) : JO c Q m (⟨some d, .call ⟨.builtin .len, #[x], #[t]⟩, ty, g, .mov, ns⟩ :: r) F H := Q3r hd hg hx hv h
theorem Q4u {e : TypeId} {xs : List WR} {j : Nat} {k : IntKind} [TSl c.P t e] [TSz c.P e 2] (hd : dstOk c.n (some d) = true) (hg : guardF F g = some true) (hx : ev F x = some v) (hy : ev F y = some (.int k j)) (hv : RdX c N v n xs) (hj : j < n)
  (h : JO c Q m r ((d, .pointer (some (vAt v (j * 2)))) :: F) H) : JO c Q m (⟨some d, .indexAddr t x y, ty, g, .mov, ns⟩ :: r) F H := Qg2 hd hg hx hy hv hj h
theorem Q1m {e : TypeId} {xs : List Int} {j : Nat} {k : IntKind} [TSl c.P t e] [TSz c.P e 2] (hd : dstOk c.n (some d) = true) (hg : guardF F g = some true) (hx : ev F x = some v) (hy : ev F y = some (.int k j)) (hv : RdZ c N v n xs) (hj : j < n)
  (h : JO c Q m r ((d, .pointer (some (vAt v (j * 2)))) :: F) H) : JO c Q m (⟨some d, .indexAddr t x y, ty, g, .mov, ns⟩ :: r) F H := Qg2 hd hg hx hy hv hj h
theorem Qg1 {xs : List WR} {i : Nat} [TN c.P t 2] (hd : dstOk c.n (some d) = true) (hg : guardF F g = some true) (hx : ev F x = some (.pointer (some (vAt v (i * 2))))) (hl : m.live = true) (hv : RdX c N v n xs) (hN : HSub N (m.src H)) (hi : i < n)
  (h : JO c Q m r ((d, xv (xs.getD i w0x)) :: F) H) : JO c Q m (⟨some d, .load t x, ty, g, .ld, ns⟩ :: r) F H := by
 have hg2 := Q9u (xs := xs) (i := i) (by have := hv.len; omega)
 refine Qne hd hg hx hl hv hN (by omega) (us := #[.bool (xs.getD i w0x).1, sv (xs.getD i w0x).2]) rfl (fun j hj => ?_) h
 have hj : j < 2 := hj
 have : j = 0 ∨ j = 1 := by omega
 rcases this with rfl | rfl
 ·exact hg2.1
 ·exact hg2.2
theorem Q52 {xs : List Int} {i : Nat} [TN c.P t 2] (hd : dstOk c.n (some d) = true) (hg : guardF F g = some true) (hx : ev F x = some (.pointer (some (vAt v (i * 2))))) (hl : m.live = true) (hv : RdZ c N v n xs) (hN : HSub N (m.src H)) (hi : i < n)
  (h : JO c Q m r ((d, Wv (xs.getD i 0)) :: F) H) : JO c Q m (⟨some d, .load t x, ty, g, .ld, ns⟩ :: r) F H :=
 Qg1 hd hg hx hl hv hN hi (by rw [Q8c]; exact h)
theorem Q9e {xs : List WR} {i : Nat} [T1 c.P t] (hd : dstOk c.n (some d) = true) (hg : guardF F g = some true) (hx : ev F x = some (.pointer (some (vAt v (i * 2 + 1))))) (hl : m.live = true) (hv : RdX c N v n xs) (hN : HSub N (m.src H)) (hi : i < n)
  (h : JO c Q m r ((d, sv (xs.getD i w0x).2) :: F) H) : JO c Q m (⟨some d, .load t x, ty, g, .ld, ns⟩ :: r) F H :=
 Q7g hd hg hx hl hv hN (Q9u (by have := hv.len; omega)).2 h
theorem Qjv {xs : List WR} {i : Nat} [T1 c.P t] (hd : dstOk c.n (some d) = true) (hg : guardF F g = some true) (hx : ev F x = some (.pointer (some (vAt v (i * 2 + 0))))) (hl : m.live = true) (hv : RdX c N v n xs) (hN : HSub N (m.src H)) (hi : i < n)
  (h : JO c Q m r ((d, .bool (xs.getD i w0x).1) :: F) H) : JO c Q m (⟨some d, .load t x, ty, g, .ld, ns⟩ :: r) F H :=
 Q7g hd hg hx hl hv hN (Q9u (by have := hv.len; omega)).1 h
theorem Qig {s : TypeId} {f off i : Nat} [FA c.P s f off] {b o len cap : Nat} (hd : dstOk c.n (some d) = true) (hg : guardF F g = some true) (hx : ev F x = some (.pointer (some (vAt v i))))
  (h : JO c Q m r ((d, (.pointer (some (vAt v (i + off))))) :: F) H) (hv : v = .slice (some ⟨b, o, none⟩) len cap) : JO c Q m (⟨some d, .fieldAddr s x f, ty, g, .mov, ns⟩ :: r) F H := by
 subst hv
 exact Q06 hd hg hx (by rw [Nat.add_assoc]; exact h)
theorem Q4j {s : TypeId} {f off i : Nat} {xs : List WR} [FA c.P s f off] (hd : dstOk c.n (some d) = true) (hg : guardF F g = some true) (hx : ev F x = some (.pointer (some (vAt v i)))) (hv : RdX c N v n xs) (hn : 0 < n)
  (h : JO c Q m r ((d, (.pointer (some (vAt v (i + off))))) :: F) H) : JO c Q m (⟨some d, .fieldAddr s x f, ty, g, .mov, ns⟩ :: r) F H := by
 obtain ⟨_, A, cap, rfl, _, hv⟩ := hv
 obtain ⟨⟨b, o, rfl⟩, _⟩ := hv hn
 exact Qig hd hg hx h rfl
theorem Qky {A B : SHeap} {i : Nat} {u : WR} {xs : List WR} [TN c.P t 2] (hO : OwnX N v n xs) (hH : H = A ++ (N ++ B)) (hg : guardF F g = some true) (hm : m.mayStore ns r) (hx : ev F x = some (.pointer (some (vAt v (i * 2))))) (hy : ev F y = some (xv u))
  (hi : i < n) (h : ∀ N', OwnX N' v n (xs.set i u) → JO c Q m.spent r F (A ++ (N' ++ B))) : JO c Q m (⟨none, .store t x y, ty, g, .seq, ns⟩ :: r) F H := by
 have hl := hO.len
 obtain ⟨b, cap, cur, rfl, rfl, h1, h2⟩ := Qcx hO hi
 subst hH
 simp only [Q4b, Nat.zero_add] at hx
 refine Qa6 A.length (b := b) (o := i * 2) (cs := cur) (T := 34) (l := [.bool u.1, sv u.2]) (TN.size (P := c.P) (t := t) (n := 2)) hg hm hx hy (by simp) rfl rfl rfl h1 ?_
 have := h _ (by unfold OwnX; rw [← Qf0 (by omega)]; exact h2 (.bool u.1) (sv u.2))
 simpa using this
theorem Q5s {A B : SHeap} {i : Nat} {u : Int} {xs : List Int} [TN c.P t 2] (hO : OwnZ N v n xs) (hH : H = A ++ (N ++ B)) (hg : guardF F g = some true) (hm : m.mayStore ns r) (hx : ev F x = some (.pointer (some (vAt v (i * 2))))) (hy : ev F y = some (Wv u))
  (hi : i < n) (h : ∀ N', OwnZ N' v n (xs.set i u) → JO c Q m.spent r F (A ++ (N' ++ B))) : JO c Q m (⟨none, .store t x y, ty, g, .seq, ns⟩ :: r) F H :=
 Qky (u := wz u) hO hH hg hm hx hy hi (fun N' h' => h N' (by unfold OwnZ; rw [List.map_set]; exact h'))

theorem Qdg {e : TypeId} {l h' : Nat} {xs : List WR} {lo hi : Option Operand} {vl vh : Option Value} [TSl c.P t e] [TSz c.P e 2] (hd : dstOk c.n (some d) = true) (hg : guardF F g = some true)
  (hx : ev F x = some v) (hv : RdX c N v n xs)
  (hlo : (lo.bind (ev F)) = vl) (hlo' : lo.isSome = vl.isSome) (hl : vl = some (.int .i64 l) ∨ (vl = none ∧ l = 0)) (hhi : (hi.bind (ev F)) = vh) (hhi' : hi.isSome = vh.isSome) (hh : vh = some (.int .i64 h') ∨ (vh = none ∧ h' = n))
  (hlh : l ≤ h') (hhl : h' ≤ n)
  (h : ∀ v', RdX c N v' (h' - l) ((xs.drop l).take (h' - l)) → (∀ i, l < h' → vAt v' i = vAt v (l * 2 + i)) → JO c Q m r ((d, v') :: F) H) : JO c Q m (⟨some d, .slice t x lo hi none, ty, g, .mov, ns⟩ :: r) F H :=
 Q67 hd hg hx hv hlo hlo' hl hhi hhi' hh hlh hhl (fun v' h1 h2 => h v' (by
  unfold RdX
  rw [← Q7h, ← Q7i]
  exact h1) h2)
theorem Qa7 {e : TypeId} {l h' : Nat} {xs : List Int} {lo hi : Option Operand} {vl vh : Option Value} [TSl c.P t e] [TSz c.P e 2] (hd : dstOk c.n (some d) = true) (hg : guardF F g = some true)
  (hx : ev F x = some v) (hv : RdZ c N v n xs)
  (hlo : (lo.bind (ev F)) = vl) (hlo' : lo.isSome = vl.isSome) (hl : vl = some (.int .i64 l) ∨ (vl = none ∧ l = 0)) (hhi : (hi.bind (ev F)) = vh) (hhi' : hi.isSome = vh.isSome) (hh : vh = some (.int .i64 h') ∨ (vh = none ∧ h' = n))
  (hlh : l ≤ h') (hhl : h' ≤ n)
  (h : ∀ v', RdZ c N v' (h' - l) ((xs.drop l).take (h' - l)) → (∀ i, l < h' → vAt v' i = vAt v (l * 2 + i)) → JO c Q m r ((d, v') :: F) H) : JO c Q m (⟨some d, .slice t x lo hi none, ty, g, .mov, ns⟩ :: r) F H :=
 Qdg hd hg hx hv hlo hlo' hl hhi hhi' hh hlh hhl (fun v' h1 h2 => h v' (by
  unfold RdZ
  rw [List.map_take, List.map_drop]
  exact h1) h2)
theorem Qn7 {e : TypeId} {i k : Nat} {xs : List WR} {lo hi : Operand} [TSl c.P t e] [TSz c.P e 2] (hd : dstOk c.n (some d) = true) (hg : guardF F g = some true)
  (hx : ev F x = some v) (hv : RdX c N v n xs) (hlo : ev F lo = some (nv (i * k))) (hhi : ev F hi = some (nv ((i + 1) * k))) (hle : (i + 1) * k ≤ n)
  (h : ∀ v', RdX c N v' k ((xs.drop (i * k)).take k) → (∀ j, j < k → vAt v' (j * 2) = vAt v ((i * k + j) * 2)) → JO c Q m r ((d, v') :: F) H) : JO c Q m (⟨some d, .slice t x (some lo) (some hi) none, ty, g, .mov, ns⟩ :: r) F H := by
 have e1 : (i + 1) * k - i * k = k := by rw [Nat.add_mul]; omega
 refine Qdg (l := i * k) (h' := (i + 1) * k) hd hg hx hv hlo rfl (.inl rfl) hhi rfl (.inl rfl) (Nat.mul_le_mul_right k (by omega)) hle (fun v' h1 h2 => h v' (by rw [e1] at h1; exact h1) (fun j hj => by
  rw [h2 _ (by rw [Nat.add_mul]; omega), Nat.add_mul]))
theorem Qn6 {e : TypeId} {i k : Nat} {xs : List Int} {lo hi : Operand} [TSl c.P t e] [TSz c.P e 2] (hd : dstOk c.n (some d) = true) (hg : guardF F g = some true)
  (hx : ev F x = some v) (hv : RdZ c N v n xs) (hlo : ev F lo = some (nv (i * k))) (hhi : ev F hi = some (nv ((i + 1) * k))) (hle : (i + 1) * k ≤ n)
  (h : ∀ v', RdZ c N v' k ((xs.drop (i * k)).take k) → (∀ j, j < k → vAt v' (j * 2) = vAt v ((i * k + j) * 2)) → JO c Q m r ((d, v') :: F) H) : JO c Q m (⟨some d, .slice t x (some lo) (some hi) none, ty, g, .mov, ns⟩ :: r) F H :=
 Qn7 hd hg hx hv hlo hhi hle (fun v' h1 h2 => h v' (by unfold RdZ; rw [List.map_take, List.map_drop]; exact h1) h2)

theorem Qg6 {A B N2 : SHeap} {v2 : Value} {k : Nat} {xs ys : List WR} [TSl c.P t 34] [TE c.P 34 2 24 #[.bool false, .string ⟨#[]⟩]] (hO : OwnX N v n xs) (h2 : RdX c N2 v2 k ys) (hN2 : HSub N2 H) (hH : H = A ++ (N ++ B)) (hm : m.mayStore ns r) (hd : dstOk c.n (some d) = true) (hg : guardF F g = some true) (hx : ev F x = some v) (hy : ev F y = some v2)
  (hb : n + k ≤ 1000000000) (h : ∀ v' N', OwnX N' v' (n + k) (xs ++ ys) → JO c Q m.spent r ((d, v') :: F) (A ++ (N' ++ B))) :
  JO c Q m (⟨some d, .call ⟨.builtin .append, #[x, y], #[t, t]⟩, ty, g, .seq, ns⟩ :: r) F H :=
 Q69 (e := 34) (sz := 2) (bytes := 24) (zc := #[.bool false, .string ⟨#[]⟩]) (xs := xcs xs) (news := xcs ys) (n := n) (mm := k) rfl hO h2 hN2 hH hm hd hg hx hy (fun u hu => Qc9 u hu) (by simp only [maxLen]; omega) (by omega) (fun v' N' h' => h v' N' (by unfold OwnX; rw [Q6n]; exact h'))
theorem Q6w {A B N2 Hs : SHeap} {v2 : Value} {k : Nat} {xs ys : List WR} [TSl c.P t 34] [TE c.P 34 2 24 #[.bool false, .string ⟨#[]⟩]] (hO : OwnX N v n xs) (h2 : RdX c N2 v2 k ys) (hN2 : HSub N2 H) (hH : H = A ++ (N ++ B)) (hm : HSub Hs (A ++ B)) (hd : dstOk c.n (some d) = true) (hg : guardF F g = some true) (hx : ev F x = some v) (hy : ev F y = some v2)
  (hb : n + k ≤ 1000000000) (h : ∀ v' N', OwnX N' v' (n + k) (xs ++ ys) → JO c Q (.draw Hs true) r ((d, v') :: F) (A ++ (N' ++ B))) :
  JO c Q (.draw Hs true) (⟨some d, .call ⟨.builtin .append, #[x, y], #[t, t]⟩, ty, g, .seq, ns⟩ :: r) F H :=
 Qbo (e := 34) (sz := 2) (bytes := 24) (zc := #[.bool false, .string ⟨#[]⟩]) (xs := xcs xs) (news := xcs ys) (n := n) (mm := k) rfl hO h2 hN2 hH hm hd hg hx hy (fun u hu => Qc9 u hu) (by simp only [maxLen]; omega) (by omega) (fun v' N' h' => h v' N' (by unfold OwnX; rw [Q6n]; exact h'))
theorem Qbn {A B N2 : SHeap} {v2 : Value} {k : Nat} {xs ys : List Int} [TSl c.P t 34] [TE c.P 34 2 24 #[.bool false, .string ⟨#[]⟩]] (hO : OwnZ N v n xs) (h2 : RdZ c N2 v2 k ys) (hN2 : HSub N2 H) (hH : H = A ++ (N ++ B)) (hm : m.mayStore ns r) (hd : dstOk c.n (some d) = true) (hg : guardF F g = some true) (hx : ev F x = some v) (hy : ev F y = some v2)
  (hb : n + k ≤ 1000000000) (h : ∀ v' N', OwnZ N' v' (n + k) (xs ++ ys) → JO c Q m.spent r ((d, v') :: F) (A ++ (N' ++ B))) :
  JO c Q m (⟨some d, .call ⟨.builtin .append, #[x, y], #[t, t]⟩, ty, g, .seq, ns⟩ :: r) F H :=
 Qg6 hO h2 hN2 hH hm hd hg hx hy hb (fun v' N' h' => h v' N' (by unfold OwnZ; rw [List.map_append]; exact h'))
theorem Q39 {A B N2 Hs : SHeap} {v2 : Value} {k : Nat} {xs ys : List Int} [TSl c.P t 34] [TE c.P 34 2 24 #[.bool false, .string ⟨#[]⟩]] (hO : OwnZ N v n xs) (h2 : RdZ c N2 v2 k ys) (hN2 : HSub N2 H) (hH : H = A ++ (N ++ B)) (hm : HSub Hs (A ++ B)) (hd : dstOk c.n (some d) = true) (hg : guardF F g = some true) (hx : ev F x = some v) (hy : ev F y = some v2)
  (hb : n + k ≤ 1000000000) (h : ∀ v' N', OwnZ N' v' (n + k) (xs ++ ys) → JO c Q (.draw Hs true) r ((d, v') :: F) (A ++ (N' ++ B))) :
  JO c Q (.draw Hs true) (⟨some d, .call ⟨.builtin .append, #[x, y], #[t, t]⟩, ty, g, .seq, ns⟩ :: r) F H :=
 Q6w hO h2 hN2 hH hm hd hg hx hy hb (fun v' N' h' => h v' N' (by unfold OwnZ; rw [List.map_append]; exact h'))
end

section
variable {c : Cx} {Q : Exit → Act → World → Prop} {m : Mode} {F : SFrame} {H : SHeap} {r : List SOp} {g : Option (Option Tmp × Bool)} {ns : Bool} {d : Tmp} {ty t : TypeId} {x y : Operand}
theorem Qju {x1 x2 x3 x4 : Operand} {k : IntKind} {i1 i2 i3 i4 : Int} {ts : Array TypeId} (hd : dstOk c.n (some d) = true) (hg : guardF F g = some true) (h1 : ev F x1 = some (.int k i1)) (h2 : ev F x2 = some (.int k i2)) (h3 : ev F x3 = some (.int k i3)) (h4 : ev F x4 = some (.int k i4))
  (h : ∀ q : Int, (q = i1 ∨ q = i2 ∨ q = i3 ∨ q = i4) → q ≤ i1 ∧ q ≤ i2 ∧ q ≤ i3 ∧ q ≤ i4 → JO c Q m r ((d, (.int k q)) :: F) H) : JO c Q m (⟨some d, .call ⟨.builtin .min, #[x1, x2, x3, x4], ts⟩, ty, g, .mov, ns⟩ :: r) F H :=
 Q23 (v := .int k (if i4 < (if i3 < (if i2 < i1 then i2 else i1) then i3 else (if i2 < i1 then i2 else i1)) then i4 else (if i3 < (if i2 < i1 then i2 else i1) then i3 else (if i2 < i1 then i2 else i1)))) hd hg (fun a w fr => by
  simp [execOp, resolve, invoke, builtin, fr.ev h1, fr.ev h2, fr.ev h3, fr.ev h4, Builtin.min_, Builtin.min2]) (h _ (by split <;> split <;> split <;> simp) (by split <;> split <;> split <;> omega))
theorem Q68 {a b : Int} [TSt c.P t #[iv 0, iv 0, .slice none 0 0] #[(0, 1), (1, 1), (2, 1)]] (hd : dstOk c.n (some d) = true) (hg : guardF F g = some true) (hx : ev F x = some (iv a)) (hy : ev F y = some (iv b))
  (h : JO c Q m r ((d, .agg #[iv a, iv b, .slice none 0 0]) :: F) H) : JO c Q m (⟨some d, .build t #[(0, x), (1, y)], ty, g, .mov, ns⟩ :: r) F H :=
 Qci (l := [(0, iv a), (1, iv b)]) (cs := #[iv a, iv b, .slice none 0 0]) hd hg (by simp [evParts, hx, hy]) rfl h
end

theorem Qez : ∀ n : Nat, xcs ((tab n fun _ => (0 : Int)).map wz) = (zerosOf #[.bool false, .string ⟨#[]⟩] (n * 2)).toList
 | 0 => by simp [tab, xcs, zerosOf]
 | n + 1 => by
  have h1 : (tab (n + 1) fun _ => (0 : Int)) = tab n (fun _ => 0) ++ [0] := by simp [tab, List.range_succ]
  have h2 : ∀ k, (zerosOf #[Value.bool false, .string ⟨#[]⟩] (k * 2)).toList = (List.range (k * 2)).map fun i => #[Value.bool false, Value.string ⟨#[]⟩][i % 2]! := fun k => by
   unfold zerosOf
   rw [Array.toList_map, Array.toList_range]
   rfl
  rw [h1, List.map_append, Q6n, Qez n, h2, h2, show (n + 1) * 2 = n * 2 + 1 + 1 by omega, List.range_succ, List.range_succ, List.map_append, List.map_append, List.append_assoc]
  congr 1
  show xc (wz 0) = [#[Value.bool false, Value.string ⟨#[]⟩][(n * 2) % 2]!, #[Value.bool false, Value.string ⟨#[]⟩][(n * 2 + 1) % 2]!]
  rw [wz_zero, show (n * 2) % 2 = 0 by omega, show (n * 2 + 1) % 2 = 1 by omega]
  rfl
theorem Q6y (b n : Nat) (hn : n ≤ maxLen) : OwnZ [(b, .cells (zerosOf #[.bool false, .string ⟨#[]⟩] (n * 2)) 34)] (.slice (some ⟨b, 0, none⟩) n n) n (tab n fun _ => 0) := by
 have h := OwnRow.mk' (e := 34) (sz := 2) (n := n) (b := b) (cs := zerosOf #[.bool false, .string ⟨#[]⟩] (n * 2)) (by unfold zerosOf; simp) hn
 unfold OwnZ OwnX
 rw [Qez]
 exact h


def IsB (q : Prop) (v : Value) : Prop := ∃ b : Bool, v = .bool b ∧ (b = true ↔ q)
theorem Qb6 {q : Prop} (h : q) : IsB q (.bool true) := ⟨true, rfl, by simp [h]⟩
theorem Q2s {q : Prop} (h : ¬ q) : IsB q (.bool false) := ⟨false, rfl, by simp [h]⟩
theorem Qox {q : Prop} [Decidable q] : IsB q (.bool (decide q)) := ⟨_, rfl, by simp⟩

def badW (x : WR) : Bool := (decide (x.2 = []) && x.1) || (match x.2 with | [] => false | a :: _ => decide (a = 0))

theorem Q8x {l : List UInt8} (h : l.dropWhile (· == 0) = l) : ∀ a r, l = a :: r → a ≠ 0 := by
 rintro a r rfl rfl
 rw [List.dropWhile] at h
 simp only [BEq.rfl] at h
 have h1 : (r.dropWhile (· == 0)).length ≤ r.length := (List.dropWhile_sublist _).length_le
 rw [h, List.length_cons] at h1
 omega
theorem Qiv (n : Nat) : (magU n).dropWhile (· == 0) = magU n := by rw [Qam, Q8o]
theorem Qlp (z : Int) : badW (wz z) = false := by
 unfold badW wz
 simp only
 by_cases h : z = 0
 ·subst h
  rw [show magU (0 : Int).natAbs = [] from Q5d.2 rfl]
  rfl
 ·have h1 : magU z.natAbs ≠ [] := fun e => h (by have := Q5d.1 e; omega)
  rw [decide_eq_false h1]
  cases hm : magU z.natAbs with
  | nil => exact absurd hm h1
  | cons a r =>
   have := Q8x (Qiv z.natAbs) a r hm
   simp [this]
theorem Qlq {x : WR} (h : badW x = false) : ∃ z, x = wz z := by
 obtain ⟨p, l⟩ := x
 unfold badW at h
 simp only [Bool.or_eq_false_iff] at h
 obtain ⟨h1, h2⟩ := h
 cases l with
 | nil =>
  have hp : p = false := by simpa using h1
  subst hp
  exact ⟨0, wz_zero.symm⟩
 | cons a r =>
  have ha : a ≠ 0 := by simpa using h2
  have hf : (a :: r).dropWhile (· == 0) = a :: r := by
   rw [List.dropWhile]
   have : (a == 0) = false := by simpa using ha
   rw [this]
  rw [Qam] at hf
  have hn : bval (bts (a :: r)) ≠ 0 := fun e => by
   rw [e, Q5d.2 rfl] at hf
   cases hf
  refine ⟨sgn p (bval (bts (a :: r))), ?_⟩
  unfold wz
  rw [Qfo, Q40, hf]
  simp [hn]
theorem Qbx : ∀ {xs : List WR}, (∀ x ∈ xs, badW x = false) → ∃ zs : List Int, xs = zs.map wz
 | [], _ => ⟨[], rfl⟩
 | x :: r, h => by
  obtain ⟨z, rfl⟩ := Qlq (h x (by simp))
  obtain ⟨zs, rfl⟩ := Qbx (xs := r) (fun y hy => h y (by simp [hy]))
  exact ⟨z :: zs, rfl⟩
theorem Qms {a b : Int} (h : wz a = wz b) : a = b := by
 unfold wz at h
 simp only [Prod.mk.injEq, decide_eq_decide] at h
 have := Qao h.2
 omega
theorem Q9h : ∀ {a b : List Int}, a.map wz = b.map wz → a = b
 | [], [], _ => rfl
 | [], _ :: _, h => by cases h
 | _ :: _, [], h => by cases h
 | x :: a, y :: b, h => by
  simp only [List.map_cons, List.cons.injEq] at h
  rw [Qms h.1, Q9h h.2]

structure XM where
 R : Int
 C : Int
 E : List WR
structure ZM where
 r : Nat
 c : Nat
 e : List Int
def ZM.xm (m : ZM) : XM := ⟨m.r, m.c, m.e.map wz⟩
structure RtZ (m : ZM) : Prop where
 r : m.r ≤ 200
 c : m.c ≤ 200
 len : m.e.length = m.r * m.c
def RX (a : XM) : Prop := ∃ m, RtZ m ∧ a = m.xm
def IsX (w : World) (v : Value) (a : XM) : Prop := ∃ E, v = .agg #[iv a.R, iv a.C, E] ∧ WX w E a.E.length a.E
def IsM (w : World) (v : Value) (m : ZM) : Prop := ∃ E, v = .agg #[nv m.r, nv m.c, E] ∧ WZ w E m.e.length m.e
def OwnM (N : SHeap) (v : Value) (m : ZM) : Prop := ∃ E, v = .agg #[nv m.r, nv m.c, E] ∧ OwnZ N E m.e.length m.e
theorem IsX.mono {w w' : World} {v : Value} {a : XM} (h : IsX w v a) (hk : Kp [] w w') : IsX w' v a := by
 obtain ⟨E, rfl, h⟩ := h
 exact ⟨E, rfl, h.mono hk⟩
theorem IsM.mono {w w' : World} {v : Value} {m : ZM} (h : IsM w v m) (hk : Kp [] w w') : IsM w' v m := by
 obtain ⟨E, rfl, h⟩ := h
 exact ⟨E, rfl, h.mono hk⟩
theorem IsM.x {w : World} {v : Value} {m : ZM} (h : IsM w v m) : IsX w v m.xm := by
 obtain ⟨E, rfl, h⟩ := h
 exact ⟨E, rfl, by unfold WZ at h; simpa [ZM.xm] using h⟩
theorem OwnM.new {N : SHeap} {v : Value} {m : ZM} {w w' : World} (h : OwnM N v m) (hn : New N w w') : IsM w' v m := by
 obtain ⟨E, rfl, h⟩ := h
 exact ⟨E, rfl, h.new hn⟩
theorem OwnM.mk' {N : SHeap} {r c n : Nat} {E : Value} {e : List Int} (h : OwnZ N E n e) : OwnM N (.agg #[nv r, nv c, E]) ⟨r, c, e⟩ := ⟨E, rfl, by have := h.len; subst this; exact h⟩
def zeroM : Value := .agg #[iv 0, iv 0, .slice none 0 0]
def GivesM (m : ZM) (w : World) (v : Value) (w' : World) : Prop := ∃ N, New N w w' ∧ OwnM N v m
def GivesMB (m : ZM) (b : Bool) (w : World) (v : Value) (w' : World) : Prop := ∃ N u, v = .tuple #[u, .bool b] ∧ New N w w' ∧ OwnM N u m
def zM : ZM := ⟨0, 0, []⟩
theorem OwnM.zero : OwnM [] zeroM zM := ⟨_, rfl, OwnZ.nil⟩
theorem RtZ.le {m : ZM} (h : RtZ m) : m.e.length ≤ 40000 := by rw [h.len]; exact Nat.mul_le_mul h.r h.c
theorem RtZ.rx {m : ZM} (h : RtZ m) : RX m.xm := ⟨m, h, rfl⟩
theorem rcZ {r c : Nat} (hr : r ≤ 200) (hc : c ≤ 200) : r * c ≤ 40000 := Nat.mul_le_mul hr hc

theorem Qh9 (r c : Int) (w : World) : Calls Tryz.prog 50 #[.int .i64 r, .int .i64 c] w (Ret fun v w' => Kp [] w w' ∧ IsB (0 ≤ r ∧ r ≤ 200 ∧ 0 ≤ c ∧ c ≤ 200) v) := by
 refine Q0a [] [] (by simp) [] Tryz.func50 rfl mixed (by kernel_rfl) Tryz.ntmps50 Tryz.results50 rfl ⟨by simp, by simp⟩ (by simp) ?_
 simp only [toS, textOps, toSOp, kindAt, kindOf, odAt, sopsAt, ordOf, zipF]
 (repeat' (first | refine JC.seq ?_ | refine JC.ops ?_ | refine JO.nil ?_ | refine Q00 ?_ | (apply Q04; (iterate 3 exact rfl)) | (apply Q02; (iterate 3 exact rfl)) | (apply Ql1; (iterate 4 exact rfl)) | (apply Ql2; (iterate 4 exact rfl)) | (apply Q0n; (iterate 4 exact rfl)) | (apply Q0q; (iterate 4 exact rfl)) | (apply Qab; (iterate 4 exact rfl); all_goals intro hc; all_goals try (exfalso; omega)) | (apply Q2k; (iterate 4 exact rfl); all_goals intro hc; all_goals try (exfalso; omega)) | refine JC.ret ?_ | (apply Q10; exact rfl; exact rfl; (first | (intro h; cases h; done) | (intro _; rfl)))))
 all_goals first
  | exact Q0j rfl (fun a w st => ⟨st.kp, Qb6 (by split at * <;> omega)⟩)
  | exact Q0j rfl (fun a w st => ⟨st.kp, Q2s (by split at * <;> omega)⟩)

theorem Qlx (w : World) (x : WR) : Calls Tryz.prog 33 #[xv x] w (Ret fun v w' => Kp [] w w' ∧ v = .bool (decide (x.2 = []))) := by
 refine Q0a [] [] (by simp) [] Tryz.func33 rfl mixed (by kernel_rfl) Tryz.ntmps33 Tryz.results33 rfl ⟨by simp, by simp⟩ (by simp) ?_
 simp only [toS, textOps, toSOp, kindAt, kindOf, odAt, sopsAt, ordOf, zipF]
 (repeat' (first | refine JC.seq ?_ | refine JC.ops ?_ | refine JO.nil ?_ | refine Q00 ?_ | (apply Q06; (iterate 3 exact rfl)) | (apply Q02; (iterate 3 exact rfl)) | (apply Q0g; (iterate 4 exact rfl); exact at0; exact rfl) | (apply Qg4; (iterate 4 exact rfl)) | (apply Q0x; (iterate 4 exact rfl); intro _) | refine JC.ret ?_))
 exact Q0j rfl (fun a w st => ⟨st.kp, rfl⟩)
theorem Qbv {z : Int} : magU z.natAbs = [] ↔ z = 0 := by rw [Q5d]; omega
theorem Q8i (w : World) (z : Int) : Calls Tryz.prog 33 #[Wv z] w (Ret fun v w' => Kp [] w w' ∧ v = .bool (decide (z = 0))) := by
 have h := Qlx w (wz z)
 have e : (decide ((wz z).2 = []) : Bool) = decide (z = 0) := by
  rw [decide_eq_decide]; exact Qbv
 rw [e] at h
 exact h

theorem Qc1 (w : World) (x : WR) : Calls Tryz.prog 78 #[xv x] w (Ret fun v w' => Kp [] w w' ∧ v = .bool (badW x)) := by
 obtain ⟨p, l⟩ := x
 cases l with
 | nil =>
  cases p
  ·refine Q0a [] [] (by simp) [] Tryz.func78 rfl mixed (by kernel_rfl) Tryz.ntmps78 Tryz.results78 rfl ⟨by simp, by simp⟩ (by simp) ?_
   simp only [toS, textOps, toSOp, kindAt, kindOf, odAt, sopsAt, ordOf, zipF]
   (repeat' (first | refine JC.seq ?_ | refine JC.ops ?_ | refine JO.nil ?_ | refine Q00 ?_ | (apply Q04; (iterate 3 exact rfl)) | (apply Q06; (iterate 3 exact rfl)) | (apply Q02; (iterate 3 exact rfl)) | (apply Q0g; (iterate 4 exact rfl); exact at0; exact rfl) | (apply Q0n; (iterate 4 exact rfl)) | (apply Q0q; (iterate 4 exact rfl)) | (apply Qg3; (iterate 4 exact rfl)) | (apply Qna; (iterate 4 exact rfl)) | (apply Q0x; (iterate 4 exact rfl); intro _) | refine JC.ret ?_ | (apply Q10; exact rfl; exact rfl; (first | (intro h; cases h; done) | (intro _; rfl)))))
   exact Q0j rfl (fun a w st => ⟨st.kp, rfl⟩)
  ·refine Q0a [] [] (by simp) [] Tryz.func78 rfl mixed (by kernel_rfl) Tryz.ntmps78 Tryz.results78 rfl ⟨by simp, by simp⟩ (by simp) ?_
   simp only [toS, textOps, toSOp, kindAt, kindOf, odAt, sopsAt, ordOf, zipF]
   (repeat' (first | refine JC.seq ?_ | refine JC.ops ?_ | refine JO.nil ?_ | refine Q00 ?_ | (apply Q04; (iterate 3 exact rfl)) | (apply Q06; (iterate 3 exact rfl)) | (apply Q02; (iterate 3 exact rfl)) | (apply Q0g; (iterate 4 exact rfl); exact at0; exact rfl) | (apply Q0n; (iterate 4 exact rfl)) | (apply Qg3; (iterate 4 exact rfl)) | (apply Q0x; (iterate 4 exact rfl); intro _) | refine JC.ret ?_ | (apply Q10; exact rfl; exact rfl; (first | (intro h; cases h; done) | (intro _; rfl)))))
   exact Q0j rfl (fun a w st => ⟨st.kp, rfl⟩)
 | cons a r =>
  refine Q0a [] [] (by simp) [] Tryz.func78 rfl mixed (by kernel_rfl) Tryz.ntmps78 Tryz.results78 rfl ⟨by simp, by simp⟩ (by simp) ?_
  simp only [toS, textOps, toSOp, kindAt, kindOf, odAt, sopsAt, ordOf, zipF]
  (repeat' (first | refine JC.seq ?_ | refine JC.ops ?_ | refine JO.nil ?_ | refine Q00 ?_ | (apply Q04; (iterate 3 exact rfl)) | (apply Q06; (iterate 3 exact rfl)) | (apply Q02; (iterate 3 exact rfl)) | (apply Q0g; (iterate 4 exact rfl); exact at0; exact rfl) | (apply Q0n; (iterate 4 exact rfl)) | (apply Q0q; (iterate 4 exact rfl)) | (apply Q86; (iterate 4 exact rfl)) | (apply Qjx; (iterate 4 exact rfl)) | (apply Qnb; (iterate 4 exact rfl)) | (apply Q2f; (iterate 4 exact rfl); all_goals intro hc; all_goals try (exfalso; omega)) | (apply Q0x; (iterate 4 exact rfl); intro _) | refine JC.ret ?_ | (apply Q10; exact rfl; exact rfl; (first | (intro h; cases h; done) | (intro _; rfl)))))
  ·exact Q0j rfl (fun _ w st => ⟨st.kp, by have : a = 0 := UInt8.toNat.inj (by simpa using hc); subst this; rfl⟩)
  ·exact Q0j rfl (fun _ w st => ⟨st.kp, by have : a ≠ 0 := fun e => hc (by subst e; rfl); simp [badW, this]⟩)

set_option maxHeartbeats 1000000 in
theorem Qc5 {f : FuncId} [TF Tryz.prog f] {fst cap : Array Value} (pred : WR → Bool) (w : World) (E : Value) (n : Nat) (xs : List WR) (hE : WX w E n xs) (hn : n < 9223372036854775807)
  (hcl : ∀ x w', Kp [] w w' → Calls Tryz.prog f (fst ++ #[xv x] ++ cap) w' (Ret fun v w'' => Kp [] w' w'' ∧ v = .bool (pred x))) :
  Calls Tryz.prog 92 #[E, .func (.func f) fst cap] w (Ret fun v w' => Kp [] w w' ∧ ∃ i : Int, v = iv i ∧ (0 ≤ i ↔ ∃ x ∈ xs, pred x = true)) := by
 refine Q0a [] [] (by simp) [] Tryz.func92 rfl mixed (by kernel_rfl) Tryz.ntmps92 Tryz.results92 rfl ⟨by simp, by simp⟩ (by simp) ?_
 simp only [toS, textOps, toSOp, kindAt, kindOf, odAt, sopsAt, ordOf, zipF]
 have hR := WX.rd (c := ⟨Tryz.prog, 19, w, [], by simp⟩) hE rfl []
 (repeat' (first | refine JC.seq ?_ | refine JC.ops ?_ | refine JO.nil ?_ | refine Q00 ?_ | (apply Q04; (iterate 3 exact rfl)) | (apply Q02; (iterate 3 exact rfl)) | (apply Q3r; (iterate 3 exact rfl); (first | assumption | exact WX.rd (by assumption) rfl [] | exact OwnX.rd (by assumption))) | refine JC.block ?_))
 refine Q0k (ι := Nat) ⟨fun k => [(8, nv k), (7, nv n), (0, E), (1, .func (.func f) fst cap)], fun _ => [], fun k => k ≤ n ∧ ∀ i, i < k → pred (xs.getD i w0x) = false, fun k => n - k⟩ 0 ⟨by omega, fun i h => by omega⟩ ⟨rfl, rfl, rfl, rfl, trivial⟩ (HSub.nil _) (fun k hk => ?_)
 obtain ⟨hkn, hpr⟩ := hk
 dsimp only
 (repeat' (first | refine JC.seq ?_ | refine JC.ops ?_ | refine JO.nil ?_ | refine Q00 ?_ | (apply Q04; (iterate 3 exact rfl)) | (apply Q02; (iterate 3 exact rfl)) | (apply Q4u; (iterate 4 exact rfl); (first | assumption | exact WX.rd (by assumption) rfl [] | exact OwnX.rd (by assumption)); (first | assumption | omega)) | (apply Qg1; (iterate 4 exact rfl); (first | assumption | exact WX.rd (by assumption) rfl [] | exact OwnX.rd (by assumption)); (repeat' first | exact HSub.nil _ | exact HSub.hd | exact Q03 | exact HSub.refl _ | refine HSub.skip ?_ | refine Q01 ?_); (first | assumption | omega)) | (apply Q0m; (iterate 4 exact rfl); all_goals intro hc; all_goals try (exfalso; omega)) | refine Q0i ?_ | refine JC.skip ?_ | refine JC.exit ?_ | refine JC.ret ?_ | refine Q08 rfl ?_ | refine Q07 rfl ?_ | refine JC.block ?_ | refine Q0f ?_))
 ·refine Qaf trivial rfl rfl rfl rfl (fun w' hk _ => hcl _ w' hk) fun w v w' _ _ _ hv => ?_
  subst hv
  cases hp : pred (xs.getD k w0x)
  ·(repeat' (first | refine JC.ops ?_ | refine JO.nil ?_ | refine Q00 ?_ | (apply Q04; (iterate 3 exact rfl)) | (apply Q0r; (iterate 4 exact rfl); omega) | refine JC.skip ?_ | refine Q07 rfl ?_ | refine Q0b ?_))
   refine Q0c (k + 1) ⟨by omega, fun i h => ?_⟩ (by dsimp only; omega) ⟨rfl, rfl, rfl, rfl, trivial⟩ (HSub.nil _)
   rcases Nat.lt_or_ge i k with h' | h'
   ·exact hpr i h'
   ·have : i = k := by omega
    subst this; exact hp
  ·(repeat' (first | refine JC.seq ?_ | refine JC.ops ?_ | refine JO.nil ?_ | refine Q00 ?_ | (apply Q04; (iterate 3 exact rfl)) | (apply Q02; (iterate 3 exact rfl)) | refine Q0o ?_ | refine JC.ret ?_ | refine Q08 rfl ?_ | refine Q1b ?_))
   exact Q0j rfl (fun a w' st => ⟨st.kp, k, rfl, ⟨fun _ => ⟨_, Q5c (by rw [hR.len]; omega), hp⟩, fun _ => by omega⟩⟩)
 ·exact Q0j rfl (fun a w' st => ⟨st.kp, -1, rfl, ⟨fun h => by omega, fun ⟨x, hx, hp⟩ => by
   obtain ⟨i, hi, rfl⟩ := List.mem_iff_getElem.1 hx
   have := hpr i (by rw [hR.len] at hi; omega)
   simp only [List.getD, List.getElem?_eq_getElem hi, Option.getD_some] at this
   rw [this] at hp; cases hp⟩⟩)

theorem Q8n {f : FuncId} [TF Tryz.prog f] {fst cap : Array Value} (pred : WR → Bool) (w : World) (E : Value) (n : Nat) (xs : List WR) (hE : WX w E n xs) (hn : n < 9223372036854775807)
  (hcl : ∀ x w', Kp [] w w' → Calls Tryz.prog f (fst ++ #[xv x] ++ cap) w' (Ret fun v w'' => Kp [] w' w'' ∧ v = .bool (pred x))) :
  Calls Tryz.prog 77 #[E, .func (.func f) fst cap] w (Ret fun v w' => Kp [] w w' ∧ IsB (∃ x ∈ xs, pred x = true) v) := by
 refine Q0a [] [] (by simp) [] Tryz.func77 rfl mixed (by kernel_rfl) Tryz.ntmps77 Tryz.results77 rfl ⟨by simp, by simp⟩ (by simp) ?_
 simp only [toS, textOps, toSOp, kindAt, kindOf, odAt, sopsAt, ordOf, zipF]
 (repeat' (first | refine JC.seq ?_ | refine JC.ops ?_ | refine JO.nil ?_ | refine Q00 ?_ | (apply Q04; (iterate 3 exact rfl)) | (apply Q02; (iterate 3 exact rfl))))
 refine Q09 trivial rfl rfl rfl (fun w' hk _ => Qc5 pred w' E n xs (hE.mono hk) hn (fun x w'' hk' => hcl x w'' (hk.trans hk'))) fun w v w' _ _ _ hv => ?_
 obtain ⟨i, rfl, hi⟩ := hv
 (repeat' (first | refine JO.nil ?_ | refine Q00 ?_ | (apply Q02; (iterate 3 exact rfl)) | (apply Q2k; (iterate 4 exact rfl); all_goals intro hc; all_goals try (exfalso; omega)) | refine JC.ret ?_))
 all_goals refine Q0j rfl (fun a w' st => ⟨st.kp, ?_⟩)
 ·exact Qb6 (hi.1 (by omega))
 ·exact Q2s (fun h => hc (hi.2 h))

def Canon (xs : List WR) : Prop := ∃ zs : List Int, xs = zs.map wz
theorem Q8h {xs : List WR} : Canon xs ↔ ¬ ∃ x ∈ xs, badW x = true := by
 constructor
 ·rintro ⟨zs, rfl⟩ ⟨x, hx, hb⟩
  obtain ⟨z, _, rfl⟩ := List.mem_map.1 hx
  rw [Qlp] at hb; cases hb
 ·intro h
  exact Qbx fun x hx => by
   cases hb : badW x with
   | false => rfl
   | true => exact absurd ⟨x, hx, hb⟩ h

theorem Qcr (w : World) (E : Value) (n : Nat) (xs : List WR) (hE : WX w E n xs) (hn : n < 9223372036854775807) :
  Calls Tryz.prog 51 #[E] w (Ret fun v w' => Kp [] w w' ∧ IsB (Canon xs) v) := by
 refine Q0a [] [] (by simp) [] Tryz.func51 rfl mixed (by kernel_rfl) Tryz.ntmps51 Tryz.results51 rfl ⟨by simp, by simp⟩ (by simp) ?_
 simp only [toS, textOps, toSOp, kindAt, kindOf, odAt, sopsAt, ordOf, zipF]
 (repeat' (first | refine JC.seq ?_ | refine JC.ops ?_ | refine JO.nil ?_ | refine Q00 ?_ | (apply Q04; (iterate 3 exact rfl)) | (apply Q02; (iterate 3 exact rfl))))
 refine Q09 trivial rfl rfl rfl (fun w' hk _ => Q8n (f := 78) (fst := #[]) (cap := #[]) badW w' E n xs (hE.mono hk) hn (fun x w'' _ => Qc1 w'' x)) fun w v w' _ _ _ hv => ?_
 obtain ⟨b, rfl, hb⟩ := hv
 (repeat' (first | refine JO.nil ?_ | refine Q00 ?_ | (apply Q02; (iterate 3 exact rfl)) | (apply Q1e; (iterate 3 exact rfl)) | refine JC.ret ?_))
 refine Q0j rfl (fun a w' st => ⟨st.kp, _, rfl, ?_⟩)
 rw [Q8h, ← hb]
 cases b <;> simp

theorem Qkd {r c : Nat} {E : List WR} (hr : r ≤ 200) (hc : c ≤ 200) : RX ⟨r, c, E⟩ ↔ E.length = r * c ∧ Canon E := by
 constructor
 ·rintro ⟨⟨r', c', e⟩, hm, he⟩
  simp only [ZM.xm, XM.mk.injEq] at he
  obtain ⟨h2, h3, rfl⟩ := he
  have h2 : r = r' := by omega
  have h3 : c = c' := by omega
  subst h2 h3
  exact ⟨by simpa using hm.len, e, rfl⟩
 ·rintro ⟨hl, zs, rfl⟩
  exact ⟨⟨r, c, zs⟩, ⟨hr, hc, by simpa using hl⟩, rfl⟩
theorem RX.fits {a : XM} (h : RX a) : 0 ≤ a.R ∧ a.R ≤ 200 ∧ 0 ≤ a.C ∧ a.C ≤ 200 := by
 obtain ⟨m, hm, rfl⟩ := h
 have h1 := hm.r
 have h2 := hm.c
 simp only [ZM.xm]
 omega

set_option maxHeartbeats 1000000 in
theorem Q20 (w : World) (v : Value) (a : XM) (ha : IsX w v a) (hl : a.E.length < 9223372036854775807) : Calls Tryz.prog 13 #[v] w (Ret fun v w' => Kp [] w w' ∧ IsB (RX a) v) := by
 obtain ⟨E, rfl, hE⟩ := ha
 by_cases hf : 0 ≤ a.R ∧ a.R ≤ 200 ∧ 0 ≤ a.C ∧ a.C ≤ 200
 ·obtain ⟨R, C, xs⟩ := a
  obtain ⟨h1, h2, h3, h4⟩ := hf
  dsimp only at *
  obtain ⟨r, rfl⟩ := Int.eq_ofNat_of_zero_le h1
  obtain ⟨c, rfl⟩ := Int.eq_ofNat_of_zero_le h3
  have hr : r ≤ 200 := by omega
  have hc : c ≤ 200 := by omega
  have hrc := rcZ hr hc
  have hiff := Qkd (E := xs) hr hc
  refine Q0a [] [] (by simp) [] Tryz.func13 rfl mixed (by kernel_rfl) Tryz.ntmps13 Tryz.results13 rfl ⟨by simp, by simp⟩ (by simp) ?_
  simp only [toS, textOps, toSOp, kindAt, kindOf, odAt, sopsAt, ordOf, zipF]
  have hR := WX.rd (c := ⟨Tryz.prog, 24, w, [], by simp⟩) hE rfl []
  (repeat' (first | refine JC.seq ?_ | refine JC.ops ?_ | refine JO.nil ?_ | refine Q00 ?_ | (apply Q06; (iterate 3 exact rfl)) | (apply Q02; (iterate 3 exact rfl)) | (apply Q0g; (iterate 4 exact rfl); exact at0; exact rfl) | (apply Q0x; (iterate 4 exact rfl); intro _)))
  refine Q09 trivial rfl rfl rfl (fun w _ _ => Qh9 r c w) fun w v w' _ _ _ hv => ?_
  obtain ⟨b', rfl, hb⟩ := hv
  obtain rfl := hb.2 ⟨h1, h2, h3, h4⟩
  (repeat' (first | refine JO.nil ?_ | refine Q00 ?_ | (apply Q04; (iterate 3 exact rfl)) | (apply Q06; (iterate 3 exact rfl)) | (apply Q02; (iterate 3 exact rfl)) | (apply Q0g; (iterate 4 exact rfl); exact at0; exact rfl) | (apply Q3r; (iterate 3 exact rfl); (first | assumption | exact WX.rd (by assumption) rfl [] | exact OwnX.rd (by assumption))) | (apply Q1q; (iterate 4 exact rfl); (first | assumption | omega)) | (apply Q0n; (iterate 4 exact rfl)) | (apply Q0q; (iterate 4 exact rfl)) | (apply Q2f; (iterate 4 exact rfl); all_goals intro hc; all_goals try (exfalso; omega)) | refine JC.ret ?_ | (apply Q10; exact rfl; exact rfl; (first | (intro h; cases h; done) | (intro _; rfl)))))
  ·refine Q09 trivial rfl rfl rfl (fun w' hk hs => Qcr w' E _ _ (hE.mono hk) hl) fun w v w' _ _ _ hv => ?_
   obtain ⟨b', rfl, hb⟩ := hv
   (repeat' (first | refine JO.nil ?_ | refine Q00 ?_ | (apply Q02; (iterate 3 exact rfl)) | (apply Q0n; (iterate 4 exact rfl)) | refine JC.ret ?_))
   exact Q0j rfl (fun a w' st => ⟨st.kp, b', rfl, hb.trans ⟨fun h => hiff.2 ⟨by omega, h⟩, fun h => (hiff.1 h).2⟩⟩)
  ·exact Q0j rfl (fun a w' st => ⟨st.kp, Q2s (fun h => hc (by have := (hiff.1 h).1; omega))⟩)
 ·refine Q0a [] [] (by simp) [] Tryz.func13 rfl mixed (by kernel_rfl) Tryz.ntmps13 Tryz.results13 rfl ⟨by simp, by simp⟩ (by simp) ?_
  simp only [toS, textOps, toSOp, kindAt, kindOf, odAt, sopsAt, ordOf, zipF]
  (repeat' (first | refine JC.seq ?_ | refine JC.ops ?_ | refine JO.nil ?_ | refine Q00 ?_ | (apply Q06; (iterate 3 exact rfl)) | (apply Q02; (iterate 3 exact rfl)) | (apply Q0g; (iterate 4 exact rfl); exact at0; exact rfl) | (apply Q0x; (iterate 4 exact rfl); intro _)))
  refine Q09 trivial rfl rfl rfl (fun w _ _ => Qh9 a.R a.C w) fun w v w' _ _ _ hv => ?_
  obtain ⟨b', rfl, hb⟩ := hv
  cases b' with
  | true => exact absurd (hb.1 rfl) hf
  | false =>
   (repeat' (first | refine JO.nil ?_ | refine Q00 ?_ | (apply Q04; (iterate 3 exact rfl)) | (apply Q02; (iterate 3 exact rfl)) | (apply Q0q; (iterate 4 exact rfl)) | refine JC.ret ?_ | (apply Q10; exact rfl; exact rfl; (first | (intro h; cases h; done) | (intro _; rfl)))))
   exact Q0j rfl (fun a w' st => ⟨st.kp, Q2s (fun h => hf h.fits)⟩)

def Alike (a b : XM) : Prop := RX a ∧ RX b ∧ a.R = b.R ∧ a.C = b.C

set_option maxHeartbeats 1000000 in
theorem Qcs (w : World) (v u : Value) (a b : XM) (ha : IsX w v a) (hb : IsX w u b) (hl : a.E.length < 1000000000) (hl' : b.E.length < 1000000000) : Calls Tryz.prog 60 #[v, u] w (Ret fun v w' => Kp [] w w' ∧ IsB (Alike a b) v) := by
 obtain ⟨E, rfl, hE⟩ := ha
 obtain ⟨E', rfl, hE'⟩ := hb
 refine Q0a [] [] (by simp) [] Tryz.func60 rfl mixed (by kernel_rfl) Tryz.ntmps60 Tryz.results60 rfl ⟨by simp, by simp⟩ (by simp) ?_
 simp only [toS, textOps, toSOp, kindAt, kindOf, odAt, sopsAt, ordOf, zipF]
 (repeat' (first | refine JC.seq ?_ | refine JC.ops ?_ | refine JO.nil ?_ | refine Q00 ?_ | (apply Q02; (iterate 3 exact rfl)) | (apply Q0d; (iterate 4 exact rfl); exact at1; exact rfl) | (apply Q0x; (iterate 4 exact rfl); intro _)))
 refine Q09 trivial rfl rfl rfl (fun w hk _ => Q20 w _ a ⟨E, rfl, hE.mono hk⟩ (by omega)) fun w v w' _ _ _ hR => ?_
 obtain ⟨b', rfl, hb⟩ := hR
 cases b'
 ·(repeat' (first | refine JO.nil ?_ | refine Q00 ?_ | (apply Q04; (iterate 3 exact rfl)) | (apply Q02; (iterate 3 exact rfl)) | (apply Q0q; (iterate 4 exact rfl)) | refine JC.ret ?_ | (apply Q10; exact rfl; exact rfl; (first | (intro h; cases h; done) | (intro _; rfl)))))
  exact Q0j rfl (fun a w' st => ⟨st.kp, Q2s (fun h => by cases hb.2 h.1)⟩)
 ·(repeat' (first | (apply Q04; (iterate 3 exact rfl)) | (apply Q0d; (iterate 4 exact rfl); exact at0; exact rfl)))
  refine Q09 trivial rfl rfl rfl (fun w hk _ => Q20 w _ b ⟨E', rfl, hE'.mono hk⟩ (by omega)) fun w v w' _ _ _ hR => ?_
  obtain ⟨b', rfl, hb'⟩ := hR
  cases b'
  ·(repeat' (first | refine JO.nil ?_ | refine Q00 ?_ | (apply Q04; (iterate 3 exact rfl)) | (apply Q02; (iterate 3 exact rfl)) | (apply Q0n; (iterate 4 exact rfl)) | (apply Q0q; (iterate 4 exact rfl)) | refine JC.ret ?_ | (apply Q10; exact rfl; exact rfl; (first | (intro h; cases h; done) | (intro _; rfl)))))
   exact Q0j rfl (fun a w' st => ⟨st.kp, Q2s (fun h => by cases hb'.2 h.2.1)⟩)
  ·(repeat' (first | refine JO.nil ?_ | refine Q00 ?_ | (apply Q04; (iterate 3 exact rfl)) | (apply Q06; (iterate 3 exact rfl)) | (apply Q02; (iterate 3 exact rfl)) | (apply Q0g; (iterate 4 exact rfl); (first | exact at0 | exact at1); exact rfl) | (apply Q0n; (iterate 4 exact rfl)) | (apply Q0q; (iterate 4 exact rfl)) | (apply Q2f; (iterate 4 exact rfl); all_goals intro hc; all_goals try (exfalso; omega)) | refine JC.ret ?_ | (apply Q10; exact rfl; exact rfl; (first | (intro h; cases h; done) | (intro _; rfl)))))
   all_goals first
    | exact Q0j rfl (fun a w' st => ⟨st.kp, Qb6 ⟨hb.1 rfl, hb'.1 rfl, by omega, by omega⟩⟩)
    | exact Q0j rfl (fun a w' st => ⟨st.kp, Q2s fun h => by have h1 := h.2.2.1; have h2 := h.2.2.2; omega⟩)

end Go.Proofs.YtdlmnloikakjpaaGreatDoor

namespace Go.Proofs.YtdlmnloikakjpaaGreatDoor
open Go
set_option linter.unusedSimpArgs false
set_option linter.unusedVariables false
set_option linter.unusedSectionVars false

section

abbrev Mi := Nat → Nat → Int

def smI : Nat → (Nat → Int) → Int
 | 0, _ => 0
 | n + 1, f => smI n f + f n

theorem Q12 : ∀ {n : Nat} {f g : Nat → Int}, (∀ i, i < n → f i = g i) → smI n f = smI n g
 | 0, _, _, _ => rfl
 | n + 1, f, g, h => by rw [smI, smI, Q12 (fun i hi => h i (by omega)), h n (by omega)]
theorem Q64 : ∀ {n : Nat} {f : Nat → Int}, (∀ i, i < n → f i = 0) → smI n f = 0
 | 0, _, _ => rfl
 | n + 1, f, h => by rw [smI, Q64 (fun i hi => h i (by omega)), h n (by omega)]; grind
theorem Q4z : ∀ {n : Nat} {f g : Nat → Int}, smI n (fun i => f i + g i) = smI n f + smI n g
 | 0, _, _ => by simp only [smI]; grind
 | n + 1, f, g => by simp only [smI]; rw [Q4z]; grind
theorem Q2j : ∀ {n : Nat} {f : Nat → Int} (x : Int), smI n (fun i => x * f i) = x * smI n f
 | 0, _, x => by simp only [smI]; grind
 | n + 1, f, x => by simp only [smI]; rw [Q2j]; grind
theorem Qda : ∀ {n : Nat} {f : Nat → Int} (x : Int), smI n (fun i => f i * x) = smI n f * x
 | 0, _, x => by simp only [smI]; grind
 | n + 1, f, x => by simp only [smI]; rw [Qda]; grind
theorem Qd8 : ∀ {n m : Nat} {f : Nat → Nat → Int}, smI n (fun i => smI m (fun j => f i j)) = smI m (fun j => smI n (fun i => f i j))
 | 0, m, f => by simp only [smI]; rw [Q64]; intro i _; rfl
 | n + 1, m, f => by simp only [smI]; rw [Qd8, Q4z]
theorem Q30 : ∀ {n k : Nat} {f : Nat → Int}, k < n → (∀ i, i < n → i ≠ k → f i = 0) → smI n f = f k
 | 0, k, _, h, _ => by omega
 | n + 1, k, f, h, h' => by
  rw [smI]
  by_cases hk : k = n
  ·subst hk; rw [Q64 (fun i hi => h' i (by omega) (by omega))]; grind
  ·rw [Q30 (k := k) (by omega) (fun i hi hne => h' i (by omega) hne), h' n (by omega) (by omega)]; grind
theorem Qfh : ∀ {n k : Nat} {f : Nat → Int}, k ≤ n → (∀ i, k ≤ i → i < n → f i = 0) → smI n f = smI k f
 | 0, k, f, h, _ => by obtain rfl : k = 0 := by omega
                       rfl
 | n + 1, k, f, h, h' => by
  by_cases hk : k = n + 1
  ·subst hk; rfl
  ·rw [smI, Qfh (k := k) (by omega) (fun i a b => h' i a (by omega)), h' n (by omega) (by omega)]; grind
def mmI (n : Nat) (A B : Mi) : Mi := fun i j => smI n fun k => A i k * B k j
theorem Qgj {n m : Nat} {A B C : Mi} {i j : Nat} : mmI n (mmI m A B) C i j = mmI m A (mmI n B C) i j := by
 unfold mmI
 have h1 : ∀ k, smI m (fun t => A i t * B t k) * C k j = smI m (fun t => A i t * (B t k * C k j)) := fun k => by
  rw [← Qda]; exact Q12 fun t _ => by grind
 have h2 : ∀ t, A i t * smI n (fun k => B t k * C k j) = smI n (fun k => A i t * (B t k * C k j)) := fun t => by
  rw [← Q2j]
 rw [Q12 (fun k _ => h1 k), Q12 (fun t _ => h2 t), Qd8]
theorem Qbu {n : Nat} {A A' B B' : Mi} {i j : Nat} (h : ∀ k, k < n → A i k = A' i k) (h' : ∀ k, k < n → B k j = B' k j) : mmI n A B i j = mmI n A' B' i j :=
 Q12 fun k hk => by rw [h k hk, h' k hk]

def idI : Mi := fun i j => if i = j then 1 else 0
theorem Qnl {r : Nat} {A : Mi} {i j : Nat} (hi : i < r) : mmI r idI A i j = A i j := by
 unfold mmI idI
 rw [Q30 hi (fun k _ hk => by rw [if_neg (fun e => hk e.symm)]; grind)]
 rw [if_pos rfl]; grind
theorem Qal {r : Nat} {A : Mi} {i j : Nat} (hj : j < r) : mmI r A idI i j = A i j := by
 unfold mmI idI
 rw [Q30 hj (fun k _ hk => by rw [if_neg hk]; grind)]
 rw [if_pos rfl]; grind
end


def sk (i a : Nat) : Nat := if a < i then a else a + 1
def sg (i : Nat) : Int := if i % 2 = 0 then 1 else -1
def det : Nat → Mi → Int
 | 0, _ => 1
 | n + 1, A => smI (n + 1) fun i => sg i * A i 0 * det n (fun a b => A (sk i a) (b + 1))

theorem Q15 : ∀ {n : Nat} {A B : Mi}, (∀ i, i < n → ∀ j, j < n → A i j = B i j) → det n A = det n B
 | 0, _, _, _ => rfl
 | n + 1, A, B, h => by
  rw [det, det]
  refine Q12 fun i hi => ?_
  rw [h i hi 0 (by omega), Q15 (n := n) (fun a ha b hb => h (sk i a) (by unfold sk; split <;> omega) (b + 1) (by omega))]

def setRow (A : Mi) (r : Nat) (f : Nat → Int) : Mi := fun i j => if i = r then f j else A i j
theorem setRow_self (A : Mi) (r : Nat) (f : Nat → Int) (j : Nat) : setRow A r f r j = f j := if_pos rfl
theorem Q0p {A : Mi} {r i : Nat} (h : i ≠ r) (f : Nat → Int) (j : Nat) : setRow A r f i j = A i j := if_neg h

def unsk (i r : Nat) : Nat := if r < i then r else r - 1
theorem Qcb {n i r : Nat} (hi : i < n + 1) (hr : r < n + 1) (h : r ≠ i) : unsk i r < n := by unfold unsk; split <;> omega
theorem Qn0 {i r a : Nat} (h : r ≠ i) : sk i a = r ↔ a = unsk i r := by unfold sk unsk; split <;> split <;> omega

theorem Q54 {A : Mi} {r i : Nat} {f : Nat → Int} (h : r ≠ i) : (fun a b => setRow A r f (sk i a) (b + 1)) = setRow (fun a b => A (sk i a) (b + 1)) (unsk i r) (fun b => f (b + 1)) := by
 funext a b
 unfold setRow
 by_cases h1 : sk i a = r
 ·rw [if_pos h1, if_pos ((Qn0 h).1 h1)]
 ·rw [if_neg h1, if_neg (fun e => h1 ((Qn0 h).2 e))]
theorem Q2t {A : Mi} {i : Nat} {f : Nat → Int} : (fun a b => setRow A i f (sk i a) (b + 1)) = fun a b => A (sk i a) (b + 1) := by
 funext a b
 exact Q0p (by unfold sk; split <;> omega) _ _

theorem Q2q : ∀ {n : Nat} {A : Mi} {r : Nat} {f g : Nat → Int} (t : Int), r < n → det n (setRow A r fun j => f j + t * g j) = det n (setRow A r f) + t * det n (setRow A r g)
 | 0, _, _, _, _, _, h => absurd h (Nat.not_lt_zero _)
 | n + 1, A, r, f, g, t, h => by
  rw [det, det, det, ← Q2j, ← Q4z]
  refine Q12 fun i hi => ?_
  by_cases hir : r = i
  ·subst hir
   rw [Q2t, Q2t, Q2t, setRow_self, setRow_self, setRow_self]
   grind
  ·rw [Q54 hir, Q54 hir, Q54 hir, Q0p (Ne.symm hir), Q0p (Ne.symm hir), Q0p (Ne.symm hir), Q2q (f := fun b => f (b + 1)) (g := fun b => g (b + 1)) t (Qcb hi h hir)]
   grind

theorem Qd9 : ∀ {n r : Nat} {f : Nat → Int}, r + 1 < n → (∀ i, i < n → i ≠ r → i ≠ r + 1 → f i = 0) → f r + f (r + 1) = 0 → smI n f = 0
 | 0, _, _, h, _, _ => by omega
 | n + 1, r, f, h, h', h2 => by
  rw [smI]
  by_cases hk : r + 1 = n
  ·subst hk
   rw [Q30 (k := r) (by omega) (fun i hi hne => h' i (by omega) hne (by omega))]
   exact h2
  ·rw [Qd9 (r := r) (by omega) (fun i hi => h' i (by omega)) h2, h' n (by omega) (by omega) (by omega)]
   rfl
theorem Qce (r : Nat) : sg (r + 1) = -sg r := by
 unfold sg
 rcases Nat.mod_two_eq_zero_or_one r with h | h
 ·rw [if_neg (by omega), if_pos h]
 ·rw [if_pos (by omega), if_neg (by omega)]; rfl
theorem Qav : ∀ {n : Nat} {A : Mi} {r : Nat}, r + 1 < n → (∀ j, A r j = A (r + 1) j) → det n A = 0
 | 0, _, _, h, _ => by omega
 | n + 1, A, r, h, he => by
  rw [det]
  refine Qd9 h (fun i hi h1 h2 => ?_) ?_
  ·have : det n (fun a b => A (sk i a) (b + 1)) = 0 := by
    by_cases hir : i < r
    ·refine Qav (r := r - 1) (by omega) (fun j => ?_)
     show A (sk i (r - 1)) (j + 1) = A (sk i (r - 1 + 1)) (j + 1)
     rw [show sk i (r - 1) = r by unfold sk; split <;> omega, show sk i (r - 1 + 1) = r + 1 by unfold sk; split <;> omega]
     exact he _
    ·refine Qav (r := r) (by omega) (fun j => ?_)
     show A (sk i r) (j + 1) = A (sk i (r + 1)) (j + 1)
     rw [show sk i r = r by unfold sk; split <;> omega, show sk i (r + 1) = r + 1 by unfold sk; split <;> omega]
     exact he _
   rw [this, Int.mul_zero]
  ·have : det n (fun a b => A (sk (r + 1) a) (b + 1)) = det n (fun a b => A (sk r a) (b + 1)) := Q15 fun a _ b _ => by
    by_cases har : a = r
    ·subst har
     rw [show sk (a + 1) a = a by unfold sk; split <;> omega, show sk a a = a + 1 by unfold sk; split <;> omega]
     exact he _
    ·rw [show sk (r + 1) a = sk r a by unfold sk; split <;> split <;> omega]
   rw [this, Qce, he 0]
   grind

def swp (A : Mi) (r s : Nat) : Mi := fun i j => if i = r then A s j else if i = s then A r j else A i j
theorem Q1k {A : Mi} {r s : Nat} (h : r ≠ s) (f g : Nat → Int) : setRow (setRow A r f) s g = setRow (setRow A s g) r f := by
 funext i j
 unfold setRow
 by_cases h1 : i = s
 ·subst h1; rw [if_pos rfl, if_neg (Ne.symm h), if_pos rfl]
 ·rw [if_neg h1]
  by_cases h2 : i = r
  ·rw [if_pos h2, if_pos h2]
  ·rw [if_neg h2, if_neg h2, if_neg h1]
theorem Q1p (A : Mi) (r : Nat) : setRow A r (A r) = A := by
 funext i j
 unfold setRow
 by_cases h : i = r
 ·rw [if_pos h, h]
 ·rw [if_neg h]
theorem Qfe {A : Mi} {r s : Nat} (h : r ≠ s) : swp A r s = setRow (setRow A r (A s)) s (A r) := by
 funext i j
 unfold swp setRow
 by_cases h1 : i = r
 ·subst h1; rw [if_pos rfl, if_neg h, if_pos rfl]
 ·rw [if_neg h1]
  by_cases h2 : i = s
  ·rw [if_pos h2, if_pos h2]
  ·rw [if_neg h2, if_neg h2, if_neg h1]
theorem Qlu {n : Nat} {A : Mi} {r : Nat} (h : r + 1 < n) (u v : Nat → Int) : det n (setRow (setRow A r v) (r + 1) u) = -det n (setRow (setRow A r u) (r + 1) v) := by
 have hz : ∀ f, det n (setRow (setRow A r f) (r + 1) f) = 0 := fun f => Qav h fun j => by
  rw [setRow_self, Q0p (by omega), setRow_self]
 have hne : r ≠ r + 1 := by omega
 have h0 := hz (fun j => u j + 1 * v j)
 rw [Q2q 1 h, Q1k hne, Q1k hne, Q2q 1 (by omega), Q2q 1 (by omega), ← Q1k hne, ← Q1k hne, ← Q1k hne, ← Q1k hne, hz u, hz v] at h0
 omega
theorem Qlv {n : Nat} {A : Mi} {r : Nat} (h : r + 1 < n) : det n (swp A r (r + 1)) = -det n A := by
 rw [Qfe (by omega), Qlu h]
 have : setRow (setRow A r (A r)) (r + 1) (A (r + 1)) = A := by rw [Q1p, Q1p]
 rw [this]

theorem Qcp : ∀ {d n : Nat} {A : Mi} {r s : Nat}, s = r + 1 + d → s < n → (∀ j, A r j = A s j) → det n A = 0
 | 0, n, A, r, s, h, hs, he => by
  obtain rfl : s = r + 1 := by omega
  exact Qav hs he
 | d + 1, n, A, r, s, h, hs, he => by
  obtain ⟨q, rfl⟩ : ∃ q, s = q + 1 := ⟨s - 1, by omega⟩
  have h1 := Qlv (A := A) (r := q) hs
  have h2 : det n (swp A q (q + 1)) = 0 := Qcp (d := d) (r := r) (s := q) (by omega) (by omega) (fun j => by
   unfold swp
   rw [if_neg (by omega), if_neg (by omega), if_pos rfl]
   exact he j)
  omega
theorem Q35 {n : Nat} {A : Mi} {r s : Nat} (hr : r < n) (hs : s < n) (h : r ≠ s) (he : ∀ j, A r j = A s j) : det n A = 0 := by
 rcases Nat.lt_or_gt_of_ne h with h1 | h1
 ·exact Qcp (d := s - r - 1) (by omega) hs he
 ·exact Qcp (d := r - s - 1) (by omega) hr (fun j => (he j).symm)
theorem Q4o {n : Nat} {A : Mi} {r s : Nat} (t : Int) (hr : r < n) (hs : s < n) (h : r ≠ s) : det n (setRow A r fun j => A r j + t * A s j) = det n A := by
 rw [Q2q t hr, Q1p, Q35 (A := setRow A r (A s)) hr hs h (fun j => by rw [setRow_self, Q0p (Ne.symm h)]), Int.mul_zero, Int.add_zero]
theorem Q4n {n : Nat} {A : Mi} {r s : Nat} (hr : r < n) (hs : s < n) (h : r ≠ s) : det n (swp A r s) = -det n A := by
 have hz : ∀ f, det n (setRow (setRow A r f) s f) = 0 := fun f => Q35 hr hs h fun j => by
  rw [setRow_self, Q0p h, setRow_self]
 have h0 := hz (fun j => A r j + 1 * A s j)
 rw [Q2q 1 hs, Q1k h, Q1k h, Q2q 1 hr, Q2q 1 hr, ← Q1k h, ← Q1k h, ← Q1k h, ← Q1k h, hz (A r), hz (A s)] at h0
 have h1 : setRow (setRow A r (A r)) s (A s) = A := by rw [Q1p, Q1p]
 rw [h1, ← Qfe h] at h0
 omega
theorem Q71 : ∀ {m n : Nat} {A : Mi} {r : Nat} {t : Nat → Int} {g : Nat → Nat → Int}, r < n → det n (setRow A r fun j => smI m fun k => t k * g k j) = smI m fun k => t k * det n (setRow A r (g k))
 | 0, n, A, r, t, g, h => by
  have h1 := Q2q (A := A) (f := fun _ => 0) (g := fun _ => 0) 1 h
  have h2 : (fun j : Nat => (0 : Int) + 1 * 0) = fun _ => 0 := by funext j; rfl
  rw [h2] at h1
  show det n (setRow A r fun _ => 0) = 0
  omega
 | m + 1, n, A, r, t, g, h => by
  have h1 := Q2q (A := A) (f := fun j => smI m fun k => t k * g k j) (g := g m) (t m) h
  rw [Q71 h] at h1
  exact h1
def prd : Nat → (Nat → Int) → Int
 | 0, _ => 1
 | n + 1, f => f 0 * prd n fun i => f (i + 1)
theorem Qat : ∀ {n : Nat} {A : Mi}, (∀ i j, j < i → i < n → A i j = 0) → det n A = prd n fun i => A i i
 | 0, _, _ => rfl
 | n + 1, A, h => by
  rw [det, prd, Q30 (k := 0) (by omega) (fun i hi hne => by rw [h i 0 (by omega) hi]; grind)]
  have e : (fun a b => A (sk 0 a) (b + 1)) = fun a b => A (a + 1) (b + 1) := by
   funext a b
   rw [show sk 0 a = a + 1 by unfold sk; rfl]
  rw [e, Qat (A := fun a b => A (a + 1) (b + 1)) (fun i j hij hi => h (i + 1) (j + 1) (by omega) (by omega))]
  show sg 0 * _ * _ = _
  rw [show sg 0 = 1 from rfl, Int.one_mul]


inductive Red (n : Nat) : Mi → Mi → Prop
 | refl (A) : Red n A A
 | add {A B} (r s : Nat) (t : Int) : r < n → s < n → r ≠ s → Red n (setRow A r fun j => A r j + t * A s j) B → Red n A B
 | swap {A B} (r s : Nat) : r < n → s < n → r ≠ s → Red n (swp A r s) B → Red n A B
theorem Red.trans {n : Nat} {A B C : Mi} (h : Red n A B) (h' : Red n B C) : Red n A C := by
 induction h with
 | refl => exact h'
 | add r s t hr hs hn _ ih => exact .add r s t hr hs hn (ih h')
 | swap r s hr hs hn _ ih => exact .swap r s hr hs hn (ih h')

theorem clear1 {n k i : Nat} (hk : k < n) (hi : i < n) (hki : k ≠ i) : ∀ (m : Nat) (A : Mi), (A i k).natAbs ≤ m →
  ∃ B, Red n A B ∧ B i k = 0 ∧ (∀ a, a ≠ k → a ≠ i → ∀ j, B a j = A a j) ∧ (∀ j, A k j = 0 → A i j = 0 → B k j = 0 ∧ B i j = 0)
 | 0, A, h => ⟨A, .refl A, by omega, fun _ _ _ _ => rfl, fun _ h1 h2 => ⟨h1, h2⟩⟩
 | m + 1, A, h => by
  by_cases h0 : A i k = 0
  ·exact ⟨A, .refl A, h0, fun _ _ _ _ => rfl, fun _ h1 h2 => ⟨h1, h2⟩⟩
  ·let A1 := setRow A k fun j => A k j + (-(A k k / A i k)) * A i j
   let A2 := swp A1 k i
   have e1 : ∀ j, A1 k j = A k j + (-(A k k / A i k)) * A i j := fun j => setRow_self _ _ _ _
   have e2 : ∀ a, a ≠ k → ∀ j, A1 a j = A a j := fun a ha j => Q0p ha _ _
   have f1 : ∀ j, A2 i j = A1 k j := fun j => by
    show swp A1 k i i j = _
    unfold swp
    rw [if_neg (Ne.symm hki), if_pos rfl]
   have f2 : ∀ j, A2 k j = A i j := fun j => by
    show swp A1 k i k j = _
    unfold swp
    rw [if_pos rfl, e2 i (Ne.symm hki)]
   have f3 : ∀ a, a ≠ k → a ≠ i → ∀ j, A2 a j = A a j := fun a h1 h2 j => by
    show swp A1 k i a j = _
    unfold swp
    rw [if_neg h1, if_neg h2, e2 a h1]
   have hm : A2 i k = A k k % A i k := by
    rw [f1, e1]
    have := Int.mul_ediv_add_emod (A k k) (A i k)
    have h3 : -(A k k / A i k) * A i k = -(A i k * (A k k / A i k)) := by rw [Int.neg_mul, Int.mul_comm]
    omega
   have hlt : (A2 i k).natAbs ≤ m := by
    have h1 := Int.emod_nonneg (A k k) h0
    have h2 := Int.emod_lt (A k k) h0
    rw [hm]
    omega
   obtain ⟨B, b1, b2, b3, b4⟩ := clear1 hk hi hki m A2 hlt
   refine ⟨B, .add k i _ hk hi hki (.swap k i hk hi hki b1), b2, fun a h1 h2 j => (b3 a h1 h2 j).trans (f3 a h1 h2 j), fun j h1 h2 => b4 j ?_ ?_⟩
   ·rw [f2, h2]
   ·rw [f1, e1, h1, h2]; simp
theorem clearC {n k : Nat} (hk : k < n) : ∀ (d : Nat) (A : Mi), k + 1 + d ≤ n → (∀ i j, j < k → k ≤ i → i < n → A i j = 0) →
  ∃ B, Red n A B ∧ (∀ i, k < i → i < k + 1 + d → B i k = 0) ∧ (∀ a, a < k → ∀ j, B a j = A a j) ∧ (∀ i j, j < k → k ≤ i → i < n → B i j = 0)
 | 0, A, _, h => ⟨A, .refl A, fun i h1 h2 => by omega, fun _ _ _ => rfl, h⟩
 | d + 1, A, hd, h => by
  obtain ⟨B, b1, b2, b3, b4⟩ := clearC hk d A (by omega) h
  obtain ⟨C, c1, c2, c3, c4⟩ := clear1 hk (show k + 1 + d < n by omega) (show k ≠ k + 1 + d by omega) _ B (Nat.le_refl _)
  refine ⟨C, b1.trans c1, fun i h1 h2 => ?_, fun a ha j => ?_, fun i j hj hki hin => ?_⟩
  ·by_cases hi : i = k + 1 + d
   ·subst hi; exact c2
   ·rw [c3 i (by omega) hi]; exact b2 i h1 (by omega)
  ·rw [c3 a (by omega) (by omega), b3 a ha]
  ·have h5 := c4 j (b4 k j hj (Nat.le_refl _) hk) (b4 (k + 1 + d) j hj (by omega) (by omega))
   by_cases h6 : i = k
   ·rw [h6]; exact h5.1
   ·by_cases h7 : i = k + 1 + d
    ·rw [h7]; exact h5.2
    ·rw [c3 i h6 h7]; exact b4 i j hj hki hin
theorem Q70 (n : Nat) : ∀ (k : Nat) (A : Mi), k ≤ n → ∃ T, Red n A T ∧ ∀ j, j < k → ∀ i, j < i → i < n → T i j = 0
 | 0, A, _ => ⟨A, .refl A, fun j h => absurd h (Nat.not_lt_zero _)⟩
 | k + 1, A, h => by
  obtain ⟨T, t1, t2⟩ := Q70 n k A (by omega)
  obtain ⟨B, b1, b2, b3, b4⟩ := clearC (show k < n by omega) (n - (k + 1)) T (by omega) (fun i j hj hki hin => t2 j hj i (by omega) hin)
  refine ⟨B, t1.trans b1, fun j hj i hji hin => ?_⟩
  by_cases hjk : j = k
  ·subst hjk; exact b2 i hji (by omega)
  ·by_cases hik : k ≤ i
   ·exact b4 i j (by omega) hik hin
   ·rw [b3 i (by omega)]; exact t2 j (by omega) i hji hin


theorem Qag : ∀ {n : Nat} {f : Nat → Int}, prd (n + 1) f = prd n f * f n
 | 0, f => by show f 0 * 1 = 1 * f 0; grind
 | n + 1, f => by
  rw [prd, Qag (n := n), prd]
  grind
theorem Qlj {n : Nat} {A B : Mi} {r s : Nat} {t : Int} : mmI n (setRow A r fun j => A r j + t * A s j) B = setRow (mmI n A B) r fun j => mmI n A B r j + t * mmI n A B s j := by
 funext i j
 by_cases h : i = r
 ·subst h
  rw [setRow_self]
  unfold mmI
  rw [← Q2j, ← Q4z]
  refine Q12 fun k _ => ?_
  rw [setRow_self]
  grind
 ·rw [Q0p h]
  unfold mmI
  exact Q12 fun k _ => by rw [Q0p h]
theorem Qnk {n : Nat} {A B : Mi} {r s : Nat} : mmI n (swp A r s) B = swp (mmI n A B) r s := by
 funext i j
 unfold swp mmI
 by_cases h1 : i = r
 ·simp only [h1, if_true]
 ·by_cases h2 : i = s
  ·subst h2
   simp only [if_neg h1, if_true]
  ·simp only [if_neg h1, if_neg h2]

theorem Qdx {n : Nat} {T B : Mi} (hT : ∀ i j, j < i → i < n → T i j = 0) : ∀ m, m ≤ n → det n (fun i j => if i < m then smI n (fun k => T i k * B k j) else B i j) = prd m (fun i => T i i) * det n B
 | 0, _ => by
  show det n _ = 1 * _
  rw [Int.one_mul]
  exact Q15 fun i _ j _ => if_neg (Nat.not_lt_zero _)
 | m + 1, h => by
  have ih := Qdx (B := B) hT m (by omega)
  generalize hC : (fun i j => if i < m then smI n (fun k => T i k * B k j) else B i j : Mi) = C at ih
  have e : (fun i j => if i < m + 1 then smI n (fun k => T i k * B k j) else B i j : Mi) = setRow C m fun j => smI n fun k => T m k * B k j := by
   subst hC
   funext i j
   unfold setRow
   by_cases h1 : i = m
   ·subst h1; rw [if_pos (by omega), if_pos rfl]
   ·rw [if_neg h1]
    by_cases h2 : i < m
    ·show (if i < m + 1 then _ else _) = if i < m then _ else _
     rw [if_pos (by omega), if_pos h2]
    ·show (if i < m + 1 then _ else _) = if i < m then _ else _
     rw [if_neg (by omega), if_neg h2]
  have hrow : ∀ k, m ≤ k → ∀ j, C k j = B k j := fun k hk j => by subst hC; exact if_neg (by omega)
  rw [e, Q71 (by omega), Q30 (k := m) (by omega) (fun k hk hne => ?_)]
  ·have h2 : setRow C m (B m) = C := by
    have : C m = B m := funext fun j => hrow m (Nat.le_refl _) j
    rw [← this, Q1p]
   rw [h2, ih, Qag]
   grind
  ·by_cases hkm : k < m
   ·rw [hT m k hkm (by omega), Int.zero_mul]
   ·rw [Q35 (A := setRow C m (B k)) (show m < n by omega) hk (Ne.symm hne) (fun j => by rw [setRow_self, Q0p hne, hrow k (by omega)]), Int.mul_zero]

theorem Qk0 {n : Nat} {A B : Mi} : det n (mmI n A B) = det n A * det n B := by
 obtain ⟨T, hR, hT⟩ := Q70 n n A (Nat.le_refl _)
 have hT' : ∀ i j, j < i → i < n → T i j = 0 := fun i j hji hi => hT j (by omega) i hji hi
 have hb : det n (mmI n T B) = det n T * det n B := by
  rw [Qat hT', ← Qdx hT' n (Nat.le_refl _)]
  exact Q15 fun i hi j _ => by rw [if_pos hi]; rfl
 clear hT hT'
 induction hR with
 | refl => exact hb
 | add r s t hr hs hn _ ih =>
  have := ih hb
  rw [Qlj, Q4o t hr hs hn, Q4o t hr hs hn] at this
  exact this
 | swap r s hr hs hn _ ih =>
  have := ih hb
  rw [Qnk, Q4n hr hs hn, Q4n hr hs hn, Int.neg_mul] at this
  omega


def tr (A : Mi) : Mi := fun i j => A j i
theorem Qgu : ∀ {n : Nat}, det n idI = 1 := by
 intro n
 rw [Qat (fun i j h _ => by unfold idI; rw [if_neg (by omega)])]
 have : ∀ m, prd m (fun i => idI i i) = 1 := fun m => by
  induction m with
  | zero => rfl
  | succ m ih => rw [Qag, ih]; show (1 : Int) * (if m = m then 1 else 0) = 1; rw [if_pos rfl]; rfl
 exact this n
theorem Qgt {n : Nat} {L : Mi} (hL : ∀ i j, i < j → j < n → L i j = 0) : ∀ d m, m + d = n → det n (fun i j => if m ≤ i then L i j else idI i j) = prd d (fun i => L (m + i) (m + i))
 | 0, m, h => by
  rw [Q15 (B := idI) (fun i hi j _ => if_neg (by omega)), Qgu]
  rfl
 | d + 1, m, h => by
  have ih := Qgt hL d (m + 1) (by omega)
  generalize hC : (fun i j => if m + 1 ≤ i then L i j else idI i j : Mi) = C at ih
  have hrow : ∀ k, k < m + 1 → ∀ j, C k j = idI k j := fun k hk j => by subst hC; exact if_neg (by omega)
  have e : det n (fun i j => if m ≤ i then L i j else idI i j : Mi) = det n (setRow C m fun j => smI n fun k => L m k * idI k j) := Q15 fun i hi j hj => by
   subst hC
   unfold setRow
   by_cases h1 : i = m
   ·subst h1
    rw [if_pos (Nat.le_refl _), if_pos rfl]
    exact (Qal (A := L) (r := n) hj).symm
   ·rw [if_neg h1]
    by_cases h2 : m ≤ i
    ·show _ = if m + 1 ≤ i then _ else _
     rw [if_pos h2, if_pos (by omega)]
    ·show _ = if m + 1 ≤ i then _ else _
     rw [if_neg h2, if_neg (by omega)]
  rw [e, Q71 (by omega), Q30 (k := m) (by omega) (fun k hk hne => ?_)]
  ·have h2 : setRow C m (idI m) = C := by
    have : C m = idI m := funext fun j => hrow m (by omega) j
    rw [← this, Q1p]
   rw [h2, ih, prd]
   show L m m * _ = L m m * _
   congr 2
   funext i
   rw [show m + 1 + i = m + (i + 1) by omega]
  ·by_cases hkm : m < k
   ·rw [hL m k hkm hk, Int.zero_mul]
   ·rw [Q35 (A := setRow C m (idI k)) (show m < n by omega) hk (Ne.symm hne) (fun j => by rw [setRow_self, Q0p hne, hrow k (by omega)]), Int.mul_zero]

theorem Qbz {n : Nat} {A : Mi} : det n (tr A) = det n A := by
 obtain ⟨T, hR, hT⟩ := Q70 n n A (Nat.le_refl _)
 have hT' : ∀ i j, j < i → i < n → T i j = 0 := fun i j hji hi => hT j (by omega) i hji hi
 have hb : det n (tr T) = det n T := by
  have h1 := Qgt (L := tr T) (n := n) (fun i j hij hj => hT' j i hij hj) n 0 (by omega)
  rw [Qat hT']
  have e : (fun i j => if 0 ≤ i then tr T i j else idI i j : Mi) = tr T := by
   funext i j
   exact if_pos (Nat.zero_le _)
  rw [e] at h1
  rw [h1]
  have : ∀ i, tr T (0 + i) (0 + i) = T i i := fun i => by rw [Nat.zero_add]; rfl
  simp only [this]
 clear hT hT'
 induction hR with
 | refl => exact hb
 | @add A B r s t hr hs hn _ ih =>
  have h0 := ih hb
  rw [Q4o t hr hs hn] at h0
  rw [← h0]
  have e1 : det n (tr (setRow A r fun j => A r j + t * A s j)) = det n (mmI n (tr A) (setRow idI s fun j => idI s j + t * idI r j)) := Q15 fun i hi j hj => by
   show setRow A r _ j i = _
   have h2 : mmI n (tr A) (setRow idI s fun j => idI s j + t * idI r j) i j = mmI n (tr A) idI i j + t * (tr A i s * idI r j) := by
    unfold mmI
    have h3 : ∀ k, k < n → tr A i k * setRow idI s (fun j => idI s j + t * idI r j) k j = tr A i k * idI k j + (if k = s then t * (tr A i s * idI r j) else 0) := fun k _ => by
     by_cases hk : k = s
     ·subst hk; rw [setRow_self, if_pos rfl]; grind
     ·rw [Q0p hk, if_neg hk, Int.add_zero]
    rw [Q12 h3, Q4z, Q30 (f := fun k => if k = s then t * (tr A i s * idI r j) else 0) hs (fun k _ hk => if_neg hk), if_pos rfl]
   rw [h2, Qal hj]
   by_cases hj2 : j = r
   ·subst hj2
    rw [setRow_self]
    unfold tr idI
    rw [if_pos rfl]; grind
   ·rw [Q0p hj2]
    unfold tr idI
    rw [if_neg (Ne.symm hj2)]; grind
  rw [e1, Qk0, Q4o t hs hr (Ne.symm hn), Qgu, Int.mul_one]
 | @swap A B r s hr hs hn _ ih =>
  have h0 := ih hb
  rw [Q4n hr hs hn] at h0
  have e1 : det n (tr (swp A r s)) = det n (mmI n (tr A) (swp idI r s)) := Q15 fun i hi j hj => by
   show swp A r s j i = _
   have h2 : mmI n (tr A) (swp idI r s) i j = mmI n (tr A) idI i (if j = r then s else if j = s then r else j) := by
    unfold mmI
    refine Q12 fun k _ => ?_
    congr 1
    unfold swp idI
    by_cases hj1 : j = r <;> by_cases hj2 : j = s <;> by_cases hk1 : k = r <;> by_cases hk2 : k = s <;> grind
   rw [h2, Qal (by split <;> (try split) <;> omega)]
   unfold swp tr
   by_cases hj1 : j = r
   ·rw [if_pos hj1, if_pos hj1]
   ·rw [if_neg hj1, if_neg hj1]
    by_cases hj2 : j = s
    ·rw [if_pos hj2, if_pos hj2]
    ·rw [if_neg hj2, if_neg hj2]
  rw [e1, Qk0, Q4n hr hs hn, Qgu] at h0
  omega


theorem Q6g {n r : Nat} {A : Mi} {f : Nat → Int} (hr : r < n) (hf : ∀ j, j < n → f j = 0) : det n (setRow A r f) = 0 := by
 have h := Q71 (m := 0) (A := A) (t := fun _ => 0) (g := fun _ _ => 0) hr
 rw [Q15 (B := setRow A r fun j => smI 0 fun k => (fun _ => (0 : Int)) k * (fun _ _ => (0 : Int)) k j) ?_, h]
 ·rfl
 ·intro i hi j hj
  unfold setRow
  split
  ·rw [hf j hj]; rfl
  ·rfl

theorem cramer {n : Nat} {A : Mi} {g : Nat → Int} (hd : det n A ≠ 0) (h : ∀ j, j < n → smI n (fun t => g t * A t j) = 0) : ∀ r, r < n → g r = 0 := fun r hr => by
 have h1 := Q6g (A := A) (f := fun j => smI n fun t => g t * A t j) hr h
 rw [Q71 hr, Q30 hr (fun t ht hne => ?_), Q1p] at h1
 ·rcases Int.mul_eq_zero.1 h1 with h2 | h2
  ·exact h2
  ·exact absurd h2 hd
 ·rw [Q35 hr ht (Ne.symm hne) (fun j => by rw [setRow_self, Q0p hne]), Int.mul_zero]

def unit (t : Nat) : Nat → Int := fun b => if t = b then 1 else 0

theorem Qi6 {n b : Nat} {f : Nat → Int} (hb : b < n) : smI n (fun t => f t * unit t b) = f b := by
 rw [Q30 hb (fun i _ hne => by unfold unit; rw [if_neg hne, Int.mul_zero])]
 unfold unit
 rw [if_pos rfl, Int.mul_one]

theorem Q6h {n r : Nat} {A : Mi} {f : Nat → Int} (hr : r < n) : det n (setRow A r f) = smI n fun t => f t * det n (setRow A r (unit t)) := by
 rw [← Q71 hr]
 refine Q15 fun i _ j hj => ?_
 unfold setRow
 split
 ·exact (Qi6 hj).symm
 ·rfl

theorem Qau : ∀ {n : Nat} {M : Mi}, (∀ j, j < n + 1 → M n j = unit n j) → det (n + 1) M = det n M
 | 0, M, h => by
  rw [det]
  show smI 0 _ + sg 0 * M 0 0 * 1 = 1
  rw [h 0 (by omega)]
  rfl
 | n + 1, M, h => by
  rw [det, det, smI, h 0 (by omega)]
  have e : unit (n + 1) 0 = 0 := if_neg (by omega)
  rw [e, Int.mul_zero, Int.zero_mul, Int.add_zero]
  refine Q12 fun i hi => ?_
  rw [Qau (n := n) (fun j hj => ?_)]
  have : sk i n = n + 1 := by unfold sk; rw [if_neg (by omega)]
  rw [this, h (j + 1) (by omega)]
  unfold unit
  by_cases hj : n = j
  ·rw [if_pos hj, if_pos (by omega)]
  ·rw [if_neg hj, if_neg (by omega)]

def bd (k : Nat) (A : Mi) (i j : Nat) : Mi := fun a b => A (if a < k then a else i) (if b < k then b else j)
def bm (k : Nat) (A : Mi) (i j : Nat) : Int := det (k + 1) (bd k A i j)

theorem Qhf (A : Mi) (i j : Nat) : bm 0 A i j = A i j := by
 unfold bm
 rw [det, smI, smI]
 show 0 + 1 * A i j * 1 = A i j
 omega

theorem Qcu (k : Nat) (A : Mi) : bm k A k k = det (k + 1) A := by
 refine Q15 fun i hi j hj => ?_
 unfold bd
 congr 1
 ·by_cases h : i < k
  ·rw [if_pos h]
  ·rw [if_neg h]; omega
 ·by_cases h : j < k
  ·rw [if_pos h]
  ·rw [if_neg h]; omega

theorem Qhg {k i j : Nat} {A : Mi} (hj : j < k) : bm k A i j = 0 := by
 unfold bm
 rw [← Qbz]
 refine Q35 (r := j) (s := k) (by omega) (by omega) (by omega) (fun b => ?_)
 unfold tr bd
 rw [if_pos hj, if_neg (Nat.lt_irrefl k)]
theorem Qo7 {k i j : Nat} {A : Mi} (hi : i < k) : bm k A i j = 0 := by
 unfold bm
 refine Q35 (r := i) (s := k) (by omega) (by omega) (by omega) (fun b => ?_)
 unfold bd
 rw [if_pos hi, if_neg (Nat.lt_irrefl k)]

def cf (k : Nat) (A : Mi) (i t : Nat) : Int := det (k + 1) (setRow (tr (bd k A i 0)) k (unit t))
theorem Q8p (k : Nat) (A : Mi) (i j : Nat) : bm k A i j = smI k (fun t => A t j * cf k A i t) + A i j * det k A := by
 unfold bm
 rw [← Qbz, Q15 (B := setRow (tr (bd k A i 0)) k (fun b => A (if b < k then b else i) j)) ?_, Q6h (by omega), smI]
 ·congr 1
  ·refine Q12 fun t ht => ?_
   rw [if_pos ht]
   rfl
  ·rw [if_neg (Nat.lt_irrefl k), Qau (fun j _ => setRow_self _ _ _ _), ← Qbz (A := A)]
   congr 1
   refine Q15 fun a ha b hb => ?_
   rw [Q0p (by omega)]
   unfold tr bd
   rw [if_pos ha, if_pos hb]
 ·intro a ha b hb
  by_cases h : a = k
  ·subst h
   rw [setRow_self]
   unfold tr bd
   rw [if_neg (Nat.lt_irrefl a)]
  ·rw [Q0p h]
   have : a < k := by omega
   unfold tr bd
   rw [if_pos this, if_pos this]

theorem Qme {k : Nat} {A : Mi} (hp : det (k + 1) A ≠ 0) (i j : Nat) : bm k A k k * bm k A i j - bm k A i k * bm k A k j = det k A * bm (k + 1) A i j := by
 have key : ∀ j, bm k A k k * bm k A i j - bm k A i k * bm k A k j - det k A * bm (k + 1) A i j = smI (k + 1) (fun t => ((if t < k then bm k A k k * cf k A i t - bm k A i k * cf k A k t else -(bm k A i k * det k A)) - det k A * cf (k + 1) A i t) * A t j) := fun j => by
  rw [Q8p k A i j, Q8p k A k j, Q8p (k + 1) A i j, Qcu, smI, smI, if_neg (Nat.lt_irrefl k)]
  have e : smI k (fun t => ((if t < k then det (k + 1) A * cf k A i t - bm k A i k * cf k A k t else -(bm k A i k * det k A)) - det k A * cf (k + 1) A i t) * A t j) = det (k + 1) A * smI k (fun t => A t j * cf k A i t) + (-(bm k A i k)) * smI k (fun t => A t j * cf k A k t) + (-(det k A)) * smI k (fun t => A t j * cf (k + 1) A i t) := by
   rw [← Q2j, ← Q2j, ← Q2j, ← Q4z, ← Q4z]
   refine Q12 fun t ht => ?_
   rw [if_pos ht]
   grind
  rw [e]
  grind
 have hz : ∀ j, j < k + 1 → smI (k + 1) (fun t => ((if t < k then bm k A k k * cf k A i t - bm k A i k * cf k A k t else -(bm k A i k * det k A)) - det k A * cf (k + 1) A i t) * A t j) = 0 := fun j hj => by
  rw [← key j, Qhg (k := k + 1) hj]
  by_cases h : j < k
  ·rw [Qhg h, Qhg h]; grind
  ·obtain rfl : j = k := by omega
   grind
 have hg := cramer hp hz
 have h2 := key j
 rw [Q64 (fun t ht => by rw [hg t ht, Int.zero_mul])] at h2
 omega

theorem Qmf {n k : Nat} {A : Mi} (hk : k < n) (hd : det k A ≠ 0) (h : ∀ i, k ≤ i → i < n → bm k A i k = 0) : det n A = 0 := by
 refine Decidable.byContradiction fun hn => ?_
 have hn' : det n (tr A) ≠ 0 := by rw [Qbz]; exact hn
 have hrow : ∀ i, bm k A i k = smI (k + 1) (fun t => A i t * det (k + 1) (setRow (bd k A 0 k) k (unit t))) := fun i => by
  unfold bm
  rw [← Q6h (f := fun t => A i t) (by omega)]
  refine Q15 fun a ha b hb => ?_
  have hbk : (if b < k then b else k) = b := by split <;> omega
  by_cases hak : a = k
  ·subst hak
   rw [setRow_self]
   unfold bd
   rw [if_neg (Nat.lt_irrefl a), hbk]
  ·rw [Q0p hak]
   have hak' : a < k := by omega
   unfold bd
   rw [if_pos hak', if_pos hak']
 have hz := cramer (g := fun t => if t < k + 1 then det (k + 1) (setRow (bd k A 0 k) k (unit t)) else 0) hn' (fun i hi => by
  rw [Qfh (k := k + 1) (by omega) (fun t ht _ => by rw [if_neg (by omega), Int.zero_mul])]
  have h1 : bm k A i k = 0 := by
   by_cases hik : i < k
   ·exact Qo7 hik
   ·exact h i (by omega) hi
  rw [hrow] at h1
  rw [← h1]
  refine Q12 fun t ht => ?_
  rw [if_pos ht]
  unfold tr
  exact Int.mul_comm _ _) k hk
 rw [if_pos (by omega), Qau (fun j _ => setRow_self _ _ _ _)] at hz
 refine hd ?_
 rw [← hz]
 refine Q15 fun a ha b hb => ?_
 rw [Q0p (by omega)]
 unfold bd
 rw [if_pos ha, if_pos hb]

structure Bar (n : Nat) (A : Mi) (k : Nat) (M : Mi) (last : Int) : Prop where
 eqd : last = det k A
 ne : last ≠ 0
 eq : ∀ i j, k ≤ i → i < n → k ≤ j → j < n → M i j = bm k A i j

theorem Qhr (n : Nat) (A : Mi) : Bar n A 0 A 1 := ⟨rfl, by decide, fun i j _ _ _ _ => (Qhf A i j).symm⟩

theorem Bar.step {n k : Nat} {A M M' : Mi} {last : Int} (h : Bar n A k M last) (hk : k < n) (hp : M k k ≠ 0) (hM : ∀ i j, k < i → i < n → k < j → j < n → M' i j = (M k k * M i j - M i k * M k j) / last) : Bar n A (k + 1) M' (M k k) := by
 have hkk := h.eq k k (Nat.le_refl _) hk (Nat.le_refl _) hk
 have hd : det (k + 1) A ≠ 0 := by rw [← Qcu, ← hkk]; exact hp
 refine ⟨by rw [hkk, Qcu], hp, fun i j hi hin hj hjn => ?_⟩
 rw [hM i j hi hin hj hjn, hkk, h.eq i j (by omega) hin (by omega) hjn, h.eq i k (by omega) hin (Nat.le_refl _) hk, h.eq k j (Nat.le_refl _) hk (by omega) hjn, Qme hd, ← h.eqd]
 exact Int.mul_ediv_cancel_left _ h.ne

theorem Bar.none {n k : Nat} {A M : Mi} {last : Int} (h : Bar n A k M last) (hk : k < n) (hz : ∀ i, k ≤ i → i < n → M i k = 0) : det n A = 0 :=
 Qmf hk (by rw [← h.eqd]; exact h.ne) fun i hi hin => by rw [← h.eq i k hi hin (Nat.le_refl _) hk]; exact hz i hi hin

theorem Bar.done {n : Nat} {A M : Mi} {last : Int} (h : Bar n A n M last) : last = det n A := h.eqd

theorem Qb2 {k i i' j : Nat} {A A' : Mi} (s : Int) (h1 : ∀ a, a < k → ∀ b, A' a b = A a b) (h2 : ∀ b, A' i b = s * A i' b) : bm k A' i j = s * bm k A i' j := by
 unfold bm
 have h := Q2q (A := bd k A i' j) (r := k) (f := fun _ => 0) (g := bd k A i' j k) s (Nat.lt_succ_self k)
 rw [Q1p, Q6g (Nat.lt_succ_self k) (fun _ _ => rfl), Int.zero_add] at h
 rw [← h]
 refine Q15 fun a ha b hb => ?_
 by_cases hak : a = k
 ·subst hak
  rw [setRow_self, Int.zero_add]
  unfold bd
  rw [if_neg (Nat.lt_irrefl a), if_neg (Nat.lt_irrefl a), h2]
 ·rw [Q0p hak]
  have hak' : a < k := by omega
  unfold bd
  rw [if_pos hak', if_pos hak']
  exact h1 a hak' _

theorem Bar.swap {n k q : Nat} {A M M' : Mi} {last : Int} (s : Int) (h : Bar n A k M last) (hk : k < q) (hq : q < n) (h1 : ∀ j, j < n → M' k j = s * M q j) (h2 : ∀ j, j < n → M' q j = M k j) (h3 : ∀ i j, i < n → j < n → i ≠ k → i ≠ q → M' i j = M i j) :
  Bar n (setRow (swp A k q) k (fun j => s * A q j)) k M' last ∧ det n (setRow (swp A k q) k (fun j => s * A q j)) = -(s * det n A) := by
 have hA : ∀ a, a < k → ∀ b, setRow (swp A k q) k (fun j => s * A q j) a b = A a b := fun a ha b => by
  rw [Q0p (by omega)]
  unfold swp
  rw [if_neg (by omega), if_neg (by omega)]
 refine ⟨⟨?_, h.ne, fun i j hi hin hj hjn => ?_⟩, ?_⟩
 ·rw [h.eqd]
  exact Q15 fun a ha b _ => (hA a ha b).symm
 ·by_cases hik : i = k
  ·subst hik
   rw [h1 j hjn, h.eq q j (by omega) hq hj hjn, Qb2 (i' := q) s hA (fun b => setRow_self _ _ _ _)]
  ·by_cases hiq : i = q
   ·subst hiq
    rw [h2 j hjn, h.eq k j (Nat.le_refl _) (by omega) hj hjn, Qb2 (i' := k) 1 hA (fun b => by
     rw [Q0p hik]; unfold swp; rw [if_neg hik, if_pos rfl, Int.one_mul]), Int.one_mul]
   ·rw [h3 i j hin hjn hik hiq, h.eq i j hi hin hj hjn, Qb2 (i' := i) 1 hA (fun b => by
     rw [Q0p hik]; unfold swp; rw [if_neg hik, if_neg hiq, Int.one_mul]), Int.one_mul]
 ·have h4 := Q2q (n := n) (A := swp A k q) (r := k) (f := fun _ => 0) (g := swp A k q k) s (by omega)
  rw [Q1p, Q6g (by omega) (fun _ _ => rfl), Int.zero_add, Q4n (by omega) hq (by omega)] at h4
  rw [← Int.mul_neg, ← h4]
  refine Q15 fun a ha b hb => ?_
  by_cases hak : a = k
  ·subst hak
   rw [setRow_self, setRow_self, Int.zero_add]
   unfold swp
   rw [if_pos rfl]
  ·rw [Q0p hak, Q0p hak]

end Go.Proofs.YtdlmnloikakjpaaGreatDoor

namespace Go.Proofs.YtdlmnloikakjpaaGreatDoor
open Go Go.RowKit
set_option linter.unusedSimpArgs false
set_option linter.unusedVariables false
set_option linter.unusedSectionVars false

theorem Q3y {r c i j : Nat} (hi : i < r) (hj : j < c) : i * c + j < r * c := by
 have h : (i + 1) * c ≤ r * c := Nat.mul_le_mul_right c hi
 rw [Nat.add_mul, Nat.one_mul] at h; omega
theorem Qd1 {c i j : Nat} (hj : j < c) : (i * c + j) / c = i := by
 rw [Nat.mul_comm, Nat.mul_add_div (by omega), Nat.div_eq_of_lt hj, Nat.add_zero]
theorem Qd0 {c i j : Nat} (hj : j < c) : (i * c + j) % c = j := by
 rw [Nat.mul_comm, Nat.mul_add_mod, Nat.mod_eq_of_lt hj]
theorem Qmp {c i j i' j' : Nat} (hj : j < c) (hj' : j' < c) (h : i * c + j = i' * c + j') : i = i' ∧ j = j' := by
 have h1 := congrArg (· / c) h
 have h2 := congrArg (· % c) h
 simp only [Qd1 hj, Qd1 hj', Qd0 hj, Qd0 hj'] at h1 h2
 exact ⟨h1, h2⟩
theorem Q5x {r c k : Nat} (h : k < r * c) : k / c < r ∧ k % c < c ∧ k = (k / c) * c + k % c := by
 have hc : 0 < c := by
  rcases Nat.eq_zero_or_pos c with h0 | h0
  ·subst h0; omega
  ·exact h0
 refine ⟨(Nat.div_lt_iff_lt_mul hc).2 h, Nat.mod_lt _ hc, ?_⟩
 rw [Nat.mul_comm, Nat.div_add_mod]
theorem Q90 {r c i : Nat} (hi : i < r) : (i + 1) * c ≤ r * c := Nat.mul_le_mul_right c (by omega)

def enz (c : Nat) (xs : List Int) (i j : Nat) : Int := xs.getD (i * c + j) 0
def ZM.at (m : ZM) : Mi := fun i j => enz m.c m.e i j
def tbz (r c : Nat) (g : Mi) : List Int := tab (r * c) fun k => g (k / c) (k % c)
theorem Q80 (r c : Nat) (g : Mi) : (tbz r c g).length = r * c := by simp [tbz, tab]
theorem Q8e {r c i j : Nat} {g : Mi} (hi : i < r) (hj : j < c) : enz c (tbz r c g) i j = g i j := by
 unfold enz tbz
 rw [Q58 (Q3y hi hj), Qd1 hj, Qd0 hj]
theorem Qfa {r c i j : Nat} {g : Mi} (hi : i < r) (hj : j < c) : (tbz r c g).getD (i * c + j) 0 = g i j := Q8e hi hj
theorem Q13 {r c : Nat} {g g' : Mi} (h : ∀ i j, i < r → j < c → g i j = g' i j) : tbz r c g = tbz r c g' := Q1h fun k hk => by
 obtain ⟨h1, h2, _⟩ := Q5x hk
 exact h _ _ h1 h2
theorem Q7z {r c i j : Nat} {x : Int} {g : Mi} (hj : j < c) : (tbz r c g).set (i * c + j) x = tbz r c (fun a b => if a = i ∧ b = j then x else g a b) := by
 unfold tbz
 rw [Qa0]
 refine Q1h fun k hk => ?_
 obtain ⟨h1, h2, h3⟩ := Q5x hk
 by_cases h : k = i * c + j
 ·have : k / c = i ∧ k % c = j := by subst h; exact ⟨Qd1 hj, Qd0 hj⟩
  rw [if_pos h]
  exact (if_pos this).symm
 ·rw [if_neg h]
  refine (if_neg ?_).symm
  rintro ⟨e1, e2⟩
  rw [e1, e2] at h3
  exact h h3
theorem Qf9 {r c : Nat} {xs : List Int} (hl : xs.length = r * c) : tbz r c (enz c xs) = xs := by
 unfold tbz
 rw [Q1h (g' := fun i => xs.getD i 0)]
 ·exact Qfb hl
 ·intro k hk
  obtain ⟨_, _, h3⟩ := Q5x hk
  unfold enz
  rw [← h3]
theorem Qmq {r c : Nat} {xs ys : List Int} (hx : xs.length = r * c) (hy : ys.length = r * c) (h : ∀ i j, i < r → j < c → enz c xs i j = enz c ys i j) : xs = ys := by
 rw [← Qf9 hx, ← Qf9 hy]
 exact Q13 h
theorem Q9y (r c : Nat) : tbz r c (fun _ _ => 0) = tab (r * c) fun _ => 0 := rfl

def zof (r c : Nat) (g : Mi) : ZM := ⟨r, c, tbz r c g⟩
theorem Q74 {r c : Nat} {g : Mi} (hr : r ≤ 200) (hc : c ≤ 200) : RtZ (zof r c g) := ⟨hr, hc, Q80 r c g⟩
theorem Qb8 {r c i j : Nat} {g : Mi} (hi : i < r) (hj : j < c) : (zof r c g).at i j = g i j := Q8e hi hj
theorem Qey {m : ZM} (h : RtZ m) : zof m.r m.c m.at = m := by
 unfold zof ZM.at
 rw [Qf9 h.len]
theorem Qb7 {r c : Nat} {g g' : Mi} (h : ∀ i j, i < r → j < c → g i j = g' i j) : zof r c g = zof r c g' := by
 unfold zof
 rw [Q13 h]
theorem ZM.ext' {m n : ZM} (hm : RtZ m) (hn : RtZ n) (hr : m.r = n.r) (hc : m.c = n.c) (h : ∀ i j, i < m.r → j < m.c → m.at i j = n.at i j) : m = n := by
 rw [← Qey hm, ← Qey hn, ← hr, ← hc]
 exact Qb7 h
theorem Qfr {c i j : Nat} {xs : List Int} (hj : j < c) : ((xs.drop (i * c)).take c).getD j 0 = enz c xs i j := by
 unfold enz
 simp only [List.getD, List.getElem?_take_of_lt hj, List.getElem?_drop]

def BdZ (K : Nat) (m : ZM) : Prop := ∀ i, (m.e.getD i 0).natAbs < 256 ^ K
theorem BdZ.mono {K K' : Nat} {m : ZM} (h : BdZ K m) (hk : K ≤ K') : BdZ K' m := fun i => Nat.lt_of_lt_of_le (h i) (Nat.pow_le_pow_right (by decide) hk)
theorem BdZ.at {K : Nat} {m : ZM} (h : BdZ K m) (i j : Nat) : (m.at i j).natAbs < 256 ^ K := h _
theorem Q8u {K r c : Nat} {g : Mi} (h : ∀ i j, i < r → j < c → (g i j).natAbs < 256 ^ K) : BdZ K (zof r c g) := fun k => by
 rcases Nat.lt_or_ge k (r * c) with hk | hk
 ·obtain ⟨h1, h2, h3⟩ := Q5x hk
  show ((tbz r c g).getD k 0).natAbs < _
  rw [h3, Qfa h1 h2]
  exact h _ _ h1 h2
 ·show ((tbz r c g).getD k 0).natAbs < _
  simp only [List.getD, List.getElem?_eq_none (show (tbz r c g).length ≤ k by rw [Q80]; exact hk), Option.getD_none]
  exact Nat.pow_pos (by decide)
theorem pos256 (K : Nat) : 0 < 256 ^ K := Nat.pow_pos (by decide)

def addZ (m n : ZM) : ZM := zof m.r m.c fun i j => m.at i j + n.at i j
def subZ (m n : ZM) : ZM := zof m.r m.c fun i j => m.at i j - n.at i j
def mulZ (m n : ZM) : ZM := zof m.r n.c (mmI m.c m.at n.at)
def trZ (m : ZM) : ZM := zof m.c m.r (tr m.at)
def joinZ (m n : ZM) : ZM := zof m.r (m.c + n.c) fun i j => if j < m.c then m.at i j else n.at i (j - m.c)
def partZ (m : ZM) (i j r c : Nat) : ZM := zof r c fun a b => m.at (i + a) (j + b)
def oneZ (n : Nat) : ZM := zof n n idI
def zeroZ (r c : Nat) : ZM := zof r c fun _ _ => 0

theorem Qfj {B : Nat} : ∀ {n : Nat} {f : Nat → Int}, (∀ i, i < n → (f i).natAbs ≤ B) → (smI n f).natAbs ≤ n * B
 | 0, f, _ => by simp [smI]
 | n + 1, f, h => by
  rw [smI]
  have h1 := Qfj (n := n) (f := f) (fun i hi => h i (by omega))
  have h2 := h n (by omega)
  have h3 := Int.natAbs_add_le (smI n f) (f n)
  rw [Nat.add_mul, Nat.one_mul]
  omega
theorem Q29 {x y : Int} {K L : Nat} (hx : x.natAbs < 256 ^ K) (hy : y.natAbs < 256 ^ L) : (x * y).natAbs < 256 ^ (K + L) := by
 rw [Int.natAbs_mul, Nat.pow_add]
 exact Nat.mul_lt_mul'' hx hy
theorem Qo8 {x y : Int} {K : Nat} (hx : x.natAbs < 256 ^ K) (hy : y.natAbs < 256 ^ K) : (x + y).natAbs < 256 ^ (K + 1) := by
 have h := Int.natAbs_add_le x y
 rw [Nat.pow_succ]; omega
theorem Qbg {x y : Int} {K : Nat} (hx : x.natAbs < 256 ^ K) (hy : y.natAbs < 256 ^ K) : (x - y).natAbs < 256 ^ (K + 1) := by
 rw [Nat.pow_succ]; omega
theorem Q8q {x : Int} {K L : Nat} (h : x.natAbs < 256 ^ K) (hk : K ≤ L) : x.natAbs < 256 ^ L := Nat.lt_of_lt_of_le h (Nat.pow_le_pow_right (by decide) hk)
theorem Qol {K L n : Nat} {A B : Mi} {i j : Nat} (hn : n ≤ 200) (hA : ∀ k, k < n → (A i k).natAbs < 256 ^ K) (hB : ∀ k, k < n → (B k j).natAbs < 256 ^ L) : (mmI n A B i j).natAbs < 256 ^ (K + L + 1) := by
 have h := Qfj (n := n) (f := fun k => A i k * B k j) (B := 256 ^ (K + L)) (fun k hk => Nat.le_of_lt (Q29 (hA k hk) (hB k hk)))
 have h2 : n * 256 ^ (K + L) ≤ 200 * 256 ^ (K + L) := Nat.mul_le_mul_right _ hn
 have h3 := pos256 (K + L)
 show (smI n _).natAbs < _
 rw [Nat.pow_succ]
 omega
theorem BdZ.add {K : Nat} {m n : ZM} (h : BdZ K m) (h' : BdZ K n) : BdZ (K + 1) (addZ m n) := Q8u fun i j _ _ => Qo8 (h.at i j) (h'.at i j)
theorem BdZ.sub {K : Nat} {m n : ZM} (h : BdZ K m) (h' : BdZ K n) : BdZ (K + 1) (subZ m n) := Q8u fun i j _ _ => Qbg (h.at i j) (h'.at i j)
theorem BdZ.mul {K L : Nat} {m n : ZM} (hc : m.c ≤ 200) (h : BdZ K m) (h' : BdZ L n) : BdZ (K + L + 1) (mulZ m n) := Q8u fun i j _ _ => Qol hc (fun k _ => h.at i k) (fun k _ => h'.at k j)
theorem Qov {K : Nat} {m : ZM} (h : BdZ K m) : BdZ K (trZ m) := Q8u fun i j _ _ => h.at j i
theorem BdZ.part {K : Nat} {m : ZM} (h : BdZ K m) (i j r c : Nat) : BdZ K (partZ m i j r c) := Q8u fun a b _ _ => h.at _ _
theorem BdZ.one (n : Nat) : BdZ 1 (oneZ n) := Q8u fun i j _ _ => by unfold idI; split <;> decide
theorem BdZ.zero (r c : Nat) : BdZ 0 (zeroZ r c) := Q8u fun i j _ _ => by decide


def Zeros (r c : Nat) (w : World) (v : Value) (w' : World) : Prop := ∃ N E, New N w w' ∧ v = .agg #[nv r, nv c, E] ∧ OwnZ N E (r * c) (tab (r * c) fun _ => 0)

set_option maxHeartbeats 1000000 in
theorem Qe2 (r c : Nat) (hr : r ≤ 200) (hc : c ≤ 200) (w : World) : Calls Tryz.prog 55 #[.int .i64 r, .int .i64 c] w (Ret fun v w' => Kp [] w w' ∧ Zeros r c w v w') := by
 have hb := rcZ hr hc
 refine Q0a [] [] (by simp) [] Tryz.func55 rfl mixed (by kernel_rfl) Tryz.ntmps55 Tryz.results55 rfl ⟨by simp, by simp⟩ (by simp) ?_
 simp only [toS, textOps, toSOp, kindAt, kindOf, odAt, sopsAt, ordOf, zipF]
 (repeat' (first | refine JC.seq ?_ | refine JC.ops ?_ | refine JO.nil ?_ | refine Q00 ?_ | (apply Q04; (iterate 3 exact rfl)) | (apply Q0e; (iterate 3 exact rfl); intro _)))
 refine Q09 trivial rfl rfl rfl (fun w _ _ => Qh9 r c w) fun w v w' _ _ _ hR => ?_
 obtain ⟨b, rfl, hb⟩ := hR
 obtain rfl := hb.2 (by omega)
 (repeat' (first | refine JC.seq ?_ | refine JC.ops ?_ | refine JO.nil ?_ | refine Q00 ?_ | (apply Q04; (iterate 3 exact rfl)) | (apply Q1q; (iterate 4 exact rfl); (first | assumption | omega)) | (apply Q1e; (iterate 3 exact rfl)) | refine JC.skip ?_ | refine Q07 rfl ?_))
 refine Q3q rfl rfl rfl rfl rfl (by omega) (by omega) (fun b => ?_)
 (repeat' (first | refine JO.nil ?_ | refine Q00 ?_ | (apply Q05; exact rfl; (first | exact trivial | exact ⟨rfl, rfl⟩); exact rfl; exact rfl; exact at1; (iterate 3 exact rfl)) | (apply Q11; (iterate 5 exact rfl)) | (apply Q05; exact rfl; (first | exact trivial | exact ⟨rfl, rfl⟩); exact rfl; exact rfl; exact at1; (iterate 3 exact rfl)) | refine JC.ret ?_))
 have := Q6y b (r * c) (by simp only [maxLen]; omega)
 exact Q0z 1 rfl rfl rfl (fun a w st => ⟨st.kp, _, _, st.newOf rfl (HSub.at 0 rfl (HSub.nil _)), rfl, this⟩)

def oneS (n k : Nat) : List Int := tbz n n fun a b => if a = b ∧ a < k then 1 else 0
theorem Qge (n : Nat) : oneS n 0 = tab (n * n) fun _ => 0 := by
 rw [← Q9y]
 exact Q13 fun i j _ _ => by simp
theorem Qio {n k : Nat} (hk : k < n) : (oneS n k).set (k * n + k) 1 = oneS n (k + 1) := by
 unfold oneS
 rw [Q7z hk]
 refine Q13 fun a b ha hb => ?_
 by_cases h : a = k ∧ b = k
 ·obtain ⟨rfl, rfl⟩ := h
  simp
 ·rw [if_neg h]
  by_cases h2 : a = b ∧ a < k
  ·rw [if_pos h2, if_pos ⟨h2.1, by omega⟩]
  ·rw [if_neg h2, if_neg]
   rintro ⟨rfl, h3⟩
   rcases Nat.lt_or_ge a k with h4 | h4
   ·exact h2 ⟨rfl, h4⟩
   ·exact h ⟨by omega, by omega⟩
theorem Qip (n : Nat) : oneS n n = (oneZ n).e := Q13 fun a b ha hb => by
 unfold idI
 by_cases h : a = b
 ·rw [if_pos ⟨h, ha⟩, if_pos h]
 ·rw [if_neg (fun h2 => h h2.1), if_neg h]

set_option maxHeartbeats 2000000 in
theorem Qoo (n : Nat) (hn : n ≤ 200) (w : World) : Calls Tryz.prog 43 #[nv n] w (Ret fun v w' => Kp [] w w' ∧ GivesM (oneZ n) w v w') := by
 have hnn := rcZ hn hn
 refine Q0a [⟨5, 2, [], []⟩] [] (by simp) [] Tryz.func43 rfl mixed (by kernel_rfl) Tryz.ntmps43 Tryz.results43 rfl ⟨by simp, by simp⟩ (by simp) ?_
 simp only [toS, textOps, toSOp, kindAt, kindOf, odAt, sopsAt, ordOf, zipF]
 (repeat' (first | refine JC.seq ?_ | refine JC.ops ?_ | refine JO.nil ?_ | refine Q00 ?_ | (apply Q04; (iterate 3 exact rfl)) | (apply Q0e; (iterate 3 exact rfl); intro _)))
 rename_i b2
 refine Q0h (A := [_]) (B := []) rfl trivial rfl rfl rfl (fun w _ _ => Qe2 n n hn hn w) fun w v w' _ _ _ hR => ?_
 obtain ⟨N, Eo, hN, rfl, hO⟩ := hR
 obtain ⟨Ao, co, rfl⟩ := hO.form
 refine ⟨N, hN, ?_⟩
 (repeat' (first | refine JC.seq ?_ | refine JC.ops ?_ | refine JO.nil ?_ | refine Q00 ?_ | (apply Q04; (iterate 3 exact rfl)) | (apply Q06; (iterate 3 exact rfl)) | (apply Q0g; (iterate 4 exact rfl); exact at0; exact rfl) | (apply Q05; exact rfl; (first | exact trivial | exact ⟨rfl, rfl⟩); exact rfl; exact rfl; exact at0; (iterate 3 exact rfl)) | (apply Q0e; (iterate 3 exact rfl); intro _) | (apply Q05; exact rfl; (first | exact trivial | exact ⟨rfl, rfl⟩); exact rfl; exact rfl; exact at0; (iterate 3 exact rfl)) | refine JC.block ?_))
 rename_i b3
 refine Q0k (ι := Nat × SHeap) ⟨fun z => [(10, nv z.1), (9, nv n), (0, nv n), (3, .pointer (some ⟨b3, 0, none⟩)), (2, .pointer (some ⟨b2, 0, none⟩))],
  fun z => [(b3, .cells #[nv n, nv n, .slice Ao (n * n) co] 29), (b2, .cells #[iv 0, iv 0, .slice none 0 0] 29)] ++ (z.2 ++ []),
  fun z => z.1 ≤ n ∧ OwnZ z.2 (.slice Ao (n * n) co) (n * n) (oneS n z.1), fun z => n - z.1⟩ (0, N) ⟨by omega, by rw [Qge]; exact hO⟩ (by repeat first | exact trivial | refine ⟨rfl, ?_⟩) (by (first | exact HSub.refl _ | (repeat' first | exact HSub.nil _ | exact HSub.refl _ | refine HSub.at 0 rfl ?_ | refine HSub.at 1 rfl ?_ | refine HSub.at 2 rfl ?_ | refine HSub.at 3 rfl ?_ | refine HSub.at 4 rfl ?_ | refine HSub.at 5 rfl ?_ | refine HSub.at 6 rfl ?_ | refine HSub.at 7 rfl ?_))) (fun k hk => ?_)
 obtain ⟨k, N⟩ := k
 obtain ⟨hkn, hO⟩ := hk
 dsimp only at hkn hO ⊢
 have hkk : k * n ≤ 40000 := Nat.mul_le_mul (show k ≤ 200 by omega) hn
 by_cases hlt : k < n
 ·have hi := Q3y hlt hlt
  (repeat' (first | refine JC.seq ?_ | refine JC.ops ?_ | refine JC.opsD ?_ | refine JO.nil ?_ | refine Q00 ?_ | (apply Q04; (iterate 3 exact rfl)) | (apply Q06; (iterate 3 exact rfl)) | (apply Q02; (iterate 3 exact rfl)) | (apply Q0g; (iterate 4 exact rfl); exact at0; exact rfl) | (apply Q1a; (iterate 4 exact rfl); omega) | (apply Q1q; (iterate 4 exact rfl); (first | assumption | omega)) | (apply Q0m; (iterate 4 exact rfl); all_goals intro hc; all_goals try (exfalso; omega)) | refine JC.skip ?_ | refine Q08 rfl ?_ | refine JC.block ?_))
  refine Q09 (by first | trivial | exact ⟨rfl, rfl⟩) rfl rfl rfl (fun w _ _ => Q9s w 1 (by omega) (by omega)) fun w v w' _ _ _ hR => ?_
  subst hR
  (repeat' (first | (apply Q1m; (iterate 4 exact rfl); (first | assumption | exact WZ.rd (by assumption) rfl [] | exact OwnZ.rd (by assumption)); (first | assumption | omega))))
  refine Q5s (A := [_, _]) hO rfl rfl ⟨rfl, rfl⟩ rfl rfl hi (fun N' hO' => ?_)
  rw [Qio hlt] at hO'
  (repeat' (first | refine JC.ops ?_ | refine JO.nil ?_ | refine Q00 ?_ | (apply Q04; (iterate 3 exact rfl)) | (apply Q0r; (iterate 4 exact rfl); omega) | refine Q0b ?_))
  exact Q0c (k + 1, N') ⟨by dsimp only; omega, hO'⟩ (by dsimp only; omega) (by repeat first | exact trivial | refine ⟨rfl, ?_⟩) (by (first | exact HSub.refl _ | (repeat' first | exact HSub.nil _ | exact HSub.refl _ | refine HSub.at 0 rfl ?_ | refine HSub.at 1 rfl ?_ | refine HSub.at 2 rfl ?_ | refine HSub.at 3 rfl ?_ | refine HSub.at 4 rfl ?_ | refine HSub.at 5 rfl ?_ | refine HSub.at 6 rfl ?_ | refine HSub.at 7 rfl ?_)))
 ·(repeat' (first | refine JC.seq ?_ | refine JC.ops ?_ | refine JO.nil ?_ | refine Q00 ?_ | (apply Q0d; (iterate 4 exact rfl); (first | exact at0 | exact at1); exact rfl) | (apply Q05; exact rfl; (first | exact trivial | exact ⟨rfl, rfl⟩); exact rfl; exact rfl; (first | exact at0 | exact at1); (iterate 3 exact rfl)) | (apply Q0m; (iterate 4 exact rfl); all_goals intro hc; all_goals try (exfalso; omega)) | (apply Q05; exact rfl; (first | exact trivial | exact ⟨rfl, rfl⟩); exact rfl; exact rfl; (first | exact at0 | exact at1); (iterate 3 exact rfl)) | refine Q0i ?_ | refine JC.exit ?_ | refine JC.ret ?_ | refine Q07 rfl ?_ | refine Q0f ?_))
  obtain rfl : k = n := by omega
  rw [Qip] at hO
  exact Q0z 1 rfl rfl rfl (fun a w' st => ⟨st.kp, N, st.newOf rfl (by (repeat' first | exact HSub.nil _ | exact HSub.hd | exact Q03 | exact HSub.refl _ | refine HSub.skip ?_ | refine Q01 ?_)), OwnM.mk' hO⟩)

theorem Wz0 : Wv 0 = wv false [] := congrArg xv wz_zero
def atZ (m : ZM) (i j : Int) : Int := if 0 ≤ i ∧ i < m.r ∧ 0 ≤ j ∧ j < m.c then m.at i.toNat j.toNat else 0

set_option maxHeartbeats 2000000 in
theorem c_At (w : World) (v : Value) (m : ZM) (i j : Int) (hm : RtZ m) (hv : IsM w v m) : Calls Tryz.prog 18 #[v, iv i, iv j] w (Ret fun v w' => Kp [] w w' ∧ v = Wv (atZ m i j)) := by
 have hvX := hv.x
 obtain ⟨E, rfl, hE⟩ := hv
 have hl := hm.len
 have hle := hm.le
 by_cases h : 0 ≤ i ∧ i < m.r ∧ 0 ≤ j ∧ j < m.c
 ·obtain ⟨i, rfl⟩ := Int.eq_ofNat_of_zero_le h.1
  obtain ⟨j, rfl⟩ := Int.eq_ofNat_of_zero_le h.2.2.1
  have hi : i < m.r := by omega
  have hj : j < m.c := by omega
  have hlt := Q3y hi hj
  have e : atZ m i j = m.e.getD (i * m.c + j) 0 := if_pos h
  rw [e]
  refine Q0a [] [] (by simp) [] Tryz.func18 rfl mixed (by kernel_rfl) Tryz.ntmps18 Tryz.results18 rfl ⟨by simp, by simp⟩ (by simp) ?_
  simp only [toS, textOps, toSOp, kindAt, kindOf, odAt, sopsAt, ordOf, zipF]
  (repeat' (first | refine JC.seq ?_ | refine JC.ops ?_ | refine JO.nil ?_ | refine Q00 ?_ | (apply Q0d; (iterate 4 exact rfl); exact at1; exact rfl) | (apply Q0e; (iterate 3 exact rfl); intro _) | (apply Q0x; (iterate 4 exact rfl); intro _)))
  refine Q09 trivial rfl rfl rfl (fun w hk _ => Q20 w _ m.xm (hvX.mono hk) (by simp [ZM.xm]; omega)) fun w v w' _ _ _ hR => ?_
  obtain ⟨b, rfl, hb⟩ := hR
  obtain rfl := hb.2 hm.rx
  have hic : i * m.c ≤ 40000 := by omega
  (repeat' (first | refine JC.seq ?_ | refine JC.ops ?_ | refine JO.nil ?_ | refine Q00 ?_ | (apply Q04; (iterate 3 exact rfl)) | (apply Q06; (iterate 3 exact rfl)) | (apply Q0g; (iterate 4 exact rfl); (first | exact at0 | exact at1); exact rfl) | (apply Q1m; (iterate 4 exact rfl); (first | assumption | exact WZ.rd (by assumption) rfl [] | exact OwnZ.rd (by assumption)); (first | assumption | omega)) | (apply Q52; (iterate 4 exact rfl); (first | assumption | exact WZ.rd (by assumption) rfl [] | exact OwnZ.rd (by assumption)); (repeat' first | exact HSub.nil _ | exact HSub.hd | exact Q03 | exact HSub.refl _ | refine HSub.skip ?_ | refine Q01 ?_); (first | assumption | omega)) | (apply Q1a; (iterate 4 exact rfl); omega) | (apply Q1q; (iterate 4 exact rfl); (first | assumption | omega)) | (apply Ql1; (iterate 4 exact rfl)) | (apply Q0q; (iterate 4 exact rfl)) | (apply Q1e; (iterate 3 exact rfl)) | (apply Q05; exact rfl; (first | exact trivial | exact ⟨rfl, rfl⟩); exact rfl; exact rfl; (first | exact at0 | exact at1); (iterate 3 exact rfl)) | (apply Q0m; (iterate 4 exact rfl); all_goals intro hc; all_goals try (exfalso; omega)) | (apply Q2k; (iterate 4 exact rfl); all_goals intro hc; all_goals try (exfalso; omega)) | (apply Q05; exact rfl; (first | exact trivial | exact ⟨rfl, rfl⟩); exact rfl; exact rfl; (first | exact at0 | exact at1); (iterate 3 exact rfl)) | refine JC.skip ?_ | refine JC.ret ?_ | refine Q07 rfl ?_))
  exact Q0z 0 rfl rfl rfl (fun a w st => ⟨st.kp, rfl⟩)
 ·have e : atZ m i j = 0 := if_neg h
  rw [e]
  refine Q0a [] [] (by simp) [] Tryz.func18 rfl mixed (by kernel_rfl) Tryz.ntmps18 Tryz.results18 rfl ⟨by simp, by simp⟩ (by simp) ?_
  simp only [toS, textOps, toSOp, kindAt, kindOf, odAt, sopsAt, ordOf, zipF]
  (repeat' (first | refine JC.seq ?_ | refine JC.ops ?_ | refine JO.nil ?_ | refine Q00 ?_ | (apply Q0d; (iterate 4 exact rfl); exact at1; exact rfl) | (apply Q0e; (iterate 3 exact rfl); intro _) | (apply Q0x; (iterate 4 exact rfl); intro _)))
  refine Q09 trivial rfl rfl rfl (fun w hk _ => Q20 w _ m.xm (hvX.mono hk) (by simp [ZM.xm]; omega)) fun w v w' _ _ _ hR => ?_
  obtain ⟨b, rfl, hb⟩ := hR
  obtain rfl := hb.2 hm.rx
  (repeat' (first | refine JC.seq ?_ | refine JC.ops ?_ | refine JO.nil ?_ | refine Q00 ?_ | (apply Q04; (iterate 3 exact rfl)) | (apply Q06; (iterate 3 exact rfl)) | (apply Q0g; (iterate 4 exact rfl); (first | exact at0 | exact at1); exact rfl) | (apply Ql1; (iterate 4 exact rfl)) | (apply Q0n; (iterate 4 exact rfl)) | (apply Q0q; (iterate 4 exact rfl)) | (apply Q1e; (iterate 3 exact rfl)) | (apply Q05; exact rfl; (first | exact trivial | exact ⟨rfl, rfl⟩); exact rfl; exact rfl; (first | exact at0 | exact at1); (iterate 3 exact rfl)) | (apply Q0m; (iterate 4 exact rfl); all_goals intro hc; all_goals try (exfalso; omega)) | (apply Q2k; (iterate 4 exact rfl); all_goals intro hc; all_goals try (exfalso; omega)) | (apply Q11; (iterate 5 exact rfl)) | (apply Q05; exact rfl; (first | exact trivial | exact ⟨rfl, rfl⟩); exact rfl; exact rfl; (first | exact at0 | exact at1); (iterate 3 exact rfl)) | refine Q0o ?_ | refine JC.ret ?_ | refine Q08 rfl ?_ | (apply Q10; exact rfl; exact rfl; (first | (intro h; cases h; done) | (intro _; rfl)))))
  all_goals first
   | (exfalso; split at * <;> omega)
   | exact Q0z 0 rfl rfl rfl (fun a w st => ⟨st.kp, by rw [Wz0]; rfl⟩)

set_option maxHeartbeats 1000000 in
theorem Qj3 (w : World) (v u : Value) (n k : Nat) (xs ys : List WR) (hv : WX w v n xs) (hu : WX w u k ys) (hn : n < 1000000000) (hk : k < 1000000000) : Calls Tryz.prog 61 #[v, u] w (Ret fun v w' => Kp [] w w' ∧ IsB (xs = ys) v) := by
 have hl := hv.len
 have hl' := hu.len
 refine Q0a [⟨6, 1, [], []⟩] [] (by simp) [] Tryz.func61 rfl mixed (by kernel_rfl) Tryz.ntmps61 Tryz.results61 rfl ⟨by simp, by simp⟩ (by simp) ?_
 simp only [toS, textOps, toSOp, kindAt, kindOf, odAt, sopsAt, ordOf, zipF]
 have hR := WX.rd (c := ⟨Tryz.prog, 26, w, [], by simp⟩) hv rfl []
 have hR' := WX.rd (c := ⟨Tryz.prog, 26, w, [], by simp⟩) hu rfl []
 (repeat' (first | refine JC.seq ?_ | refine JC.ops ?_ | refine JO.nil ?_ | refine Q00 ?_ | (apply Q04; (iterate 3 exact rfl)) | (apply Q02; (iterate 3 exact rfl)) | (apply Q3r; (iterate 3 exact rfl); (first | assumption | exact WX.rd (by assumption) rfl [] | exact OwnX.rd (by assumption))) | (apply Q3h; (iterate 4 exact rfl); all_goals intro hc; all_goals try (exfalso; omega)) | refine Q0o ?_ | refine JC.skip ?_ | refine JC.ret ?_ | refine Q08 rfl ?_ | refine Q07 rfl ?_ | refine JC.block ?_))
 ·exact Q0j rfl (fun a w' st => ⟨st.kp, Q2s (fun h => hc (by rw [← hl, ← hl', h]))⟩)
 ·have hnk : n = k := by omega
  subst hnk
  refine Q0k (ι := Nat) ⟨fun i => [(13, nv i), (12, nv n), (0, v), (1, u)], fun _ => [], fun i => i ≤ n ∧ ∀ j, j < i → xs.getD j w0x = ys.getD j w0x, fun i => n - i⟩ 0 ⟨by omega, fun j h => by omega⟩ (by repeat first | exact trivial | refine ⟨rfl, ?_⟩) (HSub.nil _) (fun i hi => ?_)
  obtain ⟨hin, hpr⟩ := hi
  dsimp only
  by_cases hlt : i < n
  ·(repeat' (first | refine JC.seq ?_ | refine JC.ops ?_ | refine JC.opsD ?_ | refine JO.nil ?_ | refine Q00 ?_ | (apply Q04; (iterate 3 exact rfl)) | (apply Q02; (iterate 3 exact rfl)) | (apply Q4u; (iterate 4 exact rfl); (first | assumption | exact WX.rd (by assumption) rfl [] | exact OwnX.rd (by assumption)); (first | assumption | omega)) | (apply Qg1; (iterate 4 exact rfl); (first | assumption | exact WX.rd (by assumption) rfl [] | exact OwnX.rd (by assumption)); (repeat' first | exact HSub.nil _ | exact HSub.hd | exact Q03 | exact HSub.refl _ | refine HSub.skip ?_ | refine Q01 ?_); (first | assumption | omega)) | (apply Q0m; (iterate 4 exact rfl); all_goals intro hc; all_goals try (exfalso; omega)) | refine JC.skip ?_ | refine Q08 rfl ?_ | refine JC.block ?_))
   refine Qfz rfl rfl rfl rfl ?_
   by_cases he : xs.getD i w0x = ys.getD i w0x
   ·rw [he]
    simp only [BEq.rfl, decide_true, Bool.and_self, Bool.not_true]
    (repeat' (first | refine JC.ops ?_ | refine JO.nil ?_ | refine Q00 ?_ | (apply Q04; (iterate 3 exact rfl)) | (apply Q0r; (iterate 4 exact rfl); omega) | refine JC.skip ?_ | refine Q07 rfl ?_ | refine Q0b ?_))
    refine Q0c (i + 1) ⟨by omega, fun j h => ?_⟩ (by dsimp only; omega) (by repeat first | exact trivial | refine ⟨rfl, ?_⟩) (HSub.nil _)
    rcases Nat.lt_or_ge j i with h' | h'
    ·exact hpr j h'
    ·have : j = i := by omega
     subst this; exact he
   ·have hb : (!((xs.getD i w0x).1 == (ys.getD i w0x).1 && decide ((xs.getD i w0x).2 = (ys.getD i w0x).2))) = true := by
     simp only [Bool.not_eq_true', Bool.and_eq_false_iff]
     by_cases h1 : (xs.getD i w0x).1 = (ys.getD i w0x).1
     ·refine .inr ?_
      simp only [decide_eq_false_iff_not]
      exact fun h2 => he (Prod.ext h1 h2)
     ·exact .inl (by simpa using h1)
    rw [hb]
    (repeat' (first | refine JC.seq ?_ | refine JC.ops ?_ | refine JO.nil ?_ | refine Q00 ?_ | (apply Q02; (iterate 3 exact rfl)) | refine Q0o ?_ | refine JC.ret ?_ | refine Q08 rfl ?_ | refine Q1b ?_))
    exact Q0j rfl (fun a w' st => ⟨st.kp, Q2s (fun h => he (by rw [h]))⟩)
  ·(repeat' (first | refine JC.seq ?_ | refine JC.ops ?_ | refine JO.nil ?_ | refine Q00 ?_ | (apply Q02; (iterate 3 exact rfl)) | (apply Q0m; (iterate 4 exact rfl); all_goals intro hc; all_goals try (exfalso; omega)) | refine Q0i ?_ | refine JC.exit ?_ | refine JC.ret ?_ | refine Q07 rfl ?_ | refine Q0f ?_))
   refine Q0j rfl (fun a w' st => ⟨st.kp, Qb6 (Qar (d := w0x) (by omega) (fun j hj => hpr j (by omega)))⟩)

theorem XM.ext' {a b : XM} (h2 : a.R = b.R) (h3 : a.C = b.C) (h4 : a.E = b.E) : a = b := by
 cases a; cases b; simp_all
theorem Qmr {m n : ZM} (h : m.xm = n.xm) : m = n := by
 obtain ⟨r, c, e⟩ := m
 obtain ⟨r', c', e'⟩ := n
 simp only [ZM.xm, XM.mk.injEq] at h
 obtain ⟨h1, h2, h3⟩ := h
 have h1 : r = r' := by omega
 have h2 : c = c' := by omega
 subst h1 h2
 rw [Q9h h3]

set_option maxHeartbeats 1000000 in
theorem Qe4 (w : World) (v u : Value) (a b : XM) (ha : IsX w v a) (hb : IsX w u b) (hl : a.E.length < 1000000000) (hl' : b.E.length < 1000000000) : Calls Tryz.prog 22 #[v, u] w (Ret fun v w' => Kp [] w w' ∧ IsB (RX a ∧ a = b) v) := by
 obtain ⟨E, rfl, hE⟩ := ha
 obtain ⟨E', rfl, hE'⟩ := hb
 refine Q0a [] [] (by simp) [] Tryz.func22 rfl mixed (by kernel_rfl) Tryz.ntmps22 Tryz.results22 rfl ⟨by simp, by simp⟩ (by simp) ?_
 simp only [toS, textOps, toSOp, kindAt, kindOf, odAt, sopsAt, ordOf, zipF]
 (repeat' (first | refine JC.seq ?_ | refine JC.ops ?_ | refine JO.nil ?_ | refine Q00 ?_ | (apply Q02; (iterate 3 exact rfl)) | (apply Q0d; (iterate 4 exact rfl); (first | exact at0 | exact at1); exact rfl) | (apply Q0x; (iterate 4 exact rfl); intro _)))
 refine Q09 trivial rfl rfl rfl (fun w hk _ => Qcs w _ _ a b ⟨E, rfl, hE.mono hk⟩ ⟨E', rfl, hE'.mono hk⟩ (by omega) (by omega)) fun w v w' _ _ _ hR => ?_
 obtain ⟨b', rfl, hb⟩ := hR
 cases b'
 ·(repeat' (first | refine JO.nil ?_ | refine Q00 ?_ | (apply Q04; (iterate 3 exact rfl)) | (apply Q02; (iterate 3 exact rfl)) | (apply Q0q; (iterate 4 exact rfl)) | refine JC.ret ?_ | (apply Q10; exact rfl; exact rfl; (first | (intro h; cases h; done) | (intro _; rfl)))))
  exact Q0j rfl (fun a w' st => ⟨st.kp, Q2s (fun h => by cases hb.2 ⟨h.1, h.2 ▸ h.1, by rw [h.2], by rw [h.2]⟩)⟩)
 ·have h1 := hb.1 rfl
  (repeat' (first | (apply Q04; (iterate 3 exact rfl)) | (apply Q06; (iterate 3 exact rfl)) | (apply Q0g; (iterate 4 exact rfl); (first | exact at0 | exact at1); exact rfl)))
  refine Q09 trivial rfl rfl rfl (fun w hk _ => Qj3 w _ _ _ _ _ _ (hE.mono hk) (hE'.mono hk) hl hl') fun w v w' _ _ _ hR => ?_
  obtain ⟨b', rfl, hb⟩ := hR
  (repeat' (first | refine JO.nil ?_ | refine Q00 ?_ | (apply Q02; (iterate 3 exact rfl)) | (apply Q0n; (iterate 4 exact rfl)) | refine JC.ret ?_))
  refine Q0j rfl (fun a w' st => ⟨st.kp, b', rfl, hb.trans ⟨fun h => ⟨h1.1, ?_⟩, fun h => by rw [h.2]⟩⟩)
  exact XM.ext' h1.2.2.1 h1.2.2.2 h

theorem Q14 {P : Program} {f : FuncId} {args : Array Value} {w : World} {R R' : Value → World → Prop} (h : Calls P f args w (Ret R)) (hr : ∀ v w', R v w' → R' v w') : Calls P f args w (Ret R') :=
 Calls.mono h fun e w' he => by
  cases e <;> first | exact hr _ _ he | exact he

theorem Qm9 (w : World) (v u : Value) (m n : ZM) (hm : RtZ m) (hn : RtZ n) (hv : IsM w v m) (hu : IsM w u n) : Calls Tryz.prog 22 #[v, u] w (Ret fun v w' => Kp [] w w' ∧ IsB (m = n) v) := by
 refine Q14 (Qe4 w v u m.xm n.xm hv.x hu.x (by have := hm.le; simp [ZM.xm]; omega) (by have := hn.le; simp [ZM.xm]; omega)) fun v w' h => ⟨h.1, ?_⟩
 obtain ⟨b, rfl, hb⟩ := h.2
 exact ⟨b, rfl, hb.trans ⟨fun h => Qmr h.2, fun h => ⟨hm.rx, by rw [h]⟩⟩⟩

def BdL (K : Nat) (xs : List Int) : Prop := ∀ i, (xs.getD i 0).natAbs < 256 ^ K

theorem Qd2 {f : Nat → Int} {n k : Nat} : (tab n fun i => if i < k then f i else 0).set k (f k) = tab n fun i => if i < k + 1 then f i else 0 := by
 rw [Qa0]
 refine Q1h fun i hi => ?_
 by_cases h : i = k
 ·subst h; simp
 ·by_cases h' : i < k
  ·rw [if_neg h, if_pos h', if_pos (by omega)]
  ·rw [if_neg h, if_neg h', if_neg (by omega)]

set_option maxHeartbeats 2000000 in
theorem Qom {f : FuncId} [TF Tryz.prog f] (g : Int → Int → Int) (K : Nat) (w : World) (v u : Value) (n : Nat) (xs ys : List Int) (hv : WZ w v n xs) (hu : WZ w u n ys) (hn : n ≤ 40000) (hx : BdL K xs) (hy : BdL K ys)
  (hcl : ∀ x y w', x.natAbs < 256 ^ K → y.natAbs < 256 ^ K → Calls Tryz.prog f #[Wv x, Wv y] w' (Ret fun v w'' => Kp [] w' w'' ∧ v = Wv (g x y))) :
  Calls Tryz.prog 79 #[v, u, .func (.func f) #[] #[]] w (Ret fun v w' => Kp [] w w' ∧ ∃ N, New N w w' ∧ OwnZ N v n (tab n fun i => g (xs.getD i 0) (ys.getD i 0))) := by
 refine Q0a [⟨5, 3, [], []⟩] [] (by simp) [] Tryz.func79 rfl mixed (by kernel_rfl) Tryz.ntmps79 Tryz.results79 rfl ⟨by simp, by simp⟩ (by simp) ?_
 simp only [toS, textOps, toSOp, kindAt, kindOf, odAt, sopsAt, ordOf, zipF]
 (repeat' (first | refine JC.seq ?_ | refine JC.ops ?_ | refine JO.nil ?_ | refine Q00 ?_ | (apply Q04; (iterate 3 exact rfl)) | (apply Q02; (iterate 3 exact rfl)) | (apply Q4s; (iterate 3 exact rfl); (first | assumption | exact WZ.rd (by assumption) rfl [] | exact OwnZ.rd (by assumption)))))
 refine Q3q rfl rfl rfl rfl rfl (by omega) (by omega) (fun b => ?_)
 have h0 := Q6y b n (by simp only [maxLen]; omega)
 (repeat' (first | refine JC.seq ?_ | refine JC.ops ?_ | refine JO.nil ?_ | refine Q00 ?_ | (apply Q04; (iterate 3 exact rfl)) | (apply Q02; (iterate 3 exact rfl)) | (apply Q4s; (iterate 3 exact rfl); (first | assumption | exact WZ.rd (by assumption) rfl [] | exact OwnZ.rd (by assumption))) | refine JC.block ?_))
 refine Q0k (ι := Nat × SHeap) ⟨fun z => [(14, nv z.1), (13, nv n), (7, .slice (some ⟨b, 0, none⟩) n n), (0, v), (1, u), (2, .func (.func f) #[] #[])],
  fun z => z.2 ++ [], fun z => z.1 ≤ n ∧ OwnZ z.2 (.slice (some ⟨b, 0, none⟩) n n) n (tab n fun i => if i < z.1 then g (xs.getD i 0) (ys.getD i 0) else 0), fun z => n - z.1⟩ (0, _) ⟨by omega, by simpa using h0⟩ (by repeat first | exact trivial | refine ⟨rfl, ?_⟩) (HSub.refl _) (fun k hk => ?_)
 obtain ⟨k, N⟩ := k
 obtain ⟨hkn, hO⟩ := hk
 dsimp only at hkn hO ⊢
 by_cases hlt : k < n
 ·(repeat' (first | refine JC.seq ?_ | refine JC.ops ?_ | refine JC.opsD ?_ | refine JO.nil ?_ | refine Q00 ?_ | (apply Q04; (iterate 3 exact rfl)) | (apply Q02; (iterate 3 exact rfl)) | (apply Q1m; (iterate 4 exact rfl); (first | assumption | exact WZ.rd (by assumption) rfl [] | exact OwnZ.rd (by assumption)); (first | assumption | omega)) | (apply Q52; (iterate 4 exact rfl); (first | assumption | exact WZ.rd (by assumption) rfl [] | exact OwnZ.rd (by assumption)); (repeat' first | exact HSub.nil _ | exact HSub.hd | exact Q03 | exact HSub.refl _ | refine HSub.skip ?_ | refine Q01 ?_); (first | assumption | omega)) | (apply Q0m; (iterate 4 exact rfl); all_goals intro hc; all_goals try (exfalso; omega)) | refine JC.skip ?_ | refine Q08 rfl ?_ | refine JC.block ?_))
  refine Qaf (by first | trivial | exact ⟨rfl, rfl⟩) rfl rfl rfl rfl (fun w' hk _ => hcl _ _ w' (hx k) (hy k)) fun w v w' _ _ _ hv => ?_
  subst hv
  (repeat' (first | (apply Q1m; (iterate 4 exact rfl); (first | assumption | exact WZ.rd (by assumption) rfl [] | exact OwnZ.rd (by assumption)); (first | assumption | omega))))
  refine Q5s (A := []) hO rfl rfl ⟨rfl, rfl⟩ rfl rfl hlt (fun N' hO' => ?_)
  rw [Qd2 (f := fun i => g (xs.getD i 0) (ys.getD i 0))] at hO'
  (repeat' (first | refine JC.ops ?_ | refine JO.nil ?_ | refine Q00 ?_ | (apply Q04; (iterate 3 exact rfl)) | (apply Q0r; (iterate 4 exact rfl); omega) | refine Q0b ?_))
  exact Q0c (k + 1, N') ⟨by dsimp only; omega, hO'⟩ (by dsimp only; omega) (by repeat first | exact trivial | refine ⟨rfl, ?_⟩) (HSub.refl _)
 ·(repeat' (first | refine JC.seq ?_ | refine JC.ops ?_ | refine JO.nil ?_ | refine Q00 ?_ | (apply Q04; (iterate 3 exact rfl)) | (apply Q02; (iterate 3 exact rfl)) | (apply Q0m; (iterate 4 exact rfl); all_goals intro hc; all_goals try (exfalso; omega)) | refine Q0i ?_ | refine JC.exit ?_ | refine JC.ret ?_ | refine Q07 rfl ?_ | refine Q0f ?_))
  rw [Q1h (g' := fun i => g (xs.getD i 0) (ys.getD i 0)) (fun i hi => if_pos (by omega))] at hO
  exact Q0j rfl (fun a w' st => ⟨st.kp, N, st.newOf rfl (by simpa using HSub.refl _), hO⟩)

theorem Qgl {m n : ZM} (g : Int → Int → Int) (hm : RtZ m) (hn : RtZ n) (hr : m.r = n.r) (hc : m.c = n.c) : (tab (m.r * m.c) fun i => g (m.e.getD i 0) (n.e.getD i 0)) = (zof m.r m.c fun i j => g (m.at i j) (n.at i j)).e := by
 show _ = tab (m.r * m.c) _
 refine Q1h fun k hk => ?_
 obtain ⟨_, _, h3⟩ := Q5x hk
 show g (m.e.getD k 0) (n.e.getD k 0) = g (m.e.getD _ 0) (n.e.getD _ 0)
 rw [← hc, ← h3]

set_option maxHeartbeats 2000000 in
theorem Qnw {f : FuncId} [TF Tryz.prog f] (g : Int → Int → Int) (K : Nat) (w : World) (v u : Value) (m n : ZM) (hm : RtZ m) (hn : RtZ n) (hr : m.r = n.r) (hc : m.c = n.c) (hx : BdZ K m) (hy : BdZ K n) (hv : IsM w v m) (hu : IsM w u n)
  (hcl : ∀ x y w', x.natAbs < 256 ^ K → y.natAbs < 256 ^ K → Calls Tryz.prog f #[Wv x, Wv y] w' (Ret fun v w'' => Kp [] w' w'' ∧ v = Wv (g x y))) :
  Calls Tryz.prog 56 #[v, u, .func (.func f) #[] #[]] w (Ret fun v w' => Kp [] w w' ∧ GivesMB (zof m.r m.c fun i j => g (m.at i j) (n.at i j)) true w v w') := by
 have hvX := hv.x
 have huX := hu.x
 obtain ⟨E, rfl, hE⟩ := hv
 obtain ⟨E', rfl, hE'⟩ := hu
 have hle := hm.le
 have hle' := hn.le
 have hl := hm.len
 have hl' := hn.len
 rw [← hr, ← hc] at hl'
 rw [hl] at hE
 rw [hl'] at hE'
 refine Q0a [⟨3, 2, [], []⟩] [] (by simp) [] Tryz.func56 rfl mixed (by kernel_rfl) Tryz.ntmps56 Tryz.results56 rfl ⟨by simp, by simp⟩ (by simp) ?_
 simp only [toS, textOps, toSOp, kindAt, kindOf, odAt, sopsAt, ordOf, zipF]
 (repeat' (first | refine JC.seq ?_ | refine JC.ops ?_ | refine JO.nil ?_ | refine Q00 ?_ | (apply Q02; (iterate 3 exact rfl)) | (apply Q0d; (iterate 4 exact rfl); (first | exact at1 | exact at2); exact rfl) | (apply Q0e; (iterate 3 exact rfl); intro _) | (apply Q0x; (iterate 4 exact rfl); intro _)))
 rename_i b3 b4 b6
 refine Q09 trivial rfl rfl rfl (fun w hk _ => Qcs w _ _ m.xm n.xm (hvX.mono hk) (huX.mono hk) (by simp [ZM.xm]; omega) (by simp [ZM.xm]; omega)) fun w v w' _ _ _ hR => ?_
 obtain ⟨b', rfl, hb⟩ := hR
 obtain rfl := hb.2 ⟨hm.rx, hn.rx, by simp [ZM.xm, hr], by simp [ZM.xm, hc]⟩
 (repeat' (first | refine JC.seq ?_ | refine JO.nil ?_ | refine Q00 ?_ | (apply Q1e; (iterate 3 exact rfl)) | refine JC.skip ?_ | refine Q07 rfl ?_))
 refine Q36 [(b4, .cells #[nv n.r, nv n.c, E'] 29), (b3, .cells #[nv m.r, nv m.c, E] 29)] (by (first | exact HSub.refl _ | (repeat' first | exact HSub.nil _ | exact HSub.refl _ | refine HSub.at 0 rfl ?_ | refine HSub.at 1 rfl ?_ | refine HSub.at 2 rfl ?_ | refine HSub.at 3 rfl ?_ | refine HSub.at 4 rfl ?_ | refine HSub.at 5 rfl ?_ | refine HSub.at 6 rfl ?_ | refine HSub.at 7 rfl ?_))) ?_
 (repeat' (first | (apply Q04; (iterate 3 exact rfl)) | (apply Q06; (iterate 3 exact rfl)) | (apply Q0g; (iterate 4 exact rfl); (first | exact at0 | exact at1); exact rfl)))
 refine Q0h (A := [_, _, _]) (B := []) rfl (by first | trivial | exact ⟨rfl, rfl⟩) rfl rfl rfl (fun w hk _ => Qom g K w E E' (m.r * m.c) m.e n.e (hE.mono hk) (hE'.mono hk) (by omega) hx hy hcl) fun w v w' _ _ _ hR => ?_
 obtain ⟨N, hN, hO⟩ := hR
 rw [Qgl g hm hn hr hc] at hO
 obtain ⟨A2, c2, rfl⟩ := hO.form
 refine ⟨N, hN, ?_⟩
 (repeat' (first | refine JO.nil ?_ | refine Q00 ?_ | (apply Q02; (iterate 3 exact rfl)) | (apply Q05; exact rfl; (first | exact trivial | exact ⟨rfl, rfl⟩); exact rfl; exact rfl; exact at0; (iterate 3 exact rfl)) | (apply Q11; (iterate 5 exact rfl)) | (apply Q05; exact rfl; (first | exact trivial | exact ⟨rfl, rfl⟩); exact rfl; exact rfl; exact at0; (iterate 3 exact rfl)) | refine JC.ret ?_))
 exact Q16 0 rfl rfl rfl rfl (fun a w' st => ⟨st.kp, N, _, rfl, st.newOf rfl (by simp only [List.append_nil]; exact HSub.skip (HSub.skip (HSub.skip (HSub.refl _)))), OwnM.mk' (n := m.r * m.c) hO⟩)

set_option maxHeartbeats 1000000 in
theorem Qm2 {f : FuncId} (w : World) (v u : Value) (a b : XM) (h : ¬ Alike a b) (ha : IsX w v a) (hb : IsX w u b) (hl : a.E.length < 1000000000) (hl' : b.E.length < 1000000000) :
  Calls Tryz.prog 56 #[v, u, .func (.func f) #[] #[]] w (Ret fun v w' => Kp [] w w' ∧ v = .tuple #[zeroM, .bool false]) := by
 obtain ⟨E, rfl, hE⟩ := ha
 obtain ⟨E', rfl, hE'⟩ := hb
 refine Q0a [⟨3, 2, [], []⟩] [] (by simp) [] Tryz.func56 rfl mixed (by kernel_rfl) Tryz.ntmps56 Tryz.results56 rfl ⟨by simp, by simp⟩ (by simp) ?_
 simp only [toS, textOps, toSOp, kindAt, kindOf, odAt, sopsAt, ordOf, zipF]
 (repeat' (first | refine JC.seq ?_ | refine JC.ops ?_ | refine JO.nil ?_ | refine Q00 ?_ | (apply Q02; (iterate 3 exact rfl)) | (apply Q0d; (iterate 4 exact rfl); (first | exact at1 | exact at2); exact rfl) | (apply Q0e; (iterate 3 exact rfl); intro _) | (apply Q0x; (iterate 4 exact rfl); intro _)))
 refine Q09 trivial rfl rfl rfl (fun w hk _ => Qcs w _ _ a b ⟨E, rfl, hE.mono hk⟩ ⟨E', rfl, hE'.mono hk⟩ hl hl') fun w v w' _ _ _ hR => ?_
 obtain ⟨b', rfl, hb⟩ := hR
 cases b' with
 | true => exact absurd (hb.1 rfl) h
 | false =>
  (repeat' (first | refine JC.seq ?_ | refine JC.ops ?_ | refine JO.nil ?_ | refine Q00 ?_ | (apply Q02; (iterate 3 exact rfl)) | (apply Q1e; (iterate 3 exact rfl)) | (apply Q05; exact rfl; (first | exact trivial | exact ⟨rfl, rfl⟩); exact rfl; exact rfl; exact at0; (iterate 3 exact rfl)) | (apply Q11; (iterate 5 exact rfl)) | (apply Q05; exact rfl; (first | exact trivial | exact ⟨rfl, rfl⟩); exact rfl; exact rfl; exact at0; (iterate 3 exact rfl)) | refine Q0o ?_ | refine JC.ret ?_ | refine Q08 rfl ?_))
  exact Q16 0 rfl rfl rfl rfl (fun a w' st => ⟨st.kp, rfl⟩)

set_option maxHeartbeats 1000000 in
theorem Qo3 (K : Nat) (w : World) (v u : Value) (m n : ZM) (hm : RtZ m) (hn : RtZ n) (hr : m.r = n.r) (hc : m.c = n.c) (hK : K ≤ 90000000) (hx : BdZ K m) (hy : BdZ K n) (hv : IsM w v m) (hu : IsM w u n) :
  Calls Tryz.prog 20 #[v, u] w (Ret fun v w' => Kp [] w w' ∧ GivesMB (addZ m n) true w v w') := by
 have hv0 := hv
 have hu0 := hu
 obtain ⟨E, rfl, hE⟩ := hv
 obtain ⟨E', rfl, hE'⟩ := hu
 refine Q0a [] [] (by simp) [] Tryz.func20 rfl mixed (by kernel_rfl) Tryz.ntmps20 Tryz.results20 rfl ⟨by simp, by simp⟩ (by simp) ?_
 simp only [toS, textOps, toSOp, kindAt, kindOf, odAt, sopsAt, ordOf, zipF]
 (repeat' (first | refine JC.seq ?_ | refine JC.ops ?_ | refine JO.nil ?_ | refine Q00 ?_ | (apply Q02; (iterate 3 exact rfl)) | (apply Q0d; (iterate 4 exact rfl); (first | exact at1 | exact at2); exact rfl) | (apply Q0e; (iterate 3 exact rfl); intro _) | (apply Q0x; (iterate 4 exact rfl); intro _)))
 refine Q0h (A := [_, _, _]) (B := []) rfl (by first | trivial | exact ⟨rfl, rfl⟩) rfl rfl rfl (fun w hk _ => Qnw (f := 57) (· + ·) K w _ _ m n hm hn hr hc hx hy (hv0.mono hk) (hu0.mono hk) (fun x y w' h1 h2 => Qmb w' _ _ x y K (Q0t h1) (Q0t h2) (by omega))) fun w v w' _ _ _ hR => ?_
 obtain ⟨N, u, rfl, hN, hO⟩ := hR
 obtain ⟨Eo, rfl, hO⟩ := hO
 obtain ⟨A2, c2, rfl⟩ := hO.form
 refine ⟨N, hN, ?_⟩
 (repeat' (first | refine JO.nil ?_ | refine Q00 ?_ | (apply Q02; (iterate 3 exact rfl)) | (apply Q0v; (iterate 4 exact rfl)) | (apply Q05; exact rfl; (first | exact trivial | exact ⟨rfl, rfl⟩); exact rfl; exact rfl; exact at0; (iterate 3 exact rfl)) | (apply Q05; exact rfl; (first | exact trivial | exact ⟨rfl, rfl⟩); exact rfl; exact rfl; exact at0; (iterate 3 exact rfl)) | refine JC.ret ?_))
 exact Q16 0 rfl rfl rfl rfl (fun a w' st => ⟨st.kp, N, _, rfl, st.newOf rfl (by simp only [List.append_nil]; exact HSub.skip (HSub.skip (HSub.skip (HSub.refl _)))), _, rfl, hO⟩)

set_option maxHeartbeats 1000000 in
theorem Qm7 (w : World) (v u : Value) (a b : XM) (h : ¬ Alike a b) (ha : IsX w v a) (hb : IsX w u b) (hl : a.E.length < 1000000000) (hl' : b.E.length < 1000000000) :
  Calls Tryz.prog 20 #[v, u] w (Ret fun v w' => Kp [] w w' ∧ v = .tuple #[zeroM, .bool false]) := by
 have hv0 := ha
 have hu0 := hb
 obtain ⟨E, rfl, hE⟩ := ha
 obtain ⟨E', rfl, hE'⟩ := hb
 refine Q0a [] [] (by simp) [] Tryz.func20 rfl mixed (by kernel_rfl) Tryz.ntmps20 Tryz.results20 rfl ⟨by simp, by simp⟩ (by simp) ?_
 simp only [toS, textOps, toSOp, kindAt, kindOf, odAt, sopsAt, ordOf, zipF]
 (repeat' (first | refine JC.seq ?_ | refine JC.ops ?_ | refine JO.nil ?_ | refine Q00 ?_ | (apply Q02; (iterate 3 exact rfl)) | (apply Q0d; (iterate 4 exact rfl); (first | exact at1 | exact at2); exact rfl) | (apply Q0e; (iterate 3 exact rfl); intro _) | (apply Q0x; (iterate 4 exact rfl); intro _)))
 refine Q09 (by first | trivial | exact ⟨rfl, rfl⟩) rfl rfl rfl (fun w hk _ => Qm2 (f := 57) w _ _ a b h (hv0.mono hk) (hu0.mono hk) hl hl') fun w v w' _ _ _ hR => ?_
 rw [show zeroM = .agg #[iv 0, iv 0, .slice none 0 0] from rfl] at hR
 subst hR
 (repeat' (first | refine JO.nil ?_ | refine Q00 ?_ | (apply Q02; (iterate 3 exact rfl)) | (apply Q0v; (iterate 4 exact rfl)) | (apply Q05; exact rfl; (first | exact trivial | exact ⟨rfl, rfl⟩); exact rfl; exact rfl; exact at0; (iterate 3 exact rfl)) | (apply Q05; exact rfl; (first | exact trivial | exact ⟨rfl, rfl⟩); exact rfl; exact rfl; exact at0; (iterate 3 exact rfl)) | refine JC.ret ?_))
 exact Q16 (v' := .bool false) (cs := #[iv 0, iv 0, .slice none 0 0]) 0 rfl rfl rfl rfl (fun _ _ st => ⟨st.kp, rfl⟩)


theorem Qnt {r c i j : Nat} (hi : i < r) (hj : j < c) : i * c + j < r * c := by
 have := Nat.mul_le_mul_right c (show i + 1 ≤ r by omega)
 rw [Nat.add_mul] at this
 omega
def IsRows (w : World) (v : Value) (xss : List (List Int)) : Prop := ∃ ss : List Value, RdW w 1 v xss.length ss ∧ ∀ i, i < xss.length → WI w (ss.getD i (iv 0)) (xss.getD i []).length (xss.getD i [])
theorem IsRows.mono {w w' : World} {v : Value} {xss : List (List Int)} (h : IsRows w v xss) (hk : Kp [] w w') : IsRows w' v xss := by
 obtain ⟨ss, h1, h2⟩ := h
 exact ⟨ss, h1.mono hk, fun i hi => (h2 i hi).mono hk⟩
def ofC (xss : List (List Int)) : Nat → Nat
 | 0 => 0
 | k + 1 => max (ofC xss k) (xss.getD k []).length
theorem Qgf (xss : List (List Int)) : ∀ {k i : Nat}, i < k → (xss.getD i []).length ≤ ofC xss k
 | 0, i, h => by omega
 | k + 1, i, h => by
  rw [ofC]
  by_cases hi : i = k
  ·subst hi; exact Nat.le_max_right _ _
  ·exact Nat.le_trans (Qgf xss (show i < k by omega)) (Nat.le_max_left _ _)
theorem Qnm (a b : Nat) : (if (a : Int) < (b : Int) then (b : Int) else (a : Int)) = ((max a b : Nat) : Int) := by
 split <;> omega

def ofE (xss : List (List Int)) (i j : Nat) : Int := (xss.getD i []).getD j 0
def ofZ (xss : List (List Int)) : ZM := zof xss.length (ofC xss xss.length) (ofE xss)
def ofS (xss : List (List Int)) (i k : Nat) : Mi := fun a b => if a < i ∨ (a = i ∧ b < k) then ofE xss a b else 0
theorem Qiq (r c : Nat) (xss : List (List Int)) : tbz r c (ofS xss 0 0) = tab (r * c) fun _ => 0 := by
 unfold tbz ofS
 exact Q1h fun t _ => by simp
theorem Qlb {r c i k : Nat} {xss : List (List Int)} (hk : k < c) : (tbz r c (ofS xss i k)).set (i * c + k) (ofE xss i k) = tbz r c (ofS xss i (k + 1)) := by
 rw [Q7z hk]
 refine Q13 fun a b _ _ => ?_
 unfold ofS
 by_cases h : a = i ∧ b = k
 ·obtain ⟨rfl, rfl⟩ := h; simp
 ·rw [if_neg h]
  have e : (a < i ∨ a = i ∧ b < k + 1) = (a < i ∨ a = i ∧ b < k) := by simp; omega
  simp only [e]
theorem Qle {i j : Nat} {xss : List (List Int)} (h : (xss.getD i []).length ≤ j) : ofE xss i j = 0 := by
 unfold ofE
 rw [List.getD, List.getElem?_eq_none h]; rfl
theorem Qlc {r c i k : Nat} {xss : List (List Int)} (hk : (xss.getD i []).length ≤ k) : tbz r c (ofS xss i k) = tbz r c (ofS xss (i + 1) 0) := by
 refine Q13 fun a b _ _ => ?_
 unfold ofS
 by_cases h : a = i
 ·subst h
  by_cases hb : b < k
  ·rw [if_pos (.inr ⟨rfl, hb⟩), if_pos (.inl (by omega))]
  ·rw [if_neg (by omega), if_pos (.inl (by omega)), Qle (by omega)]
 ·have e : (a < i ∨ a = i ∧ b < k) = (a < i + 1 ∨ a = i + 1 ∧ b < 0) := by simp; omega
  simp only [e]
theorem Qld {r c i : Nat} {xss : List (List Int)} (hi : r ≤ i) : tbz r c (ofS xss i 0) = tbz r c (ofE xss) := by
 refine Q13 fun a b ha _ => ?_
 unfold ofS; rw [if_pos (.inl (by omega))]
def I64 (n : Int) : Prop := -9223372036854775808 ≤ n ∧ n < 9223372036854775808

set_option maxHeartbeats 4000000 in
theorem c_Of (w : World) (v : Value) (xss : List (List Int)) (hv : IsRows w v xss) (hr : xss.length ≤ 200) (hcc : ofC xss xss.length ≤ 200) (hI : ∀ i j, I64 ((xss.getD i []).getD j 0)) :
  Calls Tryz.prog 24 #[v] w (Ret fun v w' => Kp [] w w' ∧ GivesM (ofZ xss) w v w') := by
 obtain ⟨ss, hss, hrow⟩ := hv
 have hrc := rcZ hr hcc
 have hlen : ∀ i, i < xss.length → (xss.getD i []).length ≤ 200 := fun i hi => Nat.le_trans (Qgf xss hi) hcc
 have hsl : ss.length = xss.length := by have := hss.1; omega
 refine Q0a [⟨16, 2, [], []⟩] [] (by simp) [] Tryz.func24 rfl mixed (by kernel_rfl) Tryz.ntmps24 Tryz.results24 rfl ⟨by simp, by simp⟩ (by simp) ?_
 simp only [toS, textOps, toSOp, kindAt, kindOf, odAt, sopsAt, ordOf, zipF]
 have hR : Rd ⟨Tryz.prog, 58, w, [], by simp⟩ [] 1 v xss.length ss := hss.rd rfl []
 (repeat' (first | refine JC.seq ?_ | refine JC.ops ?_ | refine JO.nil ?_ | refine Q00 ?_ | (apply Q04; (iterate 3 exact rfl)) | (apply Q02; (iterate 3 exact rfl)) | (apply Q0e; (iterate 3 exact rfl); intro _)))
 rename_i b2
 refine Q4t rfl rfl rfl hR ?_
 (repeat' (first | refine JO.nil ?_ | refine Q00 ?_ | (apply Q04; (iterate 3 exact rfl)) | refine JC.block ?_))
 refine Q0k (ι := Nat) ⟨fun k => [(13, nv k), (12, nv xss.length), (11, v), (3, nv (ofC xss k)), (0, v), (2, .pointer (some ⟨b2, 0, none⟩))], fun _ => [(b2, .cells #[iv 0, iv 0, .slice none 0 0] 29)],
  fun k => k ≤ xss.length, fun k => xss.length - k⟩ 0 (by dsimp only; omega) (by repeat first | exact trivial | refine ⟨rfl, ?_⟩) (by (first | exact HSub.refl _ | (repeat' first | exact HSub.nil _ | exact HSub.refl _ | refine HSub.at 0 rfl ?_ | refine HSub.at 1 rfl ?_ | refine HSub.at 2 rfl ?_ | refine HSub.at 3 rfl ?_ | refine HSub.at 4 rfl ?_ | refine HSub.at 5 rfl ?_ | refine HSub.at 6 rfl ?_ | refine HSub.at 7 rfl ?_))) (fun k hk => ?_)
 dsimp only at hk ⊢
 by_cases hkk : k < xss.length
 ·have hwi := hrow k hkk
  have hl4 := hlen k hkk
  (repeat' (first | refine JC.seq ?_ | refine JC.ops ?_ | refine JO.nil ?_ | refine Q00 ?_ | (apply Q0m; (iterate 4 exact rfl); all_goals intro hc; all_goals try (exfalso; omega)) | refine JC.skip ?_ | refine Q08 rfl ?_ | refine JC.block ?_))
  refine Q3w rfl rfl rfl rfl hR hkk ?_
  refine Q7g rfl rfl rfl rfl hR (HSub.nil _) (Q3i (d := iv 0) (by omega)) ?_
  (repeat' (first | refine JC.ops ?_ | refine JO.nil ?_ | refine Q00 ?_ | (apply Q04; (iterate 3 exact rfl)) | (apply Q02; (iterate 3 exact rfl)) | (apply Qdl; (iterate 3 exact rfl); (first | assumption | exact WI.rd (by assumption) rfl [] | exact OwnI.rd (by assumption))) | (apply Q0r; (iterate 4 exact rfl); omega) | (apply Ql2; (iterate 4 exact rfl)) | refine Q0b ?_))
  refine Q0c (k + 1) (by dsimp only; omega) (by dsimp only; omega) (by dsimp only [ofC]; unfold nv; rw [← Qnm]; exact (by repeat first | exact trivial | refine ⟨rfl, ?_⟩)) (by (first | exact HSub.refl _ | (repeat' first | exact HSub.nil _ | exact HSub.refl _ | refine HSub.at 0 rfl ?_ | refine HSub.at 1 rfl ?_ | refine HSub.at 2 rfl ?_ | refine HSub.at 3 rfl ?_ | refine HSub.at 4 rfl ?_ | refine HSub.at 5 rfl ?_ | refine HSub.at 6 rfl ?_ | refine HSub.at 7 rfl ?_)))
 ·have : k = xss.length := by omega
  subst this
  (repeat' (first | refine JC.seq ?_ | refine JC.ops ?_ | refine JO.nil ?_ | refine Q00 ?_ | (apply Q04; (iterate 3 exact rfl)) | (apply Q0m; (iterate 4 exact rfl); all_goals intro hc; all_goals try (exfalso; omega)) | refine Q0i ?_ | refine JC.exit ?_ | refine Q07 rfl ?_ | refine Q0f ?_))
  refine Q4t rfl rfl rfl hR ?_
  (repeat' (first | (apply Q04; (iterate 3 exact rfl))))
  refine Q0h (A := [_]) (B := []) rfl trivial rfl rfl rfl (fun w hk _ => Qe2 xss.length _ hr hcc w) fun w v' w' _ _ _ hR' => ?_
  obtain ⟨N, Eo, hN, rfl, hO⟩ := hR'
  obtain ⟨Ao, co, rfl⟩ := hO.form
  refine ⟨N, hN, ?_⟩
  have hdone : ∀ N', OwnZ N' (.slice Ao (xss.length * ofC xss xss.length) co) (xss.length * ofC xss xss.length) (tbz xss.length (ofC xss xss.length) (ofE xss)) → OwnM N' (.agg #[nv xss.length, nv (ofC xss xss.length), .slice Ao (xss.length * ofC xss xss.length) co]) (ofZ xss) := fun N' h => OwnM.mk' h
  (repeat' (first | refine JC.seq ?_ | refine JC.ops ?_ | refine JO.nil ?_ | refine Q00 ?_ | (apply Q04; (iterate 3 exact rfl)) | (apply Q06; (iterate 3 exact rfl)) | (apply Q0g; (iterate 4 exact rfl); (first | exact at0 | exact at1); exact rfl) | (apply Q0d; (iterate 4 exact rfl); (first | exact at0 | exact at1); exact rfl) | (apply Q4s; (iterate 3 exact rfl); (first | assumption | exact WZ.rd (by assumption) rfl [] | exact OwnZ.rd (by assumption))) | (apply Q05; exact rfl; (first | exact trivial | exact ⟨rfl, rfl⟩); exact rfl; exact rfl; (first | exact at0 | exact at1); (iterate 3 exact rfl)) | (apply Q2f; (iterate 4 exact rfl); all_goals intro hc; all_goals try (exfalso; omega)) | (apply Q0e; (iterate 3 exact rfl); intro _) | (apply Q05; exact rfl; (first | exact trivial | exact ⟨rfl, rfl⟩); exact rfl; exact rfl; (first | exact at0 | exact at1); (iterate 3 exact rfl)) | refine Q0o ?_ | refine JC.skip ?_ | refine JC.ret ?_ | refine Q08 rfl ?_ | refine Q07 rfl ?_))
  ·rename_i b6 h0
   refine Q0z 1 rfl rfl rfl (fun a w' st => ⟨st.kp, N, st.newOf rfl (by (repeat' first | exact HSub.nil _ | exact HSub.hd | exact Q03 | exact HSub.refl _ | refine HSub.skip ?_ | refine Q01 ?_)), hdone _ ?_⟩)
   have e : tbz xss.length (ofC xss xss.length) (ofE xss) = tab (xss.length * ofC xss xss.length) fun _ => 0 := by
    unfold tbz
    exact Q1h fun i hi => by omega
   rw [e]; exact hO
  ·refine Q4t rfl rfl rfl hR ?_
   (repeat' (first | refine JO.nil ?_ | refine Q00 ?_ | (apply Q04; (iterate 3 exact rfl)) | refine JC.block ?_))
   rename_i b6
   refine Q0k (ι := Nat × SHeap) ⟨fun z => [(33, nv z.1), (32, nv xss.length), (31, v), (3, nv (ofC xss xss.length)), (6, .pointer (some ⟨b6, 0, none⟩)), (2, .pointer (some ⟨b2, 0, none⟩))],
    fun z => [(b6, .cells #[nv xss.length, nv (ofC xss xss.length), .slice Ao (xss.length * ofC xss xss.length) co] 29), (b2, .cells #[iv 0, iv 0, .slice none 0 0] 29)] ++ (z.2 ++ []),
    fun z => z.1 ≤ xss.length ∧ OwnZ z.2 (.slice Ao (xss.length * ofC xss xss.length) co) (xss.length * ofC xss xss.length) (tbz xss.length (ofC xss xss.length) (ofS xss z.1 0)), fun z => xss.length - z.1⟩ (0, N) ⟨by dsimp only; omega, by rw [Qiq]; exact hO⟩ (by repeat first | exact trivial | refine ⟨rfl, ?_⟩) (by (first | exact HSub.refl _ | (repeat' first | exact HSub.nil _ | exact HSub.refl _ | refine HSub.at 0 rfl ?_ | refine HSub.at 1 rfl ?_ | refine HSub.at 2 rfl ?_ | refine HSub.at 3 rfl ?_ | refine HSub.at 4 rfl ?_ | refine HSub.at 5 rfl ?_ | refine HSub.at 6 rfl ?_ | refine HSub.at 7 rfl ?_))) (fun z hz => ?_)
   clear hO
   obtain ⟨i, N⟩ := z
   obtain ⟨hi, hO⟩ := hz
   dsimp only at hi hO ⊢
   by_cases hii : i < xss.length
   ·have hwi := hrow i hii
    have hl4 := hlen i hii
    have hlc := Qgf xss hii
    (repeat' (first | refine JC.seq ?_ | refine JC.ops ?_ | refine JO.nil ?_ | refine Q00 ?_ | (apply Q04; (iterate 3 exact rfl)) | (apply Q0m; (iterate 4 exact rfl); all_goals intro hc; all_goals try (exfalso; omega)) | refine JC.skip ?_ | refine Q08 rfl ?_ | refine JC.block ?_))
    refine Q3w rfl rfl rfl rfl hR hii ?_
    refine Q7g rfl rfl rfl rfl hR (HSub.nil _) (Q3i (d := iv 0) (by omega)) ?_
    (repeat' (first | refine JC.seq ?_ | refine JC.ops ?_ | refine JO.nil ?_ | refine Q00 ?_ | (apply Q04; (iterate 3 exact rfl)) | (apply Q02; (iterate 3 exact rfl)) | (apply Qdl; (iterate 3 exact rfl); (first | assumption | exact WI.rd (by assumption) rfl [] | exact OwnI.rd (by assumption))) | refine JC.block ?_))
    refine Q0k (ι := Nat × SHeap) ⟨fun z => [(40, nv z.1), (39, nv (xss.getD i []).length), (38, ss.getD i (iv 0)), (7, nv i), (33, nv i), (32, nv xss.length), (31, v), (3, nv (ofC xss xss.length)), (6, .pointer (some ⟨b6, 0, none⟩)), (2, .pointer (some ⟨b2, 0, none⟩))],
     fun z => [(b6, .cells #[nv xss.length, nv (ofC xss xss.length), .slice Ao (xss.length * ofC xss xss.length) co] 29), (b2, .cells #[iv 0, iv 0, .slice none 0 0] 29)] ++ (z.2 ++ []),
     fun z => z.1 ≤ (xss.getD i []).length ∧ OwnZ z.2 (.slice Ao (xss.length * ofC xss xss.length) co) (xss.length * ofC xss xss.length) (tbz xss.length (ofC xss xss.length) (ofS xss i z.1)), fun z => (xss.getD i []).length - z.1⟩ (0, N) ⟨by dsimp only; omega, hO⟩ (by repeat first | exact trivial | refine ⟨rfl, ?_⟩) (by (first | exact HSub.refl _ | (repeat' first | exact HSub.nil _ | exact HSub.refl _ | refine HSub.at 0 rfl ?_ | refine HSub.at 1 rfl ?_ | refine HSub.at 2 rfl ?_ | refine HSub.at 3 rfl ?_ | refine HSub.at 4 rfl ?_ | refine HSub.at 5 rfl ?_ | refine HSub.at 6 rfl ?_ | refine HSub.at 7 rfl ?_))) (fun z hz => ?_)
    clear hO
    obtain ⟨j, N⟩ := z
    obtain ⟨hj, hO⟩ := hz
    dsimp only at hj hO ⊢
    by_cases hjj : j < (xss.getD i []).length
    ·have hjc : j < ofC xss xss.length := by omega
     have hidx := Qnt hii hjc
     have hb1 : i * ofC xss xss.length ≤ 40000 := Nat.mul_le_mul (show i ≤ 200 by omega) hcc
     have hI2 := hI i j
     (repeat' (first | refine JC.seq ?_ | refine JC.ops ?_ | refine JC.opsD ?_ | refine JO.nil ?_ | refine Q00 ?_ | (apply Q04; (iterate 3 exact rfl)) | (apply Q06; (iterate 3 exact rfl)) | (apply Q02; (iterate 3 exact rfl)) | (apply Q0g; (iterate 4 exact rfl); exact at0; exact rfl) | (apply Qjw; (iterate 4 exact rfl); (first | assumption | exact WI.rd (by assumption) rfl [] | exact OwnI.rd (by assumption)); (first | assumption | omega)) | (apply Qnf; (iterate 4 exact rfl); (first | assumption | exact WI.rd (by assumption) rfl [] | exact OwnI.rd (by assumption)); (repeat' first | exact HSub.nil _ | exact HSub.hd | exact Q03 | exact HSub.refl _ | refine HSub.skip ?_ | refine Q01 ?_); (first | assumption | omega)) | (apply Q1a; (iterate 4 exact rfl); omega) | (apply Q1q; (iterate 4 exact rfl); (first | assumption | omega)) | (apply Q0m; (iterate 4 exact rfl); all_goals intro hc; all_goals try (exfalso; omega)) | refine JC.skip ?_ | refine Q08 rfl ?_ | refine JC.block ?_))
     refine Q09 (by first | trivial | exact ⟨rfl, rfl⟩) rfl rfl rfl (fun w _ _ => Q9s w ((xss.getD i []).getD j 0) hI2.1 hI2.2) fun w v w' _ _ _ hR => ?_
     subst hR
     (repeat' (first | (apply Q1m; (iterate 4 exact rfl); (first | assumption | exact WZ.rd (by assumption) rfl [] | exact OwnZ.rd (by assumption)); (first | assumption | omega))))
     refine Q5s (A := [_, _]) (u := ofE xss i j) hO rfl rfl (by first | trivial | exact ⟨rfl, rfl⟩) rfl rfl hidx (fun N' hO' => ?_)
     rw [Qlb hjc] at hO'
     (repeat' (first | refine JC.ops ?_ | refine JO.nil ?_ | refine Q00 ?_ | (apply Q04; (iterate 3 exact rfl)) | (apply Q0r; (iterate 4 exact rfl); omega) | refine Q0b ?_))
     exact Q0c (j + 1, N') ⟨by dsimp only; omega, hO'⟩ (by dsimp only; omega) (by repeat first | exact trivial | refine ⟨rfl, ?_⟩) (by (first | exact HSub.refl _ | (repeat' first | exact HSub.nil _ | exact HSub.refl _ | refine HSub.at 0 rfl ?_ | refine HSub.at 1 rfl ?_ | refine HSub.at 2 rfl ?_ | refine HSub.at 3 rfl ?_ | refine HSub.at 4 rfl ?_ | refine HSub.at 5 rfl ?_ | refine HSub.at 6 rfl ?_ | refine HSub.at 7 rfl ?_)))
    ·rw [Qlc (show (xss.getD i []).length ≤ j by omega)] at hO
     (repeat' (first | refine JC.seq ?_ | refine JC.ops ?_ | refine JO.nil ?_ | refine Q00 ?_ | (apply Q04; (iterate 3 exact rfl)) | (apply Q0r; (iterate 4 exact rfl); omega) | (apply Q0m; (iterate 4 exact rfl); all_goals intro hc; all_goals try (exfalso; omega)) | refine Q0i ?_ | refine JC.exit ?_ | refine Q07 rfl ?_ | refine Q0b ?_ | refine Q0f ?_))
     exact Q0c (i + 1, N) ⟨by dsimp only; omega, hO⟩ (by dsimp only; omega) (by repeat first | exact trivial | refine ⟨rfl, ?_⟩) (by (first | exact HSub.refl _ | (repeat' first | exact HSub.nil _ | exact HSub.refl _ | refine HSub.at 0 rfl ?_ | refine HSub.at 1 rfl ?_ | refine HSub.at 2 rfl ?_ | refine HSub.at 3 rfl ?_ | refine HSub.at 4 rfl ?_ | refine HSub.at 5 rfl ?_ | refine HSub.at 6 rfl ?_ | refine HSub.at 7 rfl ?_)))
   ·rw [Qld (show xss.length ≤ i by omega)] at hO
    (repeat' (first | refine JC.seq ?_ | refine JC.ops ?_ | refine JO.nil ?_ | refine Q00 ?_ | (apply Q0d; (iterate 4 exact rfl); (first | exact at0 | exact at1); exact rfl) | (apply Q05; exact rfl; (first | exact trivial | exact ⟨rfl, rfl⟩); exact rfl; exact rfl; (first | exact at0 | exact at1); (iterate 3 exact rfl)) | (apply Q0m; (iterate 4 exact rfl); all_goals intro hc; all_goals try (exfalso; omega)) | (apply Q05; exact rfl; (first | exact trivial | exact ⟨rfl, rfl⟩); exact rfl; exact rfl; (first | exact at0 | exact at1); (iterate 3 exact rfl)) | refine Q0i ?_ | refine JC.exit ?_ | refine JC.ret ?_ | refine Q07 rfl ?_ | refine Q0f ?_))
    exact Q0z 1 rfl rfl rfl (fun a w' st => ⟨st.kp, N, st.newOf rfl (by (repeat' first | exact HSub.nil _ | exact HSub.hd | exact Q03 | exact HSub.refl _ | refine HSub.skip ?_ | refine Q01 ?_)), hdone _ hO⟩)


theorem Q8k (r c : Int) (w : World) : Calls Tryz.prog 52 #[.int .i64 r, .int .i64 c] w (Ret fun v w' => Kp [] w w' ∧ IsB (0 ≤ r ∧ r ≤ 200 ∧ 0 ≤ c ∧ c ≤ 200) v) := by
 refine Q0a [] [] (by simp) [] Tryz.func52 rfl mixed (by kernel_rfl) Tryz.ntmps52 Tryz.results52 rfl ⟨by simp, by simp⟩ (by simp) ?_
 simp only [toS, textOps, toSOp, kindAt, kindOf, odAt, sopsAt, ordOf, zipF]
 (repeat' (first | refine JC.seq ?_ | refine JC.ops ?_ | refine JO.nil ?_ | refine Q00 ?_ | (apply Q04; (iterate 3 exact rfl)) | (apply Q02; (iterate 3 exact rfl)) | (apply Q0n; (iterate 4 exact rfl)) | (apply Q0q; (iterate 4 exact rfl)) | (apply Qab; (iterate 4 exact rfl); all_goals intro hc; all_goals try (exfalso; omega)) | (apply Q2k; (iterate 4 exact rfl); all_goals intro hc; all_goals try (exfalso; omega)) | refine JC.ret ?_ | (apply Q10; exact rfl; exact rfl; (first | (intro h; cases h; done) | (intro _; rfl)))))
 all_goals first
  | exact Q0j rfl (fun a w st => ⟨st.kp, Qb6 (by omega)⟩)
  | exact Q0j rfl (fun a w st => ⟨st.kp, Q2s (by omega)⟩)

set_option maxHeartbeats 1000000 in
theorem Q6i (r c : Nat) (hr : r ≤ 200) (hc : c ≤ 200) (w : World) : Calls Tryz.prog 47 #[.int .i64 r, .int .i64 c] w (Ret fun v w' => Kp [] w w' ∧ Zeros r c w v w') := by
 have hb := rcZ hr hc
 refine Q0a [] [] (by simp) [] Tryz.func47 rfl mixed (by kernel_rfl) Tryz.ntmps47 Tryz.results47 rfl ⟨by simp, by simp⟩ (by simp) ?_
 simp only [toS, textOps, toSOp, kindAt, kindOf, odAt, sopsAt, ordOf, zipF]
 (repeat' (first | refine JC.seq ?_ | refine JC.ops ?_ | refine JO.nil ?_ | refine Q00 ?_ | (apply Q04; (iterate 3 exact rfl)) | (apply Q0e; (iterate 3 exact rfl); intro _)))
 refine Q09 trivial rfl rfl rfl (fun w _ _ => Q8k r c w) fun w v w' _ _ _ hR => ?_
 obtain ⟨b, rfl, hb⟩ := hR
 obtain rfl := hb.2 (by omega)
 (repeat' (first | refine JC.seq ?_ | refine JC.ops ?_ | refine JO.nil ?_ | refine Q00 ?_ | (apply Q04; (iterate 3 exact rfl)) | (apply Q02; (iterate 3 exact rfl)) | (apply Q1q; (iterate 4 exact rfl); (first | assumption | omega)) | (apply Q1e; (iterate 3 exact rfl)) | refine JC.skip ?_ | refine Q07 rfl ?_))
 refine Q3q rfl rfl rfl rfl rfl (by omega) (by omega) (fun b => ?_)
 (repeat' (first | refine JO.nil ?_ | refine Q00 ?_ | (apply Q05; exact rfl; (first | exact trivial | exact ⟨rfl, rfl⟩); exact rfl; exact rfl; exact at1; (iterate 3 exact rfl)) | (apply Q11; (iterate 5 exact rfl)) | (apply Q05; exact rfl; (first | exact trivial | exact ⟨rfl, rfl⟩); exact rfl; exact rfl; exact at1; (iterate 3 exact rfl)) | refine JC.ret ?_))
 have := Q6y b (r * c) (by simp only [maxLen]; omega)
 exact Q0z 1 rfl rfl rfl (fun a w st => ⟨st.kp, _, _, st.newOf rfl (HSub.at 0 rfl (HSub.nil _)), rfl, this⟩)

section
variable {c : Cx} {Q : Exit → Act → World → Prop} {m : Mode} {F : SFrame} {H : SHeap} {r : List SOp} {g : Option (Option Tmp × Bool)} {ns : Bool} {d : Tmp} {ty t t' : TypeId} {x y : Operand}
theorem Qjt {k : IntKind} {i : Nat} (j : Nat) (hd : dstOk c.n (some d) = true) (hg : guardF F g = some true) (hx : ev F x = some (.int k i)) (hy : ev F y = some (.int k (j : Nat))) (hb : 0 < j)
  (h : JO c Q m r ((d, (.int k ((i % j : Nat) : Int))) :: F) H) : JO c Q m (⟨some d, .binOp .rem t x y t', ty, g, .mov, ns⟩ :: r) F H :=
 Q1x hd hg hx hy (fun w => by
  have h0 : ¬ ((j : Int) = 0) := by omega
  rw [binOp_rem]; simp only [Op.intDiv, h0, if_false, Sem.run_pure, Int.ofNat_tmod]) h
end

def IsS (w : World) (v : Value) (R C : Nat) (L : List Int) : Prop := R < 256 ∧ C < 256 ∧ (∀ i, I64 (L.getD i 0)) ∧ ∃ E, v = .agg #[.int .u8 (R : Int), .int .u8 (C : Int), E] ∧ WI w E L.length L
theorem IsS.mono {w w' : World} {v : Value} {R C : Nat} {L : List Int} (h : IsS w v R C L) (hk : Kp [] w w') : IsS w' v R C L := by
 obtain ⟨h1, h2, h3, E, h5, h6⟩ := h
 exact ⟨h1, h2, h3, E, h5, h6.mono hk⟩

def shF (L : List Int) (k : Nat) : Int := if L = [] then 0 else L.getD ((k + k / L.length) % L.length) 0
def shZ (L : List Int) (r c : Nat) : ZM := ⟨r, c, tab (r * c) (shF L)⟩
theorem Qob (L : List Int) {r c : Nat} (hr : r ≤ 200) (hc : c ≤ 200) : RtZ (shZ L r c) := ⟨hr, hc, by simp [shZ, tab]⟩
theorem Qn2 {L : List Int} (h : ∀ i, I64 (L.getD i 0)) (k : Nat) : I64 (shF L k) := by
 unfold shF
 split
 ·exact ⟨by decide, by decide⟩
 ·exact h _
theorem Qoc {L : List Int} (h : ∀ i, I64 (L.getD i 0)) (r c : Nat) : BdZ 8 (shZ L r c) := fun i => by
 have h1 : I64 ((tab (r * c) (shF L)).getD i 0) := by
  rcases Nat.lt_or_ge i (r * c) with hi | hi
  ·rw [Q58 hi]; exact Qn2 h i
  ·have : (tab (r * c) (shF L))[i]? = none := List.getElem?_eq_none (by simp [tab]; omega)
   rw [List.getD, this]; exact ⟨by decide, by decide⟩
 have h2 : (256 : Nat) ^ 8 = 18446744073709551616 := by decide
 show ((tab (r * c) (shF L)).getD i 0).natAbs < 256 ^ 8
 obtain ⟨h3, h4⟩ := h1
 omega
def shS (n : Nat) (L : List Int) (k : Nat) : List Int := tab n fun i => if i < k then shF L i else 0
theorem Qi7 (n : Nat) (L : List Int) : shS n L 0 = tab n fun _ => 0 := by
 unfold shS
 exact Q1h fun i _ => by simp
theorem Qfm {n k : Nat} {L : List Int} (h : n ≤ k ∨ L = []) : shS n L k = tab n (shF L) := by
 unfold shS
 refine Q1h fun i hi => ?_
 rcases h with h | h
 ·rw [if_pos (by omega)]
 ·subst h; simp [shF]
theorem Qkt {n k : Nat} {L : List Int} (hk : k < n) : (shS n L k).set k (shF L k) = shS n L (k + 1) := by
 unfold shS
 rw [Qa0]
 refine Q1h fun i hi => ?_
 by_cases h : i = k
 ·subst h; rw [if_pos rfl, if_pos (by omega)]
 ·rw [if_neg h]
  by_cases h2 : i < k
  ·rw [if_pos h2, if_pos (by omega)]
  ·rw [if_neg h2, if_neg (by omega)]

set_option maxHeartbeats 4000000 in
theorem Qnx (w : World) (v : Value) (R C r c : Nat) (L : List Int) (hv : IsS w v R C L) (hr : r ≤ 200) (hc : c ≤ 200) :
  Calls Tryz.prog 27 #[v, nv r, nv c] w (Ret fun v w' => Kp [] w w' ∧ GivesM (shZ L r c) w v w') := by
 obtain ⟨h1, h2, h3, E, rfl, hE⟩ := hv
 have hrc := rcZ hr hc
 refine Q0a [⟨5, 2, [], []⟩] [] (by simp) [] Tryz.func27 rfl mixed (by kernel_rfl) Tryz.ntmps27 Tryz.results27 rfl ⟨by simp, by simp⟩ (by simp) ?_
 simp only [toS, textOps, toSOp, kindAt, kindOf, odAt, sopsAt, ordOf, zipF]
 (repeat' (first | refine JC.seq ?_ | refine JC.ops ?_ | refine JO.nil ?_ | refine Q00 ?_ | (apply Q04; (iterate 3 exact rfl)) | (apply Q0e; (iterate 3 exact rfl); intro _) | (apply Q0x; (iterate 4 exact rfl); intro _)))
 rename_i b3 b6
 refine Q0h (A := [_, _]) (B := []) rfl trivial rfl rfl rfl (fun w hk _ => Q6i r c hr hc w) fun w v w' _ _ _ hR => ?_
 obtain ⟨N, Eo, hN, rfl, hO⟩ := hR
 obtain ⟨Ao, co, rfl⟩ := hO.form
 refine ⟨N, hN, ?_⟩
 (repeat' (first | refine JC.seq ?_ | refine JC.ops ?_ | refine JO.nil ?_ | refine Q00 ?_ | (apply Q02; (iterate 3 exact rfl)) | (apply Q05; exact rfl; (first | exact trivial | exact ⟨rfl, rfl⟩); exact rfl; exact rfl; exact at0; (iterate 3 exact rfl)) | (apply Q0e; (iterate 3 exact rfl); intro _) | (apply Q05; exact rfl; (first | exact trivial | exact ⟨rfl, rfl⟩); exact rfl; exact rfl; exact at0; (iterate 3 exact rfl)) | refine JC.block ?_))
 rename_i b7
 refine Q0k (ι := Nat × SHeap) ⟨fun z => [(8, nv z.1), (7, .pointer (some ⟨b7, 0, none⟩)), (6, .pointer (some ⟨b6, 0, none⟩)), (3, .pointer (some ⟨b3, 0, none⟩))],
  fun z => [(b7, .cells #[nv r, nv c, .slice Ao (r * c) co] 29), (b6, .cells #[iv 0, iv 0, .slice none 0 0] 29), (b3, .cells #[.int .u8 (R : Int), .int .u8 (C : Int), E] 24)] ++ (z.2 ++ []),
  fun z => z.1 ≤ r * c ∧ OwnZ z.2 (.slice Ao (r * c) co) (r * c) (shS (r * c) L z.1), fun z => r * c - z.1⟩ (0, N) ⟨by dsimp only; omega, by rw [Qi7]; exact hO⟩ (by repeat first | exact trivial | refine ⟨rfl, ?_⟩) (by (first | exact HSub.refl _ | (repeat' first | exact HSub.nil _ | exact HSub.refl _ | refine HSub.at 0 rfl ?_ | refine HSub.at 1 rfl ?_ | refine HSub.at 2 rfl ?_ | refine HSub.at 3 rfl ?_ | refine HSub.at 4 rfl ?_ | refine HSub.at 5 rfl ?_ | refine HSub.at 6 rfl ?_ | refine HSub.at 7 rfl ?_))) (fun z hz => ?_)
 clear hO
 obtain ⟨k, N⟩ := z
 obtain ⟨hk, hO⟩ := hz
 dsimp only at hk hO ⊢
 by_cases hkk : k < r * c
 ·by_cases hL : 0 < L.length
  ·have hq1 : k / L.length ≤ k := Nat.div_le_self _ _
   have hlt : (k + k / L.length) % L.length < L.length := Nat.mod_lt _ hL
   have hne : L ≠ [] := fun e => by subst e; exact Nat.lt_irrefl _ hL
   have hI := h3 ((k + k / L.length) % L.length)
   (repeat' (first | refine JC.seq ?_ | refine JC.ops ?_ | refine JC.opsD ?_ | refine JO.nil ?_ | refine Q00 ?_ | (apply Q04; (iterate 3 exact rfl)) | (apply Q06; (iterate 3 exact rfl)) | (apply Q0g; (iterate 4 exact rfl); (first | exact at0 | exact at2); exact rfl) | (apply Q4s; (iterate 3 exact rfl); (first | assumption | exact WZ.rd (by assumption) rfl [] | exact OwnZ.rd (by assumption))) | (apply Qjw; (iterate 4 exact rfl); (first | assumption | exact WI.rd (by assumption) rfl [] | exact OwnI.rd (by assumption)); (first | assumption | omega)) | (apply Qnf; (iterate 4 exact rfl); (first | assumption | exact WI.rd (by assumption) rfl [] | exact OwnI.rd (by assumption)); (repeat' first | exact HSub.nil _ | exact HSub.hd | exact Q03 | exact HSub.refl _ | refine HSub.skip ?_ | refine Q01 ?_); (first | assumption | omega)) | (apply Qdl; (iterate 3 exact rfl); (first | assumption | exact WI.rd (by assumption) rfl [] | exact OwnI.rd (by assumption))) | (apply Q1a; (iterate 4 exact rfl); omega) | (apply Q5k; (iterate 4 exact rfl); omega) | (apply Q4v; (iterate 4 exact rfl); omega) | (apply Q0n; (iterate 4 exact rfl)) | (apply Q0m; (iterate 4 exact rfl); all_goals intro hc; all_goals try (exfalso; omega)) | (apply Q1l; (iterate 4 exact rfl); all_goals intro hc; all_goals try (exfalso; omega)) | refine JC.skip ?_ | refine Q08 rfl ?_ | refine JC.block ?_))
   refine Q09 (by first | trivial | exact ⟨rfl, rfl⟩) rfl rfl rfl (fun w hk _ => Qaz w (L.getD ((k + k / L.length) % L.length) 0) hI.1 hI.2) fun w v w' _ _ _ hR => ?_
   subst hR
   have hF : L.getD ((k + k / L.length) % L.length) 0 = shF L k := by unfold shF; rw [if_neg hne]
   rw [hF]
   (repeat' (first | (apply Q1m; (iterate 4 exact rfl); (first | assumption | exact WZ.rd (by assumption) rfl [] | exact OwnZ.rd (by assumption)); (first | assumption | omega))))
   refine Q5s (A := [_, _, _]) (u := shF L k) hO rfl rfl (by first | trivial | exact ⟨rfl, rfl⟩) rfl rfl hkk (fun N' hO' => ?_)
   rw [Qkt hkk] at hO'
   (repeat' (first | refine JC.ops ?_ | refine JO.nil ?_ | refine Q00 ?_ | (apply Q04; (iterate 3 exact rfl)) | (apply Q02; (iterate 3 exact rfl)) | (apply Q0r; (iterate 4 exact rfl); omega) | refine Q0b ?_))
   exact Q0c (k + 1, N') ⟨by dsimp only; omega, hO'⟩ (by dsimp only; omega) (by repeat first | exact trivial | refine ⟨rfl, ?_⟩) (by (first | exact HSub.refl _ | (repeat' first | exact HSub.nil _ | exact HSub.refl _ | refine HSub.at 0 rfl ?_ | refine HSub.at 1 rfl ?_ | refine HSub.at 2 rfl ?_ | refine HSub.at 3 rfl ?_ | refine HSub.at 4 rfl ?_ | refine HSub.at 5 rfl ?_ | refine HSub.at 6 rfl ?_ | refine HSub.at 7 rfl ?_)))
  ·(repeat' (first | refine JC.seq ?_ | refine JC.ops ?_ | refine JO.nil ?_ | refine Q00 ?_ | (apply Q04; (iterate 3 exact rfl)) | (apply Q06; (iterate 3 exact rfl)) | (apply Q0g; (iterate 4 exact rfl); (first | exact at0 | exact at1 | exact at2); exact rfl) | (apply Q0d; (iterate 4 exact rfl); (first | exact at0 | exact at1 | exact at2); exact rfl) | (apply Q4s; (iterate 3 exact rfl); (first | assumption | exact WZ.rd (by assumption) rfl [] | exact OwnZ.rd (by assumption))) | (apply Qdl; (iterate 3 exact rfl); (first | assumption | exact WI.rd (by assumption) rfl [] | exact OwnI.rd (by assumption))) | (apply Q0n; (iterate 4 exact rfl)) | (apply Q05; exact rfl; (first | exact trivial | exact ⟨rfl, rfl⟩); exact rfl; exact rfl; (first | exact at0 | exact at1 | exact at2); (iterate 3 exact rfl)) | (apply Q0m; (iterate 4 exact rfl); all_goals intro hc; all_goals try (exfalso; omega)) | (apply Q1l; (iterate 4 exact rfl); all_goals intro hc; all_goals try (exfalso; omega)) | (apply Q05; exact rfl; (first | exact trivial | exact ⟨rfl, rfl⟩); exact rfl; exact rfl; (first | exact at0 | exact at1 | exact at2); (iterate 3 exact rfl)) | refine Q0i ?_ | refine JC.exit ?_ | refine JC.ret ?_ | refine Q07 rfl ?_ | refine Q0f ?_))
   have hL0 : L = [] := List.eq_nil_of_length_eq_zero (by omega)
   rw [Qfm (.inr hL0)] at hO
   exact Q0z 1 rfl rfl rfl (fun a w' st => ⟨st.kp, N, st.newOf rfl (by (repeat' first | exact HSub.nil _ | exact HSub.hd | exact Q03 | exact HSub.refl _ | refine HSub.skip ?_ | refine Q01 ?_)), OwnM.mk' hO⟩)
 ·(repeat' (first | refine JC.seq ?_ | refine JC.ops ?_ | refine JO.nil ?_ | refine Q00 ?_ | (apply Q04; (iterate 3 exact rfl)) | (apply Q06; (iterate 3 exact rfl)) | (apply Q0g; (iterate 4 exact rfl); (first | exact at0 | exact at1); exact rfl) | (apply Q0d; (iterate 4 exact rfl); (first | exact at0 | exact at1); exact rfl) | (apply Q4s; (iterate 3 exact rfl); (first | assumption | exact WZ.rd (by assumption) rfl [] | exact OwnZ.rd (by assumption))) | (apply Q0q; (iterate 4 exact rfl)) | (apply Q05; exact rfl; (first | exact trivial | exact ⟨rfl, rfl⟩); exact rfl; exact rfl; (first | exact at0 | exact at1); (iterate 3 exact rfl)) | (apply Q0m; (iterate 4 exact rfl); all_goals intro hc; all_goals try (exfalso; omega)) | (apply Q05; exact rfl; (first | exact trivial | exact ⟨rfl, rfl⟩); exact rfl; exact rfl; (first | exact at0 | exact at1); (iterate 3 exact rfl)) | refine Q0i ?_ | refine JC.exit ?_ | refine JC.ret ?_ | refine Q07 rfl ?_ | refine Q0f ?_ | (apply Q10; exact rfl; exact rfl; (first | (intro h; cases h; done) | (intro _; rfl)))))
  rw [Qfm (.inl (by omega))] at hO
  exact Q0z 1 rfl rfl rfl (fun a w' st => ⟨st.kp, N, st.newOf rfl (by (repeat' first | exact HSub.nil _ | exact HSub.hd | exact Q03 | exact HSub.refl _ | refine HSub.skip ?_ | refine Q01 ?_)), OwnM.mk' hO⟩)

def shMat (R C : Nat) (L : List Int) : ZM := shZ L (R % 7) (C % 7)
theorem Qhn (R C : Nat) (L : List Int) : RtZ (shMat R C L) := Qob L (by have := Nat.mod_lt R (show 0 < 7 by omega); omega) (by have := Nat.mod_lt C (show 0 < 7 by omega); omega)

set_option maxHeartbeats 4000000 in
theorem Qop (w : World) (v : Value) (R C : Nat) (L : List Int) (hv : IsS w v R C L) :
  Calls Tryz.prog 5 #[v] w (Ret fun v w' => Kp [] w w' ∧ GivesM (shMat R C L) w v w') := by
 have hv0 := hv
 obtain ⟨h1, h2, h3, E, rfl, hE⟩ := hv
 have hr7 : R % 7 < 7 := Nat.mod_lt _ (by omega)
 have hc7 : C % 7 < 7 := Nat.mod_lt _ (by omega)
 refine Q0a [] [] (by simp) [] Tryz.func5 rfl mixed (by kernel_rfl) Tryz.ntmps5 Tryz.results5 rfl ⟨by simp, by simp⟩ (by simp) ?_
 simp only [toS, textOps, toSOp, kindAt, kindOf, odAt, sopsAt, ordOf, zipF]
 (repeat' (first | refine JC.seq ?_ | refine JC.ops ?_ | refine JO.nil ?_ | refine Q00 ?_ | (apply Q06; (iterate 3 exact rfl)) | (apply Q0g; (iterate 4 exact rfl); exact at1; exact rfl) | (apply Q0d; (iterate 4 exact rfl); exact at1; exact rfl) | (apply Q0e; (iterate 3 exact rfl); intro _) | (apply Q0x; (iterate 4 exact rfl); intro _)))
 refine Qjt (i := R) 7 rfl rfl rfl rfl (by omega) ?_
 (repeat' (first | (apply Q06; (iterate 3 exact rfl)) | (apply Q0g; (iterate 4 exact rfl); exact at1; exact rfl) | (apply Qae; (iterate 3 exact rfl); omega)))
 refine Qjt (i := C) 7 rfl rfl rfl rfl (by omega) ?_
 (repeat' (first | (apply Qae; (iterate 3 exact rfl); omega)))
 refine Q0h (A := [_, _]) (B := []) rfl trivial rfl rfl rfl (fun w hk _ => Qnx w _ R C (R % 7) (C % 7) L (hv0.mono hk) (by omega) (by omega)) fun w v w' _ _ _ hR => ?_
 obtain ⟨N, hN, Eo, rfl, hO⟩ := hR
 obtain ⟨Ao, co, rfl⟩ := hO.form
 refine ⟨N, hN, ?_⟩
 (repeat' (first | refine JO.nil ?_ | refine Q00 ?_ | (apply Q05; exact rfl; (first | exact trivial | exact ⟨rfl, rfl⟩); exact rfl; exact rfl; exact at0; (iterate 3 exact rfl)) | (apply Q05; exact rfl; (first | exact trivial | exact ⟨rfl, rfl⟩); exact rfl; exact rfl; exact at0; (iterate 3 exact rfl)) | refine JC.ret ?_))
 exact Q0z 0 rfl rfl rfl (fun a w' st => ⟨st.kp, N, st.newOf rfl (by (repeat' first | exact HSub.nil _ | exact HSub.hd | exact Q03 | exact HSub.refl _ | refine HSub.skip ?_ | refine Q01 ?_)), _, rfl, hO⟩)

end Go.Proofs.YtdlmnloikakjpaaGreatDoor

namespace Go.Proofs.YtdlmnloikakjpaaGreatDoor
open Go Go.RowKit Go.ChangeShapes Go.WideShapes Go.ChangeAt
set_option linter.unusedSimpArgs false
set_option linter.unusedVariables false
set_option linter.unusedSectionVars false

theorem own : ownKnob Tryz.prog.godebug = none := by kernel_rfl
theorem laidOut : laidOutB Tryz.prog = true := by kernel_rfl
theorem cellsS : Tryz.prog.cellsOf 24 = 3 := by kernel_rfl

theorem Qjk {n : Int} (h : (Lit.int .u8 n).wf = true) : ∃ m : Nat, n = m ∧ m < 256 := by
 have h1 : 0 ≤ n ∧ n < 256 := by
  have hmin : IntKind.u8.min = 0 := by decide
  have hmax : IntKind.u8.max = 255 := by decide
  simp only [Lit.wf, Bool.and_eq_true, decide_eq_true_eq, hmin, hmax] at h
  omega
 exact ⟨n.toNat, by omega, by omega⟩
theorem Qgo {n : Int} (h : (Lit.int .i64 n).wf = true) : I64 n := by
 have hmin : IntKind.i64.min = -9223372036854775808 := by decide
 have hmax : IntKind.i64.max = 9223372036854775807 := by decide
 simp only [Lit.wf, Bool.and_eq_true, decide_eq_true_eq, hmin, hmax] at h
 unfold I64
 omega
theorem Qiz {l : List Int} (h : ∀ n ∈ l, I64 n) (i : Nat) : I64 (l.getD i 0) := by
 rw [List.getD]
 cases hi : l[i]? with
 | none => exact ⟨by decide, by decide⟩
 | some x => exact h x (List.mem_of_getElem? hi)

theorem Qhl {w : World} {a : Addr} {len cap : Nat} {zs : List Int} (hl : len ≤ cap) (hz : zs.length = cap) (hc : ∀ i, i < zs.length → w.cell? (a.add i) = some (.int .i64 (zs.getD i 0))) : WI w (.slice (some a) len cap) len (zs.take len) := by
 refine ⟨by simp [hz]; omega, some a, cap, rfl, hl, fun h0 => ?_⟩
 obtain ⟨b, o, sp⟩ := a
 have hsp : sp = none := by
  have := hc 0 (by omega)
  cases sp with
  | none => rfl
  | some s =>
   simp only [Addr.add, if_true, World.cell?] at this
   split at this <;> simp at this
 subst hsp
 refine ⟨⟨b, o, rfl⟩, fun j u hu => ?_⟩
 simp only [vAt]
 rw [List.getElem?_map, List.getElem?_take] at hu
 split at hu
 ·rename_i hj
  have hjz : j < zs.length := by omega
  rw [Q3i (d := 0) hjz] at hu
  cases hu
  rw [← Q1y]
  exact hc j hjz
 ·cases hu

set_option maxRecDepth 100000 in
theorem Qej {H : Type} {enc : TypeId × Value → H} {w : World} {r : Reach} {b0 : Nat} {held : Bool} {v : Value} {d : DataW H} {ps : List MemPlace} (hv : Value.okWide Tryz.prog w r b0 24 v)
  (h : DataW.Trod enc Tryz.prog w 0 (fun _ => true) held 24 v d ps) : ∃ R C L, IsS w v R C L := by
 obtain ⟨v0, v1, v2, y0, y1, y2, n, rfl, rfl, _, h0, h1, h2⟩ := Joins.open_agg3 Tryz.underlying24 (by kernel_rfl) cellsS hv h
 obtain ⟨n0, e0, _, w0⟩ := DataW.trod_int Tryz.underlying5 h0
 obtain ⟨n1, e1, _, w1⟩ := DataW.trod_int Tryz.underlying5 h1
 simp only [List.cons.injEq, and_true] at e0 e1
 subst e0 e1
 obtain ⟨m0, rfl, l0⟩ := Qjk w0
 obtain ⟨m1, rfl, l1⟩ := Qjk w1
 rcases open_ints Tryz.underlying22 Tryz.underlying3 (by kernel_rfl) h2 with ⟨hcs, _⟩ | ⟨x, l, c, zs, hcs, _, hl, hm, hz, _, hcell, hwz⟩
 ·simp only [List.cons.injEq, and_true] at hcs
  subst hcs
  exact ⟨m0, m1, [], l0, l1, fun i => ⟨by simp, by simp⟩, _, rfl, ⟨rfl, none, 0, rfl, Nat.le_refl _, fun h => absurd h (Nat.lt_irrefl _)⟩⟩
 ·simp only [List.cons.injEq, and_true] at hcs
  subst hcs
  have hzl : zs.length = c := by simpa using hz
  have hW := Qhl hl hzl hcell
  have hlen : (zs.take l).length = l := by simp [hzl]; omega
  exact ⟨m0, m1, zs.take l, l0, l1, Qiz fun n hn => Qgo (hwz n (List.mem_of_mem_take hn)), _, rfl, by rw [hlen]; exact hW⟩

end Go.Proofs.YtdlmnloikakjpaaGreatDoor

