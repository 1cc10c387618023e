import Derived.Test.YtemdknkghacheaaDoorMf
namespace Go.Proofs.YtemdknkghacheaaDoor
open Go Go.RowKit
set_option linter.unusedSimpArgs false
set_option linter.unusedVariables false
set_option linter.unusedSectionVars false

theorem zx_lt {r c i j : Nat} (hi : i < r) (hj : j < c) : i * c + j < r * c := by
  have h : (i + 1) * c ≤ r * c := Nat.mul_le_mul_right c hi
  rw [Nat.add_mul, Nat.one_mul] at h; omega
theorem zx_div {c i j : Nat} (hj : j < c) : (i * c + j) / c = i := by
  rw [Nat.mul_comm, Nat.mul_add_div (by omega), Nat.div_eq_of_lt hj, Nat.add_zero]
theorem zx_mod {c i j : Nat} (hj : j < c) : (i * c + j) % c = j := by
  rw [Nat.mul_comm, Nat.mul_add_mod, Nat.mod_eq_of_lt hj]
theorem zx_split {r c k : Nat} (h : k < r * c) : k / c < r ∧ k % c < c ∧ k = (k / c) * c + k % c := by
  have hc : 0 < c := by
    rcases Nat.eq_zero_or_pos c with h0 | h0
    · subst h0; omega
    · exact h0
  refine ⟨(Nat.div_lt_iff_lt_mul hc).2 h, Nat.mod_lt _ hc, ?_⟩
  rw [Nat.mul_comm, Nat.div_add_mod]
theorem zx_row {r c i : Nat} (hi : i < r) : (i + 1) * c ≤ r * c := Nat.mul_le_mul_right c (by omega)

def enz (c : Nat) (xs : List Int) (i j : Nat) : Int := xs.getD (i * c + j) 0
def ZM.at (m : ZM) : Mi := fun i j => enz m.c m.e i j
def tbz (r c : Nat) (g : Mi) : List Int := tab (r * c) fun k => g (k / c) (k % c)
theorem tbz_len (r c : Nat) (g : Mi) : (tbz r c g).length = r * c := by simp [tbz, tab]
theorem enz_tbz {r c i j : Nat} {g : Mi} (hi : i < r) (hj : j < c) : enz c (tbz r c g) i j = g i j := by
  unfold enz tbz
  rw [tab_getD (zx_lt hi hj), zx_div hj, zx_mod hj]
theorem tbz_get {r c i j : Nat} {g : Mi} (hi : i < r) (hj : j < c) : (tbz r c g).getD (i * c + j) 0 = g i j := enz_tbz hi hj
theorem tbz_congr {r c : Nat} {g g' : Mi} (h : ∀ i j, i < r → j < c → g i j = g' i j) : tbz r c g = tbz r c g' := tab_congr fun k hk => by
  obtain ⟨h1, h2, _⟩ := zx_split hk
  exact h _ _ h1 h2
theorem tbz_set {r c i j : Nat} {x : Int} {g : Mi} (hj : j < c) : (tbz r c g).set (i * c + j) x = tbz r c (fun a b => if a = i ∧ b = j then x else g a b) := by
  unfold tbz
  rw [tab_set]
  refine tab_congr fun k hk => ?_
  obtain ⟨h1, h2, h3⟩ := zx_split hk
  by_cases h : k = i * c + j
  · have : k / c = i ∧ k % c = j := by subst h; exact ⟨zx_div hj, zx_mod hj⟩
    rw [if_pos h]
    exact (if_pos this).symm
  · rw [if_neg h]
    refine (if_neg ?_).symm
    rintro ⟨e1, e2⟩
    rw [e1, e2] at h3
    exact h h3
theorem tbz_of {r c : Nat} {xs : List Int} (hl : xs.length = r * c) : tbz r c (enz c xs) = xs := by
  unfold tbz
  rw [tab_congr (g' := fun i => xs.getD i 0)]
  · exact tab_of hl
  · intro k hk
    obtain ⟨_, _, h3⟩ := zx_split hk
    unfold enz
    rw [← h3]
theorem tbz_zero (r c : Nat) : tbz r c (fun _ _ => 0) = tab (r * c) fun _ => 0 := rfl

def zof (r c : Nat) (g : Mi) : ZM := ⟨r, c, tbz r c g⟩
theorem zof_rt {r c : Nat} {g : Mi} (hr : r ≤ 200) (hc : c ≤ 200) : RtZ (zof r c g) := ⟨hr, hc, tbz_len r c g⟩
theorem zof_at {r c i j : Nat} {g : Mi} (hi : i < r) (hj : j < c) : (zof r c g).at i j = g i j := enz_tbz hi hj
theorem zof_of {m : ZM} (h : RtZ m) : zof m.r m.c m.at = m := by
  unfold zof ZM.at
  rw [tbz_of h.len]
theorem zof_congr {r c : Nat} {g g' : Mi} (h : ∀ i j, i < r → j < c → g i j = g' i j) : zof r c g = zof r c g' := by
  unfold zof
  rw [tbz_congr h]
theorem ZM.ext' {m n : ZM} (hm : RtZ m) (hn : RtZ n) (hr : m.r = n.r) (hc : m.c = n.c) (h : ∀ i j, i < m.r → j < m.c → m.at i j = n.at i j) : m = n := by
  rw [← zof_of hm, ← zof_of hn, ← hr, ← hc]
  exact zof_congr h
theorem row_enz {c i j : Nat} {xs : List Int} (hj : j < c) : ((xs.drop (i * c)).take c).getD j 0 = enz c xs i j := by
  unfold enz
  simp only [List.getD, List.getElem?_take_of_lt hj, List.getElem?_drop]

def BdZ (K : Nat) (m : ZM) : Prop := ∀ i, (m.e.getD i 0).natAbs < 256 ^ K
theorem BdZ.mono {K K' : Nat} {m : ZM} (h : BdZ K m) (hk : K ≤ K') : BdZ K' m := fun i => Nat.lt_of_lt_of_le (h i) (Nat.pow_le_pow_right (by decide) hk)
theorem BdZ.at {K : Nat} {m : ZM} (h : BdZ K m) (i j : Nat) : (m.at i j).natAbs < 256 ^ K := h _
theorem BdZ.of {K r c : Nat} {g : Mi} (h : ∀ i j, i < r → j < c → (g i j).natAbs < 256 ^ K) : BdZ K (zof r c g) := fun k => by
  rcases Nat.lt_or_ge k (r * c) with hk | hk
  · obtain ⟨h1, h2, h3⟩ := zx_split hk
    show ((tbz r c g).getD k 0).natAbs < _
    rw [h3, tbz_get h1 h2]
    exact h _ _ h1 h2
  · show ((tbz r c g).getD k 0).natAbs < _
    simp only [List.getD, List.getElem?_eq_none (show (tbz r c g).length ≤ k by rw [tbz_len]; exact hk), Option.getD_none]
    exact Nat.pow_pos (by decide)
theorem pos256 (K : Nat) : 0 < 256 ^ K := Nat.pow_pos (by decide)

def addZ (m n : ZM) : ZM := zof m.r m.c fun i j => m.at i j + n.at i j
def subZ (m n : ZM) : ZM := zof m.r m.c fun i j => m.at i j - n.at i j
def mulZ (m n : ZM) : ZM := zof m.r n.c (mmI m.c m.at n.at)
def trZ (m : ZM) : ZM := zof m.c m.r (tr m.at)
def partZ (m : ZM) (i j r c : Nat) : ZM := zof r c fun a b => m.at (i + a) (j + b)
def oneZ (n : Nat) : ZM := zof n n idI
def zeroZ (r c : Nat) : ZM := zof r c fun _ _ => 0

theorem smI_bd {B : Nat} : ∀ {n : Nat} {f : Nat → Int}, (∀ i, i < n → (f i).natAbs ≤ B) → (smI n f).natAbs ≤ n * B
  | 0, f, _ => by simp [smI]
  | n + 1, f, h => by
    rw [smI]
    have h1 := smI_bd (n := n) (f := f) (fun i hi => h i (by omega))
    have h2 := h n (by omega)
    have h3 := Int.natAbs_add_le (smI n f) (f n)
    rw [Nat.add_mul, Nat.one_mul]
    omega
theorem mul_bd {x y : Int} {K L : Nat} (hx : x.natAbs < 256 ^ K) (hy : y.natAbs < 256 ^ L) : (x * y).natAbs < 256 ^ (K + L) := by
  rw [Int.natAbs_mul, Nat.pow_add]
  exact Nat.mul_lt_mul'' hx hy
theorem add_bd {x y : Int} {K : Nat} (hx : x.natAbs < 256 ^ K) (hy : y.natAbs < 256 ^ K) : (x + y).natAbs < 256 ^ (K + 1) := by
  have h := Int.natAbs_add_le x y
  rw [Nat.pow_succ]; omega
theorem sub_bd {x y : Int} {K : Nat} (hx : x.natAbs < 256 ^ K) (hy : y.natAbs < 256 ^ K) : (x - y).natAbs < 256 ^ (K + 1) := by
  rw [Nat.pow_succ]; omega
theorem bd_up {x : Int} {K L : Nat} (h : x.natAbs < 256 ^ K) (hk : K ≤ L) : x.natAbs < 256 ^ L := Nat.lt_of_lt_of_le h (Nat.pow_le_pow_right (by decide) hk)
theorem mm_bd {K L n : Nat} {A B : Mi} {i j : Nat} (hn : n ≤ 200) (hA : ∀ k, k < n → (A i k).natAbs < 256 ^ K) (hB : ∀ k, k < n → (B k j).natAbs < 256 ^ L) : (mmI n A B i j).natAbs < 256 ^ (K + L + 1) := by
  have h := smI_bd (n := n) (f := fun k => A i k * B k j) (B := 256 ^ (K + L)) (fun k hk => Nat.le_of_lt (mul_bd (hA k hk) (hB k hk)))
  have h2 : n * 256 ^ (K + L) ≤ 200 * 256 ^ (K + L) := Nat.mul_le_mul_right _ hn
  have h3 := pos256 (K + L)
  show (smI n _).natAbs < _
  rw [Nat.pow_succ]
  omega
theorem BdZ.add {K : Nat} {m n : ZM} (h : BdZ K m) (h' : BdZ K n) : BdZ (K + 1) (addZ m n) := BdZ.of fun i j _ _ => add_bd (h.at i j) (h'.at i j)
theorem BdZ.sub {K : Nat} {m n : ZM} (h : BdZ K m) (h' : BdZ K n) : BdZ (K + 1) (subZ m n) := BdZ.of fun i j _ _ => sub_bd (h.at i j) (h'.at i j)
theorem BdZ.mul {K L : Nat} {m n : ZM} (hc : m.c ≤ 200) (h : BdZ K m) (h' : BdZ L n) : BdZ (K + L + 1) (mulZ m n) := BdZ.of fun i j _ _ => mm_bd hc (fun k _ => h.at i k) (fun k _ => h'.at k j)
theorem BdZ.tr {K : Nat} {m : ZM} (h : BdZ K m) : BdZ K (trZ m) := BdZ.of fun i j _ _ => h.at j i
theorem BdZ.part {K : Nat} {m : ZM} (h : BdZ K m) (i j r c : Nat) : BdZ K (partZ m i j r c) := BdZ.of fun a b _ _ => h.at _ _
theorem BdZ.one (n : Nat) : BdZ 1 (oneZ n) := BdZ.of fun i j _ _ => by unfold idI; split <;> decide
theorem BdZ.zero (r c : Nat) : BdZ 0 (zeroZ r c) := BdZ.of fun i j _ _ => by decide


def bez : Nat → Int → Int → Int × Int
  | 0, a, _ => (a.sign, 0)
  | n + 1, a, b => if b = 0 then (a.sign, 0) else ((bez n b (a % b)).2, (bez n b (a % b)).1 - a / b * (bez n b (a % b)).2)
theorem bez_ok : ∀ (n : Nat) (a b : Int), b.natAbs ≤ n → (bez n a b).1 * a + (bez n a b).2 * b = Int.gcd a b
  | 0, a, b, h => by
    have hb : b = 0 := by omega
    subst hb
    show a.sign * a + 0 * 0 = _
    rw [Int.sign_mul_self]
    simp [Int.gcd]
  | n + 1, a, b, h => by
    rw [bez]
    split
    · rename_i hb
      subst hb
      show a.sign * a + 0 * 0 = _
      rw [Int.sign_mul_self]
      simp [Int.gcd]
    · rename_i hb
      have h1 := Int.emod_nonneg a hb
      have h2 := Int.emod_lt a hb
      have ih := bez_ok n b (a % b) (by omega)
      rw [gcd_step] at ih
      rw [← ih]
      have h3 := Int.emod_def a b
      generalize (bez n b (a % b)).1 = p at *
      generalize (bez n b (a % b)).2 = q at *
      rw [h3]
      dsimp only
      generalize a / b = k
      rw [Int.sub_mul, Int.mul_sub, Int.mul_assoc k q b, Int.mul_comm q b, ← Int.mul_assoc k b q, Int.mul_comm k b, Int.mul_comm q (b * k)]
      omega

def gcdF (a b : Int) : Int × Int × Int :=
  if b = 0 then ((a.natAbs : Int), a.sign, 0)
  else ((Int.gcd a b : Int), (bez b.natAbs a b).1 % (b / (Int.gcd a b : Int)), ((Int.gcd a b : Int) - (bez b.natAbs a b).1 % (b / (Int.gcd a b : Int)) * a) / b)
theorem gcdF_ok (a b : Int) : GcdP a b (gcdF a b).1 (gcdF a b).2.1 (gcdF a b).2.2 := by
  unfold gcdF
  split
  · rename_i h; subst h; exact gcd_zero_end a
  · rename_i h; exact gcd_end rfl h (bez_ok _ a b (Nat.le_refl _))

def gE (g : List (List Int)) (i j : Nat) : Int := (g.getD i []).getD j 0
structure Rec (r c : Nat) (g : List (List Int)) : Prop where
  len : g.length = r
  row : ∀ x ∈ g, x.length = c
theorem Rec.at {r c i : Nat} {g : List (List Int)} (h : Rec r c g) (hi : i < r) : (g.getD i []).length = c := h.row _ (mem_getD (by have := h.len; omega))
theorem list_ext0 {xs ys : List Int} (hl : xs.length = ys.length) (h : ∀ j, j < xs.length → xs.getD j 0 = ys.getD j 0) : xs = ys := by
  refine List.ext_getElem hl fun j h1 h2 => ?_
  have := h j h1
  simpa [List.getD, List.getElem?_eq_getElem h1, List.getElem?_eq_getElem h2] using this
theorem Rec.ext {r c : Nat} {g g' : List (List Int)} (h : Rec r c g) (h' : Rec r c g') (e : ∀ i j, i < r → j < c → gE g i j = gE g' i j) : g = g' := by
  refine List.ext_getElem (by rw [h.len, h'.len]) fun i h1 h2 => ?_
  have hi : i < r := by have := h.len; omega
  have e1 : g.getD i [] = g[i] := by rw [List.getD, List.getElem?_eq_getElem h1]; rfl
  have e2 : g'.getD i [] = g'[i] := by rw [List.getD, List.getElem?_eq_getElem h2]; rfl
  have l1 := h.at hi
  have l2 := h'.at hi
  rw [← e1, ← e2]
  refine list_ext0 (by omega) fun j hj => e i j hi (by omega)

structure Tn where
  a : Int
  b : Int
  c : Int
  d : Int
  deriving DecidableEq
def Tn.back (t : Tn) : Tn := ⟨t.d, -t.b, -t.c, t.a⟩
def Tn.flip (t : Tn) : Tn := ⟨t.d, -t.c, -t.b, t.a⟩
def Tn.p (t : Tn) (x y : Int) : Int := t.a * x + t.b * y
def Tn.q (t : Tn) (x y : Int) : Int := t.c * x + t.d * y

def rowsL (i k : Nat) (t : Tn) (g : List (List Int)) : List (List Int) := (g.set i (List.zipWith t.p (g.getD i []) (g.getD k []))).set k (List.zipWith t.q (g.getD i []) (g.getD k []))
def colsL (i k : Nat) (t : Tn) (g : List (List Int)) : List (List Int) := g.map fun r => (r.set i (t.p (r.getD i 0) (r.getD k 0))).set k (t.q (r.getD i 0) (r.getD k 0))

theorem zip_getD {f : Int → Int → Int} {xs ys : List Int} {j : Nat} (h1 : j < xs.length) (h2 : j < ys.length) : (List.zipWith f xs ys).getD j 0 = f (xs.getD j 0) (ys.getD j 0) := by
  simp [List.getD, List.getElem?_zipWith, List.getElem?_eq_getElem h1, List.getElem?_eq_getElem h2]
theorem Rec.set {r c i : Nat} {g : List (List Int)} {l : List Int} (h : Rec r c g) (hl : l.length = c) : Rec r c (g.set i l) :=
  ⟨by rw [List.length_set, h.len], fun x hx => by
    rcases List.mem_or_eq_of_mem_set hx with hx | rfl
    · exact h.row x hx
    · exact hl⟩
theorem Rec.rows {r c i k : Nat} {t : Tn} {g : List (List Int)} (h : Rec r c g) (hi : i < r) (hk : k < r) : Rec r c (rowsL i k t g) := by
  have h1 := h.at hi
  have h2 := h.at hk
  exact (h.set (by rw [List.length_zipWith]; omega)).set (by rw [List.length_zipWith]; omega)
theorem Rec.cols {r c i k : Nat} {t : Tn} {g : List (List Int)} (h : Rec r c g) : Rec r c (colsL i k t g) :=
  ⟨by unfold colsL; rw [List.length_map, h.len], fun x hx => by
    unfold colsL at hx
    obtain ⟨y, hy, rfl⟩ := List.mem_map.1 hx
    rw [List.length_set, List.length_set]; exact h.row y hy⟩
theorem gD_setL {α : Type} {l : List α} {i j : Nat} {x d : α} (hi : i < l.length) : (l.set i x).getD j d = if j = i then x else l.getD j d := by
  rw [List.getD, List.getElem?_set]
  by_cases h : i = j
  · subst h; simp [hi]
  · rw [if_neg h, if_neg (fun e => h e.symm)]; rfl
theorem gE_rows {r c i k a b : Nat} {t : Tn} {g : List (List Int)} (h : Rec r c g) (hi : i < r) (hk : k < r) (hb : b < c) : gE (rowsL i k t g) a b = if a = k then t.q (gE g i b) (gE g k b) else if a = i then t.p (gE g i b) (gE g k b) else gE g a b := by
  have h1 := h.at hi
  have h2 := h.at hk
  have hl := h.len
  unfold gE rowsL
  rw [gD_setL (by rw [List.length_set]; omega)]
  by_cases e1 : a = k
  · rw [if_pos e1, if_pos e1, zip_getD (by omega) (by omega)]
  · rw [if_neg e1, if_neg e1, gD_setL (by omega)]
    by_cases e2 : a = i
    · rw [if_pos e2, if_pos e2, zip_getD (by omega) (by omega)]
    · rw [if_neg e2, if_neg e2]
theorem gE_cols {r c i k a b : Nat} {t : Tn} {g : List (List Int)} (h : Rec r c g) (hi : i < c) (hk : k < c) (ha : a < r) : gE (colsL i k t g) a b = if b = k then t.q (gE g a i) (gE g a k) else if b = i then t.p (gE g a i) (gE g a k) else gE g a b := by
  have h1 := h.at ha
  have hl := h.len
  have e : (colsL i k t g).getD a [] = ((g.getD a []).set i (t.p ((g.getD a []).getD i 0) ((g.getD a []).getD k 0))).set k (t.q ((g.getD a []).getD i 0) ((g.getD a []).getD k 0)) := by
    unfold colsL
    rw [List.getD, List.getElem?_map, List.getD, List.getElem?_eq_getElem (show a < g.length by omega)]
    rfl
  unfold gE
  rw [e, gD_setL (by rw [List.length_set]; omega)]
  by_cases e1 : b = k
  · rw [if_pos e1, if_pos e1]
  · rw [if_neg e1, if_neg e1, gD_setL (by omega)]

structure Sm where
  u : List (List Int)
  ui : List (List Int)
  d : List (List Int)
  v : List (List Int)
  vi : List (List Int)
  deriving DecidableEq
structure Dm (m n : Nat) (S : Sm) : Prop where
  u : Rec m m S.u
  ui : Rec m m S.ui
  d : Rec m n S.d
  v : Rec n n S.v
  vi : Rec n n S.vi
def Sm.rows (i k : Nat) (t : Tn) (S : Sm) : Sm := ⟨rowsL i k t S.u, colsL i k t.flip S.ui, rowsL i k t S.d, S.v, S.vi⟩
def Sm.cols (i k : Nat) (t : Tn) (S : Sm) : Sm := ⟨S.u, S.ui, colsL i k t S.d, colsL i k t S.v, rowsL i k t.flip S.vi⟩
theorem Dm.rows {m n i k : Nat} {t : Tn} {S : Sm} (h : Dm m n S) (hi : i < m) (hk : k < m) : Dm m n (S.rows i k t) := ⟨h.u.rows hi hk, h.ui.cols, h.d.rows hi hk, h.v, h.vi⟩
theorem Dm.cols {m n i k : Nat} {t : Tn} {S : Sm} (h : Dm m n S) (hi : i < n) (hk : k < n) : Dm m n (S.cols i k t) := ⟨h.u, h.ui, h.d.cols, h.v.cols, h.vi.rows hi hk⟩

def okG (K : Nat) (g : List (List Int)) : Bool := g.all fun r => r.all fun x => decide (x.natAbs < 256 ^ K)
theorem okG_at {K : Nat} {g : List (List Int)} (h : okG K g = true) (a b : Nat) : (gE g a b).natAbs < 256 ^ K := by
  unfold gE
  by_cases ha : a < g.length
  · by_cases hb : b < (g.getD a []).length
    · exact of_decide_eq_true (List.all_eq_true.1 (List.all_eq_true.1 h _ (mem_getD ha)) _ (mem_getD hb))
    · rw [List.getD, List.getElem?_eq_none (by omega)]; exact pos256 K
  · have : g.getD a [] = [] := by rw [List.getD, List.getElem?_eq_none (by omega)]; rfl
    rw [this]; exact pos256 K
def Sm.ok (K : Nat) (S : Sm) : Bool := okG K S.u && okG K S.ui && okG K S.d && okG K S.v && okG K S.vi
structure Ok (K : Nat) (S : Sm) : Prop where
  u : okG K S.u = true
  ui : okG K S.ui = true
  d : okG K S.d = true
  v : okG K S.v = true
  vi : okG K S.vi = true
theorem Ok.of {K : Nat} {S : Sm} (h : S.ok K = true) : Ok K S := by
  unfold Sm.ok at h
  simp only [Bool.and_eq_true] at h
  exact ⟨h.1.1.1.1, h.1.1.1.2, h.1.1.2, h.1.2, h.2⟩
theorem Ok.ok {K : Nat} {S : Sm} (h : Ok K S) : S.ok K = true := by
  unfold Sm.ok
  simp only [Bool.and_eq_true]
  exact ⟨⟨⟨⟨h.u, h.ui⟩, h.d⟩, h.v⟩, h.vi⟩
def ck (K : Nat) (S : Sm) : Option Sm := if S.ok K then some S else none
theorem ck_some {K : Nat} {S S' : Sm} (h : ck K S = some S') : S' = S ∧ Ok K S := by
  unfold ck at h
  split at h
  · rename_i h1
    cases h
    exact ⟨rfl, Ok.of h1⟩
  · cases h

def clearT (x y : Int) : Option (Tn × Bool) :=
  if y = 0 then none
  else if x ≠ 0 ∧ y % x = 0 then some (⟨1, 0, -(y / x), 1⟩, false)
  else some (⟨(gcdF x y).2.1, (gcdF x y).2.2, -(y / (gcdF x y).1), x / (gcdF x y).1⟩, true)
def clrR (K t i : Nat) (S : Sm) : Option (Sm × Bool) := match clearT (gE S.d t t) (gE S.d i t) with
  | none => some (S, false)
  | some (tn, ch) => match ck K (S.rows t i tn) with
    | some S' => some (S', ch)
    | none => none
def clrC (K t j : Nat) (S : Sm) : Option (Sm × Bool) := match clearT (gE S.d t t) (gE S.d t j) with
  | none => some (S, false)
  | some (tn, ch) => match ck K (S.cols t j tn) with
    | some S' => some (S', ch)
    | none => none
def rowP (K t : Nat) : Nat → Nat → Sm → Option Sm
  | 0, _, S => some S
  | k + 1, i, S => match clrR K t i S with
    | some r => rowP K t k (i + 1) r.1
    | none => none
def colP (K t : Nat) : Nat → Nat → Bool → Sm → Option (Sm × Bool)
  | 0, _, ch, S => some (S, ch)
  | k + 1, j, ch, S => match clrC K t j S with
    | some r => colP K t k (j + 1) (ch || r.2) r.1
    | none => none
def crossF (K t m n : Nat) : Nat → Sm → Option Sm
  | 0, _ => none
  | f + 1, S => match rowP K t (m - (t + 1)) (t + 1) S with
    | none => none
    | some S1 => match colP K t (n - (t + 1)) (t + 1) false S1 with
      | none => none
      | some r => if r.2 then crossF K t m n f r.1 else some r.1
def remZ (a b : Int) : Int := if b = 0 then 0 else a % b
def badRow (S : Sm) (t n i : Nat) : Bool := (List.range' (t + 1) (n - (t + 1))).any fun j => decide (remZ (gE S.d i j) (gE S.d t t) ≠ 0)
def spoiledF (S : Sm) (t m n : Nat) : Option Nat := (List.range' (t + 1) (m - (t + 1))).find? fun i => badRow S t n i
def stageF (K fc t m n : Nat) : Nat → Sm → Option Sm
  | 0, _ => none
  | f + 1, S => match crossF K t m n fc S with
    | none => none
    | some S1 => match spoiledF S1 t m n with
      | none => some S1
      | some i => match ck K (S1.rows t i ⟨1, 1, 0, 1⟩) with
        | none => none
        | some S2 => stageF K fc t m n f S2
def findP (S : Sm) (t m n : Nat) : Option (Nat × Nat) := (List.range' t (n - t)).findSome? fun j => ((List.range' t (m - t)).find? fun i => decide (gE S.d i j ≠ 0)).map fun i => (i, j)
def pivotF (K t m n : Nat) (S : Sm) : Option (Sm × Bool) := match findP S t m n with
  | none => some (S, false)
  | some (i, j) => match (if i = t then some S else ck K (S.rows t i ⟨0, 1, -1, 0⟩)) with
    | none => none
    | some S1 => match (if j = t then some S1 else ck K (S1.cols t j ⟨0, 1, -1, 0⟩)) with
      | none => none
      | some S2 => some (S2, true)
def negR (t : Nat) (g : List (List Int)) : List (List Int) := g.set t ((g.getD t []).map fun x => -x)
def negC (t : Nat) (g : List (List Int)) : List (List Int) := g.map fun r => r.set t (-(r.getD t 0))
def Sm.neg (t : Nat) (S : Sm) : Sm := ⟨negR t S.u, negC t S.ui, negR t S.d, S.v, S.vi⟩
def formF (K fc f m n : Nat) : Nat → Nat → Sm → Option Sm
  | 0, _, S => some S
  | k + 1, t, S => match pivotF K t m n S with
    | none => none
    | some r => if r.2 then match stageF K fc t m n f r.1 with
        | none => none
        | some S2 => formF K fc f m n k (t + 1) (if gE S2.d t t < 0 then S2.neg t else S2)
      else some r.1
def oneL (n : Nat) : List (List Int) := (List.range n).map fun i => (List.range n).map fun j => if i = j then 1 else 0
def startS (m n : Nat) (a : List (List Int)) : Sm := ⟨oneL m, oneL m, a, oneL n, oneL n⟩


def Zeros (r c : Nat) (w : World) (v : Value) (w' : World) : Prop := ∃ N E, New N w w' ∧ v = .agg #[nv r, nv c, E] ∧ OwnZ N E (r * c) (tab (r * c) fun _ => 0)

set_option maxHeartbeats 1000000 in
theorem c_Zero (r c : Nat) (hr : r ≤ 200) (hc : c ≤ 200) (w : World) : Calls Tryd.prog 32 #[.int .i64 r, .int .i64 c] w (Ret fun v w' => Kp [] w w' ∧ Zeros r c w v w') := by
  have hb := rcZ hr hc
  refine calls_of_S [] [] (by simp) [] Tryd.func32 rfl mixed (by kernel_rfl) Tryd.ntmps32 Tryd.results32 rfl ⟨by simp, by simp⟩ (by simp) ?_
  simp only [toS, textOps, toSOp, kindAt, kindOf, odAt, sopsAt, ordOf, zipF]
  (repeat' (first | refine JC.seq ?_ | refine JC.ops ?_ | refine JO.nil ?_ | refine JX.thenN ?_ | (apply r_move; (iterate 3 exact rfl)) | (apply r_allocZ; (iterate 3 exact rfl); intro _)))
  refine r_call0 trivial rfl rfl rfl (fun w _ _ => c_fits r c w) fun w v w' _ _ _ hR => ?_
  obtain ⟨b, rfl, hb⟩ := hR
  obtain rfl := hb.2 (by omega)
  (repeat' (first | refine JC.seq ?_ | refine JC.ops ?_ | refine JO.nil ?_ | refine JX.thenN ?_ | (apply r_move; (iterate 3 exact rfl)) | (apply r_mulN; (iterate 4 exact rfl); (first | assumption | omega)) | (apply r_not; (iterate 3 exact rfl)) | refine JC.skip ?_ | refine JC.condF rfl ?_))
  refine r_make rfl rfl rfl rfl rfl (by omega) (by omega) (fun b => ?_)
  (repeat' (first | refine JO.nil ?_ | refine JX.thenN ?_ | (apply r_storeN; exact rfl; (first | exact trivial | exact ⟨rfl, rfl⟩); exact rfl; exact rfl; exact at1; (iterate 3 exact rfl)) | (apply r_buildL; (iterate 5 exact rfl)) | (apply r_storeN; exact rfl; (first | exact trivial | exact ⟨rfl, rfl⟩); exact rfl; exact rfl; exact at1; (iterate 3 exact rfl)) | refine JC.ret ?_))
  have := own_zerosZ b (r * c) (by simp only [maxLen]; omega)
  exact JX.retC 1 rfl rfl rfl (fun a w st => ⟨st.kp, _, _, st.newOf rfl (HSub.at 0 rfl (HSub.nil _)), rfl, this⟩)

def oneS (n k : Nat) : List Int := tbz n n fun a b => if a = b ∧ a < k then 1 else 0
theorem oneS_zero (n : Nat) : oneS n 0 = tab (n * n) fun _ => 0 := by
  rw [← tbz_zero]
  exact tbz_congr fun i j _ _ => by simp
theorem oneS_set {n k : Nat} (hk : k < n) : (oneS n k).set (k * n + k) 1 = oneS n (k + 1) := by
  unfold oneS
  rw [tbz_set hk]
  refine tbz_congr fun a b ha hb => ?_
  by_cases h : a = k ∧ b = k
  · obtain ⟨rfl, rfl⟩ := h
    simp
  · rw [if_neg h]
    by_cases h2 : a = b ∧ a < k
    · rw [if_pos h2, if_pos ⟨h2.1, by omega⟩]
    · rw [if_neg h2, if_neg]
      rintro ⟨rfl, h3⟩
      rcases Nat.lt_or_ge a k with h4 | h4
      · exact h2 ⟨rfl, h4⟩
      · exact h ⟨by omega, by omega⟩
theorem oneS_end (n : Nat) : oneS n n = (oneZ n).e := tbz_congr fun a b ha hb => by
  unfold idI
  by_cases h : a = b
  · rw [if_pos ⟨h, ha⟩, if_pos h]
  · rw [if_neg (fun h2 => h h2.1), if_neg h]

set_option maxHeartbeats 2000000 in
theorem c_One (n : Nat) (hn : n ≤ 200) (w : World) : Calls Tryd.prog 34 #[nv n] w (Ret fun v w' => Kp [] w w' ∧ GivesM (oneZ n) w v w') := by
  have hnn := rcZ hn hn
  refine calls_of_S [⟨5, 2, [], []⟩] [] (by simp) [] Tryd.func34 rfl mixed (by kernel_rfl) Tryd.ntmps34 Tryd.results34 rfl ⟨by simp, by simp⟩ (by simp) ?_
  simp only [toS, textOps, toSOp, kindAt, kindOf, odAt, sopsAt, ordOf, zipF]
  (repeat' (first | refine JC.seq ?_ | refine JC.ops ?_ | refine JO.nil ?_ | refine JX.thenN ?_ | (apply r_move; (iterate 3 exact rfl)) | (apply r_allocZ; (iterate 3 exact rfl); intro _)))
  rename_i b2
  refine r_callA (A := [_]) (B := []) rfl trivial rfl rfl rfl (fun w _ _ => c_Zero n n hn hn w) fun w v w' _ _ _ hR => ?_
  obtain ⟨N, Eo, hN, rfl, hO⟩ := hR
  obtain ⟨Ao, co, rfl⟩ := hO.form
  refine ⟨N, hN, ?_⟩
  (repeat' (first | refine JC.seq ?_ | refine JC.ops ?_ | refine JO.nil ?_ | refine JX.thenN ?_ | (apply r_move; (iterate 3 exact rfl)) | (apply r_fieldAddr; (iterate 3 exact rfl)) | (apply r_load; (iterate 4 exact rfl); exact at0; exact rfl) | (apply r_storeN; exact rfl; (first | exact trivial | exact ⟨rfl, rfl⟩); exact rfl; exact rfl; exact at0; (iterate 3 exact rfl)) | (apply r_allocZ; (iterate 3 exact rfl); intro _) | (apply r_storeN; exact rfl; (first | exact trivial | exact ⟨rfl, rfl⟩); exact rfl; exact rfl; exact at0; (iterate 3 exact rfl)) | refine JC.block ?_))
  rename_i b3
  refine JC.loopH (ι := Nat × SHeap) ⟨fun z => [(10, nv z.1), (9, nv n), (0, nv n), (3, .pointer (some ⟨b3, 0, none⟩)), (2, .pointer (some ⟨b2, 0, none⟩))],
    fun z => [(b3, .cells #[nv n, nv n, .slice Ao (n * n) co] 28), (b2, .cells #[iv 0, iv 0, .slice none 0 0] 28)] ++ (z.2 ++ []),
    fun z => z.1 ≤ n ∧ OwnZ z.2 (.slice Ao (n * n) co) (n * n) (oneS n z.1), fun z => n - z.1⟩ (0, N) ⟨by omega, by rw [oneS_zero]; exact hO⟩ (by repeat first | exact trivial | refine ⟨rfl, ?_⟩) (by (first | exact HSub.refl _ | (repeat' first | exact HSub.nil _ | exact HSub.refl _ | refine HSub.at 0 rfl ?_ | refine HSub.at 1 rfl ?_ | refine HSub.at 2 rfl ?_ | refine HSub.at 3 rfl ?_ | refine HSub.at 4 rfl ?_ | refine HSub.at 5 rfl ?_ | refine HSub.at 6 rfl ?_ | refine HSub.at 7 rfl ?_))) (fun k hk => ?_)
  obtain ⟨k, N⟩ := k
  obtain ⟨hkn, hO⟩ := hk
  dsimp only at hkn hO ⊢
  have hkk : k * n ≤ 40000 := Nat.mul_le_mul (show k ≤ 200 by omega) hn
  by_cases hlt : k < n
  · have hi := zx_lt hlt hlt
    (repeat' (first | refine JC.seq ?_ | refine JC.ops ?_ | refine JC.opsD ?_ | refine JO.nil ?_ | refine JX.thenN ?_ | (apply r_move; (iterate 3 exact rfl)) | (apply r_fieldAddr; (iterate 3 exact rfl)) | (apply r_assign; (iterate 3 exact rfl)) | (apply r_load; (iterate 4 exact rfl); exact at0; exact rfl) | (apply r_addN; (iterate 4 exact rfl); omega) | (apply r_mulN; (iterate 4 exact rfl); (first | assumption | omega)) | (apply r_lss; (iterate 4 exact rfl); all_goals intro hc; all_goals try (exfalso; omega)) | refine JC.skip ?_ | refine JC.condT rfl ?_ | refine JC.block ?_))
    refine r_call0 (by first | trivial | exact ⟨rfl, rfl⟩) rfl rfl rfl (fun w _ _ => c_From w 1 (by omega) (by omega)) fun w v w' _ _ _ hR => ?_
    subst hR
    (repeat' (first | (apply r_idxZ; (iterate 4 exact rfl); (first | assumption | exact WZ.rd (by assumption) rfl [] | exact OwnZ.rd (by assumption)); (first | assumption | omega))))
    refine r_stZ (A := [_, _]) hO rfl rfl ⟨rfl, rfl⟩ rfl rfl hi (fun N' hO' => ?_)
    rw [oneS_set hlt] at hO'
    (repeat' (first | refine JC.ops ?_ | refine JO.nil ?_ | refine JX.thenN ?_ | (apply r_move; (iterate 3 exact rfl)) | (apply r_add1; (iterate 4 exact rfl); omega) | refine JX.blockN ?_))
    exact JX.roundH (k + 1, N') ⟨by dsimp only; omega, hO'⟩ (by dsimp only; omega) (by repeat first | exact trivial | refine ⟨rfl, ?_⟩) (by (first | exact HSub.refl _ | (repeat' first | exact HSub.nil _ | exact HSub.refl _ | refine HSub.at 0 rfl ?_ | refine HSub.at 1 rfl ?_ | refine HSub.at 2 rfl ?_ | refine HSub.at 3 rfl ?_ | refine HSub.at 4 rfl ?_ | refine HSub.at 5 rfl ?_ | refine HSub.at 6 rfl ?_ | refine HSub.at 7 rfl ?_)))
  · (repeat' (first | refine JC.seq ?_ | refine JC.ops ?_ | refine JO.nil ?_ | refine JX.thenN ?_ | (apply r_loadN; (iterate 4 exact rfl); (first | exact at0 | exact at1); exact rfl) | (apply r_storeN; exact rfl; (first | exact trivial | exact ⟨rfl, rfl⟩); exact rfl; exact rfl; (first | exact at0 | exact at1); (iterate 3 exact rfl)) | (apply r_lss; (iterate 4 exact rfl); all_goals intro hc; all_goals try (exfalso; omega)) | (apply r_storeN; exact rfl; (first | exact trivial | exact ⟨rfl, rfl⟩); exact rfl; exact rfl; (first | exact at0 | exact at1); (iterate 3 exact rfl)) | refine JX.thenE ?_ | refine JC.exit ?_ | refine JC.ret ?_ | refine JC.condF rfl ?_ | refine JX.blockE ?_))
    obtain rfl : k = n := by omega
    rw [oneS_end] at hO
    exact JX.retC 1 rfl rfl rfl (fun a w' st => ⟨st.kp, N, st.newOf rfl (by (repeat' first | exact HSub.nil _ | exact HSub.hd | exact HSub.in0 | exact HSub.refl _ | refine HSub.skip ?_ | refine HSub.skipN ?_)), OwnM.mk' hO⟩)

theorem Wz0 : Wv 0 = wv false [] := congrArg xv wz_zero
def atZ (m : ZM) (i j : Int) : Int := if 0 ≤ i ∧ i < m.r ∧ 0 ≤ j ∧ j < m.c then m.at i.toNat j.toNat else 0

set_option maxHeartbeats 2000000 in
theorem c_At (w : World) (v : Value) (m : ZM) (i j : Int) (hm : RtZ m) (hv : IsM w v m) : Calls Tryd.prog 20 #[v, iv i, iv j] w (Ret fun v w' => Kp [] w w' ∧ v = Wv (atZ m i j)) := by
  have hvX := hv.x
  obtain ⟨E, rfl, hE⟩ := hv
  have hl := hm.len
  have hle := hm.le
  by_cases h : 0 ≤ i ∧ i < m.r ∧ 0 ≤ j ∧ j < m.c
  · obtain ⟨i, rfl⟩ := Int.eq_ofNat_of_zero_le h.1
    obtain ⟨j, rfl⟩ := Int.eq_ofNat_of_zero_le h.2.2.1
    have hi : i < m.r := by omega
    have hj : j < m.c := by omega
    have hlt := zx_lt hi hj
    have e : atZ m i j = m.e.getD (i * m.c + j) 0 := if_pos h
    rw [e]
    refine calls_of_S [] [] (by simp) [] Tryd.func20 rfl mixed (by kernel_rfl) Tryd.ntmps20 Tryd.results20 rfl ⟨by simp, by simp⟩ (by simp) ?_
    simp only [toS, textOps, toSOp, kindAt, kindOf, odAt, sopsAt, ordOf, zipF]
    (repeat' (first | refine JC.seq ?_ | refine JC.ops ?_ | refine JO.nil ?_ | refine JX.thenN ?_ | (apply r_loadN; (iterate 4 exact rfl); exact at1; exact rfl) | (apply r_allocZ; (iterate 3 exact rfl); intro _) | (apply r_boxA; (iterate 4 exact rfl); intro _)))
    refine r_call0 trivial rfl rfl rfl (fun w hk _ => c_Right w _ m.xm (hvX.mono hk) (by simp [ZM.xm]; omega)) fun w v w' _ _ _ hR => ?_
    obtain ⟨b, rfl, hb⟩ := hR
    obtain rfl := hb.2 hm.rx
    have hic : i * m.c ≤ 40000 := by omega
    (repeat' (first | refine JC.seq ?_ | refine JC.ops ?_ | refine JO.nil ?_ | refine JX.thenN ?_ | (apply r_move; (iterate 3 exact rfl)) | (apply r_fieldAddr; (iterate 3 exact rfl)) | (apply r_load; (iterate 4 exact rfl); (first | exact at0 | exact at1); exact rfl) | (apply r_idxZ; (iterate 4 exact rfl); (first | assumption | exact WZ.rd (by assumption) rfl [] | exact OwnZ.rd (by assumption)); (first | assumption | omega)) | (apply r_ldZ; (iterate 4 exact rfl); (first | assumption | exact WZ.rd (by assumption) rfl [] | exact OwnZ.rd (by assumption)); (repeat' first | exact HSub.nil _ | exact HSub.hd | exact HSub.in0 | exact HSub.refl _ | refine HSub.skip ?_ | refine HSub.skipN ?_); (first | assumption | omega)) | (apply r_addN; (iterate 4 exact rfl); omega) | (apply r_mulN; (iterate 4 exact rfl); (first | assumption | omega)) | (apply r_min; (iterate 4 exact rfl)) | (apply r_pickF; (iterate 4 exact rfl)) | (apply r_not; (iterate 3 exact rfl)) | (apply r_storeN; exact rfl; (first | exact trivial | exact ⟨rfl, rfl⟩); exact rfl; exact rfl; (first | exact at0 | exact at1); (iterate 3 exact rfl)) | (apply r_lss; (iterate 4 exact rfl); all_goals intro hc; all_goals try (exfalso; omega)) | (apply r_geq; (iterate 4 exact rfl); all_goals intro hc; all_goals try (exfalso; omega)) | (apply r_storeN; exact rfl; (first | exact trivial | exact ⟨rfl, rfl⟩); exact rfl; exact rfl; (first | exact at0 | exact at1); (iterate 3 exact rfl)) | refine JC.skip ?_ | refine JC.ret ?_ | refine JC.condF rfl ?_))
    exact JX.retC 0 rfl rfl rfl (fun a w st => ⟨st.kp, rfl⟩)
  · have e : atZ m i j = 0 := if_neg h
    rw [e]
    refine calls_of_S [] [] (by simp) [] Tryd.func20 rfl mixed (by kernel_rfl) Tryd.ntmps20 Tryd.results20 rfl ⟨by simp, by simp⟩ (by simp) ?_
    simp only [toS, textOps, toSOp, kindAt, kindOf, odAt, sopsAt, ordOf, zipF]
    (repeat' (first | refine JC.seq ?_ | refine JC.ops ?_ | refine JO.nil ?_ | refine JX.thenN ?_ | (apply r_loadN; (iterate 4 exact rfl); exact at1; exact rfl) | (apply r_allocZ; (iterate 3 exact rfl); intro _) | (apply r_boxA; (iterate 4 exact rfl); intro _)))
    refine r_call0 trivial rfl rfl rfl (fun w hk _ => c_Right w _ m.xm (hvX.mono hk) (by simp [ZM.xm]; omega)) fun w v w' _ _ _ hR => ?_
    obtain ⟨b, rfl, hb⟩ := hR
    obtain rfl := hb.2 hm.rx
    (repeat' (first | refine JC.seq ?_ | refine JC.ops ?_ | refine JO.nil ?_ | refine JX.thenN ?_ | (apply r_move; (iterate 3 exact rfl)) | (apply r_fieldAddr; (iterate 3 exact rfl)) | (apply r_load; (iterate 4 exact rfl); (first | exact at0 | exact at1); exact rfl) | (apply r_min; (iterate 4 exact rfl)) | (apply r_pickT; (iterate 4 exact rfl)) | (apply r_pickF; (iterate 4 exact rfl)) | (apply r_not; (iterate 3 exact rfl)) | (apply r_storeN; exact rfl; (first | exact trivial | exact ⟨rfl, rfl⟩); exact rfl; exact rfl; (first | exact at0 | exact at1); (iterate 3 exact rfl)) | (apply r_lss; (iterate 4 exact rfl); all_goals intro hc; all_goals try (exfalso; omega)) | (apply r_geq; (iterate 4 exact rfl); all_goals intro hc; all_goals try (exfalso; omega)) | (apply r_buildL; (iterate 5 exact rfl)) | (apply r_storeN; exact rfl; (first | exact trivial | exact ⟨rfl, rfl⟩); exact rfl; exact rfl; (first | exact at0 | exact at1); (iterate 3 exact rfl)) | refine JX.thenR ?_ | refine JC.ret ?_ | refine JC.condT rfl ?_ | (apply r_skip; exact rfl; exact rfl; (first | (intro h; cases h; done) | (intro _; rfl)))))
    all_goals first
      | (exfalso; split at * <;> omega)
      | exact JX.retC 0 rfl rfl rfl (fun a w st => ⟨st.kp, by rw [Wz0]; rfl⟩)

set_option maxHeartbeats 1000000 in
theorem c_sEqual (w : World) (v u : Value) (n k : Nat) (xs ys : List WR) (hv : WX w v n xs) (hu : WX w u k ys) (hn : n < 1000000000) (hk : k < 1000000000) : Calls Tryd.prog 73 #[v, u] w (Ret fun v w' => Kp [] w w' ∧ IsB (xs = ys) v) := by
  have hl := hv.len
  have hl' := hu.len
  refine calls_of_S [⟨6, 1, [], []⟩] [] (by simp) [] Tryd.func73 rfl mixed (by kernel_rfl) Tryd.ntmps73 Tryd.results73 rfl ⟨by simp, by simp⟩ (by simp) ?_
  simp only [toS, textOps, toSOp, kindAt, kindOf, odAt, sopsAt, ordOf, zipF]
  have hR := WX.rd (c := ⟨Tryd.prog, 26, w, [], by simp⟩) hv rfl []
  have hR' := WX.rd (c := ⟨Tryd.prog, 26, w, [], by simp⟩) hu rfl []
  (repeat' (first | refine JC.seq ?_ | refine JC.ops ?_ | refine JO.nil ?_ | refine JX.thenN ?_ | (apply r_move; (iterate 3 exact rfl)) | (apply r_assign; (iterate 3 exact rfl)) | (apply r_lenX; (iterate 3 exact rfl); (first | assumption | exact WX.rd (by assumption) rfl [] | exact OwnX.rd (by assumption))) | (apply r_neq; (iterate 4 exact rfl); all_goals intro hc; all_goals try (exfalso; omega)) | refine JX.thenR ?_ | refine JC.skip ?_ | refine JC.ret ?_ | refine JC.condT rfl ?_ | refine JC.condF rfl ?_ | refine JC.block ?_))
  · exact JX.ret1 rfl (fun a w' st => ⟨st.kp, IsB.f (fun h => hc (by rw [← hl, ← hl', h]))⟩)
  · have hnk : n = k := by omega
    subst hnk
    refine JC.loopH (ι := Nat) ⟨fun i => [(13, nv i), (12, nv n), (0, v), (1, u)], fun _ => [], fun i => i ≤ n ∧ ∀ j, j < i → xs.getD j w0x = ys.getD j w0x, fun i => n - i⟩ 0 ⟨by omega, fun j h => by omega⟩ (by repeat first | exact trivial | refine ⟨rfl, ?_⟩) (HSub.nil _) (fun i hi => ?_)
    obtain ⟨hin, hpr⟩ := hi
    dsimp only
    by_cases hlt : i < n
    · (repeat' (first | refine JC.seq ?_ | refine JC.ops ?_ | refine JC.opsD ?_ | refine JO.nil ?_ | refine JX.thenN ?_ | (apply r_move; (iterate 3 exact rfl)) | (apply r_assign; (iterate 3 exact rfl)) | (apply r_idxX; (iterate 4 exact rfl); (first | assumption | exact WX.rd (by assumption) rfl [] | exact OwnX.rd (by assumption)); (first | assumption | omega)) | (apply r_ldX; (iterate 4 exact rfl); (first | assumption | exact WX.rd (by assumption) rfl [] | exact OwnX.rd (by assumption)); (repeat' first | exact HSub.nil _ | exact HSub.hd | exact HSub.in0 | exact HSub.refl _ | refine HSub.skip ?_ | refine HSub.skipN ?_); (first | assumption | omega)) | (apply r_lss; (iterate 4 exact rfl); all_goals intro hc; all_goals try (exfalso; omega)) | refine JC.skip ?_ | refine JC.condT rfl ?_ | refine JC.block ?_))
      refine r_neW rfl rfl rfl rfl ?_
      by_cases he : xs.getD i w0x = ys.getD i w0x
      · rw [he]
        simp only [BEq.rfl, decide_true, Bool.and_self, Bool.not_true]
        (repeat' (first | refine JC.ops ?_ | refine JO.nil ?_ | refine JX.thenN ?_ | (apply r_move; (iterate 3 exact rfl)) | (apply r_add1; (iterate 4 exact rfl); omega) | refine JC.skip ?_ | refine JC.condF rfl ?_ | refine JX.blockN ?_))
        refine JX.roundH (i + 1) ⟨by omega, fun j h => ?_⟩ (by dsimp only; omega) (by repeat first | exact trivial | refine ⟨rfl, ?_⟩) (HSub.nil _)
        rcases Nat.lt_or_ge j i with h' | h'
        · exact hpr j h'
        · have : j = i := by omega
          subst this; exact he
      · have hb : (!((xs.getD i w0x).1 == (ys.getD i w0x).1 && decide ((xs.getD i w0x).2 = (ys.getD i w0x).2))) = true := by
          simp only [Bool.not_eq_true', Bool.and_eq_false_iff]
          by_cases h1 : (xs.getD i w0x).1 = (ys.getD i w0x).1
          · refine .inr ?_
            simp only [decide_eq_false_iff_not]
            exact fun h2 => he (Prod.ext h1 h2)
          · exact .inl (by simpa using h1)
        rw [hb]
        (repeat' (first | refine JC.seq ?_ | refine JC.ops ?_ | refine JO.nil ?_ | refine JX.thenN ?_ | (apply r_assign; (iterate 3 exact rfl)) | refine JX.thenR ?_ | refine JC.ret ?_ | refine JC.condT rfl ?_ | refine JX.blockR ?_))
        exact JX.ret1 rfl (fun a w' st => ⟨st.kp, IsB.f (fun h => he (by rw [h]))⟩)
    · (repeat' (first | refine JC.seq ?_ | refine JC.ops ?_ | refine JO.nil ?_ | refine JX.thenN ?_ | (apply r_assign; (iterate 3 exact rfl)) | (apply r_lss; (iterate 4 exact rfl); all_goals intro hc; all_goals try (exfalso; omega)) | refine JX.thenE ?_ | refine JC.exit ?_ | refine JC.ret ?_ | refine JC.condF rfl ?_ | refine JX.blockE ?_))
      refine JX.ret1 rfl (fun a w' st => ⟨st.kp, IsB.t (ext_getD (d := w0x) (by omega) (fun j hj => hpr j (by omega)))⟩)

theorem XM.ext' {a b : XM} (h2 : a.R = b.R) (h3 : a.C = b.C) (h4 : a.E = b.E) : a = b := by
  cases a; cases b; simp_all
theorem xm_inj {m n : ZM} (h : m.xm = n.xm) : m = n := by
  obtain ⟨r, c, e⟩ := m
  obtain ⟨r', c', e'⟩ := n
  simp only [ZM.xm, XM.mk.injEq] at h
  obtain ⟨h1, h2, h3⟩ := h
  have h1 : r = r' := by omega
  have h2 : c = c' := by omega
  subst h1 h2
  rw [map_wz_inj h3]

set_option maxHeartbeats 1000000 in
theorem c_EqualX (w : World) (v u : Value) (a b : XM) (ha : IsX w v a) (hb : IsX w u b) (hl : a.E.length < 1000000000) (hl' : b.E.length < 1000000000) : Calls Tryd.prog 44 #[v, u] w (Ret fun v w' => Kp [] w w' ∧ IsB (RX a ∧ a = b) v) := by
  obtain ⟨E, rfl, hE⟩ := ha
  obtain ⟨E', rfl, hE'⟩ := hb
  refine calls_of_S [] [] (by simp) [] Tryd.func44 rfl mixed (by kernel_rfl) Tryd.ntmps44 Tryd.results44 rfl ⟨by simp, by simp⟩ (by simp) ?_
  simp only [toS, textOps, toSOp, kindAt, kindOf, odAt, sopsAt, ordOf, zipF]
  (repeat' (first | refine JC.seq ?_ | refine JC.ops ?_ | refine JO.nil ?_ | refine JX.thenN ?_ | (apply r_assign; (iterate 3 exact rfl)) | (apply r_loadN; (iterate 4 exact rfl); (first | exact at0 | exact at1); exact rfl) | (apply r_boxA; (iterate 4 exact rfl); intro _)))
  refine r_call0 trivial rfl rfl rfl (fun w hk _ => c_alike w _ _ a b ⟨E, rfl, hE.mono hk⟩ ⟨E', rfl, hE'.mono hk⟩ (by omega) (by omega)) fun w v w' _ _ _ hR => ?_
  obtain ⟨b', rfl, hb⟩ := hR
  cases b'
  · (repeat' (first | refine JO.nil ?_ | refine JX.thenN ?_ | (apply r_move; (iterate 3 exact rfl)) | (apply r_assign; (iterate 3 exact rfl)) | (apply r_pickF; (iterate 4 exact rfl)) | refine JC.ret ?_ | (apply r_skip; exact rfl; exact rfl; (first | (intro h; cases h; done) | (intro _; rfl)))))
    exact JX.ret1 rfl (fun a w' st => ⟨st.kp, IsB.f (fun h => by cases hb.2 ⟨h.1, h.2 ▸ h.1, by rw [h.2], by rw [h.2]⟩)⟩)
  · have h1 := hb.1 rfl
    (repeat' (first | (apply r_move; (iterate 3 exact rfl)) | (apply r_fieldAddr; (iterate 3 exact rfl)) | (apply r_load; (iterate 4 exact rfl); (first | exact at0 | exact at1); exact rfl)))
    refine r_call0 trivial rfl rfl rfl (fun w hk _ => c_sEqual w _ _ _ _ _ _ (hE.mono hk) (hE'.mono hk) hl hl') fun w v w' _ _ _ hR => ?_
    obtain ⟨b', rfl, hb⟩ := hR
    (repeat' (first | refine JO.nil ?_ | refine JX.thenN ?_ | (apply r_assign; (iterate 3 exact rfl)) | (apply r_pickT; (iterate 4 exact rfl)) | refine JC.ret ?_))
    refine JX.ret1 rfl (fun a w' st => ⟨st.kp, b', rfl, hb.trans ⟨fun h => ⟨h1.1, ?_⟩, fun h => by rw [h.2]⟩⟩)
    exact XM.ext' h1.2.2.1 h1.2.2.2 h

theorem calls_mono {P : Program} {f : FuncId} {args : Array Value} {w : World} {R R' : Value → World → Prop} (h : Calls P f args w (Ret R)) (hr : ∀ v w', R v w' → R' v w') : Calls P f args w (Ret R') :=
  Calls.mono h fun e w' he => by
    cases e <;> first | exact hr _ _ he | exact he

theorem c_Equal (w : World) (v u : Value) (m n : ZM) (hm : RtZ m) (hn : RtZ n) (hv : IsM w v m) (hu : IsM w u n) : Calls Tryd.prog 44 #[v, u] w (Ret fun v w' => Kp [] w w' ∧ IsB (m = n) v) := by
  refine calls_mono (c_EqualX w v u m.xm n.xm hv.x hu.x (by have := hm.le; simp [ZM.xm]; omega) (by have := hn.le; simp [ZM.xm]; omega)) fun v w' h => ⟨h.1, ?_⟩
  obtain ⟨b, rfl, hb⟩ := h.2
  exact ⟨b, rfl, hb.trans ⟨fun h => xm_inj h.2, fun h => ⟨hm.rx, by rw [h]⟩⟩⟩

def BdL (K : Nat) (xs : List Int) : Prop := ∀ i, (xs.getD i 0).natAbs < 256 ^ K

end Go.Proofs.YtemdknkghacheaaDoor

namespace Go.Proofs.YtemdknkghacheaaDoor
open Go Go.RowKit Go.Shelf
set_option linter.unusedSimpArgs false
set_option linter.unusedVariables false
set_option linter.unusedSectionVars false

attribute [local go_sem] Oper.semAt_some

def rowV (A : Option Addr) (cap c i : Nat) : Value := .slice (if cap = i * c then A else A.map (·.add (i * c * 2))) ((i + 1) * c - i * c) (cap - i * c)

set_option maxRecDepth 100000 in
set_option maxHeartbeats 4000000 in
theorem rows1_in (n : Nat) (hn : 1 ≤ n) (l bx r c k cap : Nat) (A : Option Addr) (hr : r ≤ 200) (hc : c ≤ 200) (hl : r * c ≤ k) (hk : k ≤ cap) (J Jx : List {i : Nat // i < r} → World → Prop)
    (hY : ∀ pre (x : {i : Nat // i < r}) W, J pre W → pre.length < r → YieldAt Fence.wide (n - 1) Tryd.prog l #[nv x.1, rowV A cap c x.1] W fun e W' =>
      (e = .returned (.bool true) ∧ J (pre ++ [x]) W' ∧ KB [bx] W W') ∨ (e = .returned (.bool false) ∧ Jx (pre ++ [x]) W'))
    (W : World) (hB : W.heap[bx]? = some (.cells #[nv r, nv c, .slice A k cap] 28)) (h0 : J [] W) :
    CallsIn Fence.wide n Tryd.prog 86 #[.func (.yield l) #[] #[], .pointer (some ⟨bx, 0, none⟩)] W fun e W' => (∃ v, e = .returned v) ∧
      ((∃ ys : List {i : Nat // i < r}, ys.map (·.1) = List.range r ∧ J ys W') ∨ (∃ pre, True ∧ Jx pre W')) := by
  have hb0 : W.cell? ⟨bx, 0, none⟩ = some (nv r) := cell_of_blk hB rfl
  have hb1 : W.cell? ⟨bx, 1, none⟩ = some (nv c) := cell_of_blk hB rfl
  have hb2 : W.cell? ⟨bx, 2, none⟩ = some (.slice A k cap) := cell_of_blk hB rfl
  refine callsIn_of_wp Tryd.func86 rfl trivial ?_ rfl
  simp only [Tryd.ntmps86, List.size_toArray, List.length_cons, List.length_nil, Nat.reduceAdd, Nat.reduceSub, Array.replicate_succ, Array.replicate_zero, List.push_toArray, List.append_toArray, List.nil_append, List.cons_append]
  gi_wp2
  gi_loopw [6] (fun i wr => ∃ q : Nat, q ≤ r ∧ i = .int .i64 (q : Int) ∧ (∃ ys : List {i : Nat // i < r}, ys.map (·.1) = List.range q ∧ J ys wr) ∧ KB [bx] W wr)
    (fun i _ => (r - intOf i).toNat)
  case atStart => exact ⟨0, Nat.zero_le _, by simp, ⟨[], rfl, h0⟩, KB.refl _ _⟩
  case round =>
    obtain ⟨q, hq, rfl, ⟨ys, hys, hJs⟩, hnx⟩ := hrel
    have hw0 : wr.cell? ⟨bx, 0, none⟩ = some (nv r) := (hnx.cell (p := ⟨bx, 0, none⟩) (by simp)).trans hb0
    have hw1 : wr.cell? ⟨bx, 1, none⟩ = some (nv c) := (hnx.cell (p := ⟨bx, 1, none⟩) (by simp)).trans hb1
    have hw2 : wr.cell? ⟨bx, 2, none⟩ = some (.slice A k cap) := (hnx.cell (p := ⟨bx, 2, none⟩) (by simp)).trans hb2
    by_cases hlt : q < r
    · obtain ⟨fn, tmps, assign, body, hy, hR⟩ := hY ys ⟨q, hlt⟩ wr hJs (by have := congrArg List.length hys; rw [List.length_map, List.length_range] at this; omega)
      dsimp only at hy
      have hqc : q * c ≤ 40000 := Nat.mul_le_mul (show q ≤ 200 by omega) hc
      have hqc1 : (q + 1) * c ≤ r * c := zx_row hlt
      have hqc2 : (q + 1) * c ≤ 40000 := Nat.le_trans hqc1 (rcZ hr hc)
      have e : ((q : Int) + 1) * (c : Int) = (((q + 1) * c : Nat) : Int) := by simp
      have hI0 : 0 ≤ ((q : Int) + 1) * (c : Int) := by rw [e]; exact Int.natCast_nonneg _
      have hI1 : ((q : Int) + 1) * (c : Int) ≤ (cap : Int) := by rw [e]; omega
      have hI3 : ((q : Int) + 1) * (c : Int) ≤ 40000 := by rw [e]; omega
      have hI2 : (q : Int) * (c : Int) ≤ ((q : Int) + 1) * (c : Int) := by rw [Int.add_mul]; omega
      have e2 : (q + 1) * c = (((q : Int) + 1) * (c : Int)).toNat := by rw [e]; rfl
      by_cases hcc : cap = q * c
      · subst hcc
        simp only [rowV, if_true, Nat.sub_self] at hy
        clear e e2
        gi_wp2
        refine hR.mono ?_
        rintro e W3 (⟨rfl, hJ3, hk3⟩ | ⟨rfl, hJx3⟩)
        · gi_wp2
          go_roundw
          case rel => exact ⟨q + 1, by omega, by simp, ⟨_, by rw [List.map_append, hys, List.range_succ]; rfl, hJ3⟩, hnx.trans hk3⟩
          case measure => first | (simp [intOf]; done) | (simp [intOf]; omega)
        · gi_wp2
          refine bodyPost_ret (results_none rfl _ _ _) rfl ?_
          exact ⟨⟨_, rfl⟩, .inr ⟨_, trivial, hJx3⟩⟩
      · simp only [rowV, if_neg hcc] at hy; clear e e2
        gi_wp2
        refine hR.mono ?_
        rintro e W3 (⟨rfl, hJ3, hk3⟩ | ⟨rfl, hJx3⟩)
        · gi_wp2
          go_roundw
          case rel => exact ⟨q + 1, by omega, by simp, ⟨_, by rw [List.map_append, hys, List.range_succ]; rfl, hJ3⟩, hnx.trans hk3⟩
          case measure => first | (simp [intOf]; done) | (simp [intOf]; omega)
        · gi_wp2
          refine bodyPost_ret (results_none rfl _ _ _) rfl ?_
          exact ⟨⟨_, rfl⟩, .inr ⟨_, trivial, hJx3⟩⟩
    · obtain rfl : q = r := by omega
      gi_wp2
      go_end0
      exact ⟨⟨_, rfl⟩, .inl ⟨ys, hys, hJs⟩⟩

theorem rows_iter {r c k cap bx : Nat} {A : Option Addr} (hr : r ≤ 200) (hc : c ≤ 200) (hl : r * c ≤ k) (hk : k ≤ cap) :
    IterOf Tryd.prog 86 #[.pointer (some ⟨bx, 0, none⟩)] (fun i => nv i) (rowV A cap c) r bx (.cells #[nv r, nv c, .slice A k cap] 28) := fun n w hn hb l J Jx W hW _ _ hY h0 =>
  rows1_in n hn l bx r c k cap A hr hc hl hk J Jx hY W ((hW.block bx (Array.getElem?_eq_some_iff.1 hb).1).trans hb) h0

end Go.Proofs.YtemdknkghacheaaDoor

namespace Go.Proofs.YtemdknkghacheaaDoor
open Go Go.RowKit
set_option linter.unusedSimpArgs false
set_option linter.unusedVariables false
set_option linter.unusedSectionVars false

theorem c_rows (w : World) (r c k cap : Nat) (A : Option Addr) : Calls Tryd.prog 71 #[.agg #[nv r, nv c, .slice A k cap]] w (Ret fun v w' => Kp [] w w' ∧ ∃ bx, v = .func (.func 86) #[] #[.pointer (some ⟨bx, 0, none⟩)] ∧ New [(bx, .cells #[nv r, nv c, .slice A k cap] 28 (0, 0))] w w') := by
  refine calls_of_S [] [] (by simp) [] Tryd.func71 rfl mixed (by kernel_rfl) Tryd.ntmps71 Tryd.results71 rfl ⟨by simp, by simp⟩ (by simp) ?_
  simp only [toS, textOps, toSOp, kindAt, kindOf, odAt, sopsAt, ordOf, zipF]
  (repeat' (first | refine JC.seq ?_ | refine JC.ops ?_ | refine JO.nil ?_ | refine JX.thenN ?_ | (apply r_assign; (iterate 3 exact rfl)) | (apply r_boxA; (iterate 4 exact rfl); intro _) | (apply r_makeFunc; (iterate 4 exact rfl)) | refine JC.ret ?_))
  exact JX.ret1 rfl (fun a w' st => ⟨st.kp, _, rfl, st.newOf rfl HSub.hd⟩)

theorem wz_block {w : World} {v : Value} {n : Nat} {zs : List Int} (h : WZ w v n zs) (hn : 0 < n) : (vAt v 0).block < w.heap.size := by
  have hl : (xcs (zs.map wz)).length = n * 2 := h.1
  obtain ⟨_, A, cap, rfl, _, hA⟩ := h
  obtain ⟨_, h2⟩ := hA hn
  have h3 := h2 0 _ (List.getElem?_eq_getElem (by omega))
  exact lt_of_cell h3
theorem rd_body {wb : World} {c2 : Cx} {v : Value} {n : Nat} {zs : List Int} (hv : WZ wb v n zs) (hk : Kp [] wb c2.w0) (hge : ∀ k ∈ c2.M, wb.heap.size ≤ k) (N : SHeap) : RdZ c2 N v n zs :=
  WZ.rdM (hv.mono hk) (fun hn hm => by have := wz_block hv hn; have := hge _ hm; omega) N
theorem keys_ge {H : SHeap} {n : Nat} (h : ∀ p ∈ H, n ≤ p.1) : ∀ k ∈ keys H, n ≤ k := fun k hk => by
  obtain ⟨p, hp, rfl⟩ := List.mem_map.1 hk
  exact h p hp

def rowI (m : ZM) (i : Nat) : List Int := (m.e.drop (i * m.c)).take m.c
theorem rowI_get {m : ZM} {i j : Nat} (hj : j < m.c) : (rowI m i).getD j 0 = m.at i j := row_enz hj
theorem rowI_len {m : ZM} {i : Nat} (hm : RtZ m) (hi : i < m.r) : (rowI m i).length = m.c := by
  unfold rowI
  rw [List.length_take, List.length_drop, hm.len]
  have := zx_row (c := m.c) hi
  rw [Nat.add_mul] at this; omega
theorem rowI_tab {m : ZM} {i : Nat} (hm : RtZ m) (hi : i < m.r) : rowI m i = tab m.c (m.at i) := by
  refine tab_ext (rowI_len hm hi) (fun j hj => ?_)
  rw [gD_lt (d := 0) (by rw [rowI_len hm hi]; exact hj), rowI_get hj]

theorem wz_cap {w : World} {A : Option Addr} {n cap : Nat} {zs : List Int} (h : WZ w (.slice A n cap) n zs) : n ≤ cap := by
  obtain ⟨_, A', cap', he, h, _⟩ := h
  cases he
  exact h
theorem row_wz {w : World} {m : ZM} {A : Option Addr} {cap i : Nat} (hm : RtZ m) (h : WZ w (.slice A (m.r * m.c) cap) (m.r * m.c) m.e) (hi : i < m.r) : WZ w (rowV A cap m.c i) m.c (rowI m i) := by
  have hrow := zx_row (c := m.c) hi
  have e1 : (i + 1) * m.c - i * m.c = m.c := by rw [Nat.add_mul]; omega
  have e2 : (i + 1) * m.c = i * m.c + m.c := by rw [Nat.add_mul]; omega
  have hlen := rowI_len hm hi
  obtain ⟨hl, A', cap', he, hcap, hA⟩ := h
  simp only [Value.slice.injEq] at he
  obtain ⟨rfl, _, rfl⟩ := he
  refine ⟨by rw [xcs_len, List.length_map, hlen], _, _, by unfold rowV; rw [e1], by omega, fun hc => ?_⟩
  obtain ⟨⟨b, o, rfl⟩, h2⟩ := hA (by omega)
  have hne : cap ≠ i * m.c := by omega
  rw [if_neg hne]
  refine ⟨⟨b, o + i * m.c * 2, by simp [add_none]⟩, fun j u hu => ?_⟩
  have hx : xcs ((rowI m i).map wz) = ((xcs (m.e.map wz)).drop (i * m.c * 2)).take (m.c * 2) := by
    unfold rowI
    rw [List.map_take, List.map_drop, ← xcs_take, ← xcs_drop]
  rw [hx, List.getElem?_take] at hu
  split at hu
  · rw [List.getElem?_drop] at hu
    have := h2 _ u hu
    unfold rowV
    rw [if_neg hne]
    simpa [Nat.add_assoc, add_none, vAt] using this
  · cases hu

set_option maxHeartbeats 2000000 in
theorem c_CloneZ (w : World) (v : Value) (n : Nat) (xs : List Int) (hv : WZ w v n xs) (hn : n ≤ 1000000) :
    Calls Tryd.prog 64 #[v] w (Ret fun u w' => Kp [] w w' ∧ ∃ N, New N w w' ∧ OwnZ N u n xs) := by
  obtain ⟨A, cap, rfl⟩ := hv.form
  cases A with
  | none =>
    have h0 : n = 0 ∧ xs = [] := by
      have h1 := hv.len
      rcases Nat.eq_zero_or_pos n with h | h
      · subst h; exact ⟨rfl, List.eq_nil_of_length_eq_zero h1⟩
      · obtain ⟨_, A, cap', he, _, hA⟩ := hv
        cases he
        obtain ⟨⟨_, _, h2⟩, _⟩ := hA (by omega)
        cases h2
    obtain ⟨rfl, rfl⟩ := h0
    refine calls_of_S [] [] (by simp) [] Tryd.func64 rfl mixed (by kernel_rfl) Tryd.ntmps64 Tryd.results64 rfl ⟨by simp, by simp⟩ (by simp) ?_
    simp only [toS, textOps, toSOp, kindAt, kindOf, odAt, sopsAt, ordOf, zipF]
    (repeat' (first | refine JC.seq ?_ | refine JC.ops ?_ | refine JO.nil ?_ | refine JX.thenN ?_ | (apply r_move; (iterate 3 exact rfl)) | (apply r_assign; (iterate 3 exact rfl)) | (apply r_eqNil; (iterate 4 exact rfl)) | refine JX.thenR ?_ | refine JC.ret ?_ | refine JC.condT rfl ?_))
    exact JX.ret1 rfl (fun a w' st => ⟨st.kp, [], New.nil _ _, OwnZ.nil⟩)
  | some ad =>
    refine calls_of_S [] [] (by simp) [] Tryd.func64 rfl mixed (by kernel_rfl) Tryd.ntmps64 Tryd.results64 rfl ⟨by simp, by simp⟩ (by simp) ?_
    simp only [toS, textOps, toSOp, kindAt, kindOf, odAt, sopsAt, ordOf, zipF]
    (repeat' (first | refine JC.seq ?_ | refine JC.ops ?_ | refine JO.nil ?_ | refine JX.thenN ?_ | (apply r_move; (iterate 3 exact rfl)) | (apply r_assign; (iterate 3 exact rfl)) | (apply r_eqNil; (iterate 4 exact rfl)) | refine JC.skip ?_ | refine JC.condF rfl ?_))
    refine r_buildSlice0 rfl rfl rfl (fun b => ?_)
    (repeat' (first | (apply r_move; (iterate 3 exact rfl))))
    have hO : OwnZ [(b, .cells #[] 32)] (.slice (some ⟨b, 0, none⟩) 0 0) 0 [] := by
      have := OwnRow.mk' (e := 32) (sz := 2) (n := 0) (b := b) (cs := #[]) rfl (by simp only [maxLen]; omega)
      exact this
    refine r_appendZ (A := []) hO (WZ.rd hv rfl []) (by (repeat' first | exact HSub.nil _ | exact HSub.hd | exact HSub.in0 | exact HSub.refl _ | refine HSub.skip ?_ | refine HSub.skipN ?_)) rfl trivial rfl rfl rfl rfl (by omega) (fun v' N' hO' => ?_)
    rw [Nat.zero_add, List.nil_append] at hO'
    (repeat' (first | refine JO.nil ?_ | refine JX.thenN ?_ | (apply r_assign; (iterate 3 exact rfl)) | refine JC.ret ?_))
    exact JX.ret1 rfl (fun a w' st => ⟨st.kp, N', st.newOf rfl (by (repeat' first | exact HSub.nil _ | exact HSub.hd | exact HSub.in0 | exact HSub.refl _ | refine HSub.skip ?_ | refine HSub.skipN ?_)), hO'⟩)



abbrev TR := SHeap × Value × List Int
def tH (ts : List TR) : SHeap := (ts.map (·.1)).flatten
theorem tH_append (a b : List TR) : tH (a ++ b) = tH a ++ tH b := by simp [tH]
theorem tH_one (t : TR) : tH [t] = t.1 := by simp [tH]
structure OwnT (N : SHeap) (v : Value) (c : Nat) (ts : List TR) : Prop where
  outer : OwnRow 26 1 N v ts.length (ts.map (·.2.1))
  rows : ∀ t ∈ ts, OwnZ t.1 t.2.1 c t.2.2
theorem OwnT.cells {N : SHeap} {v : Value} {c : Nat} {ts : List TR} (h : OwnT N v c ts) : Cells (N ++ tH ts) := h.outer.cells'.app fun p hp => by
  obtain ⟨l, hl, hp⟩ := List.mem_flatten.1 hp
  obtain ⟨t, ht, rfl⟩ := List.mem_map.1 hl
  exact (h.rows t ht).cells p hp
theorem OwnT.form {N : SHeap} {v : Value} {c : Nat} {ts : List TR} (h : OwnT N v c ts) : ∃ A cap, v = .slice A ts.length cap := by
  obtain ⟨_, ⟨h1, h2, _⟩ | ⟨b, cap, cur, h1, _⟩⟩ := h.outer
  · exact ⟨none, 0, by rw [h1, h2]⟩
  · exact ⟨_, _, h1⟩

set_option maxHeartbeats 8000000 in
theorem c_table (w : World) (v : Value) (m : ZM) (hm : RtZ m) (hv : IsM w v m) :
    Calls Tryd.prog 46 #[v] w (Ret fun v w' => Kp [] w w' ∧ ∃ N ts, New (N ++ tH ts) w w' ∧ OwnT N v m.c ts ∧ ts.map (·.2.2) = (List.range m.r).map (rowI m)) := by
  have hvX := hv.x
  obtain ⟨E, rfl, hE⟩ := hv
  have hl := hm.len
  have hle := hm.le
  have hbr := hm.r
  have hbc := hm.c
  rw [hl] at hE
  obtain ⟨A, cap, rfl⟩ := hE.form
  have hcap : m.r * m.c ≤ cap := wz_cap hE
  refine calls_of_Z 5 [⟨4, 2, [], []⟩] Tryd.func46 rfl mixed (by kernel_rfl) Tryd.ntmps46 (by simp) ?_
  simp only [toZ, hasRF, Bool.or_false, Bool.false_or, Bool.or_self, Bool.true_or, cond_true, cond_false, toS, textOps, toSOp, kindAt, kindOf, odAt, sopsAt, ordOf, zipF]
  (repeat' (first | refine JC.seq ?_ | refine JC.ops ?_ | refine JO.nil ?_ | refine JX.thenN ?_ | (apply r_assign; (iterate 3 exact rfl)) | (apply r_loadN; (iterate 4 exact rfl); exact at1; exact rfl) | (apply r_allocZ; (iterate 3 exact rfl); intro _) | (apply r_boxA; (iterate 4 exact rfl); intro _)))
  rename_i b1 b3
  refine r_callA (A := []) rfl trivial rfl rfl rfl (fun w hk _ => c_rows w m.r m.c (m.r * m.c) cap A) fun w v w' _ _ _ hR => ?_
  obtain ⟨bx, rfl, hNx⟩ := hR
  refine ⟨_, hNx, ?_⟩
  (repeat' (first | refine JO.nil ?_ | refine JX.thenN ?_ | refine JC.block ?_))
  have hbx : ∀ (v : Value) (N : SHeap), (bx, Obj.cells #[nv m.r, nv m.c, .slice A (m.r * m.c) cap] 28 (0, 0)) ∈ ([(bx, Obj.cells #[nv m.r, nv m.c, .slice A (m.r * m.c) cap] 28 (0, 0)), (b3, .cells #[v] 72 (0, 0)), (b1, .cells #[nv m.r, nv m.c, .slice A (m.r * m.c) cap] 28 (0, 0))] ++ N) := fun v N => by simp
  refine JC.rangeOut (od := [⟨4, 2, [], []⟩]) _ rfl mixed rfl rfl (enters_of Tryd.func86 (by kernel_rfl) rfl) (rows_iter hbr hbc (Nat.le_refl _) hcap)
    (fun pre H' => ∃ v N ts, H' = [(bx, Obj.cells #[nv m.r, nv m.c, .slice A (m.r * m.c) cap] 28 (0, 0)), (b3, .cells #[v] 72 (0, 0)), (b1, .cells #[nv m.r, nv m.c, .slice A (m.r * m.c) cap] 28 (0, 0))] ++ (N ++ tH ts) ∧ OwnT N v m.c ts ∧ ts.map (·.2.2) = pre.map (rowI m))
    (by rintro pre _ ⟨v, N, ts, rfl, _⟩; exact hbx v _) (by rintro pre _ ⟨v, N, ts, rfl, hO, _⟩; exact Cells.cons (Cells.cons (Cells.cons hO.cells))) _ ⟨.slice none 0 0, [], [], rfl, ⟨OwnRow.nil _ 1, fun t ht => by cases ht⟩, rfl⟩ (by (first | exact HSub.refl _ | (repeat' first | exact HSub.nil _ | exact HSub.refl _ | refine HSub.at 0 rfl ?_ | refine HSub.at 1 rfl ?_ | refine HSub.at 2 rfl ?_ | refine HSub.at 3 rfl ?_ | refine HSub.at 4 rfl ?_ | refine HSub.at 5 rfl ?_ | refine HSub.at 6 rfl ?_ | refine HSub.at 7 rfl ?_)))
    (fun i _ => [(5, rowV A cap m.c i), (3, .pointer (some ⟨b3, 0, none⟩))]) (fun _ => none) (fun _ _ h => by cases h) rfl rfl (by kernel_rfl) (by kernel_rfl) rfl (fun _ _ h => h) ?_ ?_ ?_
  · intro l i W hW
    simp only [toB, textOps, toSOp, kindAt, kindOf, odAt, sopsAt, ordOf, exH, List.nil_append, List.cons_append]
    (repeat' (first | refine JC.ops ?_ | refine JO.nil ?_ | (apply r_assign; (iterate 3 exact rfl))))
    exact JX.asgEnd0 rfl (by repeat first | exact trivial | refine ⟨rfl, ?_⟩)
  · rintro l i pre _ _ W1 hM' hi hpl ⟨v, N, ts, rfl, hO, hts⟩ hl hln hkb hge
    simp only [toB, textOps, toSOp, kindAt, kindOf, odAt, sopsAt, ordOf, exH, List.nil_append, List.cons_append]
    have htl : ts.length = pre.length := by have := congrArg List.length hts; simpa using this
    have hrow := rd_body (c2 := ⟨Tryd.prog, 16, W1, _, hM'⟩) (row_wz hm hE hi) hkb (keys_ge hge) []
    have hlr := rowI_len hm hi
    obtain ⟨A2, c2, rfl⟩ := hO.form
    (repeat' (first | refine JC.block ?_))
    refine JC.opsDs [(b3, .cells #[.slice A2 ts.length c2] 72 (0, 0))] (by (first | exact HSub.refl _ | (repeat' first | exact HSub.nil _ | exact HSub.refl _ | refine HSub.at 0 rfl ?_ | refine HSub.at 1 rfl ?_ | refine HSub.at 2 rfl ?_ | refine HSub.at 3 rfl ?_ | refine HSub.at 4 rfl ?_ | refine HSub.at 5 rfl ?_ | refine HSub.at 6 rfl ?_ | refine HSub.at 7 rfl ?_))) ?_
    (repeat' (first | (apply r_move; (iterate 3 exact rfl)) | (apply r_load; (iterate 4 exact rfl); exact at0; exact rfl)))
    refine r_callA (A := [_, _, _]) rfl (by first | trivial | exact ⟨rfl, rfl⟩) rfl rfl rfl (fun w hk hs => c_CloneZ w _ _ _ (hrow.at hk hs (HSub.nil _)) (by omega)) fun w v w' _ _ _ hR => ?_
    obtain ⟨N2, hN2, hO2⟩ := hR
    obtain ⟨A3, c3, rfl⟩ := hO2.form
    refine ⟨N2, hN2, ?_⟩
    (repeat' (first | (apply r_build1; (iterate 5 exact rfl); (repeat first | exact trivial | refine ⟨rfl, ?_⟩); decide; decide; intro _)))
    rename_i b13
    refine r_appendL (e := 26) (sz := 1) (bytes := 24) (zc := #[.slice none 0 0]) (A := (b13, _) :: (bx, _) :: (b3, _) :: (b1, _) :: N2) (N := N) (B := tH ts) (n := ts.length) (mm := 1) (xs := ts.map (·.2.1)) (news := [.slice A3 m.c c3]) (N2 := [(b13, .cells #[.slice A3 m.c c3] 26)]) rfl hO.outer ?_ (by (repeat' first | exact HSub.nil _ | exact HSub.hd | exact HSub.in0 | exact HSub.refl _ | refine HSub.skip ?_ | refine HSub.skipN ?_)) rfl (by (first | exact HSub.refl _ | (repeat' first | exact HSub.nil _ | exact HSub.refl _ | refine HSub.at 0 rfl ?_ | refine HSub.at 1 rfl ?_ | refine HSub.at 2 rfl ?_ | refine HSub.at 3 rfl ?_ | refine HSub.at 4 rfl ?_ | refine HSub.at 5 rfl ?_ | refine HSub.at 6 rfl ?_ | refine HSub.at 7 rfl ?_))) rfl rfl rfl rfl (fun u hu => by cases List.mem_singleton.1 hu; rfl) (by simp only [maxLen]; omega) (by omega) (fun v4 N4 hO4 => ?_)
    · have := OwnRow.mk' (e := 26) (sz := 1) (n := 1) (b := b13) (cs := #[.slice A3 m.c c3]) rfl (by simp only [maxLen]; omega)
      exact this.rd
    have hT : OwnT N4 v4 m.c (ts ++ [(N2, .slice A3 m.c c3, rowI m i)]) := ⟨by simpa using hO4, fun t ht => by
      rcases List.mem_append.1 ht with ht | ht
      · exact hO.rows t ht
      · cases List.mem_singleton.1 ht; exact hO2⟩
    obtain ⟨A4, c4, rfl⟩ := hT.form
    (repeat' (first | refine JO.nil ?_ | (apply r_store; exact rfl; (first | exact trivial | exact ⟨rfl, rfl⟩); exact rfl; exact rfl; exact at2; exact rfl; exact rfl; (first | exact Nat.le_of_ble_eq_true rfl | (simp; done) | omega)) | refine JX.blockN ?_))
    refine JX.bodyEnd (H' := [(bx, Obj.cells #[nv m.r, nv m.c, .slice A (m.r * m.c) cap] 28 (0, 0)), (b3, .cells #[.slice A4 (ts ++ [(N2, Value.slice A3 m.c c3, rowI m i)]).length c4] 72 (0, 0)), (b1, .cells #[nv m.r, nv m.c, .slice A (m.r * m.c) cap] 28 (0, 0))] ++ (N4 ++ tH (ts ++ [(N2, .slice A3 m.c c3, rowI m i)]))) ⟨_, N4, _, rfl, hT, by simp [hts]⟩ (Cells.cons (Cells.cons (Cells.cons (by exact hT.cells)))) ?_
    rw [tH_append, tH_one]
    refine HSub.skip ⟨[], ?_⟩
    rw [List.append_nil]
    refine ((List.Perm.cons _ (List.Perm.cons _ (List.Perm.cons _ ?_))))
    show (N2 ++ (N4 ++ tH ts)).Perm (N4 ++ (tH ts ++ N2))
    refine List.perm_append_comm.trans ?_
    rw [List.append_assoc]
  · rintro D _ ⟨v, N, ts, rfl, hO, hts⟩ hD
    obtain ⟨A2, c2, rfl⟩ := hO.form
    simp only [toS, textOps, toSOp, kindAt, kindOf, odAt, sopsAt, ordOf]
    (repeat' (first | refine JC.seq ?_ | refine JC.ops ?_ | refine JO.nil ?_ | refine JX.thenN ?_ | (apply r_assign; (iterate 3 exact rfl)) | (apply r_load; (iterate 4 exact rfl); exact at2; exact rfl) | refine JC.ret ?_))
    refine JX.leaveM 0 rfl hD rfl ?_
    exact JX.ret1 rfl (fun a w' st => ⟨st.kp, N, ts, st.newOf rfl (by exact HSub.skip (HSub.skip (HSub.skip (HSub.refl _)))), hO, hts⟩)


def sumL (ks : List Nat) (f : Nat → Int) : Int := (ks.map f).sum
theorem sumL_snoc (ks : List Nat) (k : Nat) (f : Nat → Int) : sumL (ks ++ [k]) f = sumL ks f + f k := by simp [sumL]
theorem sumL_range (f : Nat → Int) : ∀ n, sumL (List.range n) f = smI n f
  | 0 => rfl
  | n + 1 => by rw [List.range_succ, sumL_snoc, sumL_range f n, smI]
theorem sumL_bd {B : Nat} {f : Nat → Int} (h : ∀ k, (f k).natAbs ≤ B) : ∀ ks : List Nat, (sumL ks f).natAbs ≤ ks.length * B
  | [] => by simp [sumL]
  | k :: ks => by
    have h1 := sumL_bd h ks
    have h2 := h k
    have h3 := Int.natAbs_add_le (f k) (sumL ks f)
    have e : sumL (k :: ks) f = f k + sumL ks f := by simp [sumL]
    rw [e, List.length_cons, Nat.add_mul, Nat.one_mul]
    omega

def muF (m n : ZM) (pre : List Nat) (i : Nat) (ks : List Nat) (k j : Nat) : Mi := fun a b => (pre.count a : Int) * mmI m.c m.at n.at a b + if a = i then sumL ks (fun t => m.at i t * n.at t b) + (if b < j then m.at i k * n.at k b else 0) else 0
def muS (m n : ZM) (pre : List Nat) (i : Nat) (ks : List Nat) (k j : Nat) : List Int := tbz m.r n.c (muF m n pre i ks k j)
def muE (m n : ZM) (pre : List Nat) : List Int := tbz m.r n.c fun a b => (pre.count a : Int) * mmI m.c m.at n.at a b
theorem muE_zero (m n : ZM) : muE m n [] = tab (m.r * n.c) fun _ => 0 := by
  rw [← tbz_zero]
  exact tbz_congr fun i j _ _ => by simp
theorem muS_start (m n : ZM) (pre : List Nat) (i k : Nat) : muS m n pre i [] k 0 = muE m n pre := tbz_congr fun a b _ _ => by simp [muF, sumL]
theorem muS_k (m n : ZM) (pre : List Nat) (i : Nat) (ks : List Nat) (k k' : Nat) : muS m n pre i ks k 0 = muS m n pre i ks k' 0 := tbz_congr fun a b _ _ => by simp [muF]
theorem muS_set {m n : ZM} {pre ks : List Nat} {i k j : Nat} (hi : i < m.r) (hj : j < n.c) : (muS m n pre i ks k j).set (i * n.c + j) (enz n.c (muS m n pre i ks k j) i j + m.at i k * n.at k j) = muS m n pre i ks k (j + 1) := by
  have e : enz n.c (muS m n pre i ks k j) i j = muF m n pre i ks k j i j := enz_tbz hi hj
  rw [e]
  unfold muS
  rw [tbz_set hj]
  refine tbz_congr fun a b ha hb => ?_
  by_cases h : a = i ∧ b = j
  · obtain ⟨rfl, rfl⟩ := h
    simp only [muF, and_self, if_true, Nat.lt_irrefl, if_false, Nat.lt_succ_self]
    omega
  · rw [if_neg h]
    simp only [muF]
    by_cases h1 : a = i
    · rw [if_pos h1, if_pos h1]
      have : (b < j + 1) ↔ (b < j) := by
        have : ¬ b = j := fun e => h ⟨h1, e⟩
        omega
      simp only [this]
    · rw [if_neg h1, if_neg h1]
theorem muS_skip {m n : ZM} {pre ks : List Nat} {i k j : Nat} (h0 : m.at i k * n.at k j = 0) : muS m n pre i ks k j = muS m n pre i ks k (j + 1) := tbz_congr fun a b ha hb => by
  simp only [muF]
  by_cases hb : b = j
  · subst hb
    rw [if_neg (Nat.lt_irrefl b), if_pos (Nat.lt_succ_self b), h0]
  · have : (b < j + 1) ↔ (b < j) := by omega
    simp only [this]
theorem muS_next {m n : ZM} {pre ks : List Nat} {i k : Nat} : muS m n pre i ks k n.c = muS m n pre i (ks ++ [k]) 0 0 := tbz_congr fun a b ha hb => by
  simp only [muF]
  rw [if_pos hb, sumL_snoc]
  simp
theorem muS_jump {m n : ZM} {pre ks : List Nat} {i k : Nat} (h0 : m.at i k = 0) : muS m n pre i ks 0 0 = muS m n pre i (ks ++ [k]) 0 0 := tbz_congr fun a b ha hb => by
  simp only [muF]
  rw [sumL_snoc, h0]
  simp
theorem muS_row {m n : ZM} {pre : List Nat} {i : Nat} : muS m n pre i (List.range m.c) 0 0 = muE m n (pre ++ [i]) := tbz_congr fun a b ha hb => by
  simp only [muF]
  rw [List.count_append]
  by_cases h : a = i
  · subst h
    rw [if_pos rfl, sumL_range]
    simp only [List.count_singleton_self, Nat.not_lt_zero, if_false]
    show _ + (mmI m.c m.at n.at a b + 0) = _
    simp only [Int.natCast_add, Int.add_mul]
    simp
  · rw [if_neg h, List.count_singleton]
    have : (i == a) = false := by simpa using fun e => h e.symm
    simp [this]
theorem muE_end (m n : ZM) : muE m n (List.range m.r) = (mulZ m n).e := tbz_congr fun a b ha hb => by
  have : (List.range m.r).count a = 1 := by
    have h1 := List.nodup_iff_count.1 (List.nodup_range (n := m.r)) a
    have h2 := List.count_pos_iff.2 (List.mem_range.2 ha)
    omega
  rw [this]
  simp
theorem muF_bd {K L : Nat} {m n : ZM} {pre ks : List Nat} {i k j a b : Nat} (hc : m.c ≤ 200) (hm : BdZ K m) (hn : BdZ L n) (hp : pre.length ≤ 200) (hk : ks.length ≤ 200) : (muF m n pre i ks k j a b).natAbs < 256 ^ (K + L + 2) := by
  have hB : ∀ t, (m.at i t * n.at t b).natAbs ≤ 256 ^ (K + L) := fun t => Nat.le_of_lt (mul_bd (hm.at i t) (hn.at t b))
  have h1 : (mmI m.c m.at n.at a b).natAbs ≤ 200 * 256 ^ (K + L) := Nat.le_trans (smI_bd (n := m.c) (f := fun t => m.at a t * n.at t b) (B := 256 ^ (K + L)) (fun t _ => Nat.le_of_lt (mul_bd (hm.at a t) (hn.at t b)))) (Nat.mul_le_mul_right _ hc)
  have h2 : ((pre.count a : Int) * mmI m.c m.at n.at a b).natAbs ≤ 200 * (200 * 256 ^ (K + L)) := by
    rw [Int.natAbs_mul, Int.natAbs_natCast]
    exact Nat.mul_le_mul (Nat.le_trans List.count_le_length hp) h1
  have h3 : (sumL ks (fun t => m.at i t * n.at t b)).natAbs ≤ 200 * 256 ^ (K + L) := Nat.le_trans (sumL_bd hB ks) (Nat.mul_le_mul_right _ hk)
  have h4 := hB k
  have h5 := pos256 (K + L)
  have e : 256 ^ (K + L + 2) = 65536 * 256 ^ (K + L) := by rw [Nat.pow_succ, Nat.pow_succ]; omega
  rw [e]
  unfold muF
  generalize (pre.count a : Int) * mmI m.c m.at n.at a b = x at h2 ⊢
  generalize sumL ks (fun t => m.at i t * n.at t b) = y at h3 ⊢
  generalize m.at i k * n.at k b = z at h4 ⊢
  generalize 256 ^ (K + L) = P at *
  split
  · split <;> omega
  · omega

theorem OwnX.ptr {N : SHeap} {A : Option Addr} {n cap : Nat} {xs : List WR} (h : OwnX N (.slice A n cap) n xs) : ∃ b, (0 < n → A = some ⟨b, 0, none⟩) ∧ n ≤ cap := by
  obtain ⟨_, ⟨h1, h2, _⟩ | ⟨b, cap', cur, h1, _, h3, _⟩⟩ := h
  · refine ⟨0, fun h => by omega, by omega⟩
  · cases h1
    exact ⟨b, fun _ => rfl, h3⟩

theorem sub_rd {cx : Cx} {N : SHeap} {A A' : Option Addr} {b n co c l k : Nat} {xs : List Int} (hO : OwnZ N (.slice A n co) n xs) (hA0 : 0 < n → A = some ⟨b, 0, none⟩) (hA : 0 < c → A' = some ⟨b, 0 + l * 2, none⟩) (hl : l + c ≤ n) (hc : c ≤ k) : RdZ cx N (.slice A' c k) c ((xs.drop l).take c) := by
  have hlen := hO.len
  obtain ⟨_, _, _, he, _, h2⟩ := hO.rd (c := cx)
  cases he
  refine ⟨by rw [xcs_len, List.length_map, List.length_take, List.length_drop]; omega, _, _, rfl, hc, fun h0 => ?_⟩
  obtain ⟨_, h3⟩ := h2 (by omega)
  obtain rfl := hA h0
  obtain rfl := hA0 (by omega)
  refine ⟨⟨_, _, rfl⟩, fun w hw j u hu => ?_⟩
  rw [List.map_take, List.map_drop, ← xcs_take, ← xcs_drop, List.getElem?_take] at hu
  split at hu
  · rw [List.getElem?_drop] at hu
    have := h3 w hw _ u hu
    simpa [Nat.add_assoc, vAt] using this
  · cases hu

theorem OwnZ.ty {N : SHeap} {v : Value} {n : Nat} {xs : List Int} (h : OwnZ N v n xs) : ∀ p ∈ N, ∃ cs fz, p.2 = .cells cs 32 fz := by
  obtain ⟨_, ⟨_, _, rfl⟩ | ⟨b, cap, cur, _, rfl, _⟩⟩ := h
  · intro p hp; cases hp
  · intro p hp; cases List.mem_singleton.1 hp; exact ⟨_, _, rfl⟩


set_option maxHeartbeats 16000000 in
theorem c_MMul (K L : Nat) (w : World) (v u : Value) (m n : ZM) (hm : RtZ m) (hn : RtZ n) (hr : m.c = n.r) (hK : K + L ≤ 90000000) (hx : BdZ K m) (hy : BdZ L n) (hv : IsM w v m) (hu : IsM w u n) :
    Calls Tryd.prog 43 #[v, u] w (Ret fun v w' => Kp [] w w' ∧ GivesMB (mulZ m n) true w v w') := by
  have hvX := hv.x
  have huX := hu.x
  obtain ⟨E, rfl, hE⟩ := hv
  obtain ⟨E', rfl, hE'⟩ := hu
  have hl := hm.len
  have hle := hm.le
  have hl' := hn.len
  have hle' := hn.le
  have hbr := hm.r
  have hbc := hm.c
  have hbr' := hn.r
  have hbc' := hn.c
  have hrc := rcZ hbr hbc'
  rw [hl] at hE
  rw [hl'] at hE'
  obtain ⟨A, cap, rfl⟩ := hE.form
  obtain ⟨A', cap', rfl⟩ := hE'.form
  have hcap : m.r * m.c ≤ cap := wz_cap hE
  have hcap' : n.r * n.c ≤ cap' := wz_cap hE'
  refine calls_of_Z 5 [⟨16, 2, [], []⟩] Tryd.func43 rfl mixed (by kernel_rfl) Tryd.ntmps43 (by simp) ?_
  simp only [toZ, hasRF, Bool.or_false, Bool.false_or, Bool.or_self, Bool.true_or, cond_true, cond_false, toS, textOps, toSOp, kindAt, kindOf, odAt, sopsAt, ordOf, zipF]
  (repeat' (first | refine JC.seq ?_ | refine JC.ops ?_ | refine JO.nil ?_ | refine JX.thenN ?_ | (apply r_assign; (iterate 3 exact rfl)) | (apply r_loadN; (iterate 4 exact rfl); exact at2; exact rfl) | (apply r_allocZ; (iterate 3 exact rfl); intro _) | (apply r_boxA; (iterate 4 exact rfl); intro _)))
  rename_i b2 b3 b4
  refine r_call0 trivial rfl rfl rfl (fun w hk _ => c_Right w _ m.xm (hvX.mono hk) (by simp [ZM.xm]; omega)) fun w v w' _ _ _ hR => ?_
  obtain ⟨b', rfl, hb⟩ := hR
  obtain rfl := hb.2 hm.rx
  (repeat' (first | (apply r_move; (iterate 3 exact rfl)) | (apply r_loadN; (iterate 4 exact rfl); exact at1; exact rfl) | (apply r_not; (iterate 3 exact rfl))))
  refine r_call0 trivial rfl rfl rfl (fun w hk _ => c_Right w _ n.xm (huX.mono hk) (by simp [ZM.xm]; omega)) fun w v w' _ _ _ hR => ?_
  obtain ⟨b', rfl, hb⟩ := hR
  obtain rfl := hb.2 hn.rx
  (repeat' (first | refine JC.seq ?_ | refine JC.ops ?_ | refine JO.nil ?_ | refine JX.thenN ?_ | (apply r_move; (iterate 3 exact rfl)) | (apply r_fieldAddr; (iterate 3 exact rfl)) | (apply r_load; (iterate 4 exact rfl); (first | exact at1 | exact at2); exact rfl) | (apply r_pickF; (iterate 4 exact rfl)) | (apply r_not; (iterate 3 exact rfl)) | (apply r_neq; (iterate 4 exact rfl); all_goals intro hc; all_goals try (exfalso; omega)) | refine JC.skip ?_ | refine JC.condF rfl ?_))
  refine r_callA (A := [_, _, _]) (B := []) rfl trivial rfl rfl rfl (fun w hk _ => c_Zero m.r n.c hbr hbc' w) fun w v w' _ _ _ hR => ?_
  obtain ⟨N, Eo, hN, rfl, hO⟩ := hR
  obtain ⟨Ao, co, rfl⟩ := hO.form
  refine ⟨N, hN, ?_⟩
  (repeat' (first | refine JC.seq ?_ | refine JC.ops ?_ | refine JO.nil ?_ | refine JX.thenN ?_ | (apply r_loadN; (iterate 4 exact rfl); (first | exact at0 | exact at3); exact rfl) | (apply r_storeN; exact rfl; (first | exact trivial | exact ⟨rfl, rfl⟩); exact rfl; exact rfl; (first | exact at0 | exact at3); (iterate 3 exact rfl)) | (apply r_allocZ; (iterate 3 exact rfl); intro _) | (apply r_storeN; exact rfl; (first | exact trivial | exact ⟨rfl, rfl⟩); exact rfl; exact rfl; (first | exact at0 | exact at3); (iterate 3 exact rfl))))
  rename_i b6
  refine r_callA (A := []) rfl trivial rfl rfl rfl (fun w hk _ => c_rows w m.r m.c (m.r * m.c) cap A) fun w v w' _ _ _ hR => ?_
  obtain ⟨bx, rfl, hNx⟩ := hR
  refine ⟨_, hNx, ?_⟩
  (repeat' (first | refine JO.nil ?_ | refine JX.thenN ?_ | refine JC.block ?_))
  obtain ⟨b0, hAo, hco⟩ := OwnX.ptr hO
  have hbx : ∀ (N : SHeap), (bx, Obj.cells #[nv m.r, nv m.c, .slice A (m.r * m.c) cap] 28 (0, 0)) ∈ ([(bx, Obj.cells #[nv m.r, nv m.c, .slice A (m.r * m.c) cap] 28 (0, 0)), (b6, .cells #[nv m.r, nv n.c, .slice Ao (m.r * n.c) co] 28 (0, 0)), (b4, .cells #[iv 0, iv 0, .slice none 0 0] 28 (0, 0)), (b3, .cells #[nv n.r, nv n.c, .slice A' (n.r * n.c) cap'] 28 (0, 0)), (b2, .cells #[nv m.r, nv m.c, .slice A (m.r * m.c) cap] 28 (0, 0))] ++ (N ++ [])) := fun N => by simp
  refine JC.rangeOut (od := [⟨16, 2, [], []⟩]) _ rfl mixed rfl rfl (enters_of Tryd.func86 (by kernel_rfl) rfl) (rows_iter hbr hbc (Nat.le_refl _) hcap)
    (fun pre H' => ∃ N, H' = [(bx, Obj.cells #[nv m.r, nv m.c, .slice A (m.r * m.c) cap] 28 (0, 0)), (b6, .cells #[nv m.r, nv n.c, .slice Ao (m.r * n.c) co] 28 (0, 0)), (b4, .cells #[iv 0, iv 0, .slice none 0 0] 28 (0, 0)), (b3, .cells #[nv n.r, nv n.c, .slice A' (n.r * n.c) cap'] 28 (0, 0)), (b2, .cells #[nv m.r, nv m.c, .slice A (m.r * m.c) cap] 28 (0, 0))] ++ (N ++ []) ∧ OwnZ N (.slice Ao (m.r * n.c) co) (m.r * n.c) (muE m n pre))
    (by rintro pre _ ⟨N, rfl, _⟩; exact hbx N) (by rintro pre _ ⟨N, rfl, hO⟩; exact (Cells.cons (Cells.cons (Cells.cons (Cells.cons (Cells.cons (hO.cells.app Cells.nil))))))) _ ⟨N, rfl, by rw [muE_zero]; exact hO⟩ (by (first | exact HSub.refl _ | (repeat' first | exact HSub.nil _ | exact HSub.refl _ | refine HSub.at 0 rfl ?_ | refine HSub.at 1 rfl ?_ | refine HSub.at 2 rfl ?_ | refine HSub.at 3 rfl ?_ | refine HSub.at 4 rfl ?_ | refine HSub.at 5 rfl ?_ | refine HSub.at 6 rfl ?_ | refine HSub.at 7 rfl ?_)))
    (fun i b => [(7, nv i), (8, .pointer (some ⟨b, 0, none⟩)), (6, .pointer (some ⟨b6, 0, none⟩)), (3, .pointer (some ⟨b3, 0, none⟩))]) (fun i => some (.cells #[rowV A cap m.c i] 26 (0, 0))) ?_ rfl rfl (by kernel_rfl) (by kernel_rfl) rfl (fun _ _ h => h) ?_ ?_ ?_
  · rintro i _ ⟨⟩ pre _ ⟨N, rfl, hO⟩ p hp e
    simp only [List.mem_append, List.mem_cons, List.mem_nil_iff, or_false] at hp
    rcases hp with (rfl | rfl | rfl | rfl | rfl) | hp
    · cases e
    · cases e
    · cases e
    · cases e
    · cases e
    · obtain ⟨cs, fz, h⟩ := hO.ty p hp
      rw [h] at e
      cases e
  · intro l i W hW
    simp only [toB, textOps, toSOp, kindAt, kindOf, odAt, sopsAt, ordOf, exH, List.nil_append, List.cons_append]
    (repeat' (first | refine JC.seq ?_ | refine JC.ops ?_ | refine JO.nil ?_ | refine JX.thenN ?_ | (apply r_assign; (iterate 3 exact rfl)) | (apply r_allocZ; (iterate 3 exact rfl); intro _) | (apply r_store; exact rfl; (first | exact trivial | exact ⟨rfl, rfl⟩); exact rfl; exact rfl; exact at0; exact rfl; exact rfl; (first | exact Nat.le_of_ble_eq_true rfl | (simp; done) | omega))))
    exact JX.asgEnd1 0 rfl rfl rfl (by repeat first | exact trivial | refine ⟨rfl, ?_⟩)
  · rintro l i pre b8 _ W1 hM' hi hpl ⟨N, rfl, hO⟩ hl hln hkb hge
    simp only [toB, textOps, toSOp, kindAt, kindOf, odAt, sopsAt, ordOf, exH, List.nil_append, List.cons_append]
    have hrow1 := zx_row (c := n.c) hi
    have hrow2 : (i + 1) * n.c = i * n.c + n.c := by rw [Nat.add_mul]; omega
    have hic : i * n.c ≤ 40000 := by omega
    (repeat' (first | refine JC.seq ?_ | refine JC.ops ?_ | (apply r_move; (iterate 3 exact rfl)) | (apply r_fieldAddr; (iterate 3 exact rfl)) | (apply r_load; (iterate 4 exact rfl); (first | exact at2 | exact at4); exact rfl) | (apply r_add1; (iterate 4 exact rfl); omega) | (apply r_mulN; (iterate 4 exact rfl); (first | assumption | omega)) | refine JC.block ?_))
    refine r_slice (b := b0) (o := 0) (l := i * n.c) (h' := (i + 1) * n.c) rfl rfl rfl hAo rfl rfl (.inl rfl) rfl rfl (.inl rfl) (by omega) (by omega) hco (fun A9 hA9 => ?_)
    rw [show (i + 1) * n.c - i * n.c = n.c by omega]
    have hA9 : 0 < n.c → A9 = some ⟨b0, 0 + i * n.c * 2, none⟩ := fun h => hA9 (by omega)
    (repeat' (first | refine JC.seq ?_ | refine JC.ops ?_ | refine JO.nil ?_ | refine JX.thenN ?_ | (apply r_loadN; (iterate 4 exact rfl); (first | exact at0 | exact at5); exact rfl) | (apply r_allocZ; (iterate 3 exact rfl); intro _) | (apply r_store; exact rfl; (first | exact trivial | exact ⟨rfl, rfl⟩); exact rfl; exact rfl; (first | exact at0 | exact at5); exact rfl; exact rfl; (first | exact Nat.le_of_ble_eq_true rfl | (simp; done) | omega))))
    rename_i b9
    refine r_callA (A := []) rfl trivial rfl rfl rfl (fun w hk _ => c_rows w n.r n.c (n.r * n.c) cap' A') fun w v w' _ _ _ hR => ?_
    obtain ⟨by_, rfl, hNy⟩ := hR
    refine ⟨_, hNy, ?_⟩
    (repeat' (first | refine JO.nil ?_ | refine JX.thenN ?_ | refine JC.block ?_))
    have hby : ∀ (N : SHeap), (by_, Obj.cells #[nv n.r, nv n.c, .slice A' (n.r * n.c) cap'] 28 (0, 0)) ∈ ((by_, Obj.cells #[nv n.r, nv n.c, .slice A' (n.r * n.c) cap'] 28 (0, 0)) :: (b9, .cells #[.slice A9 n.c (co - i * n.c)] 26 (0, 0)) :: (b8, .cells #[rowV A cap m.c i] 26 (0, 0)) :: ([(bx, Obj.cells #[nv m.r, nv m.c, .slice A (m.r * m.c) cap] 28 (0, 0)), (b6, .cells #[nv m.r, nv n.c, .slice Ao (m.r * n.c) co] 28 (0, 0)), (b4, .cells #[iv 0, iv 0, .slice none 0 0] 28 (0, 0)), (b3, .cells #[nv n.r, nv n.c, .slice A' (n.r * n.c) cap'] 28 (0, 0)), (b2, .cells #[nv m.r, nv m.c, .slice A (m.r * m.c) cap] 28 (0, 0))] ++ (N ++ []))) := fun N => List.mem_cons_self ..
    refine JC.rangeIn (od := [⟨16, 2, [], []⟩]) _ mixed hl hln rfl (enters_of Tryd.func86 (by kernel_rfl) rfl) (rows_iter hbr' hbc' (Nat.le_refl _) hcap') hkb (keys_ge hge)
      (fun ks H' => ∃ N, H' = (by_, Obj.cells #[nv n.r, nv n.c, .slice A' (n.r * n.c) cap'] 28 (0, 0)) :: (b9, .cells #[.slice A9 n.c (co - i * n.c)] 26 (0, 0)) :: (b8, .cells #[rowV A cap m.c i] 26 (0, 0)) :: ([(bx, Obj.cells #[nv m.r, nv m.c, .slice A (m.r * m.c) cap] 28 (0, 0)), (b6, .cells #[nv m.r, nv n.c, .slice Ao (m.r * n.c) co] 28 (0, 0)), (b4, .cells #[iv 0, iv 0, .slice none 0 0] 28 (0, 0)), (b3, .cells #[nv n.r, nv n.c, .slice A' (n.r * n.c) cap'] 28 (0, 0)), (b2, .cells #[nv m.r, nv m.c, .slice A (m.r * m.c) cap] 28 (0, 0))] ++ (N ++ [])) ∧ OwnZ N (.slice Ao (m.r * n.c) co) (m.r * n.c) (muS m n pre i ks 0 0))
      (by rintro ks _ ⟨N, rfl, _⟩; exact hby N) (by rintro ks _ ⟨N, rfl, hO⟩; exact (Cells.cons (Cells.cons (Cells.cons (Cells.cons (Cells.cons (Cells.cons (Cells.cons (Cells.cons (hO.cells.app Cells.nil)))))))))) _ ⟨N, rfl, by rw [muS_start]; exact hO⟩ (HSub.refl _)
      (fun k _ => [(10, nv k), (11, rowV A' cap' n.c k), (9, .pointer (some ⟨b9, 0, none⟩)), (8, .pointer (some ⟨b8, 0, none⟩))]) (fun _ => none) (fun _ _ h => by cases h) rfl rfl (by kernel_rfl) (by kernel_rfl) ?_ ?_ ?_
    · intro l2 k W2 hW2
      simp only [toB, textOps, toSOp, kindAt, kindOf, odAt, sopsAt, ordOf, exH, List.nil_append, List.cons_append]
      (repeat' (first | refine JC.seq ?_ | refine JC.ops ?_ | refine JO.nil ?_ | refine JX.thenN ?_ | (apply r_assign; (iterate 3 exact rfl))))
      exact JX.asgEnd0 rfl (by repeat first | exact trivial | refine ⟨rfl, ?_⟩)
    · rintro l2 k ks _ _ W2 hM2 hk hkl ⟨N, rfl, hO⟩ hln2 hkb2 hge2
      simp only [toB, textOps, toSOp, kindAt, kindOf, odAt, sopsAt, ordOf, exH, List.nil_append, List.cons_append]
      have hra := rd_body (c2 := ⟨Tryd.prog, 86, W2, _, hM2⟩) (row_wz hm hE hi) hkb2 (keys_ge hge2) []
      have hrb := rd_body (c2 := ⟨Tryd.prog, 86, W2, _, hM2⟩) (row_wz hn hE' hk) hkb2 (keys_ge hge2) []
      have hkc : k < m.c := by omega
      have ea : (rowI m i).getD k 0 = m.at i k := rowI_get hkc
      (repeat' (first | refine JC.seq ?_ | refine JC.ops ?_ | (apply r_move; (iterate 3 exact rfl)) | (apply r_load; (iterate 4 exact rfl); exact at2; exact rfl) | (apply r_idxZ; (iterate 4 exact rfl); (first | assumption | exact WZ.rd (by assumption) rfl [] | exact OwnZ.rd (by assumption)); (first | assumption | omega)) | (apply r_ldZ; (iterate 4 exact rfl); (first | assumption | exact WZ.rd (by assumption) rfl [] | exact OwnZ.rd (by assumption)); (repeat' first | exact HSub.nil _ | exact HSub.hd | exact HSub.in0 | exact HSub.refl _ | refine HSub.skip ?_ | refine HSub.skipN ?_); (first | assumption | omega)) | refine JC.block ?_))
      refine r_call0 (by first | trivial | exact ⟨rfl, rfl⟩) rfl rfl rfl (fun w _ _ => c_zeroZ w ((rowI m i).getD k 0)) fun w v w' _ _ _ hR => ?_
      by_cases hz : (rowI m i).getD k 0 = 0
      · rw [decide_eq_true hz] at hR
        subst hR
        (repeat' (first | refine JO.nil ?_ | refine JX.thenN ?_ | refine JX.thenE ?_ | refine JC.exit ?_ | refine JC.condT rfl ?_ | refine JX.blockE ?_))
        rw [muS_jump (show m.at i k = 0 by rw [← ea]; exact hz)] at hO
        exact JX.bodyEnd ⟨N, rfl, hO⟩ (Cells.cons (Cells.cons (Cells.cons (Cells.cons (Cells.cons (Cells.cons (Cells.cons (Cells.cons (hO.cells.app Cells.nil))))))))) (HSub.refl _)
      · rw [decide_eq_false hz] at hR
        subst hR
        (repeat' (first | refine JC.seq ?_ | refine JC.ops ?_ | refine JO.nil ?_ | refine JX.thenN ?_ | (apply r_move; (iterate 3 exact rfl)) | (apply r_lenZ; (iterate 3 exact rfl); (first | assumption | exact WZ.rd (by assumption) rfl [] | exact OwnZ.rd (by assumption))) | refine JC.skip ?_ | refine JC.condF rfl ?_ | refine JC.block ?_))
        refine JC.loopH (ι := Nat × SHeap) ⟨fun z => [(62, nv z.1), (61, nv n.c), (60, rowV A' cap' n.c k), (10, nv k), (9, .pointer (some ⟨b9, 0, none⟩)), (8, .pointer (some ⟨b8, 0, none⟩))],
          fun z => (by_, Obj.cells #[nv n.r, nv n.c, .slice A' (n.r * n.c) cap'] 28 (0, 0)) :: (b9, .cells #[.slice A9 n.c (co - i * n.c)] 26 (0, 0)) :: (b8, .cells #[rowV A cap m.c i] 26 (0, 0)) :: ([(bx, Obj.cells #[nv m.r, nv m.c, .slice A (m.r * m.c) cap] 28 (0, 0)), (b6, .cells #[nv m.r, nv n.c, .slice Ao (m.r * n.c) co] 28 (0, 0)), (b4, .cells #[iv 0, iv 0, .slice none 0 0] 28 (0, 0)), (b3, .cells #[nv n.r, nv n.c, .slice A' (n.r * n.c) cap'] 28 (0, 0)), (b2, .cells #[nv m.r, nv m.c, .slice A (m.r * m.c) cap] 28 (0, 0))] ++ (z.2 ++ [])),
          fun z => z.1 ≤ n.c ∧ OwnZ z.2 (.slice Ao (m.r * n.c) co) (m.r * n.c) (muS m n pre i ks k z.1), fun z => n.c - z.1⟩ (0, N) ⟨by omega, by rw [muS_k m n pre i ks k 0]; exact hO⟩ (by repeat first | exact trivial | refine ⟨rfl, ?_⟩) (HSub.refl _) (fun j hj => ?_)
        obtain ⟨j, N⟩ := j
        obtain ⟨hjn, hO⟩ := hj
        dsimp only at hjn hO ⊢
        by_cases hj : j < n.c
        · have eb : (rowI n k).getD j 0 = n.at k j := rowI_get hj
          have hlt := zx_lt hi hj
          obtain rfl := hAo (by omega)
          obtain rfl := hA9 (by omega)
          have hat : vAt (.slice (some ⟨b0, 0 + i * n.c * 2, none⟩) n.c (co - i * n.c)) (j * 2) = vAt (.slice (some ⟨b0, 0, none⟩) (m.r * n.c) co) ((i * n.c + j) * 2) := by
            simp only [vAt_lit]
            congr 1
            rw [Nat.add_mul]; omega
          have hsub : RdZ ⟨Tryd.prog, 86, W2, _, hM2⟩ N (.slice (some ⟨b0, 0 + i * n.c * 2, none⟩) n.c (co - i * n.c)) n.c _ := sub_rd (l := i * n.c) hO (fun _ => rfl) (fun _ => rfl) (by omega) (by omega)
          have es : (((muS m n pre i ks k j).drop (i * n.c)).take n.c).getD j 0 = enz n.c (muS m n pre i ks k j) i j := row_enz hj
          (repeat' (first | refine JC.seq ?_ | refine JC.ops ?_ | refine JO.nil ?_ | refine JX.thenN ?_ | (apply r_move; (iterate 3 exact rfl)) | (apply r_assign; (iterate 3 exact rfl)) | (apply r_loadN; (iterate 4 exact rfl); exact at0; exact rfl) | (apply r_idxZ; (iterate 4 exact rfl); (first | assumption | exact WZ.rd (by assumption) rfl [] | exact OwnZ.rd (by assumption)); (first | assumption | omega)) | (apply r_ldZ; (iterate 4 exact rfl); (first | assumption | exact WZ.rd (by assumption) rfl [] | exact OwnZ.rd (by assumption)); (repeat' first | exact HSub.nil _ | exact HSub.hd | exact HSub.in0 | exact HSub.refl _ | refine HSub.skip ?_ | refine HSub.skipN ?_); (first | assumption | omega)) | (apply r_storeN; exact rfl; (first | exact trivial | exact ⟨rfl, rfl⟩); exact rfl; exact rfl; exact at0; (iterate 3 exact rfl)) | (apply r_lss; (iterate 4 exact rfl); all_goals intro hc; all_goals try (exfalso; omega)) | (apply r_allocZ; (iterate 3 exact rfl); intro _) | (apply r_storeN; exact rfl; (first | exact trivial | exact ⟨rfl, rfl⟩); exact rfl; exact rfl; exact at0; (iterate 3 exact rfl)) | refine JC.skip ?_ | refine JC.condT rfl ?_ | refine JC.block ?_))
          refine r_call0 (by first | trivial | exact ⟨rfl, rfl⟩) rfl rfl rfl (fun w _ _ => c_zeroZ w ((rowI n k).getD j 0)) fun w v w' _ _ _ hR => ?_
          by_cases hz2 : (rowI n k).getD j 0 = 0
          · rw [decide_eq_true hz2] at hR
            subst hR
            (repeat' (first | refine JC.ops ?_ | refine JO.nil ?_ | refine JX.thenN ?_ | (apply r_move; (iterate 3 exact rfl)) | (apply r_add1; (iterate 4 exact rfl); omega) | (apply r_not; (iterate 3 exact rfl)) | refine JC.skip ?_ | refine JC.condF rfl ?_ | refine JX.blockN ?_))
            rw [muS_skip (show m.at i k * n.at k j = 0 by rw [← eb, hz2, Int.mul_zero])] at hO
            exact JX.roundH (j + 1, N) ⟨by dsimp only; omega, hO⟩ (by dsimp only; omega) (by repeat first | exact trivial | refine ⟨rfl, ?_⟩) (HSub.skip (HSub.refl _))
          · rw [decide_eq_false hz2] at hR
            subst hR
            (repeat' (first | refine JC.opsD ?_ | refine JO.nil ?_ | refine JX.thenN ?_ | (apply r_move; (iterate 3 exact rfl)) | (apply r_load; (iterate 4 exact rfl); (first | exact at0 | exact at2 | exact at3); exact rfl) | (apply r_loadN; (iterate 4 exact rfl); (first | exact at0 | exact at2 | exact at3); exact rfl) | (apply r_idxZ; (iterate 4 exact rfl); (first | assumption | exact WZ.rd (by assumption) rfl [] | exact OwnZ.rd (by assumption)); (first | assumption | omega)) | (apply r_ldZ; (iterate 4 exact rfl); (first | assumption | exact WZ.rd (by assumption) rfl [] | exact OwnZ.rd (by assumption)); (repeat' first | exact HSub.nil _ | exact HSub.hd | exact HSub.in0 | exact HSub.refl _ | refine HSub.skip ?_ | refine HSub.skipN ?_); (first | assumption | omega)) | (apply r_not; (iterate 3 exact rfl)) | refine JC.condT rfl ?_))
            refine r_call0 (by first | trivial | exact ⟨rfl, rfl⟩) rfl rfl rfl (fun w _ _ => c_Mul w _ _ ((rowI m i).getD k 0) ((rowI n k).getD j 0) (K + L) (IsZ.can (by rw [ea]; exact bd_up (hx.at i k) (by omega))) (IsZ.can (by rw [eb]; exact bd_up (hy.at k j) (by omega))) (by omega)) fun w v w' _ _ _ hR => ?_
            subst hR
            skip
            refine r_call0 (by first | trivial | exact ⟨rfl, rfl⟩) rfl rfl rfl (fun w _ _ => c_Add w _ _ ((((muS m n pre i ks k j).drop (i * n.c)).take n.c).getD j 0) ((rowI m i).getD k 0 * (rowI n k).getD j 0) (K + L + 2) (IsZ.can (by rw [es, show enz n.c (muS m n pre i ks k j) i j = muF m n pre i ks k j i j from enz_tbz hi hj]; exact muF_bd hbc hx hy (by omega) (by omega))) (IsZ.can (by rw [ea, eb]; exact bd_up (mul_bd (hx.at i k) (hy.at k j)) (by omega))) (by omega)) fun w v w' _ _ _ hR => ?_
            subst hR
            (repeat' (first | (apply r_idxZ; (iterate 4 exact rfl); (first | assumption | exact WZ.rd (by assumption) rfl [] | exact OwnZ.rd (by assumption)); (first | assumption | omega))))
            refine r_stZ (A := [_, _, _, _, _, _, _, _, _]) hO rfl rfl (by first | trivial | exact ⟨rfl, rfl⟩) (congrArg (fun a => some (Value.pointer (some a))) hat) rfl hlt (fun N' hO' => ?_)
            rw [es, ea, eb, muS_set hi hj] at hO'
            (repeat' (first | refine JC.ops ?_ | refine JO.nil ?_ | refine JX.thenN ?_ | (apply r_move; (iterate 3 exact rfl)) | (apply r_add1; (iterate 4 exact rfl); omega) | refine JX.blockN ?_))
            exact JX.roundH (j + 1, N') ⟨by dsimp only; omega, hO'⟩ (by dsimp only; omega) (by repeat first | exact trivial | refine ⟨rfl, ?_⟩) (HSub.skip (HSub.refl _))
        · (repeat' (first | refine JC.seq ?_ | refine JC.ops ?_ | refine JO.nil ?_ | refine JX.thenN ?_ | (apply r_lss; (iterate 4 exact rfl); all_goals intro hc; all_goals try (exfalso; omega)) | refine JX.thenE ?_ | refine JC.exit ?_ | refine JC.condF rfl ?_ | refine JX.blockN ?_ | refine JX.blockE ?_))
          obtain rfl : j = n.c := by omega
          rw [muS_next] at hO
          exact JX.bodyEnd ⟨N, rfl, hO⟩ (Cells.cons (Cells.cons (Cells.cons (Cells.cons (Cells.cons (Cells.cons (Cells.cons (Cells.cons (hO.cells.app Cells.nil))))))))) (HSub.refl _)
    · rintro _ ⟨N, rfl, hO⟩
      (repeat' (first | refine JX.blockN ?_))
      rw [← hr, muS_row] at hO
      exact JX.bodyEnd ⟨N, rfl, hO⟩ (Cells.cons (Cells.cons (Cells.cons (Cells.cons (Cells.cons (hO.cells.app Cells.nil)))))) (HSub.skip (HSub.skip (HSub.skip (HSub.refl _))))
  · rintro D _ ⟨N, rfl, hO⟩ hD
    simp only [toS, textOps, toSOp, kindAt, kindOf, odAt, sopsAt, ordOf]
    (repeat' (first | refine JC.seq ?_ | refine JC.ops ?_ | refine JO.nil ?_ | refine JX.thenN ?_ | (apply r_assign; (iterate 3 exact rfl)) | (apply r_loadN; (iterate 4 exact rfl); (first | exact at2 | exact at3); exact rfl) | (apply r_storeN; exact rfl; (first | exact trivial | exact ⟨rfl, rfl⟩); exact rfl; exact rfl; (first | exact at2 | exact at3); (iterate 3 exact rfl)) | (apply r_storeN; exact rfl; (first | exact trivial | exact ⟨rfl, rfl⟩); exact rfl; exact rfl; (first | exact at2 | exact at3); (iterate 3 exact rfl)) | refine JC.ret ?_))
    rw [muE_end] at hO
    refine JX.leaveM 0 rfl hD rfl ?_
    exact JX.retCT 2 rfl rfl rfl rfl (fun a w' st => ⟨st.kp, N, _, rfl, st.newOf rfl (by exact HSub.skip (HSub.skip (HSub.skip (HSub.skip (HSub.skip HSub.in0))))), OwnM.mk' hO⟩)



def dT : TR := ([], undef, [])
def tv (ts : List TR) (i : Nat) : Value := (ts.getD i dT).2.1
def tr' (ts : List TR) (i : Nat) : List Int := (ts.getD i dT).2.2
def tM (ts : List TR) : Mi := fun i j => (tr' ts i).getD j 0
theorem tv_get {ts : List TR} {i : Nat} (h : i < ts.length) : (ts.map (·.2.1))[i]? = some (tv ts i) := by
  rw [List.getElem?_map, gD_lt (d := dT) h]
  rfl
theorem tg_mem {ts : List TR} {i : Nat} (h : i < ts.length) : ts.getD i dT ∈ ts := mem_getD h
theorem OwnT.row {N : SHeap} {v : Value} {c : Nat} {ts : List TR} (h : OwnT N v c ts) {i : Nat} (hi : i < ts.length) : OwnZ (ts.getD i dT).1 (tv ts i) c (tr' ts i) := h.rows _ (tg_mem hi)
theorem tH_sub : ∀ {ts : List TR} {t : TR}, t ∈ ts → HSub t.1 (tH ts)
  | [], _, h => by cases h
  | x :: ts, t, h => by
    have e : tH (x :: ts) = x.1 ++ tH ts := by simp [tH]
    rw [e]
    rcases List.mem_cons.1 h with rfl | h
    · exact HSub.in0
    · exact HSub.skipN (tH_sub h)
theorem tH_cut {ts : List TR} {i : Nat} (hi : i < ts.length) : tH ts = tH (ts.take i) ++ ((ts.getD i dT).1 ++ tH (ts.drop (i + 1))) := by
  have h1 : ts = ts.take i ++ (ts.getD i dT :: ts.drop (i + 1)) := by
    conv => lhs; rw [← List.take_append_drop i ts]
    congr 1
    rw [List.drop_eq_getElem_cons hi]
    congr 1
    simp only [List.getD, List.getElem?_eq_getElem hi, Option.getD_some]
  conv => lhs; rw [h1]
  rw [tH_append]
  simp [tH]
theorem tH_set {ts : List TR} {i : Nat} (hi : i < ts.length) (t : TR) : tH (ts.set i t) = tH (ts.take i) ++ (t.1 ++ tH (ts.drop (i + 1))) := by
  rw [tH_cut (ts := ts.set i t) (i := i) (by simpa using hi)]
  rw [List.take_set_of_le (Nat.le_refl _), List.drop_set_of_lt (by omega)]
  congr 2
  simp [List.getD, hi]
theorem tM_set {ts : List TR} {i j : Nat} {N : SHeap} {v : Value} {u : Int} (hi : i < ts.length) (hj : j < (tr' ts i).length) (a b : Nat) : tM (ts.set i (N, v, (tr' ts i).set j u)) a b = if a = i ∧ b = j then u else tM ts a b := by
  unfold tM tr'
  by_cases ha : a = i
  · subst ha
    rw [set_getD (d := dT) hi, if_pos rfl]
    show ((tr' ts a).set j u).getD b 0 = _
    rw [set_getD (d := 0) hj]
    by_cases hb : b = j
    · rw [if_pos hb, if_pos ⟨rfl, hb⟩]
    · rw [if_neg hb, if_neg (fun h => hb h.2)]; rfl
  · rw [set_getD (d := dT) hi, if_neg ha, if_neg (fun h => ha h.1)]
theorem tv_set {ts : List TR} {i : Nat} {N : SHeap} {l : List Int} (hi : i < ts.length) (a : Nat) : tv (ts.set i (N, tv ts i, l)) a = tv ts a := by
  unfold tv
  rw [set_getD (d := dT) hi]
  split
  · rename_i h; subst h; rfl
  · rfl
theorem tvs_set {ts : List TR} {i : Nat} {N : SHeap} {l : List Int} (hi : i < ts.length) : (ts.set i (N, tv ts i, l)).map (·.2.1) = ts.map (·.2.1) := by
  rw [List.map_set]
  refine List.ext_getElem? (fun k => ?_)
  rw [List.getElem?_set]
  split
  · rename_i h
    subst h
    rw [if_pos (by simpa using hi), tv_get hi]
  · rfl

section
variable {c : Cx} {Q : Exit → Act → World → Prop} {m : Mode} {F : SFrame} {H : SHeap} {r : List SOp} {g : Option (Option Tmp × Bool)} {ns : Bool} {d : Tmp} {ty t t' : TypeId} {x y : Operand} {N : SHeap} {v : Value} {cc : Nat} {ts : List TR}
theorem OwnT.rd (h : OwnT N v cc ts) : Rd c N 1 v ts.length (ts.map (·.2.1)) := OwnRow.rd h.outer
theorem r_lenT {e : TypeId} {n : Nat} [TSl c.P t e] (hd : dstOk c.n (some d) = true) (hg : guardF F g = some true) (hx : ev F x = some v) (hT : OwnT N v cc ts) (hn : ts.length = n)
    (h : JO c Q m r ((d, .int .i64 n) :: F) H) : JO c Q m (⟨some d, .call ⟨.builtin .len, #[x], #[t]⟩, ty, g, .mov, ns⟩ :: r) F H := r_lenR hd hg hx hT.rd (by rw [hn]; exact h)
theorem r_idxT {e : TypeId} {j : Nat} {k : IntKind} [TSl c.P t e] [TSz c.P e 1] (hd : dstOk c.n (some d) = true) (hg : guardF F g = some true) (hx : ev F x = some v) (hy : ev F y = some (.int k j)) (hT : OwnT N v cc ts) (hj : j < ts.length)
    (h : JO c Q m r ((d, .pointer (some (vAt v j))) :: F) H) : JO c Q m (⟨some d, .indexAddr t x y, ty, g, .mov, ns⟩ :: r) F H := r_idxR1 hd hg hx hy hT.rd hj h
theorem r_ldT {i : Nat} {V : Nat → Value} [T1 c.P t] (hd : dstOk c.n (some d) = true) (hg : guardF F g = some true) (hx : ev F x = some (.pointer (some (vAt v i)))) (hl : m.live = true) (hT : OwnT N v cc ts) (hV : ∀ a, tv ts a = V a) (hN : HSub N (m.src H)) (hi : i < ts.length)
    (h : JO c Q m r ((d, V i) :: F) H) : JO c Q m (⟨some d, .load t x, ty, g, .ld, ns⟩ :: r) F H := r_ldR hd hg hx hl hT.rd hN (tv_get hi) (by rw [hV]; exact h)
theorem r_lenTr {e : TypeId} {i : Nat} {V : Nat → Value} [TSl c.P t e] (hd : dstOk c.n (some d) = true) (hg : guardF F g = some true) (hx : ev F x = some (V i)) (hV : ∀ a, tv ts a = V a) (hT : OwnT N v cc ts) (hi : i < ts.length)
    (h : JO c Q m r ((d, .int .i64 cc) :: F) H) : JO c Q m (⟨some d, .call ⟨.builtin .len, #[x], #[t]⟩, ty, g, .mov, ns⟩ :: r) F H := r_lenZ hd hg (by rw [hx, hV]) (hT.row hi).rd h
theorem r_idxTr {e : TypeId} {i j : Nat} {V : Nat → Value} {k : IntKind} [TSl c.P t e] [TSz c.P e 2] (hd : dstOk c.n (some d) = true) (hg : guardF F g = some true) (hx : ev F x = some (V i)) (hy : ev F y = some (.int k j)) (hV : ∀ a, tv ts a = V a) (hT : OwnT N v cc ts) (hi : i < ts.length) (hj : j < cc)
    (h : JO c Q m r ((d, .pointer (some (vAt (V i) (j * 2)))) :: F) H) : JO c Q m (⟨some d, .indexAddr t x y, ty, g, .mov, ns⟩ :: r) F H := r_idxZ hd hg (by rw [hx, hV]) hy (hT.row hi).rd hj (by rw [hV]; exact h)
theorem r_ldTr {i j : Nat} {V : Nat → Value} [TN c.P t 2] (hd : dstOk c.n (some d) = true) (hg : guardF F g = some true) (hx : ev F x = some (.pointer (some (vAt (V i) (j * 2))))) (hl : m.live = true) (hV : ∀ a, tv ts a = V a) (hT : OwnT N v cc ts) (hN : HSub (tH ts) (m.src H)) (hi : i < ts.length) (hj : j < cc)
    (h : JO c Q m r ((d, Wv (tM ts i j)) :: F) H) : JO c Q m (⟨some d, .load t x, ty, g, .ld, ns⟩ :: r) F H := r_ldZ hd hg (by rw [hx, hV]) hl (hT.row hi).rd ((tH_sub (tg_mem hi)).trans hN) hj h
theorem r_stTr {A B : SHeap} {i j : Nat} {u : Int} {V : Nat → Value} [TN c.P t 2] (hV : ∀ a, tv ts a = V a) (hT : OwnT N v cc ts) (hH : H = A ++ (N ++ (tH ts ++ B))) (hg : guardF F g = some true) (hm : m.mayStore ns r) (hx : ev F x = some (.pointer (some (vAt (V i) (j * 2))))) (hy : ev F y = some (Wv u))
    (hi : i < ts.length) (hj : j < cc) (h : ∀ ts', OwnT N v cc ts' → ts'.length = ts.length → (∀ a, tv ts' a = V a) → (∀ a b, tM ts' a b = if a = i ∧ b = j then u else tM ts a b) → JO c Q m.spent r F (A ++ (N ++ (tH ts' ++ B)))) : JO c Q m (⟨none, .store t x y, ty, g, .seq, ns⟩ :: r) F H := by
  refine r_stZ (A := A ++ (N ++ tH (ts.take i))) (B := tH (ts.drop (i + 1)) ++ B) (hT.row hi) (by rw [hH, tH_cut hi]; simp only [List.append_assoc]) hg hm (by rw [hx, hV]) hy hj (fun N' hO' => ?_)
  have h1 := h (ts.set i (N', tv ts i, (tr' ts i).set j u)) ⟨by rw [List.length_set, tvs_set hi]; exact hT.outer, fun q hq => by
    rcases List.mem_or_eq_of_mem_set hq with hq | rfl
    · exact hT.rows q hq
    · exact hO'⟩ (by simp) (fun a => by rw [tv_set hi]; exact hV a) (tM_set hi (by rw [(hT.row hi).len]; exact hj))
  rw [tH_set hi] at h1
  simpa only [List.append_assoc] using h1
theorem tv_one (hT : OwnT N v cc ts) {i : Nat} (hi : i < ts.length) : (tv ts i).cells.toList = [tv ts i] ∧ (tv ts i).oneCell' = true := by
  obtain ⟨A, cap, e⟩ := (hT.row hi).form
  rw [e]
  exact ⟨rfl, rfl⟩
end

section
variable {c : Cx} {Q : Exit → Act → World → Prop} {m : Mode} {F : SFrame} {H : SHeap} {r : List SOp} {g : Option (Option Tmp × Bool)} {ns : Bool} {d : Tmp} {ty t t' : TypeId} {x y : Operand}
theorem r_ldRs {N : SHeap} {sz n i : Nat} {v u : Value} {cs : List Value} [T1 c.P t] (hm : m.mayCall ns r) (hd : dstOk c.n (some d) = true) (hg : guardF F g = some true) (hx : ev F x = some (.pointer (some (vAt v i)))) (hv : Rd c N sz v n cs) (hN : HSub N H) (hu : cs[i]? = some u)
    (h : JO c Q m r ((d, u) :: F) H) : JO c Q m (⟨some d, .load t x, ty, g, .seq, ns⟩ :: r) F H := by
  refine r_seqR (v := u) (dd := some d) hm hd hg (fun a w fr hs => ?_) h
  have hi := (List.getElem?_eq_some_iff.1 hu).1
  obtain ⟨hlen, A, cap, rfl, _, hv⟩ := hv
  have h0 : 0 < n := by
    rcases Nat.eq_zero_or_pos n with h | h
    · subst h; simp at hlen; simp [hlen] at hi
    · exact h
  have := (hv h0).2 w (hs.part hN) i u hu
  simp only [execOp, fr.ev hx, Sem.run_bind, run_load1 this, Result.andThen_ok, Sem.run_pure]
theorem r_stOK {e : TypeId} {N A B Hs : SHeap} {sz n i : Nat} {v u : Value} {cs : List Value} [T1 c.P t] (hO : OwnRow e sz N v n cs) (hH : H = A ++ (N ++ B)) (hHs : HSub Hs (A ++ B)) (hg : guardF F g = some true) (hx : ev F x = some (.pointer (some (vAt v i)))) (hy : ev F y = some u)
    (hc : u.cells.toList = [u]) (hv : u.oneCell' = true) (hi : i < n * sz) (h : ∀ N', OwnRow e sz N' v n (cs.set i u) → JO c Q (.draw Hs true) r F (A ++ (N' ++ B))) :
    JO c Q (.draw Hs true) (⟨none, .store t x y, ty, g, .seq, ns⟩ :: r) F H := by
  obtain ⟨b, cap, cur, rfl, rfl, h1, h2⟩ := hO.set hi
  subst hH
  simp only [vAt_lit, Nat.zero_add] at hx
  have hb : (A ++ ([(b, Obj.cells cur e (0, 0))] ++ B))[A.length]? = some (b, .cells cur e (0, 0)) := by simp
  have hk := h _ (h2 u)
  have hset : (A ++ ([(b, Obj.cells cur e (0, 0))] ++ B)).set A.length (b, .cells (cur.setIfInBounds i u) e (0, 0)) = A ++ ([(b, .cells (cur.setIfInBounds i u) e (0, 0))] ++ B) := by simp
  refine ⟨⟨rfl, .inr ⟨hg, fun a w st _ => ?_⟩⟩⟩
  have hm' : (b, Obj.cells cur e (0, 0)) ∈ A ++ ([(b, Obj.cells cur e (0, 0))] ++ B) := List.mem_of_getElem? hb
  have hcs : u.cells.size = 1 := by rw [← Array.length_toList, hc]; rfl
  obtain ⟨w', h1', h2', h3, h4, h5, h6, h7⟩ := run_storeAt (P := c.P) (t := t) (n := 1) T1.size (o := i) (v := u) (w := w) hcs (by rw [hc]; intro q hq; cases List.mem_singleton.1 hq; exact hv) (st.hs.blk _ hm') (by omega)
  rw [hc] at h2'
  have h2'' : w'.heap[b]? = some (.cells (cur.setIfInBounds i u) e (0, 0)) := h2'
  obtain ⟨st', hstep⟩ := setBlk st hb h2'' h3 h4 h5 h6 h7
  rw [hset] at st'
  unfold Oper.wp SOp.oper
  simp only [execOp, st.fr.ev hx, st.fr.ev hy, Sem.run_bind, h1', Result.andThen_ok, Sem.run_pure]
  have hs2 : HSub Hs (A ++ ([(b, Obj.cells (cur.setIfInBounds i u) e (0, 0))] ++ B)) := hHs.trans (HSub.sub (List.Sublist.append_left (List.sublist_append_right _ _) A))
  exact ⟨hstep, F, _, .draw Hs true, st', fun j hj => .inl (by rw [← hset] at hj; exact keys_set hb j hj), ⟨rfl, fun _ => ⟨rfl, hs2.hsat st'.hs⟩, fun _ => rfl, .inl rfl⟩, hk.h⟩
end

def swT (ts : List TR) (p q : Nat) : List TR := (ts.set p (ts.getD q dT)).set q (ts.getD p dT)
theorem swT_len (ts : List TR) (p q : Nat) : (swT ts p q).length = ts.length := by simp [swT]
theorem swT_get {ts : List TR} {p q : Nat} (hp : p < ts.length) (hq : q < ts.length) (i : Nat) : (swT ts p q).getD i dT = if i = q then ts.getD p dT else if i = p then ts.getD q dT else ts.getD i dT := by
  unfold swT
  rw [set_getD (d := dT) (by simpa using hq), set_getD (d := dT) hp]
theorem swT_M {ts : List TR} {p q : Nat} (hp : p < ts.length) (hq : q < ts.length) (i j : Nat) : tM (swT ts p q) i j = if i = q then tM ts p j else if i = p then tM ts q j else tM ts i j := by
  unfold tM tr'
  rw [swT_get hp hq]
  split
  · rfl
  · split <;> rfl
theorem swT_perm {ts : List TR} {p q : Nat} (hp : p < ts.length) (hq : q < ts.length) : (swT ts p q).Perm ts := by
  have h := Array.swap_perm (xs := ts.toArray) (i := p) (j := q) (by simpa using hp) (by simpa using hq)
  have e : (ts.toArray.swap p q (by simpa using hp) (by simpa using hq)).toList = swT ts p q := by
    unfold swT
    simp [Array.swap, List.getD, hp, hq]
  have h2 := Array.perm_iff_toList_perm.1 h
  rw [e] at h2
  exact h2
theorem tH_perm {a b : List TR} (h : a.Perm b) : (tH a).Perm (tH b) := (h.map _).flatten
theorem swT_vs {ts : List TR} {p q : Nat} (hp : p < ts.length) (hq : q < ts.length) : (swT ts p q).map (·.2.1) = ((ts.map (·.2.1)).set p (tv ts q)).set q (tv ts p) := by
  unfold swT
  rw [List.map_set, List.map_set]
  rfl


theorem OwnRow.keys_eq {e : TypeId} {sz n : Nat} {N N' : SHeap} {v : Value} {cs cs' : List Value} (h : OwnRow e sz N v n cs) (h' : OwnRow e sz N' v n cs') : keys N = keys N' := by
  obtain ⟨_, ⟨h1, _, h3⟩ | ⟨b, cap, cur, h1, h3, _⟩⟩ := h
  · obtain ⟨_, ⟨_, _, k3⟩ | ⟨b, cap, cur, k1, _⟩⟩ := h'
    · rw [h3, k3]
    · rw [h1] at k1; cases k1
  · obtain ⟨_, ⟨k1, _, _⟩ | ⟨b', cap', cur', k1, k3, _⟩⟩ := h'
    · rw [h1] at k1; cases k1
    · rw [h1] at k1
      cases k1
      rw [h3, k3]
      rfl


theorem c_Det1 (w : World) (v : Value) (b n k : Nat) (zs : List Int) (hb : w.heap[b]? = some (.cells #[nv k] 3 (0, 0))) (hv : WZ w v n zs) (hk : k < n) :
    Calls Tryd.prog 48 #[v, .pointer (some ⟨b, 0, none⟩)] w (Ret fun u w' => Kp [] w w' ∧ u = .bool (decide (zs.getD k 0 ≠ 0))) := by
  have hc0 : w.cell? ⟨b, 0, none⟩ = some (nv k) := cell_of_blk hb rfl
  refine calls_of_S [] [] (by simp) [] Tryd.func48 rfl mixed (by kernel_rfl) Tryd.ntmps48 Tryd.results48 rfl ⟨by simp, by simp⟩ (by simp) ?_
  simp only [toS, textOps, toSOp, kindAt, kindOf, odAt, sopsAt, ordOf, zipF]
  have hR := WZ.rd (c := ⟨Tryd.prog, 10, w, [], by simp⟩) hv rfl []
  (repeat' (first | refine JC.seq ?_ | refine JC.ops ?_ | refine JO.nil ?_ | refine JX.thenN ?_ | (apply r_move; (iterate 3 exact rfl)) | (apply r_assign; (iterate 3 exact rfl)) | (apply r_idxZ; (iterate 4 exact rfl); (first | assumption | exact WZ.rd (by assumption) rfl [] | exact OwnZ.rd (by assumption)); (first | assumption | omega)) | (apply r_ldZ; (iterate 4 exact rfl); (first | assumption | exact WZ.rd (by assumption) rfl [] | exact OwnZ.rd (by assumption)); (repeat' first | exact HSub.nil _ | exact HSub.hd | exact HSub.in0 | exact HSub.refl _ | refine HSub.skip ?_ | refine HSub.skipN ?_); (first | assumption | omega)) | (apply r_ldW; (iterate 4 exact rfl); assumption; (first | assumption | exact (by simp)))))
  refine r_call0 trivial rfl rfl rfl (fun w _ _ => c_zeroZ w (zs.getD k 0)) fun w v w' _ _ _ hR => ?_
  subst hR
  (repeat' (first | refine JO.nil ?_ | refine JX.thenN ?_ | (apply r_assign; (iterate 3 exact rfl)) | (apply r_not; (iterate 3 exact rfl)) | refine JC.ret ?_))
  exact JX.ret1 rfl (fun a w' st => ⟨st.kp, by simp⟩)

set_option maxHeartbeats 1000000 in
theorem c_IndexFuncT {f : FuncId} [TF Tryd.prog f] {fst cap : Array Value} (pred : Nat → Bool) (w : World) (E : Value) (n : Nat) (vs : List Value) (V : Nat → Value) (hE : RdW w 1 E n vs) (hV : ∀ i, i < n → vs[i]? = some (V i)) (hn : n < 9223372036854775807)
    (hcl : ∀ i w', i < n → Kp [] w w' → Calls Tryd.prog f (fst ++ #[V i] ++ cap) w' (Ret fun v w'' => Kp [] w' w'' ∧ v = .bool (pred i))) :
    Calls Tryd.prog 47 #[E, .func (.func f) fst cap] w (Ret fun v w' => Kp [] w w' ∧ ((∃ p : Nat, v = nv p ∧ p < n ∧ pred p = true) ∨ (v = iv (-1) ∧ ∀ i, i < n → pred i = false))) := by
  refine calls_of_S [] [] (by simp) [] Tryd.func47 rfl mixed (by kernel_rfl) Tryd.ntmps47 Tryd.results47 rfl ⟨by simp, by simp⟩ (by simp) ?_
  simp only [toS, textOps, toSOp, kindAt, kindOf, odAt, sopsAt, ordOf, zipF]
  have hR := RdW.rd (c := ⟨Tryd.prog, 19, w, [], by simp⟩) hE rfl []
  (repeat' (first | refine JC.seq ?_ | refine JC.ops ?_ | refine JO.nil ?_ | refine JX.thenN ?_ | (apply r_move; (iterate 3 exact rfl)) | (apply r_assign; (iterate 3 exact rfl))))
  refine r_lenR rfl rfl rfl hR ?_
  (repeat' (first | refine JO.nil ?_ | refine JX.thenN ?_ | (apply r_move; (iterate 3 exact rfl)) | refine JC.block ?_))
  refine JC.loopH (ι := Nat) ⟨fun k => [(8, nv k), (7, nv n), (0, E), (1, .func (.func f) fst cap)], fun _ => [], fun k => k ≤ n ∧ ∀ i, i < k → pred i = false, fun k => n - k⟩ 0 ⟨by omega, fun i h => by omega⟩ ⟨rfl, rfl, rfl, rfl, trivial⟩ (HSub.nil _) (fun k hk => ?_)
  obtain ⟨hkn, hpr⟩ := hk
  dsimp only
  by_cases hlt : k < n
  · (repeat' (first | refine JC.seq ?_ | refine JC.ops ?_ | refine JO.nil ?_ | refine JX.thenN ?_ | (apply r_move; (iterate 3 exact rfl)) | (apply r_assign; (iterate 3 exact rfl)) | (apply r_lss; (iterate 4 exact rfl); all_goals intro hc; all_goals try (exfalso; omega)) | refine JC.skip ?_ | refine JC.condT rfl ?_ | refine JC.block ?_))
    refine r_idxR1 rfl rfl rfl rfl hR hlt ?_
    skip
    refine r_ldR rfl rfl rfl rfl hR (HSub.nil _) (hV k hlt) ?_
    skip
    refine r_callV0 trivial rfl rfl rfl rfl (fun w' hk _ => hcl k w' hlt hk) fun w v w' _ _ _ hv => ?_
    subst hv
    cases hp : pred k
    · (repeat' (first | refine JC.ops ?_ | refine JO.nil ?_ | refine JX.thenN ?_ | (apply r_move; (iterate 3 exact rfl)) | (apply r_add1; (iterate 4 exact rfl); omega) | refine JC.skip ?_ | refine JC.condF rfl ?_ | refine JX.blockN ?_))
      refine JX.roundH (k + 1) ⟨by omega, fun i h => ?_⟩ (by dsimp only; omega) ⟨rfl, rfl, rfl, rfl, trivial⟩ (HSub.nil _)
      rcases Nat.lt_or_ge i k with h' | h'
      · exact hpr i h'
      · have : i = k := by omega
        subst this; exact hp
    · (repeat' (first | refine JC.seq ?_ | refine JC.ops ?_ | refine JO.nil ?_ | refine JX.thenN ?_ | (apply r_move; (iterate 3 exact rfl)) | (apply r_assign; (iterate 3 exact rfl)) | refine JX.thenR ?_ | refine JC.ret ?_ | refine JC.condT rfl ?_ | refine JX.blockR ?_))
      exact JX.ret1 rfl (fun a w' st => ⟨st.kp, .inl ⟨k, rfl, hlt, hp⟩⟩)
  · (repeat' (first | refine JC.seq ?_ | refine JC.ops ?_ | refine JO.nil ?_ | refine JX.thenN ?_ | (apply r_assign; (iterate 3 exact rfl)) | (apply r_lss; (iterate 4 exact rfl); all_goals intro hc; all_goals try (exfalso; omega)) | refine JX.thenE ?_ | refine JC.exit ?_ | refine JC.ret ?_ | refine JC.condF rfl ?_ | refine JX.blockE ?_))
    exact JX.ret1 rfl (fun a w' st => ⟨st.kp, .inr ⟨rfl, fun i hi => hpr i (by omega)⟩⟩)

theorem smI_bd' {B : Nat} : ∀ {n : Nat} {f : Nat → Int}, (∀ i, i < n → (f i).natAbs ≤ B) → (smI n f).natAbs ≤ n * B
  | 0, f, _ => by simp [smI]
  | n + 1, f, h => by
    rw [smI]
    have h1 := smI_bd' (n := n) (f := f) (fun i hi => h i (by omega))
    have h2 := h n (by omega)
    have h3 := Int.natAbs_add_le (smI n f) (f n)
    rw [Nat.add_mul, Nat.one_mul]
    omega
theorem det_bd {K : Nat} : ∀ {n : Nat} {A : Mi}, n ≤ 256 → (∀ i j, (A i j).natAbs < 256 ^ K) → (det n A).natAbs ≤ 256 ^ (n * (K + 1))
  | 0, A, _, _ => by simp [det]
  | n + 1, A, hn, h => by
    rw [det]
    have h1 := smI_bd' (n := n + 1) (f := fun i => sg i * A i 0 * det n (fun a b => A (sk i a) (b + 1))) (B := 256 ^ K * 256 ^ (n * (K + 1))) (fun i hi => by
      have h2 := det_bd (n := n) (A := fun a b => A (sk i a) (b + 1)) (by omega) (fun a b => h _ _)
      have h3 : (sg i * A i 0).natAbs ≤ 256 ^ K := by
        have := h i 0
        unfold sg
        split
        · rw [Int.one_mul]; omega
        · rw [show (-1 : Int) * A i 0 = -(A i 0) by omega, Int.natAbs_neg]; omega
      rw [Int.natAbs_mul]
      exact Nat.mul_le_mul h3 h2)
    refine Nat.le_trans h1 ?_
    have e : 256 ^ ((n + 1) * (K + 1)) = 256 * (256 ^ K * 256 ^ (n * (K + 1))) := by
      rw [← Nat.pow_add, ← Nat.pow_succ']
      congr 1
      rw [Nat.add_mul]; omega
    rw [e]
    exact Nat.mul_le_mul_right _ hn
theorem bm_bd {K k n : Nat} {A : Mi} {i j : Nat} (hk : k < n) (hn : n ≤ 200) (h : ∀ i j, (A i j).natAbs < 256 ^ K) : (bm k A i j).natAbs < 256 ^ (n * (K + 1) + 1) := by
  have h1 := det_bd (K := K) (n := k + 1) (A := bd k A i j) (by omega) (fun a b => h _ _)
  unfold bm
  refine Nat.lt_of_le_of_lt h1 (Nat.pow_lt_pow_right (by decide) ?_)
  have := Nat.mul_le_mul_right (K + 1) (show k + 1 ≤ n from hk)
  omega

end Go.Proofs.YtemdknkghacheaaDoor

