/- Canonical digits of a number, bytes, Knuth's division, signs, the greatest common divisor: plain laws. -/
import Derived.Test.YtdehklhdjbkneaaDoorWidH
namespace Go.Proofs.YtdehklhdjbkneaaDoor
open Go Go.RowKit
set_option linter.unusedSimpArgs false
set_option linter.unusedVariables false
set_option linter.unusedSectionVars false

/-- The first guess is not too small. -/
theorem kn_start {W P top second lv a b c lu U V : Nat} (ht : 0 < top) (hV : V = (top * W + second) * P + lv) (hU : U = ((a * W + b) * W + c) * P + lu) (hc : c < W) (hlu : lu < P) : U / V ≤ (a * W + b) / top := by
  rw [Nat.le_div_iff_mul_le ht]
  have h1 : U / V * V ≤ U := Nat.div_mul_le_self U V
  have h2 : top * W * P ≤ V := by rw [hV, Nat.add_mul]; omega
  have h3 : U / V * (top * W * P) ≤ U := Nat.le_trans (Nat.mul_le_mul_left _ h2) h1
  have h4 : U < (a * W + b + 1) * (W * P) := by
    have e1 : (c + 1) * P ≤ W * P := Nat.mul_le_mul_right _ hc
    rw [Nat.add_mul] at e1
    have e2 : U = (a * W + b) * (W * P) + (c * P + lu) := by rw [hU, Nat.add_mul, Nat.mul_assoc (a * W + b) W P, Nat.add_assoc]
    rw [e2, Nat.add_mul (a * W + b) 1]
    omega
  have h5 : U / V * top * (W * P) < (a * W + b + 1) * (W * P) := by
    have : U / V * (top * W * P) = U / V * top * (W * P) := by simp only [Nat.mul_assoc]
    rw [← this]
    omega
  have h6 := Nat.lt_of_mul_lt_mul_right h5
  omega
/-- A guess that is refused is too great. -/
theorem kn_dec {P V2 U3 lv lu U V g : Nat} (hV : V = V2 * P + lv) (hU : U = U3 * P + lu) (hlu : lu < P) (h : U3 < g * V2) : U / V < g := by
  have h1 : U < g * V := by
    have h2 : (U3 + 1) * P ≤ g * V2 * P := Nat.mul_le_mul_right _ h
    have h3 : g * V2 * P ≤ g * V := by rw [hV, Nat.mul_add, Nat.mul_assoc]; omega
    rw [Nat.add_mul] at h2
    omega
  exact Nat.div_lt_of_lt_mul (by rw [Nat.mul_comm]; exact h1)
/-- A guess that is kept is at most one too great. -/
theorem kn_end {P V2 U3 lv lu U V g : Nat} (hV : V = V2 * P + lv) (hlv : lv < P) (hV2 : 0 < V2) (hU : U = U3 * P + lu) (h : g * V2 ≤ U3) (hg : g ≤ V2 + 1) : g ≤ U / V + 1 := by
  rcases g with _ | g
  · exact Nat.zero_le _
  have hP : 0 < P := by omega
  have hVp : 0 < V := by rw [hV]; have := Nat.mul_pos hV2 hP; omega
  have h1 : g * V ≤ U := by
    have h2 : V ≤ (V2 + 1) * P := by rw [Nat.add_mul]; omega
    have h3 : g * V ≤ g * ((V2 + 1) * P) := Nat.mul_le_mul_left _ h2
    have h4 : g * (V2 + 1) ≤ (g + 1) * V2 := by rw [Nat.mul_add, Nat.add_mul]; omega
    have h5 : g * (V2 + 1) * P ≤ (g + 1) * V2 * P := Nat.mul_le_mul_right _ h4
    have h6 : (g + 1) * V2 * P ≤ U3 * P := Nat.mul_le_mul_right _ h
    rw [← Nat.mul_assoc] at h3
    omega
  have : g ≤ U / V := (Nat.le_div_iff_mul_le hVp).2 h1
  omega
/-- The loop's way out. -/
theorem kn_out {W top second two c g rest : Nat} (hr : two = g * top + rest) (hg : g < W) (hs : second < W) (h : W ≤ rest ∨ g * second ≤ rest * W + c) : g * (top * W + second) ≤ two * W + c := by
  have e : two * W = g * top * W + rest * W := by rw [hr, Nat.add_mul]
  have e2 : g * (top * W + second) = g * top * W + g * second := by rw [Nat.mul_add, Nat.mul_assoc]
  rw [e, e2]
  rcases h with h | h
  · have h1 : g * second ≤ W * W := Nat.mul_le_mul (by omega) (by omega)
    have h2 : W * W ≤ rest * W := Nat.mul_le_mul_right _ h
    omega
  · omega

/-! canonical digits of a number -/
def digF (b : Nat) : Nat → Nat → List Nat
  | 0, _ => []
  | f + 1, n => if n = 0 then [] else n % b :: digF b f (n / b)
def dig (b n : Nat) : List Nat := digF b n n

theorem digF_ok {b : Nat} (hb : 2 ≤ b) : ∀ (f n : Nat), n ≤ f → Dig b (digF b f n) ∧ val b (digF b f n) = n
  | 0, n, h => by
    obtain rfl : n = 0 := by omega
    exact ⟨Dig.nil b, rfl⟩
  | f + 1, n, h => by
    rw [digF]
    by_cases h0 : n = 0
    · rw [if_pos h0, h0]; exact ⟨Dig.nil b, rfl⟩
    · rw [if_neg h0]
      have hlt : n / b < n := Nat.div_lt_self (by omega) hb
      obtain ⟨h1, h2⟩ := digF_ok hb f (n / b) (by omega)
      refine ⟨⟨fun x hx => ?_, ?_⟩, by rw [val, h2, Nat.mod_add_div]⟩
      · rcases List.mem_cons.1 hx with rfl | hx
        · exact Nat.mod_lt _ (by omega)
        · exact h1.lt x hx
      · rw [nrm, h1.nrm]
        cases hc : digF b f (n / b) with
        | nil =>
          have hz : n / b = 0 := by rw [← h2, hc]; rfl
          have hm : n % b ≠ 0 := by
            have := Nat.mod_add_div n b
            rw [hz] at this
            omega
          show (if n % b = 0 then [] else [n % b]) = [n % b]
          rw [if_neg hm]
        | cons y s => rfl
theorem dig_ok {b : Nat} (hb : 2 ≤ b) (n : Nat) : Dig b (dig b n) := (digF_ok hb n n (Nat.le_refl _)).1
theorem val_dig {b : Nat} (hb : 2 ≤ b) (n : Nat) : val b (dig b n) = n := (digF_ok hb n n (Nat.le_refl _)).2
theorem Dig.eq_dig {b : Nat} (hb : 2 ≤ b) {l : List Nat} (h : Dig b l) : l = dig b (val b l) := h.inj (dig_ok hb _) (val_dig hb _).symm
theorem dig_zero (b : Nat) : dig b 0 = [] := rfl
theorem dig_nil {b n : Nat} (hb : 2 ≤ b) : dig b n = [] ↔ n = 0 := ⟨fun h => by rw [← val_dig hb n, h]; rfl, fun h => by rw [h]; rfl⟩
/-- A number below b^k has at most k digits. -/
theorem Dig.len_le {b : Nat} (hb : 2 ≤ b) {l : List Nat} (h : Dig b l) {k : Nat} (hv : val b l < b ^ k) : l.length ≤ k := by
  by_cases h0 : l = []
  · subst h0; exact Nat.zero_le _
  · have h1 := val_ge (Nat.lt_of_lt_of_le (by decide) hb) h.nrm h0
    have h2 : b ^ (l.length - 1) < b ^ k := Nat.lt_of_le_of_lt h1 hv
    have h3 := (Nat.pow_lt_pow_iff_right (show 1 < b from hb)).1 h2
    omega
theorem dig_len_le {b : Nat} (hb : 2 ≤ b) {n k : Nat} (hv : n < b ^ k) : (dig b n).length ≤ k := (dig_ok hb n).len_le hb (by rw [val_dig hb]; exact hv)
theorem Dig.eq_nil {b : Nat} (hb : 0 < b) {l : List Nat} (h : Dig b l) : l = [] ↔ val b l = 0 := ⟨fun e => by subst e; rfl, fun e => Decidable.byContradiction fun h0 => by
  exact absurd e (Nat.ne_of_gt (val_pos hb h.nrm h0))⟩

/-! bytes, the most significant one first -/
theorem nrm_zero_cons {l : List Nat} : nrm (l.reverse) = (l.dropWhile (· == 0)).reverse := by
  induction l with
  | nil => rfl
  | cons x l ih =>
    rw [List.reverse_cons]
    by_cases hx : x = 0
    · subst hx; rw [nrm_snoc0, ih]; rfl
    · rw [nrm_snoc _ hx, List.dropWhile, show (x == 0) = false by simp [hx]]; simp
/-- The value of bytes, the most significant one first. -/
def bval (l : List Nat) : Nat := val 256 l.reverse
theorem bval_snoc (l : List Nat) (x : Nat) : bval (l ++ [x]) = x + 256 * bval l := by
  unfold bval
  rw [List.reverse_append]
  rfl
theorem bval_nil : bval [] = 0 := rfl
theorem bval_trim (l : List Nat) : bval (l.dropWhile (· == 0)) = bval l := by
  unfold bval
  rw [← nrm_zero_cons, val_nrm]
theorem bval_take (l : List Nat) (i : Nat) (h : i < l.length) : bval (l.take (i + 1)) = l.getD i 0 + 256 * bval (l.take i) := by
  rw [List.take_add_one, gD_lt (d := 0) h]
  exact bval_snoc _ _
theorem bval_lt {l : List Nat} (h : ∀ x ∈ l, x < 256) : bval l < 256 ^ l.length := by
  have := val_lt (b := 256) (l := l.reverse) (by simpa using h)
  simpa [bval] using this
/-- The canonical bytes of a number. -/
def mag (n : Nat) : List Nat := (dig 256 n).reverse
theorem mag_lt {n : Nat} : ∀ x ∈ mag n, x < 256 := fun x hx => (dig_ok (by decide) n).lt x (by simpa [mag] using hx)
theorem bval_mag (n : Nat) : bval (mag n) = n := by unfold bval mag; rw [List.reverse_reverse]; exact val_dig (by decide) n
theorem mag_of {l : List Nat} (h : ∀ x ∈ l, x < 256) : l.dropWhile (· == 0) = mag (bval l) := by
  have h1 : Dig 256 ((l.dropWhile (· == 0)).reverse) := by
    rw [← nrm_zero_cons]
    exact Dig.of (by simpa using h)
  have h2 := h1.eq_dig (by decide)
  unfold mag
  have h3 : val 256 (l.dropWhile (· == 0)).reverse = bval l := bval_trim l
  rw [← h3, ← h2, List.reverse_reverse]
theorem mag_nil {n : Nat} : mag n = [] ↔ n = 0 := by
  unfold mag
  rw [List.reverse_eq_nil_iff]
  exact dig_nil (by decide)
theorem mag_len {n k : Nat} (h : n < 256 ^ k) : (mag n).length ≤ k := by
  unfold mag
  rw [List.length_reverse]
  exact dig_len_le (by decide) h
theorem mag_inj {n m : Nat} (h : mag n = mag m) : n = m := by rw [← bval_mag n, h, bval_mag]
theorem val_cut (b : Nat) (l : List Nat) (k : Nat) (h : k ≤ l.length) : val b l = val b (l.take k) + b ^ k * val b (l.drop k) := by
  conv => lhs; rw [← List.take_append_drop k l]
  rw [val_append, List.length_take, Nat.min_eq_left h]
theorem val_drop {b : Nat} {l : List Nat} {k : Nat} (h : k < l.length) : val b (l.drop k) = l.getD k 0 + b * val b (l.drop (k + 1)) := by
  rw [List.drop_eq_getElem_cons h]
  simp [val, List.getD, h]
theorem val_drop_nil {b : Nat} {l : List Nat} {k : Nat} (h : l.length ≤ k) : val b (l.drop k) = 0 := by
  rw [List.drop_eq_nil_of_le h]; rfl
theorem getD_drop (l : List Nat) (i j : Nat) : (l.drop i).getD j 0 = l.getD (i + j) 0 := by simp [List.getD]
/-- The three words at k. -/
theorem val_top3 {W : Nat} {l : List Nat} {k : Nat} (h : k + 3 ≤ l.length) (h0 : val W (l.drop (k + 3)) = 0) : val W l = ((l.getD (k + 2) 0 * W + l.getD (k + 1) 0) * W + l.getD k 0) * W ^ k + val W (l.take k) := by
  rw [val_cut W l k (by omega), val_drop (by omega), val_drop (show k + 1 < l.length by omega), val_drop (show k + 1 + 1 < l.length by omega), h0]
  simp only [Nat.mul_zero, Nat.add_zero]
  rw [Nat.mul_comm (_ + _) (W ^ k), Nat.add_comm]
  congr 2
  rw [Nat.mul_comm W, Nat.add_comm, Nat.mul_comm W, Nat.add_comm (l.getD (k + 1) 0)]
theorem val_top2 {W : Nat} {l : List Nat} {k : Nat} (h : k + 2 = l.length) : val W l = (l.getD (k + 1) 0 * W + l.getD k 0) * W ^ k + val W (l.take k) := by
  rw [val_cut W l k (by omega), val_drop (by omega), val_drop (show k + 1 < l.length by omega), val_drop_nil (by omega)]
  simp only [Nat.mul_zero, Nat.add_zero]
  rw [Nat.mul_comm (_ + _) (W ^ k), Nat.add_comm]
  congr 2
  rw [Nat.mul_comm W, Nat.add_comm]
theorem val_take_lt {W : Nat} {l : List Nat} (h : ∀ x ∈ l, x < W) {k : Nat} (hk : k ≤ l.length) : val W (l.take k) < W ^ k := by
  have := val_lt (b := W) (l := l.take k) fun x hx => h x (List.mem_of_mem_take hx)
  rwa [List.length_take, Nat.min_eq_left hk] at this
/-- What lies above is 0 where the whole is small. -/
theorem val_high0 {W : Nat} {l : List Nat} {k : Nat} (h : val W l < W ^ k) (hk : k ≤ l.length) : val W (l.drop k) = 0 := by
  rw [val_cut W l k hk] at h
  by_cases h0 : val W (l.drop k) = 0
  · exact h0
  · have := Nat.le_mul_of_pos_right (W ^ k) (Nat.pos_of_ne_zero h0)
    omega

structure KnStep (W : Nat) (u v : List Nat) (i m U V top second a b c : Nat) : Prop where
  lt : U < V * W
  hV : ∃ lv, lv < W ^ (m - 2) ∧ V = (top * W + second) * W ^ (m - 2) + lv
  hU : ∃ lu, lu < W ^ (m - 2) ∧ U = ((a * W + b) * W + c) * W ^ (m - 2) + lu
  head : val W ((u.drop i).take (m + 1)) = U
  tail : val W (u.drop (i + m + 1)) = 0
theorem kn_step {W : Nat} {u v : List Nat} {i m : Nat} (hu : ∀ x ∈ u, x < W) (hv : ∀ x ∈ v, x < W) (hm : v.length = m) (hm2 : 2 ≤ m) (hi : i + m < u.length) (h : val W (u.drop (i + 1)) < val W v) :
    KnStep W u v i m (val W (u.drop i)) (val W v) (v.getD (m - 1) 0) (v.getD (m - 2) 0) (u.getD (i + m) 0) (u.getD (i + m - 1) 0) (u.getD (i + m - 2) 0) := by
  have hud : ∀ x ∈ u.drop i, x < W := fun x hx => hu x (List.mem_of_mem_drop hx)
  have hVlt : val W v < W ^ m := by have := val_lt hv; rwa [hm] at this
  have e0 := val_drop (b := W) (l := u) (k := i) (by omega)
  have hx0 : u.getD i 0 < W := hu _ (mem_getD (by omega))
  have hlt : val W (u.drop i) < val W v * W := by
    rw [e0]
    have := Nat.mul_le_mul_left W h
    rw [Nat.mul_succ] at this
    rw [Nat.mul_comm _ W]
    omega
  have hlt2 : val W (u.drop i) < W ^ (m + 1) := by
    rw [Nat.pow_succ]
    exact Nat.lt_of_lt_of_le hlt (Nat.mul_le_mul_right _ (Nat.le_of_lt hVlt))
  have hlen : (u.drop i).length = u.length - i := by simp
  have h0 := val_high0 hlt2 (by omega)
  refine ⟨hlt, ⟨_, val_take_lt hv (by omega), ?_⟩, ⟨_, val_take_lt hud (k := m - 2) (by omega), ?_⟩, ?_, ?_⟩
  · have := val_top2 (W := W) (l := v) (k := m - 2) (by omega)
    rwa [show m - 2 + 1 = m - 1 by omega] at this
  · have := val_top3 (W := W) (l := u.drop i) (k := m - 2) (by omega) (by rwa [show m - 2 + 3 = m + 1 by omega])
    rw [getD_drop, getD_drop, getD_drop] at this
    rwa [show i + (m - 2 + 2) = i + m by omega, show i + (m - 2 + 1) = i + m - 1 by omega, show i + (m - 2) = i + m - 2 by omega] at this
  · have := val_cut W (u.drop i) (m + 1) (by omega)
    rw [h0] at this
    omega
  · rw [List.drop_drop] at h0
    rwa [show i + (m + 1) = i + m + 1 by omega] at h0
/-! numbers with a sign -/
def sgn (p : Bool) (n : Nat) : Int := if p then -(n : Int) else n
theorem sgn_natAbs (p : Bool) (n : Nat) : (sgn p n).natAbs = n := by cases p <;> simp [sgn]
theorem sgn_neg (p : Bool) (n : Nat) : decide (sgn p n < 0) = (p && decide (n ≠ 0)) := by
  cases p
  · simp [sgn]
  · by_cases h : n = 0
    · subst h; rfl
    · simp [sgn, h]; omega
theorem sgn_self (z : Int) : sgn (decide (z < 0)) z.natAbs = z := by
  unfold sgn
  by_cases h : z < 0
  · simp only [h, decide_true, if_true]; omega
  · simp only [h, decide_false, Bool.false_eq_true, if_false]; omega
theorem sgn_not (p : Bool) (n : Nat) : sgn (!p) n = -sgn p n := by cases p <;> simp [sgn]
theorem sgn_add (p : Bool) (x y : Nat) : sgn p (x + y) = sgn p x + sgn p y := by cases p <;> simp [sgn]; omega
theorem sgn_sub1 {p q : Bool} {x y : Nat} (h : p ≠ q) (hxy : x < y) : sgn q (y - x) = sgn p x + sgn q y := by cases p <;> cases q <;> simp_all [sgn] <;> omega
theorem sgn_sub2 {p q : Bool} {x y : Nat} (h : p ≠ q) (hxy : ¬ x < y) : sgn p (x - y) = sgn p x + sgn q y := by cases p <;> cases q <;> simp_all [sgn] <;> omega
theorem sgn_mul (p q : Bool) (x y : Nat) : sgn (p != q) (x * y) = sgn p x * sgn q y := by cases p <;> cases q <;> simp [sgn, Int.neg_mul, Int.mul_neg]
theorem sgn_zero (p : Bool) : sgn p 0 = 0 := by cases p <;> rfl
theorem sgn_eq_zero (p : Bool) (n : Nat) : sgn p n = 0 ↔ n = 0 := by cases p <;> simp [sgn]

theorem quo_unique {a b q r : Int} (h : a = q * b + r) (h0 : 0 ≤ r) (h1 : r < b.natAbs) : q = a / b ∧ r = a % b := by
  have hb : b ≠ 0 := by omega
  have e := Int.mul_ediv_add_emod a b
  have m0 := Int.emod_nonneg a hb
  have m1 : a % b < b.natAbs := Int.emod_lt a hb
  have key : (q - a / b) * b = a % b - r := by
    rw [Int.sub_mul, Int.mul_comm (a / b) b]; omega
  have : q = a / b := by
    refine Decidable.byContradiction fun hne => ?_
    have h2 : 1 ≤ (q - a / b).natAbs := by omega
    have h3 : ((q - a / b) * b).natAbs = (q - a / b).natAbs * b.natAbs := Int.natAbs_mul _ _
    have h4 : b.natAbs ≤ (q - a / b).natAbs * b.natAbs := Nat.le_mul_of_pos_left _ h2
    rw [key] at h3
    omega
  refine ⟨this, ?_⟩
  rw [this] at key
  simp at key
  omega

/-- What Quo computes of absolute values. -/
theorem quo_law (p q : Bool) (x y n r : Nat) (hy : 0 < y) (hn : x = n * y + r) (hr : r < y) :
    (p = true ∧ 0 < r → sgn (p != q) (n + 1) = sgn p x / sgn q y ∧ ((y - r : Nat) : Int) = sgn p x % sgn q y) ∧
    (¬ (p = true ∧ 0 < r) → sgn (p != q) n = sgn p x / sgn q y ∧ (r : Int) = sgn p x % sgn q y) := by
  constructor
  · rintro ⟨rfl, h0⟩
    refine quo_unique ?_ (by omega) (by rw [sgn_natAbs]; omega)
    have e : (x : Int) = n * y + r := by exact_mod_cast hn
    have e2 : ((y - r : Nat) : Int) = y - r := by omega
    rw [e2]
    cases q
    · simp only [sgn, Bool.true_bne, Bool.not_false, if_true, Bool.false_eq_true, if_false]
      rw [e]; push_cast; rw [Int.neg_mul, Int.add_mul, Int.one_mul]; omega
    · simp only [sgn, Bool.true_bne, Bool.not_true, if_true, Bool.false_eq_true, if_false]
      rw [e]; push_cast; rw [Int.mul_neg, Int.add_mul, Int.one_mul]; omega
  · intro h
    have e : (x : Int) = n * y + r := by exact_mod_cast hn
    refine quo_unique ?_ (by omega) (by rw [sgn_natAbs]; omega)
    cases p
    · cases q
      · simpa [sgn] using e
      · simp only [sgn, Bool.false_bne, if_true, Bool.false_eq_true, if_false]
        rw [e, Int.neg_mul_neg]
    · have : r = 0 := by
        refine Decidable.byContradiction fun hne => h ⟨rfl, by omega⟩
      subst this
      cases q
      · simp only [sgn, Bool.true_bne, Bool.not_false, if_true, Bool.false_eq_true, if_false]
        rw [e, Int.neg_mul]; omega
      · simp only [sgn, Bool.true_bne, Bool.not_true, if_true, Bool.false_eq_true, if_false]
        rw [e, Int.mul_neg]; omega

/-- What Gcd returns. -/
structure GcdP (a b g x y : Int) : Prop where
  e : g = Int.gcd a b
  z : b = 0 → x = a.sign ∧ y = 0
  n : b ≠ 0 → 0 ≤ x ∧ x * g < b.natAbs ∧ x * a + y * b = g
theorem GcdP.unique {a b g x y g' x' y' : Int} (h : GcdP a b g x y) (h' : GcdP a b g' x' y') : g = g' ∧ x = x' ∧ y = y' := by
  have hg : g = g' := h.e.trans h'.e.symm
  subst hg
  refine ⟨rfl, ?_⟩
  by_cases hb : b = 0
  · obtain ⟨h1, h2⟩ := h.z hb
    obtain ⟨h3, h4⟩ := h'.z hb
    exact ⟨h1.trans h3.symm, h2.trans h4.symm⟩
  · obtain ⟨a0, a1, a2⟩ := h.n hb
    obtain ⟨b0, b1, b2⟩ := h'.n hb
    have hgp : 0 < g := by
      have := h.e
      have h1 : 0 < Int.gcd a b := Int.gcd_pos_of_ne_zero_right _ hb
      omega
    have e1 : (x - x') * a = (y' - y) * b := by rw [Int.sub_mul, Int.sub_mul]; omega
    have e2 : (x - x') * g = (x * (y' - y) + y * (x - x')) * b := by
      have : (x - x') * (x * a + y * b) = (x * (y' - y) + y * (x - x')) * b := by
        rw [Int.mul_add, Int.add_mul, Int.mul_assoc x, ← e1]
        simp only [Int.mul_left_comm, Int.mul_comm, Int.mul_assoc]
      rw [a2] at this; exact this
    have e3 : ((x - x') * g).natAbs = (x * (y' - y) + y * (x - x')).natAbs * b.natAbs := by rw [e2, Int.natAbs_mul]
    have a3 : 0 ≤ x * g := Int.mul_nonneg a0 (by omega)
    have b3 : 0 ≤ x' * g := Int.mul_nonneg b0 (by omega)
    have e4 : ((x - x') * g).natAbs < b.natAbs := by rw [Int.sub_mul]; omega
    have hx : x = x' := by
      refine Decidable.byContradiction fun hne => ?_
      have h0 : (x - x') * g ≠ 0 := Int.mul_ne_zero (by omega) (by omega)
      by_cases hz : (x * (y' - y) + y * (x - x')).natAbs = 0
      · rw [hz, Nat.zero_mul] at e3
        omega
      · have := Nat.le_mul_of_pos_left b.natAbs (Nat.pos_of_ne_zero hz)
        omega
    subst hx
    refine ⟨rfl, ?_⟩
    have : (y' - y) * b = 0 := by rw [← e1, Int.sub_self, Int.zero_mul]
    rcases Int.mul_eq_zero.1 this with h1 | h1
    · omega
    · exact absurd h1 hb
theorem gcd_step (g h : Int) : Int.gcd h (g % h) = Int.gcd g h := by
  have e := Int.mul_ediv_add_emod g h
  have e2 : g % h = g - h * (g / h) := by omega
  rw [e2, Int.gcd_sub_mul_left_right, Int.gcd_comm]

/-- A round of Euclid: g and h are sums of multiples of a and b. -/
structure GI (a b g h x u : Int) : Prop where
  ex : ∃ y, x * a + y * b = g
  eu : ∃ v, u * a + v * b = h
  gcd : Int.gcd g h = Int.gcd a b
  g0 : 0 ≤ g
  h0 : 0 ≤ h
  sz : x.natAbs * h.natAbs + u.natAbs * g.natAbs ≤ 3 * b.natAbs

theorem lin_step {a b g h x u : Int} (ex : ∃ y, x * a + y * b = g) (eu : ∃ v, u * a + v * b = h) : ∃ v, (x - g / h * u) * a + v * b = g % h := by
  obtain ⟨y, hy⟩ := ex
  obtain ⟨v, hv⟩ := eu
  refine ⟨y - g / h * v, ?_⟩
  have e := Int.mul_ediv_add_emod g h
  have e2 : g % h = g - g / h * h := by rw [Int.mul_comm]; omega
  rw [e2]
  generalize g / h = q
  subst hy
  subst hv
  have e3 := Int.mul_add q (u * a) (v * b)
  rw [Int.sub_mul, Int.sub_mul, Int.mul_assoc q, Int.mul_assoc q, e3]
  omega

theorem GI.step {a b g h x u : Int} (H : GI a b g h x u) (hh : h ≠ 0) : GI a b h (g % h) u (x - g / h * u) := by
  have r0 := Int.emod_nonneg g hh
  refine ⟨H.eu, lin_step H.ex H.eu, (gcd_step g h).trans H.gcd, H.h0, r0, ?_⟩
  have hq0 : 0 ≤ g / h := Int.ediv_nonneg H.g0 H.h0
  have e := Int.mul_ediv_add_emod g h
  obtain ⟨G, rfl⟩ := Int.eq_ofNat_of_zero_le H.g0
  obtain ⟨K, rfl⟩ := Int.eq_ofNat_of_zero_le H.h0
  have e2 : (G : Int) % K = ((G % K : Nat) : Int) := rfl
  have e3 : (G : Int) / K = ((G / K : Nat) : Int) := rfl
  have hs := H.sz
  rw [e2, e3]
  simp only [Int.natAbs_natCast] at hs ⊢
  have h1 : (x - ((G / K : Nat) : Int) * u).natAbs ≤ x.natAbs + G / K * u.natAbs := by
    have := Int.natAbs_sub_le x (((G / K : Nat) : Int) * u)
    rwa [Int.natAbs_mul, Int.natAbs_natCast] at this
  have h2 : (x - ((G / K : Nat) : Int) * u).natAbs * K ≤ (x.natAbs + G / K * u.natAbs) * K := Nat.mul_le_mul_right _ h1
  have h3 : u.natAbs * (G % K) + (x.natAbs + G / K * u.natAbs) * K = x.natAbs * K + u.natAbs * G := by
    conv => rhs; rw [← Nat.mod_add_div G K]
    rw [Nat.add_mul, Nat.mul_add, Nat.mul_comm (G / K), Nat.mul_assoc, Nat.mul_comm (G / K) K]
    omega
  omega

theorem GI.start (a b : Int) : GI a b (a.natAbs : Int) (b.natAbs : Int) a.sign 0 := by
  refine ⟨⟨0, ?_⟩, ?_, ?_, by omega, by omega, ?_⟩
  · have := Int.mul_sign_self a; rw [Int.mul_comm] at this; omega
  · refine ⟨b.sign, ?_⟩
    have := Int.mul_sign_self b; rw [Int.mul_comm] at this; omega
  · simp [Int.gcd]
  · simp only [Int.natAbs_natCast, Int.natAbs_zero, Nat.zero_mul, Nat.add_zero]
    have : a.sign.natAbs ≤ 1 := by rcases Int.lt_trichotomy a 0 with h | h | h <;> simp [Int.sign_eq_neg_one_of_neg, Int.sign_eq_one_of_pos, h]
    have := Nat.mul_le_mul_right b.natAbs this
    omega

/-- The rounds of the reference, whose first two have numbers with signs. -/
def GR (a b g h x u : Int) : Prop := (g = a ∧ h = b ∧ x = 1 ∧ u = 0) ∨ (g = b ∧ b < 0 ∧ h = a % b ∧ x = 0 ∧ u = 1) ∨ GI a b g h x u
theorem GR.step {a b g h x u : Int} (H : GR a b g h x u) (hb : b ≠ 0) (hh : h ≠ 0) : GR a b h (g % h) u (x - g / h * u) := by
  rcases H with ⟨rfl, rfl, rfl, rfl⟩ | ⟨rfl, hlt, rfl, rfl, rfl⟩ | H
  · have r0 := Int.emod_nonneg g hh
    by_cases hneg : h < 0
    · exact .inr (.inl ⟨rfl, hneg, rfl, rfl, by simp⟩)
    · refine .inr (.inr ⟨⟨1, by simp⟩, ⟨-(g / h), ?_⟩, gcd_step g h, by omega, r0, ?_⟩)
      · have e := Int.mul_ediv_add_emod g h
        rw [Int.mul_zero, Int.sub_zero, Int.one_mul, Int.neg_mul, Int.mul_comm]; omega
      · simp; omega
  · have r0 := Int.emod_nonneg a hb
    have r1 := Int.emod_lt a hb
    have s0 := Int.emod_nonneg g hh
    have s1 := Int.emod_lt g hh
    have e := Int.mul_ediv_add_emod a g
    refine .inr (.inr ⟨⟨-(a / g), ?_⟩, ?_, ?_, r0, s0, ?_⟩)
    · rw [Int.one_mul, Int.neg_mul, Int.mul_comm]; omega
    · exact lin_step ⟨1, by simp⟩ ⟨-(a / g), by rw [Int.one_mul, Int.neg_mul, Int.mul_comm]; omega⟩
    · rw [gcd_step, Int.gcd_comm]
      exact (Int.gcd_comm _ _).trans (gcd_step a g)
    · have e' := Int.mul_ediv_add_emod g (a % g)
      have h1 : ((0 : Int) - g / (a % g) * 1).natAbs * (a % g).natAbs = (a % g * (g / (a % g))).natAbs := by
        rw [← Int.natAbs_mul, Int.mul_one, Int.zero_sub, Int.neg_mul, Int.natAbs_neg, Int.mul_comm]
      rw [h1]
      simp only [Int.natAbs_one, Nat.one_mul]
      omega
  · exact .inr (.inr (H.step hh))

/-- The end of Gcd. -/
theorem gcd_end {a b g x0 y0 : Int} (hg : g = Int.gcd a b) (hb : b ≠ 0) (h : x0 * a + y0 * b = g) : GcdP a b g (x0 % (b / g)) ((g - x0 % (b / g) * a) / b) := by
  have hgp : 0 < g := by
    have h1 : 0 < Int.gcd a b := Int.gcd_pos_of_ne_zero_right _ hb
    omega
  have da : g ∣ a := by rw [hg]; exact Int.gcd_dvd_left ..
  have db : g ∣ b := by rw [hg]; exact Int.gcd_dvd_right ..
  obtain ⟨a', ha⟩ := da
  have hm : b / g * g = b := Int.ediv_mul_cancel db
  have hm0 : b / g ≠ 0 := fun e => by rw [e, Int.zero_mul] at hm; exact hb hm.symm
  refine ⟨hg, fun e => absurd e hb, fun _ => ⟨Int.emod_nonneg _ hm0, ?_, ?_⟩⟩
  · have h1 := Int.emod_lt x0 hm0
    have h2 : (b / g).natAbs * g.natAbs = b.natAbs := by rw [← Int.natAbs_mul, hm]
    have h3 : (x0 % (b / g)) * g < ((b / g).natAbs : Int) * g := Int.mul_lt_mul_of_pos_right h1 hgp
    have h4 : ((b / g).natAbs : Int) * g = b.natAbs := by rw [← h2]; push_cast; congr 1; omega
    omega
  · have e := Int.mul_ediv_add_emod x0 (b / g)
    have e1 : x0 % (b / g) = x0 - (b / g) * (x0 / (b / g)) := by omega
    have e2 : g - x0 % (b / g) * a = (y0 + x0 / (b / g) * a') * b := by
      rw [e1, Int.sub_mul, Int.add_mul]
      have e3 : b / g * (x0 / (b / g)) * a = x0 / (b / g) * a' * b := by
        generalize x0 / (b / g) = t
        conv => rhs; rw [← hm]
        rw [ha]
        generalize b / g = s
        simp only [Int.mul_left_comm, Int.mul_comm, Int.mul_assoc]
      omega
    rw [e2, Int.mul_ediv_cancel _ hb]
    omega
theorem abs_quo_emod {b g x : Int} (db : g ∣ b) : x % ((b.natAbs : Int) / g) = x % (b / g) := by
  rcases Int.natAbs_eq b with h | h
  · rw [← h]
  · have e : (b.natAbs : Int) / g = -(b / g) := by
      have : (b.natAbs : Int) = -b := by omega
      rw [this, Int.neg_ediv_of_dvd db]
    rw [e, Int.emod_neg]
theorem gcd_zero_end (a : Int) : GcdP a 0 a.natAbs a.sign 0 := ⟨by simp, fun _ => ⟨rfl, rfl⟩, fun h => absurd rfl h⟩

end Go.Proofs.YtdehklhdjbkneaaDoor
