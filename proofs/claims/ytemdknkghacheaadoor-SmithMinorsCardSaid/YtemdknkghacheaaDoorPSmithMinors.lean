import Derived.Test.YtemdknkghacheaaDoorMj
import Derived.Test.YtemdknkghacheaaDoorMk
import Derived.Test.YtemdknkghacheaaDoorTie
import Derived.Test.YtemdknkghacheaaDoorCards
import Derived.Shelf.Lay
import Derived.Lay
import Derived.LaidOnce
import Derived.SevenTiedAt
/- The law SmithMinors: the walk. ROWZ ROWT SMITH -/
namespace Go.Proofs.YtemdknkghacheaaDoor
open Go Go.RowKit
set_option linter.unusedSimpArgs false
set_option linter.unusedVariables false
set_option linter.unusedSectionVars false

def mnE (E : ME) (row col : Nat) : Int := m2 E ((row + 1) % 3) ((row + 2) % 3) ((col + 1) % 3) ((col + 2) % 3)
set_option maxHeartbeats 4000000 in
theorem c_minor (w : World) (v : Value) (X : List (List Int)) (hv : IsRows w v X) (hX : X.length = 3) (hr : ∀ i, i < 3 → (X.getD i []).length = 3) (hb : ∀ i j, ((X.getD i []).getD j 0).natAbs ≤ 999) (row col : Nat) (h1 : row < 3) (h2 : col < 3) :
    Calls Tryd.prog 21 #[v, nv row, nv col] w (Ret fun v w' => Kp [] w w' ∧ v = iv (mnE (ofE X) row col)) := by
  obtain ⟨vs, hvs, hrow⟩ := hv
  rw [hX] at hvs hrow
  refine calls_of_S [⟨5, 1, [], []⟩] [] (by simp) [] Tryd.func21 rfl mixed (by kernel_rfl) Tryd.ntmps21 Tryd.results21 rfl ⟨by simp, by simp⟩ (by simp) ?_
  simp only [toS, textOps, toSOp, kindAt, kindOf, odAt, sopsAt, ordOf, zipF]
  have hR : Rd ⟨Tryd.prog, 54, w, [], by simp⟩ [] 1 v 3 vs := hvs.rd rfl []
  have hRr : ∀ i, i < 3 → RdI ⟨Tryd.prog, 54, w, [], by simp⟩ [] (vs.getD i (iv 0)) 3 (X.getD i []) := fun i hi => by
    have := (hrow i hi).rd (c := ⟨Tryd.prog, 54, w, [], by simp⟩) rfl []
    rwa [hr i hi] at this
  have hvl : vs.length = 3 := by have := hvs.1; omega
  obtain ⟨a, ha⟩ : ∃ a, a = (row + 1) % 3 := ⟨_, rfl⟩
  obtain ⟨b, hbb⟩ : ∃ b, b = (row + 2) % 3 := ⟨_, rfl⟩
  obtain ⟨c, hc⟩ : ∃ c, c = (col + 1) % 3 := ⟨_, rfl⟩
  obtain ⟨d, hd⟩ : ∃ d, d = (col + 2) % 3 := ⟨_, rfl⟩
  unfold mnE
  rw [← ha, ← hbb, ← hc, ← hd]
  have ha3 : a < 3 := by omega
  have hb3 : b < 3 := by omega
  have hc3 : c < 3 := by omega
  have hd3 : d < 3 := by omega
  (repeat' (first | refine JC.seq ?_ | refine JC.ops ?_ | refine JC.opsD ?_ | refine JO.nil ?_ | refine JX.thenN ?_ | (apply r_move; (iterate 3 exact rfl)) | (apply r_assign; (iterate 3 exact rfl)) | (apply r_add1; (iterate 4 exact rfl); omega) | (apply r_add; (iterate 4 exact rfl); omega) | (apply r_mod; (iterate 4 exact rfl); omega)))
  have t1 : ((row + 1 : Nat) : Int).tmod 3 = (a : Int) := by rw [ha, Int.tmod_eq_emod_of_nonneg (by omega)]; omega
  have t2 : ((row : Int) + 2).tmod 3 = (b : Int) := by rw [hbb, Int.tmod_eq_emod_of_nonneg (by omega)]; omega
  have t3 : ((col + 1 : Nat) : Int).tmod 3 = (c : Int) := by rw [hc, Int.tmod_eq_emod_of_nonneg (by omega)]; omega
  have t4 : ((col : Int) + 2).tmod 3 = (d : Int) := by rw [hd, Int.tmod_eq_emod_of_nonneg (by omega)]; omega
  rw [t1, t2, t3, t4]
  clear t1 t2 t3 t4 ha hbb hc hd
  have hRa := hRr a ha3
  have hRb := hRr b hb3
  have hmul : ∀ i j k l, (((X.getD i []).getD j 0) * ((X.getD k []).getD l 0)).natAbs ≤ 999 * 999 := fun i j k l => by
    rw [Int.natAbs_mul]; exact Nat.mul_le_mul (hb i j) (hb k l)
  have m1 := hmul a c b d
  have m2' := hmul a d b c
  refine r_idxR1 rfl rfl rfl rfl hR ha3 ?_
  skip
  refine r_ldR rfl rfl rfl rfl hR (HSub.nil _) (gD_lt (d := iv 0) (by omega)) ?_
  (repeat' (first | (apply r_move; (iterate 3 exact rfl)) | (apply r_idxI; (iterate 4 exact rfl); (first | assumption | exact WI.rd (by assumption) rfl [] | exact OwnI.rd (by assumption)); (first | assumption | omega)) | (apply r_ldI; (iterate 4 exact rfl); (first | assumption | exact WI.rd (by assumption) rfl [] | exact OwnI.rd (by assumption)); (repeat' first | exact HSub.nil _ | exact HSub.hd | exact HSub.in0 | exact HSub.refl _ | refine HSub.skip ?_ | refine HSub.skipN ?_); (first | assumption | omega))))
  refine r_idxR1 rfl rfl rfl rfl hR hb3 ?_
  skip
  refine r_ldR rfl rfl rfl rfl hR (HSub.nil _) (gD_lt (d := iv 0) (by omega)) ?_
  (repeat' (first | (apply r_move; (iterate 3 exact rfl)) | (apply r_idxI; (iterate 4 exact rfl); (first | assumption | exact WI.rd (by assumption) rfl [] | exact OwnI.rd (by assumption)); (first | assumption | omega)) | (apply r_ldI; (iterate 4 exact rfl); (first | assumption | exact WI.rd (by assumption) rfl [] | exact OwnI.rd (by assumption)); (repeat' first | exact HSub.nil _ | exact HSub.hd | exact HSub.in0 | exact HSub.refl _ | refine HSub.skip ?_ | refine HSub.skipN ?_); (first | assumption | omega)) | (apply r_mul; (iterate 4 exact rfl); (first | assumption | omega))))
  refine r_idxR1 rfl rfl rfl rfl hR ha3 ?_
  skip
  refine r_ldR rfl rfl rfl rfl hR (HSub.nil _) (gD_lt (d := iv 0) (by omega)) ?_
  (repeat' (first | (apply r_move; (iterate 3 exact rfl)) | (apply r_idxI; (iterate 4 exact rfl); (first | assumption | exact WI.rd (by assumption) rfl [] | exact OwnI.rd (by assumption)); (first | assumption | omega)) | (apply r_ldI; (iterate 4 exact rfl); (first | assumption | exact WI.rd (by assumption) rfl [] | exact OwnI.rd (by assumption)); (repeat' first | exact HSub.nil _ | exact HSub.hd | exact HSub.in0 | exact HSub.refl _ | refine HSub.skip ?_ | refine HSub.skipN ?_); (first | assumption | omega))))
  refine r_idxR1 rfl rfl rfl rfl hR hb3 ?_
  skip
  refine r_ldR rfl rfl rfl rfl hR (HSub.nil _) (gD_lt (d := iv 0) (by omega)) ?_
  (repeat' (first | refine JO.nil ?_ | refine JX.thenN ?_ | (apply r_move; (iterate 3 exact rfl)) | (apply r_assign; (iterate 3 exact rfl)) | (apply r_idxI; (iterate 4 exact rfl); (first | assumption | exact WI.rd (by assumption) rfl [] | exact OwnI.rd (by assumption)); (first | assumption | omega)) | (apply r_ldI; (iterate 4 exact rfl); (first | assumption | exact WI.rd (by assumption) rfl [] | exact OwnI.rd (by assumption)); (repeat' first | exact HSub.nil _ | exact HSub.hd | exact HSub.in0 | exact HSub.refl _ | refine HSub.skip ?_ | refine HSub.skipN ?_); (first | assumption | omega)) | (apply r_sub; (iterate 4 exact rfl); omega) | (apply r_mul; (iterate 4 exact rfl); (first | assumption | omega)) | refine JC.ret ?_))
  exact JX.ret1 rfl (fun a w' st => ⟨st.kp, rfl⟩)

def mG (f : ME) : Nat → Int
  | 0 => 0
  | s + 1 => Int.gcd (mG f s) (f (s / 3) (s % 3))
theorem mG_nn (f : ME) : ∀ s, 0 ≤ mG f s
  | 0 => Int.le_refl _
  | s + 1 => Int.natCast_nonneg _
theorem mG_dv (f : ME) (c : Int) : ∀ s, (∀ t, t < s → c ∣ f (t / 3) (t % 3)) ↔ c ∣ mG f s
  | 0 => ⟨fun _ => Int.dvd_zero _, fun _ t ht => by omega⟩
  | s + 1 => by
    have ih := mG_dv f c s
    rw [mG]
    refine ⟨fun H => Int.dvd_coe_gcd (ih.1 fun t ht => H t (by omega)) (H s (by omega)), fun H t ht => ?_⟩
    by_cases e : t = s
    · subst e; exact Int.dvd_trans H (Int.gcd_dvd_right ..)
    · exact ih.2 (Int.dvd_trans H (Int.gcd_dvd_left ..)) t (by omega)
theorem mG_9 (f : ME) (c : Int) : (∀ i j, i < 3 → j < 3 → c ∣ f i j) ↔ c ∣ mG f 9 := by
  rw [← mG_dv f c 9]
  refine ⟨fun H t ht => H _ _ (by omega) (by omega), fun H i j hi hj => ?_⟩
  have := H (i * 3 + j) (by omega)
  rwa [show (i * 3 + j) / 3 = i by omega, show (i * 3 + j) % 3 = j by omega] at this
theorem mG_le {f : ME} {B : Nat} (h : ∀ i j, i < 3 → j < 3 → (f i j).natAbs ≤ B) : ∀ s, s ≤ 9 → (mG f s).natAbs ≤ B
  | 0, _ => Nat.zero_le _
  | s + 1, hs => by
    rw [mG, Int.natAbs_natCast]
    have ih := mG_le h s (by omega)
    have h1 := h (s / 3) (s % 3) (by omega) (by omega)
    by_cases h0 : f (s / 3) (s % 3) = 0
    · rw [h0, Int.gcd_zero_right]; exact ih
    · exact Nat.le_trans (Nat.le_of_dvd (by omega) (Int.natAbs_dvd_natAbs.2 (Int.gcd_dvd_right (a := mG f s) (b := f (s / 3) (s % 3))))) h1
theorem mn_dv (E : ME) (c : Int) : (∀ i j, i < 3 → j < 3 → c ∣ mnE E i j) ↔ DvB c E := by
  refine ⟨fun H a a' b b' ha ha' hb hb' => ?_, fun H i j hi hj => H _ _ _ _ (by omega) (by omega) (by omega) (by omega)⟩
  have zr : ∀ x y z, m2 E x x y z = 0 := fun x y z => by unfold m2; rw [Int.mul_comm]; omega
  have zc : ∀ x y z, m2 E x y z z = 0 := fun x y z => by unfold m2; omega
  have sr : ∀ x y z u, m2 E x y z u = -(m2 E y x z u) := fun x y z u => by unfold m2; grind
  have sc : ∀ x y z u, m2 E x y z u = -(m2 E x y u z) := fun x y z u => by unfold m2; grind
  by_cases e1 : a = a'
  · subst e1; rw [zr]; exact Int.dvd_zero _
  by_cases e2 : b = b'
  · subst e2; rw [zc]; exact Int.dvd_zero _
  have hrow : ∃ r, r < 3 ∧ ((a = (r + 1) % 3 ∧ a' = (r + 2) % 3) ∨ (a' = (r + 1) % 3 ∧ a = (r + 2) % 3)) := ⟨3 - a - a', by omega, by omega⟩
  have hcol : ∃ r, r < 3 ∧ ((b = (r + 1) % 3 ∧ b' = (r + 2) % 3) ∨ (b' = (r + 1) % 3 ∧ b = (r + 2) % 3)) := ⟨3 - b - b', by omega, by omega⟩
  obtain ⟨r, hr, h1⟩ := hrow
  obtain ⟨q, hq, h2⟩ := hcol
  have := H r q hr hq
  unfold mnE at this
  rcases h1 with ⟨x1, x2⟩ | ⟨x1, x2⟩ <;> rcases h2 with ⟨y1, y2⟩ | ⟨y1, y2⟩ <;> rw [← x1, ← x2, ← y1, ← y2] at this
  · exact this
  · rw [sc]; exact Int.dvd_neg.2 this
  · rw [sr]; exact Int.dvd_neg.2 this
  · rw [sr, sc]; exact Int.dvd_neg.2 (Int.dvd_neg.2 this)
theorem isRows_gen {c' : Cx} {H N : SHeap} {v : Value} {n m : Nat} {ts : List TR} {w : World} {X : List (List Int)} (hO : OwnRow 22 1 N v n (ts.map (·.2.1))) (htl : ts.length = n) (hrows : ∀ t ∈ ts, OwnI t.1 t.2.1 m t.2.2) (hts : ts.map (·.2.2) = X) (hk : Kp c'.M c'.w0 w) (hs : Hsat H w) (h1 : HSub N H) (h2 : HSub (tH ts) H) : IsRows w v X := by
  have hX : X.length = n := by rw [← hts, List.length_map, htl]
  refine ⟨ts.map (·.2.1), by rw [hX]; exact (OwnRow.rd (c := c') hO).at hk hs h1, fun i hi => ?_⟩
  have hi' : i < ts.length := by omega
  have e1 : (ts.map (·.2.1)).getD i (iv 0) = tv ts i := by rw [List.getD, tv_get hi']; rfl
  have e2 : tr' ts i = X.getD i [] := by
    rw [← hts]
    unfold tr'
    rw [List.getD, List.getD, List.getElem?_map, List.getElem?_eq_getElem hi']
    rfl
  have hm := tg_mem hi'
  have hR := ((hrows _ hm).rd (c := c')).at hk hs ((tH_sub hm).trans h2)
  have hl := (hrows _ hm).len
  rw [e1, ← e2]
  have e3 : (tr' ts i).length = m := hl
  rw [e3]
  exact hR
/-- A row of the matrix. -/
def mR (L : List Int) (i : Nat) : List Int := [(L.getD (3 * i) 0).tmod 1000, (L.getD (3 * i + 1) 0).tmod 1000, (L.getD (3 * i + 2) 0).tmod 1000]
def mX (L : List Int) : List (List Int) := (List.range 3).map (mR L)
theorem mX_len (L : List Int) : (mX L).length = 3 := by unfold mX; rw [List.length_map, List.length_range]
theorem mX_at (L : List Int) {i : Nat} (hi : i < 3) : (mX L).getD i [] = mR L i := by
  unfold mX
  rw [List.getD, List.getElem?_map, List.getElem?_range hi]; rfl
theorem tmod_le (n : Int) : (n.tmod 1000).natAbs ≤ 999 := by
  have h1 := Int.tmod_lt_of_pos n (show (0 : Int) < 1000 by decide)
  have h2 := Int.lt_tmod_of_pos n (show (0 : Int) < 1000 by decide)
  omega
theorem mX_le (L : List Int) (i j : Nat) : (((mX L).getD i []).getD j 0).natAbs ≤ 999 := by
  by_cases hi : i < 3
  · rw [mX_at L hi]
    unfold mR
    match j with
    | 0 => exact tmod_le _
    | 1 => exact tmod_le _
    | 2 => exact tmod_le _
    | j + 3 => exact Nat.zero_le _
  · rw [show (mX L).getD i [] = [] by rw [List.getD, List.getElem?_eq_none (by rw [mX_len]; omega)]; rfl]; exact Nat.zero_le _
theorem mX_ofC (L : List Int) : ofC (mX L) (mX L).length = 3 := by
  rw [mX_len]
  exact ofC_rec (fun i hi => by rw [mX_len] at hi; rw [mX_at L hi]; rfl) 3 (by decide) (by rw [mX_len]; decide)
theorem mX_rec (L : List Int) : Rec 3 3 (mX L) := ⟨mX_len L, fun x hx => by
  unfold mX at hx
  obtain ⟨i, _, rfl⟩ := List.mem_map.1 hx
  rfl⟩
theorem mX_bd (L : List Int) {K : Nat} (hK : 2 ≤ K) : BdZ K (ofZ (mX L)) := BdZ.of fun i j _ _ => Nat.lt_of_le_of_lt (mX_le L i j) (Nat.lt_of_lt_of_le (show 999 < 256 ^ 2 by decide) (Nat.pow_le_pow_right (by decide) hK))
theorem nat_mul256 {a b : Int} {k l : Nat} (ha : a.natAbs < 256 ^ k) (hb : b.natAbs < 256 ^ l) : (a * b).natAbs < 256 ^ (k + l) := by
  rw [Int.natAbs_mul, Nat.pow_add]; exact Nat.mul_lt_mul'' ha hb
theorem nat_mono256 {a : Int} {k l : Nat} (ha : a.natAbs < 256 ^ k) (h : k ≤ l) : a.natAbs < 256 ^ l := Nat.lt_of_lt_of_le ha (Nat.pow_le_pow_right (by decide) h)
theorem nat_two {a b c : Int} {k l : Nat} (ha : a.natAbs < 256 ^ k) (hb : b.natAbs < 256 ^ l) (hc : c.natAbs < 256 ^ k) (h : k + l ≤ 100000000) : ∃ K2, K2 ≤ 100000000 ∧ (a * b).natAbs < 256 ^ K2 ∧ c.natAbs < 256 ^ K2 := ⟨k + l, h, nat_mul256 ha hb, nat_mono256 hc (Nat.le_add_right _ _)⟩
theorem sub_app {a b c : Nat × Obj} {N M : SHeap} : HSub ([c] ++ (N ++ ((M ++ [b]) ++ []))) (a :: b :: c :: (N ++ (M ++ []))) := ⟨[a], by
  classical
  rw [List.perm_iff_count]
  intro x
  simp only [List.count_append, List.count_nil, List.count_cons]
  omega⟩
theorem own_lit3 (b : Nat) (x y z : Int) : OwnI [(b, .cells ⟨[iv x, iv y, iv z]⟩ 3)] (.slice (some ⟨b, 0, none⟩) 3 3) 3 [x, y, z] := by
  have h := OwnRow.mk' (e := 3) (sz := 1) (n := 3) (b := b) (cs := ⟨[iv x, iv y, iv z]⟩) (by simp) (by simp only [maxLen]; omega)
  exact h
set_option maxHeartbeats 16000000 in
theorem c_SmithMinors (w : World) (L0 : List Int) (hl : L0.length = 9) (hI : ∀ i, I64 (L0.getD i 0)) :
    Calls Tryd.prog 6 #[.agg ⟨L0.map iv⟩] w (Ret fun v w' => Kp [] w w' ∧ v = .bool true) := by
  have hcell : ∀ i, i < 9 → (⟨L0.map iv⟩ : Array Value)[i]? = some (iv (L0.getD i 0)) := fun i hi => by
    rw [List.getElem?_toArray, List.getElem?_map, List.getD, List.getElem?_eq_getElem (by omega)]; rfl
  refine calls_of_S [⟨6, 1, [], []⟩, ⟨16, 1, [], []⟩, ⟨17, 1, [], []⟩, ⟨23, 1, [0, 1, 2, 3, 4, 5, 6, 7, 8, 9, 10, 11, 12, 13, 14, 15, 16, 17, 19, 18, 20, 21, 22, 23, 24, 25, 26, 27, 28, 30, 31, 32, 34, 29, 33, 35, 36, 37], []⟩] [] (by simp) [] Tryd.func6 rfl mixed (by kernel_rfl) Tryd.ntmps6 Tryd.results6 rfl ⟨by simp, by simp⟩ (by simp) ?_
  simp only [toS, textOps, toSOp, kindAt, kindOf, odAt, sopsAt, ordOf, zipF]
  (repeat' (first | refine JC.seq ?_ | refine JC.ops ?_ | refine JO.nil ?_ | refine JX.thenN ?_ | (apply r_assign; (iterate 3 exact rfl)) | (apply r_boxA; (iterate 4 exact rfl); intro _)))
  rename_i b1
  refine r_call0 (by first | trivial | exact ⟨rfl, rfl⟩) rfl (by first | rfl | exact ⟨rfl, rfl⟩) rfl (fun w hk hs => c_sanity w) fun w v w' _ _ _ hR => ?_
  subst hR
  (repeat' (first | refine JO.nil ?_ | (apply r_assign; (iterate 3 exact rfl))))
  refine JX.part (F' := [(3, .bool true), (1, .pointer (some ⟨b1, 0, none⟩))]) (H' := [(b1, .cells ⟨L0.map iv⟩ 51)]) (by repeat first | exact trivial | refine ⟨rfl, ?_⟩) (by (repeat' first | exact HSub.refl _ | exact HSub.nil _ | refine HSub.at 0 rfl ?_ | refine HSub.at 1 rfl ?_ | refine HSub.at 2 rfl ?_ | refine HSub.at 3 rfl ?_ | refine HSub.at 4 rfl ?_ | refine HSub.at 5 rfl ?_ | refine HSub.at 6 rfl ?_ | refine HSub.at 7 rfl ?_ | refine HSub.at 8 rfl ?_ | refine HSub.at 9 rfl ?_ | refine HSub.at 10 rfl ?_ | refine HSub.at 11 rfl ?_ | refine HSub.at 12 rfl ?_ | refine HSub.at 13 rfl ?_ | refine HSub.at 14 rfl ?_ | refine HSub.at 15 rfl ?_ | refine HSub.at 16 rfl ?_ | refine HSub.at 17 rfl ?_ | refine HSub.at 18 rfl ?_ | refine HSub.at 19 rfl ?_ | refine HSub.segH ?_ | refine HSub.skip ?_ | refine HSub.skipN ?_)) ?_
  refine JX.thenN ?_
  (repeat' (first | refine JC.seq ?_ | refine JC.ops ?_ | refine JO.nil ?_ | refine JX.thenN ?_ | (apply r_assign; (iterate 3 exact rfl)) | refine JC.block ?_))
  refine JC.loopH (ι := Nat × SHeap × Value × List TR) ⟨fun z => [(5, nv z.1), (4, z.2.2.1), (3, .bool true), (1, .pointer (some ⟨b1, 0, none⟩))],
    fun z => [(b1, .cells ⟨L0.map iv⟩ 51)] ++ (z.2.1 ++ (tH z.2.2.2 ++ [])),
    fun z => z.1 ≤ 3 ∧ OwnRow 22 1 z.2.1 z.2.2.1 z.1 (z.2.2.2.map (·.2.1)) ∧ z.2.2.2.length = z.1 ∧ (∀ t ∈ z.2.2.2, OwnI t.1 t.2.1 3 t.2.2) ∧ z.2.2.2.map (·.2.2) = (List.range z.1).map (mR L0), fun z => 3 - z.1⟩
    (0, [], .slice none 0 0, []) ⟨Nat.zero_le _, OwnRow.nil _ 1, rfl, fun t ht => (by cases ht), rfl⟩ (by repeat first | exact trivial | refine ⟨rfl, ?_⟩) (HSub.refl _) (fun z hz => ?_)
  obtain ⟨k, N, v4, ts⟩ := z
  obtain ⟨hk3, hO, htl, hrows, hts⟩ := hz
  dsimp only at hk3 hO htl hrows hts ⊢
  obtain ⟨A4, c4, rfl⟩ := hO.form'
  by_cases hlt : k < 3
  · (repeat' (first | refine JC.seq ?_ | refine JC.ops ?_ | refine JO.nil ?_ | refine JX.thenN ?_ | (apply r_move; (iterate 3 exact rfl)) | (apply r_lss; (iterate 4 exact rfl); all_goals intro hc; all_goals try (exfalso; omega)) | refine JC.skip ?_ | refine JC.condT rfl ?_ | refine JC.block ?_))
    refine JC.opsDs [(b1, .cells ⟨L0.map iv⟩ 51)] (by (first | exact HSub.refl _ | (repeat' first | exact HSub.nil _ | exact HSub.refl _ | refine HSub.at 0 rfl ?_ | refine HSub.at 1 rfl ?_ | refine HSub.at 2 rfl ?_ | refine HSub.at 3 rfl ?_ | refine HSub.at 4 rfl ?_ | refine HSub.at 5 rfl ?_ | refine HSub.at 6 rfl ?_ | refine HSub.at 7 rfl ?_))) ?_
    (repeat' (first | (apply r_move; (iterate 3 exact rfl)) | (apply r_mul; (iterate 4 exact rfl); (first | assumption | omega))))
    rw [show (3 : Int) * (k : Int) = ((3 * k : Nat) : Int) by omega]
    refine r_idxArr (j := 3 * k) rfl rfl rfl rfl (by omega) ?_
    refine r_load 0 rfl rfl rfl rfl rfl (by rw [show 0 + 3 * k * 1 = 3 * k by omega]; exact hcell _ (by omega)) ?_
    (repeat' (first | (apply r_move; (iterate 3 exact rfl)) | (apply r_add; (iterate 4 exact rfl); omega) | (apply r_mul; (iterate 4 exact rfl); (first | assumption | omega)) | (apply r_mod; (iterate 4 exact rfl); omega)))
    rw [show (3 : Int) * (k : Int) + 1 = ((3 * k + 1 : Nat) : Int) by omega]
    refine r_idxArr (j := 3 * k + 1) rfl rfl rfl rfl (by omega) ?_
    refine r_load 0 rfl rfl rfl rfl rfl (by rw [show 0 + (3 * k + 1) * 1 = 3 * k + 1 by omega]; exact hcell _ (by omega)) ?_
    (repeat' (first | (apply r_move; (iterate 3 exact rfl)) | (apply r_add; (iterate 4 exact rfl); omega) | (apply r_mul; (iterate 4 exact rfl); (first | assumption | omega)) | (apply r_mod; (iterate 4 exact rfl); omega)))
    rw [show (3 : Int) * (k : Int) + 2 = ((3 * k + 2 : Nat) : Int) by omega]
    refine r_idxArr (j := 3 * k + 2) rfl rfl rfl rfl (by omega) ?_
    refine r_load 0 rfl rfl rfl rfl rfl (by rw [show 0 + (3 * k + 2) * 1 = 3 * k + 2 by omega]; exact hcell _ (by omega)) ?_
    (repeat' (first | (apply r_mod; (iterate 4 exact rfl); omega) | (apply r_build1; (iterate 5 exact rfl); (repeat first | exact trivial | refine ⟨rfl, ?_⟩); decide; decide; intro _)))
    rename_i b37 b38
    refine r_appendTL (A := [_, _, _]) (B := tH ts ++ []) hO (own_oneT b38 (Value.slice (some ⟨b37, 0, none⟩) 3 3)).rd rfl (by (repeat' first | exact HSub.nil _ | exact HSub.hd | exact HSub.in0 | exact HSub.refl _ | refine HSub.skip ?_ | refine HSub.skipN ?_)) rfl (by (first | exact HSub.refl _ | (repeat' first | exact HSub.nil _ | exact HSub.refl _ | refine HSub.at 0 rfl ?_ | refine HSub.at 1 rfl ?_ | refine HSub.at 2 rfl ?_ | refine HSub.at 3 rfl ?_ | refine HSub.at 4 rfl ?_ | refine HSub.at 5 rfl ?_ | refine HSub.at 6 rfl ?_ | refine HSub.at 7 rfl ?_))) rfl rfl rfl rfl (by omega) (fun v' N' hO' => ?_)
    have hZ := own_lit3 b37 ((L0.getD (3 * k) 0).tmod 1000) ((L0.getD (3 * k + 1) 0).tmod 1000) ((L0.getD (3 * k + 2) 0).tmod 1000)
    have hts' : ∀ t ∈ ts ++ [([(b37, Obj.cells ⟨[iv ((L0.getD (3 * k) 0).tmod 1000), iv ((L0.getD (3 * k + 1) 0).tmod 1000), iv ((L0.getD (3 * k + 2) 0).tmod 1000)]⟩ 3 (0, 0))], Value.slice (some ⟨b37, 0, none⟩) 3 3, mR L0 k)], OwnI t.1 t.2.1 3 t.2.2 := fun t ht => by
      rcases List.mem_append.1 ht with ht | ht
      · exact hrows t ht
      · obtain rfl := List.mem_singleton.1 ht
        exact hZ
    (repeat' (first | refine JC.ops ?_ | refine JO.nil ?_ | refine JX.thenN ?_ | (apply r_move; (iterate 3 exact rfl)) | (apply r_assign; (iterate 3 exact rfl)) | (apply r_add1; (iterate 4 exact rfl); omega) | refine JX.blockN ?_))
    refine JX.roundH (k + 1, N', v', ts ++ [([(b37, Obj.cells ⟨[iv ((L0.getD (3 * k) 0).tmod 1000), iv ((L0.getD (3 * k + 1) 0).tmod 1000), iv ((L0.getD (3 * k + 2) 0).tmod 1000)]⟩ 3 (0, 0))], Value.slice (some ⟨b37, 0, none⟩) 3 3, mR L0 k)]) ⟨by dsimp only; omega, by dsimp only; rw [List.map_append]; exact hO', by simp [htl], hts', by dsimp only; rw [List.map_append, hts, List.range_succ, List.map_append]; rfl⟩ (by dsimp only; omega) (by repeat first | exact trivial | refine ⟨rfl, ?_⟩) ?_
    show HSub ([(b1, Obj.cells ⟨L0.map iv⟩ 51 (0, 0))] ++ (N' ++ (tH (ts ++ [_]) ++ []))) _
    rw [tH_append, tH_one]; exact sub_app
  · obtain rfl : k = 3 := by omega
    (repeat' (first | refine JC.seq ?_ | refine JC.ops ?_ | refine JO.nil ?_ | refine JX.thenN ?_ | (apply r_move; (iterate 3 exact rfl)) | (apply r_lss; (iterate 4 exact rfl); all_goals intro hc; all_goals try (exfalso; omega)) | refine JX.thenE ?_ | refine JC.exit ?_ | refine JC.condF rfl ?_ | refine JX.blockE ?_))
    refine r_callA (A := [_]) (B := N ++ (tH ts ++ [])) rfl (by first | trivial | exact ⟨rfl, rfl⟩) rfl (by first | rfl | exact ⟨rfl, rfl⟩) rfl (fun w hk hs => c_Of w _ (mX L0) (isRows_gen hO htl hrows hts hk hs (by (repeat' first | exact HSub.nil _ | exact HSub.hd | exact HSub.in0 | exact HSub.refl _ | refine HSub.skip ?_ | refine HSub.skipN ?_)) (by (repeat' first | exact HSub.nil _ | exact HSub.hd | exact HSub.in0 | exact HSub.refl _ | refine HSub.skip ?_ | refine HSub.skipN ?_))) (by rw [mX_len]; decide) (by rw [mX_ofC]; decide) (fun i j => by have := mX_le L0 i j; exact ⟨by omega, by omega⟩)) fun w v1 w' _ _ _ hR1 => ?_
    obtain ⟨a, had⟩ : ∃ a, a = ofZ (mX L0) := ⟨_, rfl⟩
    have rta : RtZ a := by rw [had]; exact zof_rt (by rw [mX_len]; decide) (by rw [mX_ofC]; decide)
    have har : a.r = 3 := by rw [had]; exact mX_len L0
    have hac : a.c = 3 := by rw [had]; exact mX_ofC L0
    have hRo : rowsOf a = mX L0 := by rw [had]; exact rowsOf_ofZ (c := 3) (mX_ofC L0) (by rw [mX_len]; decide) (by decide) (mX_rec L0).row
    have hbd : BdZ (999999 + 1) a := by
      rw [had]; exact mX_bd L0 (by decide)
    have hat : ∀ i j : Nat, i < 3 → j < 3 → atZ a (i : Int) (j : Int) = ofE (mX L0) i j := fun i j hi hj => by
      unfold atZ
      rw [if_pos ⟨by omega, by omega, by omega, by omega⟩, had, Int.toNat_natCast, Int.toNat_natCast]
      exact zof_at (by rw [mX_len]; exact hi) (by rw [mX_ofC]; exact hj)
    rw [← had] at hR1
    obtain ⟨Na, hNa, Ea, rfl, hOa⟩ := hR1
    obtain ⟨Aa, ca, rfl⟩ := hOa.form
    refine ⟨Na, hNa, ?_⟩
    (repeat' (first | refine JO.nil ?_ | (apply r_storeN; exact rfl; (first | exact trivial | exact ⟨rfl, rfl⟩); exact rfl; exact rfl; exact at0; (iterate 3 exact rfl)) | (apply r_allocZ; (iterate 3 exact rfl); intro _) | (apply r_storeN; exact rfl; (first | exact trivial | exact ⟨rfl, rfl⟩); exact rfl; exact rfl; exact at0; (iterate 3 exact rfl))))
    rename_i b6
    refine JX.part (F' := [(6, .pointer (some ⟨b6, 0, none⟩)), (4, .slice A4 3 c4), (3, .bool true)]) (H' := [(b6, .cells #[nv a.r, nv a.c, .slice Aa a.e.length ca] 28)] ++ (Na ++ (N ++ (tH ts ++ [])))) (by repeat first | exact trivial | refine ⟨rfl, ?_⟩) (by (repeat' first | exact HSub.refl _ | exact HSub.nil _ | refine HSub.at 0 rfl ?_ | refine HSub.at 1 rfl ?_ | refine HSub.at 2 rfl ?_ | refine HSub.at 3 rfl ?_ | refine HSub.at 4 rfl ?_ | refine HSub.at 5 rfl ?_ | refine HSub.at 6 rfl ?_ | refine HSub.at 7 rfl ?_ | refine HSub.at 8 rfl ?_ | refine HSub.at 9 rfl ?_ | refine HSub.at 10 rfl ?_ | refine HSub.at 11 rfl ?_ | refine HSub.at 12 rfl ?_ | refine HSub.at 13 rfl ?_ | refine HSub.at 14 rfl ?_ | refine HSub.at 15 rfl ?_ | refine HSub.at 16 rfl ?_ | refine HSub.at 17 rfl ?_ | refine HSub.at 18 rfl ?_ | refine HSub.at 19 rfl ?_ | refine HSub.segH ?_ | refine HSub.skip ?_ | refine HSub.skipN ?_)) ?_
    refine JX.thenN ?_
    (repeat' (first | refine JC.seq ?_ | refine JC.ops ?_ | refine JO.nil ?_ | (apply r_storeN; exact rfl; (first | exact trivial | exact ⟨rfl, rfl⟩); exact rfl; exact rfl; exact at0; (iterate 3 exact rfl)) | (apply r_allocZ; (iterate 3 exact rfl); intro _) | (apply r_build0; exact rfl; exact rfl) | (apply r_storeN; exact rfl; (first | exact trivial | exact ⟨rfl, rfl⟩); exact rfl; exact rfl; exact at0; (iterate 3 exact rfl))))
    rename_i b7
    refine JX.thenN ?_
    (repeat' (first | refine JC.seq ?_ | refine JC.ops ?_ | refine JO.nil ?_ | refine JX.thenN ?_ | (apply r_assign; (iterate 3 exact rfl)) | (apply r_storeN; exact rfl; (first | exact trivial | exact ⟨rfl, rfl⟩); exact rfl; exact rfl; exact at0; (iterate 3 exact rfl)) | (apply r_allocZ; (iterate 3 exact rfl); intro _) | (apply r_build0; exact rfl; exact rfl) | (apply r_storeN; exact rfl; (first | exact trivial | exact ⟨rfl, rfl⟩); exact rfl; exact rfl; exact at0; (iterate 3 exact rfl)) | refine JC.block ?_))
    rename_i b8
    obtain ⟨E, hE⟩ : ∃ E, E = ofE (mX L0) := ⟨_, rfl⟩
    have hEl : ∀ i j, i < 3 → j < 3 → (E i j).natAbs ≤ 999 := fun i j _ _ => by rw [hE]; exact mX_le L0 i j
    have hml : ∀ i j, i < 3 → j < 3 → (mnE E i j).natAbs ≤ 1996002 := fun i j hi hj => by
      have q : ∀ a b c d, a < 3 → b < 3 → c < 3 → d < 3 → (E a b * E c d).natAbs ≤ 999 * 999 := fun a b c d ha hb hc hd => by
        rw [Int.natAbs_mul]; exact Nat.mul_le_mul (hEl a b ha hb) (hEl c d hc hd)
      unfold mnE m2
      have q1 := q ((i + 1) % 3) ((j + 1) % 3) ((i + 2) % 3) ((j + 2) % 3) (by omega) (by omega) (by omega) (by omega)
      have q2 := q ((i + 1) % 3) ((j + 2) % 3) ((i + 2) % 3) ((j + 1) % 3) (by omega) (by omega) (by omega) (by omega)
      omega
    rw [← hE] at hat
    refine JC.loopH (ι := Nat) ⟨fun i => [(9, nv i), (8, .pointer (some ⟨b8, 0, none⟩)), (7, .pointer (some ⟨b7, 0, none⟩)), (6, .pointer (some ⟨b6, 0, none⟩)), (4, .slice A4 3 c4), (3, .bool true)], fun i => [(b8, .cells (wc (mG (mnE E) (i * 3))) 32), (b7, .cells (wc (mG E (i * 3))) 32), (b6, .cells #[nv a.r, nv a.c, .slice Aa a.e.length ca] 28)] ++ (Na ++ (N ++ (tH ts ++ []))), fun i => i ≤ 3, fun i => 3 - i⟩ 0 (Nat.zero_le _) (by repeat first | exact trivial | refine ⟨rfl, ?_⟩) ?_ (fun i hi => ?_)
    · show HSub ([(b8, .cells (wc 0) 32), (b7, .cells (wc 0) 32), (b6, .cells #[nv a.r, nv a.c, .slice Aa a.e.length ca] 28)] ++ (Na ++ (N ++ (tH ts ++ [])))) _
      rw [wc0]; exact HSub.refl _
    dsimp only at hi ⊢
    by_cases hi3 : i < 3
    · (repeat' (first | refine JC.seq ?_ | refine JC.ops ?_ | refine JO.nil ?_ | refine JX.thenN ?_ | (apply r_move; (iterate 3 exact rfl)) | (apply r_assign; (iterate 3 exact rfl)) | (apply r_lss; (iterate 4 exact rfl); all_goals intro hc; all_goals try (exfalso; omega)) | refine JC.skip ?_ | refine JC.condT rfl ?_ | refine JC.block ?_))
      refine JC.loopH (ι := Nat) ⟨fun j => [(10, nv j), (9, nv i), (8, .pointer (some ⟨b8, 0, none⟩)), (7, .pointer (some ⟨b7, 0, none⟩)), (6, .pointer (some ⟨b6, 0, none⟩)), (4, .slice A4 3 c4), (3, .bool true)], fun j => [(b8, .cells (wc (mG (mnE E) (i * 3 + j))) 32), (b7, .cells (wc (mG E (i * 3 + j))) 32), (b6, .cells #[nv a.r, nv a.c, .slice Aa a.e.length ca] 28)] ++ (Na ++ (N ++ (tH ts ++ []))), fun j => j ≤ 3, fun j => 3 - j⟩ 0 (Nat.zero_le _) (by repeat first | exact trivial | refine ⟨rfl, ?_⟩) (HSub.refl _) (fun j hj => ?_)
      dsimp only at hj ⊢
      by_cases hj3 : j < 3
      · have g1 := mG_le (f := E) (B := 999) hEl (i * 3 + j) (by omega)
        have g2 := mG_le (f := mnE E) (B := 1996002) hml (i * 3 + j) (by omega)
        have h1 := hEl i j hi3 hj3
        have h2 := hml i j hi3 hj3
        have hd3 : (i * 3 + j) / 3 = i := by omega
        have hm3 : (i * 3 + j) % 3 = j := by omega
        (repeat' (first | refine JC.seq ?_ | refine JC.ops ?_ | refine JC.opsD ?_ | refine JO.nil ?_ | refine JX.thenN ?_ | (apply r_move; (iterate 3 exact rfl)) | (apply r_loadN; (iterate 4 exact rfl); (first | exact at1 | exact at2); exact rfl) | (apply r_lss; (iterate 4 exact rfl); all_goals intro hc; all_goals try (exfalso; omega)) | refine JC.skip ?_ | refine JC.condT rfl ?_ | refine JC.block ?_))
        refine r_call0 (by first | trivial | exact ⟨rfl, rfl⟩) rfl (by first | rfl | exact ⟨rfl, rfl⟩) rfl (fun w hk hs => c_At w _ a (i : Int) (j : Int) rta ⟨_, rfl, hOa.rd.at hk hs (by (repeat' first | exact HSub.nil _ | exact HSub.hd | exact HSub.in0 | exact HSub.refl _ | refine HSub.skip ?_ | refine HSub.skipN ?_))⟩) fun w v w' _ _ _ hR => ?_
        rw [hat i j hi3 hj3] at hR
        subst hR
        skip
        refine r_call0 (by first | trivial | exact ⟨rfl, rfl⟩) rfl (by first | rfl | exact ⟨rfl, rfl⟩) rfl (fun w _ _ => c_Gcd w _ _ (mG E (i * 3 + j)) (E i j) 8 (IsZ.can (by omega)) (IsZ.can (by omega)) (by decide)) fun w v w' _ _ _ hR => ?_
        obtain ⟨q1, s1, t1, rfl, hG1⟩ := hR
        obtain rfl : q1 = mG E (i * 3 + (j + 1)) := by
          show q1 = mG E (i * 3 + j + 1)
          rw [mG, hd3, hm3]; exact hG1.e
        (repeat' (first | refine JO.nil ?_ | (apply r_move; (iterate 3 exact rfl)) | (apply r_extract; (iterate 4 exact rfl)) | (apply r_storeN; exact rfl; (first | exact trivial | exact ⟨rfl, rfl⟩); exact rfl; exact rfl; exact at1; (iterate 3 exact rfl)) | (apply r_storeN; exact rfl; (first | exact trivial | exact ⟨rfl, rfl⟩); exact rfl; exact rfl; exact at1; (iterate 3 exact rfl))))
        refine JX.part (F' := [(10, nv j), (9, nv i), (8, .pointer (some ⟨b8, 0, none⟩)), (7, .pointer (some ⟨b7, 0, none⟩)), (6, .pointer (some ⟨b6, 0, none⟩)), (4, .slice A4 3 c4), (3, .bool true)]) (H' := [(b8, .cells (wc (mG (mnE E) (i * 3 + j))) 32), (b7, .cells (wc (mG E (i * 3 + (j + 1)))) 32), (b6, .cells #[nv a.r, nv a.c, .slice Aa a.e.length ca] 28)] ++ (Na ++ (N ++ (tH ts ++ [])))) (by repeat first | exact trivial | refine ⟨rfl, ?_⟩) (by (repeat' first | exact HSub.refl _ | exact HSub.nil _ | refine HSub.at 0 rfl ?_ | refine HSub.at 1 rfl ?_ | refine HSub.at 2 rfl ?_ | refine HSub.at 3 rfl ?_ | refine HSub.at 4 rfl ?_ | refine HSub.at 5 rfl ?_ | refine HSub.at 6 rfl ?_ | refine HSub.at 7 rfl ?_ | refine HSub.at 8 rfl ?_ | refine HSub.at 9 rfl ?_ | refine HSub.at 10 rfl ?_ | refine HSub.at 11 rfl ?_ | refine HSub.at 12 rfl ?_ | refine HSub.at 13 rfl ?_ | refine HSub.at 14 rfl ?_ | refine HSub.at 15 rfl ?_ | refine HSub.at 16 rfl ?_ | refine HSub.at 17 rfl ?_ | refine HSub.at 18 rfl ?_ | refine HSub.at 19 rfl ?_ | refine HSub.segH ?_ | refine HSub.skip ?_ | refine HSub.skipN ?_)) ?_
        refine JX.thenN ?_
        (repeat' (first | refine JC.opsD ?_ | (apply r_move; (iterate 3 exact rfl)) | (apply r_loadN; (iterate 4 exact rfl); exact at0; exact rfl)))
        refine r_call0 (by first | trivial | exact ⟨rfl, rfl⟩) rfl (by first | rfl | exact ⟨rfl, rfl⟩) rfl (fun w hk hs => c_minor w _ (mX L0) (isRows_gen hO htl hrows hts hk hs (by (repeat' first | exact HSub.nil _ | exact HSub.hd | exact HSub.in0 | exact HSub.refl _ | refine HSub.skip ?_ | refine HSub.skipN ?_)) (by (repeat' first | exact HSub.nil _ | exact HSub.hd | exact HSub.in0 | exact HSub.refl _ | refine HSub.skip ?_ | refine HSub.skipN ?_))) (mX_len L0) (fun i hi => by rw [mX_at L0 hi]; rfl) (mX_le L0) i j hi3 hj3) fun w v w' _ _ _ hR => ?_
        rw [← hE] at hR
        subst hR
        skip
        refine r_call0 (by first | trivial | exact ⟨rfl, rfl⟩) rfl (by first | rfl | exact ⟨rfl, rfl⟩) rfl (fun w _ _ => c_From w (mnE E i j) (by omega) (by omega)) fun w v w' _ _ _ hR => ?_
        subst hR
        skip
        refine r_call0 (by first | trivial | exact ⟨rfl, rfl⟩) rfl (by first | rfl | exact ⟨rfl, rfl⟩) rfl (fun w _ _ => c_Gcd w _ _ (mG (mnE E) (i * 3 + j)) (mnE E i j) 8 (IsZ.can (by omega)) (IsZ.can (by omega)) (by decide)) fun w v w' _ _ _ hR => ?_
        obtain ⟨q2, s2, t2, rfl, hG2⟩ := hR
        obtain rfl : q2 = mG (mnE E) (i * 3 + (j + 1)) := by
          show q2 = mG (mnE E) (i * 3 + j + 1)
          rw [mG, hd3, hm3]; exact hG2.e
        (repeat' (first | refine JO.nil ?_ | (apply r_move; (iterate 3 exact rfl)) | (apply r_extract; (iterate 4 exact rfl)) | (apply r_storeN; exact rfl; (first | exact trivial | exact ⟨rfl, rfl⟩); exact rfl; exact rfl; exact at0; (iterate 3 exact rfl)) | (apply r_storeN; exact rfl; (first | exact trivial | exact ⟨rfl, rfl⟩); exact rfl; exact rfl; exact at0; (iterate 3 exact rfl)) | refine JX.blockN ?_))
        refine JX.part (F' := [(10, nv j), (9, nv i), (8, .pointer (some ⟨b8, 0, none⟩)), (7, .pointer (some ⟨b7, 0, none⟩)), (6, .pointer (some ⟨b6, 0, none⟩)), (4, .slice A4 3 c4), (3, .bool true)]) (H' := [(b8, .cells (wc (mG (mnE E) (i * 3 + (j + 1)))) 32), (b7, .cells (wc (mG E (i * 3 + (j + 1)))) 32), (b6, .cells #[nv a.r, nv a.c, .slice Aa a.e.length ca] 28)] ++ (Na ++ (N ++ (tH ts ++ [])))) (by repeat first | exact trivial | refine ⟨rfl, ?_⟩) (by (repeat' first | exact HSub.refl _ | exact HSub.nil _ | refine HSub.at 0 rfl ?_ | refine HSub.at 1 rfl ?_ | refine HSub.at 2 rfl ?_ | refine HSub.at 3 rfl ?_ | refine HSub.at 4 rfl ?_ | refine HSub.at 5 rfl ?_ | refine HSub.at 6 rfl ?_ | refine HSub.at 7 rfl ?_ | refine HSub.at 8 rfl ?_ | refine HSub.at 9 rfl ?_ | refine HSub.at 10 rfl ?_ | refine HSub.at 11 rfl ?_ | refine HSub.at 12 rfl ?_ | refine HSub.at 13 rfl ?_ | refine HSub.at 14 rfl ?_ | refine HSub.at 15 rfl ?_ | refine HSub.at 16 rfl ?_ | refine HSub.at 17 rfl ?_ | refine HSub.at 18 rfl ?_ | refine HSub.at 19 rfl ?_ | refine HSub.segH ?_ | refine HSub.skip ?_ | refine HSub.skipN ?_)) ?_
        (repeat' (first | refine JC.ops ?_ | refine JO.nil ?_ | refine JX.thenN ?_ | (apply r_move; (iterate 3 exact rfl)) | (apply r_assign; (iterate 3 exact rfl)) | (apply r_add1; (iterate 4 exact rfl); omega)))
        exact JX.roundH (j + 1) (by dsimp only; omega) (by dsimp only; omega) (by repeat first | exact trivial | refine ⟨rfl, ?_⟩) (HSub.refl _)
      · obtain rfl : j = 3 := by omega
        rw [show i * 3 + 3 = (i + 1) * 3 by omega]
        (repeat' (first | refine JC.seq ?_ | refine JC.ops ?_ | refine JO.nil ?_ | refine JX.thenN ?_ | (apply r_move; (iterate 3 exact rfl)) | (apply r_assign; (iterate 3 exact rfl)) | (apply r_add1; (iterate 4 exact rfl); omega) | (apply r_lss; (iterate 4 exact rfl); all_goals intro hc; all_goals try (exfalso; omega)) | refine JX.thenE ?_ | refine JC.exit ?_ | refine JC.condF rfl ?_ | refine JX.blockN ?_ | refine JX.blockE ?_))
        exact JX.roundH (i + 1) (by dsimp only; omega) (by dsimp only; omega) (by repeat first | exact trivial | refine ⟨rfl, ?_⟩) (HSub.refl _)
    · obtain rfl : i = 3 := by omega
      (repeat' (first | refine JC.seq ?_ | refine JC.ops ?_ | refine JO.nil ?_ | refine JX.thenN ?_ | (apply r_move; (iterate 3 exact rfl)) | (apply r_loadN; (iterate 4 exact rfl); exact at2; exact rfl) | (apply r_lss; (iterate 4 exact rfl); all_goals intro hc; all_goals try (exfalso; omega)) | refine JX.thenE ?_ | refine JC.exit ?_ | refine JC.condF rfl ?_ | refine JX.blockE ?_))
      have hatE : ∀ i j, i < 3 → j < 3 → a.at i j = E i j := fun i j hi hj => by
        rw [had, hE]; exact zof_at (by rw [mX_len]; exact hi) (by rw [mX_ofC]; exact hj)
      have hdet : det a.r a.at = D3 E := by
        rw [har, det_3, hatE 0 0 (by decide) (by decide), hatE 0 1 (by decide) (by decide), hatE 0 2 (by decide) (by decide), hatE 1 0 (by decide) (by decide), hatE 1 1 (by decide) (by decide), hatE 1 2 (by decide) (by decide), hatE 2 0 (by decide) (by decide), hatE 2 1 (by decide) (by decide), hatE 2 2 (by decide) (by decide)]
        unfold D3
        grind
      have hbd2 : BdZ 2 a := by
        rw [had]
        exact BdZ.of fun i j _ _ => Nat.lt_of_le_of_lt (mX_le L0 i j) (by decide)
      obtain ⟨S', hf0, hdia⟩ := form3 (S := startS 3 3 (mX L0)) (start_dm (mX_rec L0)) (fun i j _ _ => mX_le L0 i j) (start_szU 3 3 _)
      have hEg : gE (startS 3 3 (mX L0)).d = E := by rw [hE]; rfl
      rw [hEg] at hdia
      have hf : formF (999999 + 1) 40 40 a.r a.c (min a.r a.c) 0 (startS a.r a.c (rowsOf a)) = some S' := by rw [har, hac, hRo]; exact hf0
      have hbS := formF_ok hf (ok_start rta hbd)
      obtain ⟨lA, lB, lC⟩ := dia_law hdia
      have hfac := dia_fac hdia
      obtain ⟨d0, hd0⟩ : ∃ d, d = gE S'.d 0 0 := ⟨_, rfl⟩
      obtain ⟨d1, hd1⟩ : ∃ d, d = gE S'.d 1 1 := ⟨_, rfl⟩
      obtain ⟨d2, hd2⟩ : ∃ d, d = gE S'.d 2 2 := ⟨_, rfl⟩
      have b0 : d0.natAbs < 256 ^ (999999 + 1) := by rw [hd0]; exact okG_at hbS.d 0 0
      have b1' : d1.natAbs < 256 ^ (999999 + 1) := by rw [hd1]; exact okG_at hbS.d 1 1
      have b2 : d2.natAbs < 256 ^ (999999 + 1) := by rw [hd2]; exact okG_at hbS.d 2 2
      have n0 := hdia.n0
      have n1 := hdia.n1
      have n2 := hdia.n2
      rw [← hd0] at n0
      rw [← hd1] at n1
      rw [← hd2] at n2
      rw [← hd0, ← hd1, ← hd2] at hfac lC
      rw [← hd0] at lA
      rw [← hd0, ← hd1] at lB
      have eA : d0 = mG E (3 * 3) := Int.dvd_antisymm n0 (mG_nn E 9) ((mG_9 E d0).1 ((lA d0).2 (Int.dvd_refl _))) ((lA (mG E 9)).1 ((mG_9 E (mG E 9)).2 (Int.dvd_refl _)))
      have eB : d0 * d1 = mG (mnE E) (3 * 3) := Int.dvd_antisymm (Int.mul_nonneg n0 n1) (mG_nn (mnE E) 9) ((mG_9 (mnE E) (d0 * d1)).1 ((mn_dv E (d0 * d1)).2 ((lB (d0 * d1)).2 (Int.dvd_refl _)))) ((lB (mG (mnE E) 9)).1 ((mn_dv E (mG (mnE E) 9)).1 ((mG_9 (mnE E) (mG (mnE E) 9)).2 (Int.dvd_refl _))))
      have eC : d0 * d1 * d2 = ((D3 E).natAbs : Int) := lC.symm
      refine r_call0 (by first | trivial | exact ⟨rfl, rfl⟩) rfl (by first | rfl | exact ⟨rfl, rfl⟩) rfl (fun w hk hs => c_Det 2 w _ a rta (by omega) (by rw [har]; decide) hbd2 ⟨_, rfl, hOa.rd.at hk hs (by (repeat' first | exact HSub.nil _ | exact HSub.hd | exact HSub.in0 | exact HSub.refl _ | refine HSub.skip ?_ | refine HSub.skipN ?_))⟩) fun w v w' _ _ _ hR => ?_
      rw [hdet] at hR
      subst hR
      (repeat' (first | refine JO.nil ?_ | (apply r_move; (iterate 3 exact rfl)) | (apply r_assign; (iterate 3 exact rfl)) | (apply r_extract; (iterate 4 exact rfl)) | (apply r_storeN; exact rfl; (first | exact trivial | exact ⟨rfl, rfl⟩); exact rfl; exact rfl; exact at0; (iterate 3 exact rfl)) | (apply r_allocZ; (iterate 3 exact rfl); intro _) | (apply r_storeN; exact rfl; (first | exact trivial | exact ⟨rfl, rfl⟩); exact rfl; exact rfl; exact at0; (iterate 3 exact rfl))))
      rename_i b11
      refine JX.part (F' := [(12, .bool true), (11, .pointer (some ⟨b11, 0, none⟩)), (8, .pointer (some ⟨b8, 0, none⟩)), (7, .pointer (some ⟨b7, 0, none⟩)), (6, .pointer (some ⟨b6, 0, none⟩)), (3, .bool true)]) (H' := [(b11, .cells (wc (D3 E)) 32), (b8, .cells (wc (mG (mnE E) (3 * 3))) 32), (b7, .cells (wc (mG E (3 * 3))) 32), (b6, .cells #[nv a.r, nv a.c, .slice Aa a.e.length ca] 28)] ++ (Na ++ (N ++ (tH ts ++ [])))) (by repeat first | exact trivial | refine ⟨rfl, ?_⟩) (by (repeat' first | exact HSub.refl _ | exact HSub.nil _ | refine HSub.at 0 rfl ?_ | refine HSub.at 1 rfl ?_ | refine HSub.at 2 rfl ?_ | refine HSub.at 3 rfl ?_ | refine HSub.at 4 rfl ?_ | refine HSub.at 5 rfl ?_ | refine HSub.at 6 rfl ?_ | refine HSub.at 7 rfl ?_ | refine HSub.at 8 rfl ?_ | refine HSub.at 9 rfl ?_ | refine HSub.at 10 rfl ?_ | refine HSub.at 11 rfl ?_ | refine HSub.at 12 rfl ?_ | refine HSub.at 13 rfl ?_ | refine HSub.at 14 rfl ?_ | refine HSub.at 15 rfl ?_ | refine HSub.at 16 rfl ?_ | refine HSub.at 17 rfl ?_ | refine HSub.at 18 rfl ?_ | refine HSub.at 19 rfl ?_ | refine HSub.segH ?_ | refine HSub.skip ?_ | refine HSub.skipN ?_)) ?_
      refine JX.thenN ?_
      (repeat' (first | refine JC.seq ?_ | refine JC.ops ?_ | refine JO.nil ?_ | (apply r_fieldAddr; (iterate 3 exact rfl)) | (apply r_store; exact rfl; (first | exact trivial | exact ⟨rfl, rfl⟩); exact rfl; exact rfl; exact at0; exact rfl; exact rfl; (first | exact Nat.le_of_ble_eq_true rfl | (simp; done) | omega))))
      refine JX.part (F' := [(12, .bool true), (11, .pointer (some ⟨b11, 0, none⟩)), (8, .pointer (some ⟨b8, 0, none⟩)), (7, .pointer (some ⟨b7, 0, none⟩)), (6, .pointer (some ⟨b6, 0, none⟩)), (3, .bool true)]) (H' := [(b11, .cells (#[.bool false, sv (magU (D3 E).natAbs)]) 32), (b8, .cells (wc (mG (mnE E) (3 * 3))) 32), (b7, .cells (wc (mG E (3 * 3))) 32), (b6, .cells #[nv a.r, nv a.c, .slice Aa a.e.length ca] 28)] ++ (Na ++ (N ++ (tH ts ++ [])))) (by repeat first | exact trivial | refine ⟨rfl, ?_⟩) (by (repeat' first | exact HSub.refl _ | exact HSub.nil _ | refine HSub.at 0 rfl ?_ | refine HSub.at 1 rfl ?_ | refine HSub.at 2 rfl ?_ | refine HSub.at 3 rfl ?_ | refine HSub.at 4 rfl ?_ | refine HSub.at 5 rfl ?_ | refine HSub.at 6 rfl ?_ | refine HSub.at 7 rfl ?_ | refine HSub.at 8 rfl ?_ | refine HSub.at 9 rfl ?_ | refine HSub.at 10 rfl ?_ | refine HSub.at 11 rfl ?_ | refine HSub.at 12 rfl ?_ | refine HSub.at 13 rfl ?_ | refine HSub.at 14 rfl ?_ | refine HSub.at 15 rfl ?_ | refine HSub.at 16 rfl ?_ | refine HSub.at 17 rfl ?_ | refine HSub.at 18 rfl ?_ | refine HSub.at 19 rfl ?_ | refine HSub.segH ?_ | refine HSub.skip ?_ | refine HSub.skipN ?_)) ?_
      refine JX.thenN ?_
      have e3 : wc (d0 * d1 * d2) = #[.bool false, sv (magU (D3 E).natAbs)] := by
        rw [eC]
        show #[Value.bool (decide (((D3 E).natAbs : Int) < 0)), sv (magU (Int.natAbs ((D3 E).natAbs : Int)))] = _
        rw [Int.natAbs_natCast, decide_eq_false (by omega)]
      rw [← e3, ← eA, ← eB]
      (repeat' (first | refine JC.seq ?_ | refine JC.ops ?_ | (apply r_loadN; (iterate 4 exact rfl); exact at3; exact rfl)))
      refine r_callA (A := [_, _, _, _]) (B := (Na ++ (N ++ (tH ts ++ [])))) rfl (by first | trivial | exact ⟨rfl, rfl⟩) rfl (by first | rfl | exact ⟨rfl, rfl⟩) rfl (fun w hk hs => c_Factors 999999 40 40 w _ a S' rta ⟨_, rfl, hOa.rd.at hk hs (by (repeat' first | exact HSub.nil _ | exact HSub.hd | exact HSub.in0 | exact HSub.refl _ | refine HSub.skip ?_ | refine HSub.skipN ?_))⟩ (by decide) hbd hf) fun w v w' _ _ _ hR => ?_
      rw [har, hac, Nat.min_self] at hR
      obtain ⟨N2, hN2, hO2⟩ := hR
      have hPl := facP_le S'.d 3
      generalize facP S'.d 3 = P at *
      obtain ⟨A2, c2, rfl⟩ := hO2.form
      refine ⟨N2, hN2, ?_⟩
      (repeat' (first | refine JO.nil ?_ | (apply r_assign; (iterate 3 exact rfl))))
      refine JX.part (F' := [(13, .slice A2 P.length c2), (12, .bool true), (11, .pointer (some ⟨b11, 0, none⟩)), (8, .pointer (some ⟨b8, 0, none⟩)), (7, .pointer (some ⟨b7, 0, none⟩)), (3, .bool true)]) (H' := [(b11, .cells (wc (d0 * d1 * d2)) 32), (b8, .cells (wc (d0 * d1)) 32), (b7, .cells (wc d0) 32)] ++ (N2 ++ [])) (by repeat first | exact trivial | refine ⟨rfl, ?_⟩) (by (repeat' first | exact HSub.refl _ | exact HSub.nil _ | refine HSub.at 0 rfl ?_ | refine HSub.at 1 rfl ?_ | refine HSub.at 2 rfl ?_ | refine HSub.at 3 rfl ?_ | refine HSub.at 4 rfl ?_ | refine HSub.at 5 rfl ?_ | refine HSub.at 6 rfl ?_ | refine HSub.at 7 rfl ?_ | refine HSub.at 8 rfl ?_ | refine HSub.at 9 rfl ?_ | refine HSub.at 10 rfl ?_ | refine HSub.at 11 rfl ?_ | refine HSub.at 12 rfl ?_ | refine HSub.at 13 rfl ?_ | refine HSub.at 14 rfl ?_ | refine HSub.at 15 rfl ?_ | refine HSub.at 16 rfl ?_ | refine HSub.at 17 rfl ?_ | refine HSub.at 18 rfl ?_ | refine HSub.at 19 rfl ?_ | refine HSub.segH ?_ | refine HSub.skip ?_ | refine HSub.skipN ?_)) ?_
      refine JX.thenN ?_
      clear hf hf0 hbS
      (repeat' (first | refine JC.seq ?_ | refine JC.block ?_))
      refine JC.loopH (ι := Nat × SHeap × Value) ⟨fun z => [(13, z.2.2), (12, .bool true), (11, .pointer (some ⟨b11, 0, none⟩)), (8, .pointer (some ⟨b8, 0, none⟩)), (7, .pointer (some ⟨b7, 0, none⟩)), (3, .bool true)], fun z => [(b11, .cells (wc (d0 * d1 * d2)) 32), (b8, .cells (wc (d0 * d1)) 32), (b7, .cells (wc d0) 32)] ++ (z.2.1 ++ []),
        fun z => P.length + z.1 ≤ 3 ∧ OwnZ z.2.1 z.2.2 (P.length + z.1) (P ++ List.replicate z.1 0), fun z => 3 - z.1⟩ (0, N2, .slice A2 P.length c2) ⟨hPl, by dsimp only; rw [List.replicate_zero, List.append_nil]; exact hO2⟩ (by repeat first | exact trivial | refine ⟨rfl, ?_⟩) (HSub.refl _) (fun z hz => ?_)
      clear hO2
      obtain ⟨k, N, v13⟩ := z
      obtain ⟨hk, hO⟩ := hz
      dsimp only at hk hO ⊢
      obtain ⟨A, cc, rfl⟩ := hO.form
      by_cases hlt : P.length + k < 3
      · (repeat' (first | refine JC.seq ?_ | refine JC.ops ?_ | refine JO.nil ?_ | refine JX.thenN ?_ | (apply r_move; (iterate 3 exact rfl)) | (apply r_lenZ; (iterate 3 exact rfl); (first | assumption | exact WZ.rd (by assumption) rfl [] | exact OwnZ.rd (by assumption))) | (apply r_lss; (iterate 4 exact rfl); all_goals intro hc; all_goals try (exfalso; omega)) | (apply r_build0; exact rfl; exact rfl) | refine JC.skip ?_ | refine JC.condT rfl ?_ | refine JC.block ?_))
        refine r_buildG (sz := 2) (vs := [.agg #[.bool false, .string ⟨#[]⟩]]) (cl := [.bool false, .string ⟨#[]⟩]) rfl rfl (by first | rfl | trivial | exact ⟨rfl, rfl⟩) rfl rfl (fun v hv => by
          cases List.mem_singleton.1 hv; rfl) rfl (by decide) (by decide) (fun b => ?_)
        have h1 : OwnZ [(b, .cells ⟨[.bool false, .string ⟨#[]⟩]⟩ 32 (0, 0))] (.slice (some ⟨b, 0, none⟩) 1 1) 1 [0] := by
          have := own_oneW b 0
          rw [wz_zero] at this
          exact this
        skip
        refine r_appendZ (A := [_, _, _, _]) (B := []) hO h1.rd (by (repeat' first | exact HSub.nil _ | exact HSub.hd | exact HSub.in0 | exact HSub.refl _ | refine HSub.skip ?_ | refine HSub.skipN ?_)) rfl (by first | trivial | exact ⟨rfl, rfl⟩) rfl rfl rfl rfl (by omega) (fun v' N' hO' => ?_)
        have hO'' : OwnZ N' v' (P.length + (k + 1)) (P ++ List.replicate (k + 1) 0) := by
          rw [List.replicate_succ', ← List.append_assoc]; exact hO'
        (repeat' (first | refine JO.nil ?_ | (apply r_assign; (iterate 3 exact rfl)) | refine JX.blockN ?_))
        exact JX.roundH (k + 1, N', v') ⟨by dsimp only; omega, hO''⟩ (by dsimp only; omega) (by repeat first | exact trivial | refine ⟨rfl, ?_⟩) (by exact HSub.skip (HSub.refl _))
      · have hk3 : k = 3 - P.length := by omega
        rw [hk3, hfac, show P.length + (3 - P.length) = 3 by omega] at hO
        rw [show P.length + k = 3 by omega]
        (repeat' (first | refine JC.seq ?_ | refine JC.ops ?_ | refine JC.opsD ?_ | refine JO.nil ?_ | refine JX.thenN ?_ | (apply r_move; (iterate 3 exact rfl)) | (apply r_lenZ; (iterate 3 exact rfl); (first | assumption | exact WZ.rd (by assumption) rfl [] | exact OwnZ.rd (by assumption))) | (apply r_pickT; (iterate 4 exact rfl)) | (apply r_lss; (iterate 4 exact rfl); all_goals intro hc; all_goals try (exfalso; omega)) | refine JX.thenE ?_ | refine JC.exit ?_ | refine JC.condF rfl ?_ | refine JX.blockE ?_))
        refine r_idxZ (j := 0) rfl rfl rfl rfl hO.rd (by omega) ?_
        (repeat' (first | (apply r_move; (iterate 3 exact rfl)) | (apply r_loadN; (iterate 4 exact rfl); exact at2; exact rfl) | (apply r_ldZ; (iterate 4 exact rfl); (first | assumption | exact WZ.rd (by assumption) rfl [] | exact OwnZ.rd (by assumption)); (repeat' first | exact HSub.nil _ | exact HSub.hd | exact HSub.in0 | exact HSub.refl _ | refine HSub.skip ?_ | refine HSub.skipN ?_); (first | assumption | omega)) | (apply r_pickT; (iterate 4 exact rfl)) | (apply r_eqWT; (iterate 4 exact rfl); (first | exact rfl | assumption))))
        refine r_idxZ (j := 0) rfl rfl rfl rfl hO.rd (by omega) ?_
        (repeat' (first | (apply r_move; (iterate 3 exact rfl)) | (apply r_ldZ; (iterate 4 exact rfl); (first | assumption | exact WZ.rd (by assumption) rfl [] | exact OwnZ.rd (by assumption)); (repeat' first | exact HSub.nil _ | exact HSub.hd | exact HSub.in0 | exact HSub.refl _ | refine HSub.skip ?_ | refine HSub.skipN ?_); (first | assumption | omega))))
        refine r_idxZ (j := 1) rfl rfl rfl rfl hO.rd (by omega) ?_
        (repeat' (first | (apply r_loadN; (iterate 4 exact rfl); exact at1; exact rfl) | (apply r_ldZ; (iterate 4 exact rfl); (first | assumption | exact WZ.rd (by assumption) rfl [] | exact OwnZ.rd (by assumption)); (repeat' first | exact HSub.nil _ | exact HSub.hd | exact HSub.in0 | exact HSub.refl _ | refine HSub.skip ?_ | refine HSub.skipN ?_); (first | assumption | omega))))
        refine r_call0 (by first | trivial | exact ⟨rfl, rfl⟩) rfl (by first | rfl | exact ⟨rfl, rfl⟩) rfl (fun w _ _ => c_Mul w _ _ d0 d1 (999999 + 1) (IsZ.can b0) (IsZ.can b1') (by decide)) fun w v w' _ _ _ hR => ?_
        subst hR
        (repeat' (first | (apply r_move; (iterate 3 exact rfl)) | (apply r_pickT; (iterate 4 exact rfl)) | (apply r_eqWT; (iterate 4 exact rfl); (first | exact rfl | assumption))))
        refine r_idxZ (j := 0) rfl rfl rfl rfl hO.rd (by omega) ?_
        (repeat' (first | (apply r_move; (iterate 3 exact rfl)) | (apply r_ldZ; (iterate 4 exact rfl); (first | assumption | exact WZ.rd (by assumption) rfl [] | exact OwnZ.rd (by assumption)); (repeat' first | exact HSub.nil _ | exact HSub.hd | exact HSub.in0 | exact HSub.refl _ | refine HSub.skip ?_ | refine HSub.skipN ?_); (first | assumption | omega))))
        refine r_idxZ (j := 1) rfl rfl rfl rfl hO.rd (by omega) ?_
        (repeat' (first | (apply r_move; (iterate 3 exact rfl)) | (apply r_loadN; (iterate 4 exact rfl); exact at0; exact rfl) | (apply r_idxZ; (iterate 4 exact rfl); (first | assumption | exact WZ.rd (by assumption) rfl [] | exact OwnZ.rd (by assumption)); (first | assumption | omega)) | (apply r_ldZ; (iterate 4 exact rfl); (first | assumption | exact WZ.rd (by assumption) rfl [] | exact OwnZ.rd (by assumption)); (repeat' first | exact HSub.nil _ | exact HSub.hd | exact HSub.in0 | exact HSub.refl _ | refine HSub.skip ?_ | refine HSub.skipN ?_); (first | assumption | omega))))
        refine r_call0 (by first | trivial | exact ⟨rfl, rfl⟩) rfl (by first | rfl | exact ⟨rfl, rfl⟩) rfl (fun w _ _ => c_Mul w _ _ d0 d1 (999999 + 1) (IsZ.can b0) (IsZ.can b1') (by decide)) fun w v w' _ _ _ hR => ?_
        subst hR
        skip
        obtain ⟨K2, hK2, b01, b2'⟩ : ∃ K2, K2 ≤ 100000000 ∧ (d0 * d1).natAbs < 256 ^ K2 ∧ d2.natAbs < 256 ^ K2 := nat_two b0 b1' b2 (by decide)
        refine r_call0 (by first | trivial | exact ⟨rfl, rfl⟩) rfl (by first | rfl | exact ⟨rfl, rfl⟩) rfl (fun w _ _ => c_Mul w _ _ (d0 * d1) d2 K2 (IsZ.can b01) (IsZ.can b2') hK2) fun w v w' _ _ _ hR => ?_
        subst hR
        (repeat' (first | refine JO.nil ?_ | refine JX.thenN ?_ | (apply r_assign; (iterate 3 exact rfl)) | (apply r_pickT; (iterate 4 exact rfl)) | (apply r_eqWT; (iterate 4 exact rfl); (first | exact rfl | assumption)) | refine JC.ret ?_))
        exact JX.ret1 rfl (fun a w' st => ⟨st.kp, rfl⟩)

end Go.Proofs.YtemdknkghacheaaDoor

/-
  LawSmithMinors: for every input the call of 'cocycle/cocyclelaw03.SmithMinors' returns true, and every argument reads afterwards as it read before. Conditions: none. The card.
-/
namespace Go.Proofs.YtemdknkghacheaaDoor.smithMinors
open Go Go.RowKit Go.ChangeShapes Go.WideShapes Go.ChangeAt
set_option linter.unusedSimpArgs false
set_option linter.unusedVariables false
set_option linter.unusedSectionVars false

set_option maxRecDepth 100000 in
theorem lifted (os : Os) (started : os.Started) (H : Type) (enc : TypeId × Value → H) :
    ReturnsInHanded {} Tryd.checked os 6 .any (fun w args => (Rows.smithMinorsSpec.pre enc Tryd.prog Tryd.f6 [] false w args ∧ laidMetH Tryd.prog Rows.smithMinorsRow.laid w) ∧ sizedMet enc Tryd.prog Tryd.f6 (OpenSpec.ofChange Rows.smithMinorsSpec) false w args)
      (Rows.smithMinorsSpec.post enc Tryd.prog Tryd.f6 false true false false) := by
  refine returnsInHanded_of_change_and (C := Tryd.checked) (X := fun w _ => laidMetH Tryd.prog Rows.smithMinorsRow.laid w) (fun _ _ _ hh h => h.of_heap hh) own started (by kernel_rfl) Tryd.func6
    (ChangeSpec.witness_shaped (enc := enc) (C := Tryd.checked) (os := os) (X := fun w _ => laidMetH Tryd.prog Rows.smithMinorsRow.laid w) false (World.laidAll Tryd.prog os Rows.smithMinorsRow.laid) #[.agg #[.int .i64 0, .int .i64 0, .int .i64 0, .int .i64 0, .int .i64 0, .int .i64 0, .int .i64 0, .int .i64 0, .int .i64 0]] 8 (World.laidAll_os _ _ _)
      (World.shaped_of_ZipB (by kernel_rfl) (by kernel_rfl)) (by kernel_rfl) (by kernel_rfl) (by kernel_rfl)
      (by rw [MakeChecks.laidMetH_plain _ _ _ (by kernel_rfl)]; exact laidMet_laidAll _ (by kernel_rfl) (by kernel_rfl))) ?_
  intro W base args ds gs before hval0 hW _ hwt0 hL _
  have hval : ∀ (j : Nat) t v, Tryd.f6.params[j]? = some t → args[j]? = some v → Value.okWide Tryd.prog W .any base t v := hval0
  have hW' := hW
  obtain ⟨p, q, hA0, hV, rfl, hfz, hnd⟩ := hW
  have hA : DataW.TrodAll enc Tryd.prog W 0 (fun _ => true) true Tryd.f6.params.toList args.toList ds p := hA0
  have hwt : (DataW.weightsEach Tryd.prog (Tryd.f6.params.toList ++ Rows.smithMinorsSpec.plain.varTypes Tryd.prog) (ds ++ gs)).all (· ≤ reachBytes) = true := hwt0
  have hwt1 := fun n hn => of_decide_eq_true (List.all_eq_true.1 hwt n hn)
  rw [Tryd.params6] at hA hval hwt1
  obtain ⟨v0, vs0, d0, ds0, p0, q0, hargs, rfl, rfl, h0, r0⟩ := trodAll_cons hA
  obtain ⟨rfl, rfl, rfl⟩ := trodAll_nil r0
  obtain rfl : args = #[v0] := by cases args; simp_all
  obtain ⟨rfl, rfl⟩ := trodVars_none hV
  have k0 := h0
  have lt0 : ∀ x ∈ p0, x.block < W.heap.size := by obtain ⟨m, hm⟩ := k0; exact DataW.trod_lt m _ _ _ hm
  obtain ⟨L0, rfl, s0, t0⟩ := open_nine (hval 0 51 v0 rfl rfl) h0
  clear hA0 hval0
  refine (c_SmithMinors W L0 s0 t0).mono fun e W' he => ?_
  cases e with
  | panicked _ => exact he.elim
  | outgrown => exact he.elim
  | returned u =>
    obtain ⟨hk, rfl⟩ := he
    have bel := hk.below
    exact ⟨_, rfl, _, _, _, [], _, [], hW', trodAll_mk1 (shut_bool Tryd.underlying4 _), (trodAll_cons_mk (Below.trod laidOut (by kernel_rfl) (of_decide_eq_true (by kernel_rfl)) k0 bel lt0) trodAll_mk0), rfl, bel.frame _, fun h => by cases h⟩

theorem holds : Rows.SmithMinorsSaid :=
  OpenClaim.holds_of_wide 6 Tryd.f6 rfl rfl rfl rfl rfl rfl rfl ⟨rfl, rfl, rfl, rfl, rfl⟩ rfl rfl rfl rfl rfl (by kernel_rfl) Tryd.func6 (by kernel_rfl)
    (of_decide_eq_true (by kernel_rfl)) (by unfold Func.isWrapper; first | (rw [if_pos (by decide +kernel)]; kernel_rfl) | (rw [if_neg (by decide +kernel)]; exact ⟨rfl, rfl⟩))
    (fun os started H enc _ => lifted os started H enc)

theorem proved : Rows.SmithMinorsCardSaid :=
  Claim7.holds_tied_plain_at .later [] [.data, .pinned] true (true, "cc23a4903c81a88f9f2d30ccd7eb806dc09b48692cbe9d190c5dfe290dcbcea7") false holds (fun _ h => by cases h) (by kernel_rfl) (fun _ h => by cases h) smithMinors_row_tie rfl ⟨rfl, rfl⟩ (by kernel_rfl) rfl
    (fun f fn hf hfn => by
      obtain rfl : f = 6 := Option.some.inj ((show Tryd.prog.funcNamed "cocycle/cocyclelaw03.SmithMinors" = some 6 by kernel_rfl).symm.trans hf) |>.symm
      obtain rfl : fn = Tryd.f6 := (Option.some.inj (Tryd.func6.symm.trans hfn)).symm
      exact ⟨by kernel_rfl, fun j t ht => by
        rw [Tryd.params6] at ht
        have hm : t ∈ [51] := by simpa using Array.mem_of_getElem? ht
        have hall : ([51].all fun u => !Tryd.prog.wantsStandIn u) = true := by kernel_rfl
        exact (show Tryd.prog.wantsStandIn t = false by simpa using List.all_eq_true.1 hall t hm)⟩)
    (by kernel_rfl)

end Go.Proofs.YtemdknkghacheaaDoor.smithMinors

