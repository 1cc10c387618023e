/- Inverses, images, kernels, in plain words. -/
import Derived.Test.YtdoogoglfbohaaaFldB
namespace Go.Proofs.Ytdoogoglfbohaaa
open Go Go.RowKit
set_option linter.unusedSimpArgs false
set_option linter.unusedVariables false
set_option linter.unusedSectionVars false

theorem mx_one {p q n : Nat} [NeZero p] {i j : Nat} (hi : i < n) (hj : j < n) : mx p (oneM q n) i j = if i = j then 1 else 0 := by
  show mx p ⟨q, n, n, tab2 n n fun i j => if i = j then 1 else 0⟩ i j = _
  rw [mx_tab2 hi hj]
  split
  · exact fi_one
  · exact fi_zero

theorem inv_some {b i : NM} (h : invM b = some i) : b.r = b.c ∧ (pivM b).length = b.r ∧ solM b (oneM b.p b.r) = some i := by
  unfold invM at h
  split at h
  · rename_i q; exact ⟨q.1, q.2, h⟩
  · cases h

theorem inv_isSome {b : NM} (hb : Rt b) : (invM b).isSome = true ↔ b.r = b.c ∧ (pivM b).length = b.r := by
  unfold invM
  split
  · rename_i q
    refine ⟨fun _ => q, fun _ => ?_⟩
    have h1 := Rt.one hb.pr hb.r
    rw [sol_isSome hb h1 rfl]
    have h2 := (piv_split (m := b) (n := oneM b.p b.r) hb h1 rfl).2.2
    have h3 := (Pvs.of (Big.join (m := b) (n := oneM b.p b.r) hb h1 rfl)).r
    have h4 : (joinM b (oneM b.p b.r)).r = b.r := rfl
    omega
  · rename_i q
    simp only [Option.isSome_none, Bool.false_eq_true, false_iff]
    exact q

theorem inc_id {k : Nat} {pv : Nat → Nat} (hi : ∀ i i', i < i' → i' < k → pv i < pv i') (hl : ∀ i, i < k → pv i < k) : ∀ i, i < k → pv i = i := by
  have h1 := (inc_le (k' := k) (pv' := fun i => i) hi (fun _ _ a _ => a) (fun i h => ⟨pv i, hl i h, rfl⟩)).2
  have h2 : ∀ d i, i + d + 1 = k → pv i ≤ i := fun d => by
    induction d with
    | zero => intro i h; have := hl i (by omega); omega
    | succ d ih =>
      intro i h
      have a := ih (i + 1) (by omega)
      have b := hi i (i + 1) (by omega) (by omega)
      omega
  intro i hk
  have a := h1 i hk
  have b := h2 (k - 1 - i) i (by omega)
  omega

theorem inv_ok {b i : NM} (hb : Rt b) (h : invM b = some i) : Rt i ∧ i.p = b.p ∧ i.r = b.r ∧ i.c = b.r ∧ mulM b i = oneM b.p b.r ∧ mulM i b = oneM b.p b.r := by
  haveI := hb.pr.nz
  obtain ⟨hrc, hk, hs⟩ := inv_some h
  have h1 := Rt.one hb.pr hb.r
  have hit := sol_rt hb h1 rfl hs
  obtain ⟨hall, hx⟩ := solM_some hs
  have hp : i.p = b.p := by rw [hx]
  have hr : i.r = b.r := by rw [hx, hrc]
  have hc : i.c = b.r := by rw [hx]; rfl
  refine ⟨hit, hp, hr, hc, sol_mul hb h1 rfl rfl hs, ?_⟩
  have hB := Big.join (m := b) (n := oneM b.p b.r) hb h1 rfl
  have hrd := (join_ech hB).1
  obtain ⟨U, V, hU, hV⟩ := (join_ech hB).2
  obtain ⟨a1, a2⟩ := mx_sol hb h1 rfl hs
  obtain ⟨s1, s2, s3⟩ := piv_split (m := b) (n := oneM b.p b.r) hb h1 rfl
  have hkr : (pivM (joinM b (oneM b.p b.r))).length = b.r := by
    have := hrd.kr
    have q : (joinM b (oneM b.p b.r)).r = b.r := rfl
    omega
  have hid := inc_id (k := b.r) (fun x y a c => hrd.inc x y a (by omega)) (fun x hx => by have := hall x (by omega); omega)
  have hix : ∀ t, t < b.r → ∀ j, mx b.p i t j = mx b.p (echM (joinM b (oneM b.p b.r))) t (b.c + j) := fun t ht j => by
    have := a1 t (by omega) j
    rw [show (pivM (joinM b (oneM b.p b.r))).getD t 0 = t from hid t ht] at this
    exact this
  have hiU : ∀ t, t < b.r → ∀ j, j < b.r → mx b.p i t j = U t j := fun t ht j hj => by
    rw [hix t ht, hU t ht]
    have e1 : mm b.r U (mx b.p (joinM b (oneM b.p b.r))) t (b.c + j) = mm b.r U idM t j := sm_congr fun s hs => by
      rw [mx_join2 hs, mx_one hs hj]; rfl
    exact e1.trans (mm_idr hj)
  refine ext_mx (p := b.p) (c := b.r) (by have h := (hit.mul hb).big.els; rw [show (mulM i b).p = b.p from hp] at h; exact h) h1.big.els hp hr hrc.symm hb.pos fun x hx j hj => ?_
  have hx : x < i.r := hx
  have hj : j < b.c := hj
  rw [mx_mul hp hx, mx_one (by omega) (by omega), hc]
  have e1 : mm b.r (mx b.p i) (mx b.p b) x j = mm b.r U (mx b.p (joinM b (oneM b.p b.r))) x j := sm_congr fun s hs => by
    rw [hiU x (by omega) s hs, mx_join1 hs hj]
  rw [e1]
  have e2 := hU x (show x < (joinM b (oneM b.p b.r)).r by show x < b.r; omega) j
  have e2 : mx b.p (echM (joinM b (oneM b.p b.r))) x j = mm b.r U (mx b.p (joinM b (oneM b.p b.r))) x j := e2
  rw [← e2]
  have e3 : (pivM (joinM b (oneM b.p b.r))).getD j 0 = j := hid j (by omega)
  split
  · rename_i e; subst e
    have := hrd.one x (by omega)
    rw [e3] at this
    exact this
  · rename_i hne
    have := hrd.col j x (by omega) (show x < b.r by omega) hne
    rw [e3] at this
    exact this

/-- Multiplied from the left by one that has an inverse. -/
theorem ech_left {b a i : NM} (hb : Rt b) (ha : Rt a) (hp : b.p = a.p) (hc : b.c = a.r) (h : invM b = some i) : echM (mulM b a) = echM a ∧ pivM (mulM b a) = pivM a := by
  haveI := hb.pr.nz
  obtain ⟨hi, h1, h2, h3, h4, h5⟩ := inv_ok hb h
  obtain ⟨hrc, _⟩ := inv_some h
  have hba := hb.mul ha
  refine @ech_same (mulM b a) a hb.pr.nz hba.big ha.big hp.symm (by show a.r = b.r; omega) rfl ?_
  refine ⟨mx b.p i, mx b.p b, fun x hx j => ?_, fun x hx j => ?_⟩
  · have hx : x < b.r := hx
    have e0 : mm b.r (mx b.p i) (mx b.p (mulM b a)) x j = mm b.r (mx b.p i) (mm b.c (mx b.p b) (mx b.p a)) x j := sm_congr fun s hs => by rw [mx_mul rfl hs]
    have e1 : mm b.r (mx b.p i) (mm b.c (mx b.p b) (mx b.p a)) x j = mx b.p a x j := by
      rw [← mm_assoc]
      have e2 : mm b.c (mm b.r (mx b.p i) (mx b.p b)) (mx b.p a) x j = mm b.c idM (mx b.p a) x j := sm_congr fun s hs => by
        have e3 := mx_mul (p := b.p) (m := i) (n := b) h1 (i := x) (j := s) (by omega)
        rw [h5, h3, mx_one hx (by omega)] at e3
        rw [← e3]; rfl
      rw [e2]
      exact mm_id (by omega)
    exact (e0.trans e1).symm
  · have hx : x < b.r := hx
    show mx b.p (mulM b a) x j = mm b.r (mx b.p b) (mx b.p a) x j
    rw [mx_mul rfl hx, hrc]

/-! ## Images -/

theorem colsM {p : Nat} [NeZero p] {r : Nat} {A B : Mx p} (h : REq r A B) (φ : Nat → Nat) (k : Nat) : REq r (fun i j => if j < k then A i (φ j) else 0) (fun i j => if j < k then B i (φ j) else 0) := by
  obtain ⟨U, V, h1, h2⟩ := h
  refine ⟨U, V, fun i hi j => ?_, fun i hi j => ?_⟩
  · by_cases hj : j < k
    · simp only [if_pos hj]; rw [h1 i hi]; exact sm_congr fun t _ => by simp only [if_pos hj]
    · simp only [if_neg hj]; unfold mm; exact (sm_zero fun t _ => by simp only [if_neg hj]; grind).symm
  · by_cases hj : j < k
    · simp only [if_pos hj]; rw [h2 i hi]; exact sm_congr fun t _ => by simp only [if_pos hj]
    · simp only [if_neg hj]; unfold mm; exact (sm_zero fun t _ => by simp only [if_neg hj]; grind).symm

theorem REq.congrl {p : Nat} [NeZero p] {r : Nat} {A A' B : Mx p} (h : REq r A B) (ha : ∀ i, i < r → ∀ j, A i j = A' i j) : REq r A' B := (h.symm.congr ha).symm

theorem range_getD {k i : Nat} (h : i < k) : (List.range k).getD i 0 = i := by simp [List.getD, h]

theorem Rt.img {m : NM} (hm : Rt m) : Rt (imgM m) := ⟨hm.pr, hm.r, by have := (Pvs.of hm.big).c; have := hm.c; show (pivM m).length ≤ 400; omega, by simp [imgM], tab2_lt (r := m.r) (c := (pivM m).length) (p := m.p) (g := fun i k => Go.Proofs.Ytdoogoglfbohaaa.ent m.c m.e i ((pivM m).getD k 0)) fun i j _ _ => hm.ent _ _⟩

theorem img_rank {m : NM} (hm : Rt m) : (pivM (imgM m)).length = (pivM m).length ∧ (pivM (joinM (imgM m) m)).length = (pivM m).length := by
  haveI := hm.pr.nz
  haveI : NeZero (imgM m).p := hm.pr.nz
  haveI : NeZero (joinM (imgM m) m).p := hm.pr.nz
  have hr := ech_red hm.big
  have hq := ech_req hm.big
  have hJ : Big (joinM (imgM m) m) := Big.join hm.img hm rfl
  have himg : ∀ i, i < m.r → ∀ j, j < (pivM m).length → mx m.p (imgM m) i j = mx m.p m i ((pivM m).getD j 0) := fun i hi j hj => by
    show mx m.p ⟨m.p, m.r, (pivM m).length, tab2 m.r (pivM m).length fun i k => ent m.c m.e i ((pivM m).getD k 0)⟩ i j = _
    rw [mx_tab2 hi hj, mx_in (hr.lt j hj)]
  constructor
  · have hred : Red m.r (pivM m).length (fun i j => if j < (pivM m).length then mx m.p (echM m) i ((pivM m).getD j 0) else 0) (pivM m).length (fun i => i) := by
      refine ⟨hr.kr, fun _ _ a _ => a, fun _ a => a, fun i hi => ?_, fun i i' hi hi' hne => ?_, fun i j hi hj => ?_, fun i j a b c => ?_⟩
      · simp only [if_pos hi]; exact hr.one i hi
      · simp only [if_pos hi]; exact hr.col i i' hi hi' hne
      · simp only [if_pos (show j < (pivM m).length by omega)]; exact hr.col j i (by omega) (Nat.lt_of_lt_of_le hi hr.kr) (by omega)
      · simp only [if_pos c]; exact hr.rest i _ a b (hr.lt j c)
    have hreq : REq m.r (mx m.p (imgM m)) (fun i j => if j < (pivM m).length then mx m.p (echM m) i ((pivM m).getD j 0) else 0) :=
      (colsM hq (fun j => (pivM m).getD j 0) (pivM m).length).congrl fun i hi j => by
        by_cases hj : j < (pivM m).length
        · simp only [if_pos hj]; exact (himg i hi j hj).symm
        · simp only [if_neg hj]; exact (mx_out (m := imgM m) (show (pivM m).length ≤ j by omega)).symm
    exact (ech_unique (m := imgM m) hm.img.big hred hreq).1
  · have hred : Red m.r ((pivM m).length + m.c) (fun i j => if j < (pivM m).length + m.c then mx m.p (echM m) i (if j < (pivM m).length then (pivM m).getD j 0 else j - (pivM m).length) else 0) (pivM m).length (fun i => i) := by
      refine ⟨hr.kr, fun _ _ a _ => a, fun i a => by show i < _; omega, fun i hi => ?_, fun i i' hi hi' hne => ?_, fun i j hi hj => ?_, fun i j a b c => ?_⟩
      · simp only [if_pos (show i < (pivM m).length + m.c by omega), if_pos hi]; exact hr.one i hi
      · simp only [if_pos (show i < (pivM m).length + m.c by omega), if_pos hi]; exact hr.col i i' hi hi' hne
      · simp only [if_pos (show j < (pivM m).length + m.c by omega), if_pos (show j < (pivM m).length by omega)]; exact hr.col j i (by omega) (Nat.lt_of_lt_of_le hi hr.kr) (by omega)
      · simp only [if_pos c]
        refine hr.rest i _ a b ?_
        split
        · rename_i h; exact hr.lt j h
        · omega
    have hreq : REq m.r (mx m.p (joinM (imgM m) m)) (fun i j => if j < (pivM m).length + m.c then mx m.p (echM m) i (if j < (pivM m).length then (pivM m).getD j 0 else j - (pivM m).length) else 0) :=
      (colsM hq (fun j => if j < (pivM m).length then (pivM m).getD j 0 else j - (pivM m).length) ((pivM m).length + m.c)).congrl fun i hi j => by
        by_cases hj : j < (pivM m).length + m.c
        · simp only [if_pos hj]
          by_cases hj2 : j < (pivM m).length
          · rw [if_pos hj2, mx_join1 (m := imgM m) hi hj2, himg i hi j hj2]
          · rw [if_neg hj2]
            have := mx_join2 (p := m.p) (m := imgM m) (n := m) (i := i) (j := j - (pivM m).length) hi
            rw [show (imgM m).c + (j - (pivM m).length) = j by show (pivM m).length + _ = _; omega] at this
            exact this.symm
        · simp only [if_neg hj]; exact (mx_out (m := joinM (imgM m) m) (show (pivM m).length + m.c ≤ j by omega)).symm
    exact (ech_unique (m := joinM (imgM m) m) hJ hred hreq).1

/-! ## Kernels -/

theorem kcol_else {p c : Nat} {e l : List Nat} {j q a b : Nat} {G : Nat → Nat → Nat} (hb : b ≠ q) : ∀ n, kcol p c e l j q G n a b = G a b
  | 0 => by show (if a = j ∧ b = q then 1 else G a b) = _; rw [if_neg (fun h => hb h.2)]
  | n + 1 => by
    show (if a = l.getD n 0 ∧ b = q then (p - ent c e n j) % p else kcol p c e l j q G n a b) = _
    rw [if_neg (fun h => hb h.2), kcol_else hb n]
theorem kcol_none {p c : Nat} {e l : List Nat} {j q a : Nat} {G : Nat → Nat → Nat} : ∀ n, (∀ s, s < n → l.getD s 0 ≠ a) → kcol p c e l j q G n a q = if a = j then 1 else G a q
  | 0, _ => by show (if a = j ∧ q = q then 1 else G a q) = _; simp
  | n + 1, h => by
    show (if a = l.getD n 0 ∧ q = q then (p - ent c e n j) % p else kcol p c e l j q G n a q) = _
    rw [if_neg (fun x => h n (by omega) x.1.symm), kcol_none n (fun s hs => h s (by omega))]
theorem kcol_piv {p c : Nat} {e l : List Nat} {j q : Nat} {G : Nat → Nat → Nat} (hi : ∀ i i', i < i' → i' < l.length → l.getD i 0 < l.getD i' 0) : ∀ {n s : Nat}, n ≤ l.length → s < n → kcol p c e l j q G n (l.getD s 0) q = (p - ent c e s j) % p
  | 0, s, _, h => by omega
  | n + 1, s, hn, hs => by
    show (if l.getD s 0 = l.getD n 0 ∧ q = q then (p - ent c e n j) % p else kcol p c e l j q G n (l.getD s 0) q) = _
    by_cases h : s = n
    · subst h; rw [if_pos ⟨rfl, rfl⟩]
    · have := hi s n (by omega) (by omega)
      rw [if_neg (by omega), kcol_piv hi (by omega) (by omega)]
theorem kerG_new {p c : Nat} {e l : List Nat} : ∀ {J q : Nat}, cnt l J ≤ q → ∀ a, kerG p c e l J a q = 0
  | 0, _, _, _ => rfl
  | J + 1, q, h, a => by
    show (if J ∈ l then kerG p c e l J else kcol p c e l J (cnt l J) (kerG p c e l J) l.length) a q = 0
    rw [cnt] at h
    split
    · rename_i hj; rw [if_pos hj] at h; exact kerG_new h a
    · rename_i hj; rw [if_neg hj] at h; rw [kcol_else (by omega), kerG_new (by omega)]
/-- A column of the kernel, by its free column. -/
theorem kerG_col {p c : Nat} {e l : List Nat} {j : Nat} (hj : j ∉ l) : ∀ d a, kerG p c e l (j + 1 + d) a (cnt l j) = kcol p c e l j (cnt l j) (fun _ _ => 0) l.length a (cnt l j)
  | 0, a => by
    show (if j ∈ l then kerG p c e l j else kcol p c e l j (cnt l j) (kerG p c e l j) l.length) a (cnt l j) = _
    rw [if_neg hj]
    have key : ∀ n, kcol p c e l j (cnt l j) (kerG p c e l j) n a (cnt l j) = kcol p c e l j (cnt l j) (fun _ _ => 0) n a (cnt l j) := fun n => by
      induction n with
      | zero =>
        show (if a = j ∧ cnt l j = cnt l j then 1 else kerG p c e l j a (cnt l j)) = if a = j ∧ cnt l j = cnt l j then 1 else 0
        rw [kerG_new (Nat.le_refl _)]
      | succ n ih =>
        show (if a = l.getD n 0 ∧ cnt l j = cnt l j then (p - ent c e n j) % p else _) = if a = l.getD n 0 ∧ cnt l j = cnt l j then (p - ent c e n j) % p else _
        rw [ih]
    exact key _
  | d + 1, a => by
    show (if j + 1 + d ∈ l then kerG p c e l (j + 1 + d) else kcol p c e l (j + 1 + d) (cnt l (j + 1 + d)) (kerG p c e l (j + 1 + d)) l.length) a (cnt l j) = _
    split
    · exact kerG_col hj d a
    · have h1 := cnt_mono (l := l) (j := j + 1) d
      rw [cnt, if_neg hj] at h1
      rw [kcol_else (by omega), kerG_col hj d a]

theorem cnt_free {l : List Nat} : ∀ {J q : Nat}, q < cnt l J → ∃ j, j < J ∧ j ∉ l ∧ cnt l j = q
  | 0, q, h => by simp [cnt] at h
  | J + 1, q, h => by
    rw [cnt] at h
    split at h
    · obtain ⟨j, a, b⟩ := cnt_free h; exact ⟨j, by omega, b⟩
    · rename_i hJ
      by_cases hq : q < cnt l J
      · obtain ⟨j, a, b⟩ := cnt_free hq; exact ⟨j, by omega, b⟩
      · exact ⟨J, by omega, hJ, by omega⟩

theorem kcol_lt {p c : Nat} {e l : List Nat} {j q a b : Nat} {G : Nat → Nat → Nat} (hp : 1 < p) (hG : G a b < p) : ∀ n, kcol p c e l j q G n a b < p
  | 0 => by
    show (if a = j ∧ b = q then 1 else G a b) < p
    split <;> omega
  | n + 1 => by
    show (if a = l.getD n 0 ∧ b = q then (p - ent c e n j) % p else kcol p c e l j q G n a b) < p
    split
    · exact Nat.mod_lt _ (by omega)
    · exact kcol_lt hp hG n
theorem kerG_lt {p c : Nat} {e l : List Nat} {a b : Nat} (hp : 1 < p) : ∀ J, kerG p c e l J a b < p
  | 0 => by show 0 < p; omega
  | J + 1 => by
    show (if J ∈ l then kerG p c e l J else kcol p c e l J (cnt l J) (kerG p c e l J) l.length) a b < p
    split
    · exact kerG_lt hp J
    · exact kcol_lt hp (kerG_lt hp J) _
theorem Rt.ker {m : NM} (hm : Rt m) : Rt (kerM m) := ⟨hm.pr, hm.c, by have := hm.c; show m.c - _ ≤ 400; omega, by simp [kerM], tab2_lt (r := m.c) (c := m.c - (pivM m).length) (p := m.p) (g := kerG m.p m.c (echM m).e (pivM m) m.c) fun i j _ _ => kerG_lt hm.pr.gt _⟩

/-- The element in row a, in the column that belongs to the free column j. -/
theorem ker_ent {m : NM} (hm : Rt m) {j a : Nat} (hj : j < m.c) (hf : j ∉ pivM m) (ha : a < m.c) : ent (kerM m).c (kerM m).e a (cnt (pivM m) j) = kcol m.p m.c (echM m).e (pivM m) j (cnt (pivM m) j) (fun _ _ => 0) (pivM m).length a (cnt (pivM m) j) := by
  have hP := Pvs.of hm.big
  show ent (m.c - (pivM m).length) (tab2 m.c (m.c - (pivM m).length) (kerG m.p m.c (echM m).e (pivM m) m.c)) a (cnt (pivM m) j) = _
  rw [ent_tab2 ha (cnt_lt hP.nd hP.mem hj hf)]
  have := kerG_col (p := m.p) (c := m.c) (e := (echM m).e) hf (m.c - (j + 1)) a
  rw [show j + 1 + (m.c - (j + 1)) = m.c by omega] at this
  exact this
theorem not_piv {l : List Nat} {j : Nat} (hf : j ∉ l) : ∀ s, s < l.length → l.getD s 0 ≠ j := fun s hs e => hf (by rw [← e]; exact mem_getD hs)
/-- Rows of free columns: ones and zeros. -/
theorem ker_free {m : NM} (hm : Rt m) {j q : Nat} (hj : j < m.c) (hf : j ∉ pivM m) (hq : q < m.c - (pivM m).length) : ent (kerM m).c (kerM m).e j q = if q = cnt (pivM m) j then 1 else 0 := by
  have hP := Pvs.of hm.big
  rw [← cnt_end hP.nd hP.mem] at hq
  obtain ⟨j', h1, h2, rfl⟩ := cnt_free hq
  rw [ker_ent hm h1 h2 hj, kcol_none _ (not_piv hf)]
  by_cases h : j = j'
  · subst h; simp
  · rw [if_neg h]
    split
    · rename_i e
      exfalso
      rcases Nat.lt_or_ge j j' with h3 | h3
      · have := cnt_mono (l := pivM m) (j := j + 1) (j' - (j + 1))
        rw [show j + 1 + (j' - (j + 1)) = j' by omega, cnt, if_neg hf] at this
        omega
      · have := cnt_mono (l := pivM m) (j := j' + 1) (j - (j' + 1))
        rw [show j' + 1 + (j - (j' + 1)) = j by omega, cnt, if_neg h2] at this
        omega
    · rfl

theorem ker_mul {m : NM} (hm : Rt m) : ∀ i, (mulM m (kerM m)).e.getD i 0 = 0 := fun i => by
  haveI := hm.pr.nz
  have hP := Pvs.of hm.big
  have hr := ech_red hm.big
  obtain ⟨U, V, _, hV⟩ := ech_req hm.big
  rcases Nat.lt_or_ge i (m.r * (m.c - (pivM m).length)) with hi | hi
  · obtain ⟨h1, h2, h3⟩ := idx_split hi
    have hq : i % (m.c - (pivM m).length) < cnt (pivM m) m.c := by rw [cnt_end hP.nd hP.mem]; exact h2
    obtain ⟨j, hj, hf, hcn⟩ := cnt_free hq
    have e1 : (mulM m (kerM m)).e.getD i 0 = ent (mulM m (kerM m)).c (mulM m (kerM m)).e (i / (m.c - (pivM m).length)) (i % (m.c - (pivM m).length)) := by
      unfold ent; congr 1
    rw [e1]
    refine fi_inj (p := m.p) ((hm.mul hm.ker).ent _ _) hm.pos ?_
    rw [← mx_in (p := m.p) (m := mulM m (kerM m)) h2, mx_mul rfl h1, fi_zero]
    have hz : ∀ t, t < m.c → mx m.p (kerM m) t (i % (m.c - (pivM m).length)) = fi m.p (kcol m.p m.c (echM m).e (pivM m) j (cnt (pivM m) j) (fun _ _ => 0) (pivM m).length t (cnt (pivM m) j)) := fun t ht => by
      rw [mx_in (m := kerM m) h2, ← ker_ent hm hj hf ht, hcn]
    have hdot : ∀ s, s < m.r → sm m.c (fun t => mx m.p (echM m) s t * mx m.p (kerM m) t (i % (m.c - (pivM m).length))) = 0 := fun s hs => by
      refine hr.dotker hs hj (not_piv hf) _ ?_ (fun s' hs' => ?_) (fun t ht hne h => ?_)
      · rw [hz j hj, kcol_none _ (not_piv hf), if_pos rfl]; exact fi_one
      · rw [hz _ (hP.lt s' hs'), kcol_piv hr.inc (Nat.le_refl _) hs', fi_mod, fi_sub (Nat.le_of_lt (hP.ent s' j))]; exact congrArg Neg.neg (mx_in (m := echM m) hj).symm
      · rw [hz t ht, kcol_none _ (fun s hs => h s hs), if_neg hne]; exact fi_zero
    have h4 : ∀ t, t < m.c → mx m.p m (i / (m.c - (pivM m).length)) t * mx m.p (kerM m) t (i % (m.c - (pivM m).length)) = sm m.r (fun s => V (i / (m.c - (pivM m).length)) s * (mx m.p (echM m) s t * mx m.p (kerM m) t (i % (m.c - (pivM m).length)))) := fun t _ => by
      rw [hV _ h1 t]; unfold mm; rw [← sm_mulr]; exact sm_congr fun s _ => by grind
    unfold mm
    rw [sm_congr h4, sm_swap]
    exact sm_zero fun s hs => by rw [sm_mull, hdot s hs]; grind
  · have : (mulM m (kerM m)).e.length = m.r * (m.c - (pivM m).length) := (hm.mul hm.ker).len
    rw [List.getD, List.getElem?_eq_none (by omega)]; rfl

end Go.Proofs.Ytdoogoglfbohaaa
