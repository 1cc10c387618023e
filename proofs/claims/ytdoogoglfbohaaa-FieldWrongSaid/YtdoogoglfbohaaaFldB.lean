/- Matrices as lists, and as matrices over the numbers modulo p. -/
import Derived.Test.YtdoogoglfbohaaaFldY0
namespace Go.Proofs.Ytdoogoglfbohaaa
open Go Go.RowKit
set_option linter.unusedSimpArgs false
set_option linter.unusedVariables false
set_option linter.unusedSectionVars false

section
variable {p : Nat} [NeZero p]

theorem fi_sum : ∀ {k : Nat} {f : Nat → Nat}, fi p (sumTo k f) = sm k fun t => fi p (f t)
  | 0, _ => fi_zero
  | k + 1, f => by rw [sumTo, sm, fi_add, fi_sum]

/-- The matrix m, modulo p. -/
def mx (p : Nat) [NeZero p] (m : NM) : Mx p := mxL p m.c m.e

theorem mx_in {m : NM} {i j : Nat} (hj : j < m.c) : mx p m i j = fi p (ent m.c m.e i j) := mxL_in hj
theorem mx_out {m : NM} {i j : Nat} (hj : m.c ≤ j) : mx p m i j = 0 := mxL_out hj

theorem mx_tab2 {q r c : Nat} {g : Nat → Nat → Nat} {i j : Nat} (hi : i < r) (hj : j < c) : mx p ⟨q, r, c, tab2 r c g⟩ i j = fi p (g i j) := by
  rw [mx_in hj]
  show fi p (ent c (tab2 r c g) i j) = _
  rw [ent_tab2 hi hj]

theorem mx_mul {m n : NM} (hp : m.p = p) {i j : Nat} (hi : i < m.r) : mx p (mulM m n) i j = mm m.c (mx p m) (mx p n) i j := by
  subst hp
  by_cases hj : j < n.c
  · show mx m.p ⟨m.p, m.r, n.c, tab2 m.r n.c fun i j => dot m n i j m.c⟩ i j = _
    rw [mx_tab2 hi hj]
    unfold dot mm
    rw [fi_mod, fi_sum]
    exact sm_congr fun t ht => by rw [mx_in ht, mx_in hj, fi_mul]
  · rw [mx_out (m := mulM m n) (show n.c ≤ j by omega)]
    unfold mm
    exact (sm_zero fun t _ => by rw [mx_out (show n.c ≤ j by omega)]; grind).symm

theorem ext_mx {c : Nat} {m n : NM} (hm : Els p m.r m.c m.e) (hn : Els p n.r n.c n.e) (h1 : m.p = n.p) (h2 : m.r = n.r) (h3 : m.c = n.c) (hp : 0 < p) (h : ∀ i, i < m.r → ∀ j, j < m.c → mx p m i j = mx p n i j) : m = n := by
  obtain ⟨q, r, c, e⟩ := m
  obtain ⟨q', r', c', e'⟩ := n
  simp only at h1 h2 h3 hm hn
  subst h1 h2 h3
  have : e = e' := mat_ext hm.len hn.len fun i j hi hj => by
    have := h i hi j hj
    rw [mx_in hj, mx_in hj] at this
    exact fi_inj (hm.ent hp i j) (hn.ent hp i j) this
  rw [this]
end

theorem Pr.pos' {p : Nat} (h : Pr p) : 0 < p := by have := h.1; omega
theorem Big.nz {m : NM} (h : Big m) : NeZero m.p := h.pr.nz
instance {m n : NM} [h : NeZero m.p] : NeZero (joinM m n).p := h
instance {m n : NM} [h : NeZero m.p] : NeZero (mulM m n).p := h
instance {m : NM} [h : NeZero m.p] : NeZero (echM m).p := h
instance {m : NM} [h : NeZero m.p] : NeZero (trM m).p := h
instance {m : NM} [h : NeZero m.p] : NeZero (imgM m).p := h
instance {m : NM} [h : NeZero m.p] : NeZero (kerM m).p := h

section
variable {m : NM} [NeZero m.p] (h : Big m)
include h

theorem ech_ok : RedOk m.p m.r m.c m.e m.c (redTo m.p m.r m.c m.e m.c) := redTo_ok h.pr h.els m.c (Nat.le_refl _)
theorem ech_red : Red m.r m.c (mx m.p (echM m)) (pivM m).length (fun i => (pivM m).getD i 0) := (ech_ok h).red
theorem ech_req : REq m.r (mx m.p m) (mx m.p (echM m)) := (ech_ok h).req
theorem ech_els : Els m.p m.r m.c (echM m).e := (ech_ok h).els
theorem ech_big : Big (echM m) := ⟨h.pr, h.r, h.c, (ech_els h).len, (ech_els h).lt⟩

/-- The echelon form is told by any reduced form of the same rows. -/
theorem ech_unique {e : Mx m.p} {k : Nat} {pv : Nat → Nat} (hr : Red m.r m.c e k pv) (hq : REq m.r (mx m.p m) e) :
    (pivM m).length = k ∧ (∀ i, i < k → (pivM m).getD i 0 = pv i) ∧ ∀ i, i < m.r → ∀ j, j < m.c → mx m.p (echM m) i j = e i j := by
  obtain ⟨h1, h2, h3⟩ := (ech_red h).unique h.pr.gt hr ((ech_req h).symm.trans hq)
  exact ⟨h1, fun i hi => h2 i (by omega), h3⟩
theorem piv_unique {e : Mx m.p} {l : List Nat} (hr : Red m.r m.c e l.length (fun i => l.getD i 0)) (hq : REq m.r (mx m.p m) e) : pivM m = l := by
  obtain ⟨h1, h2, _⟩ := ech_unique h hr hq
  exact ext_getD (d := 0) h1 fun i hi => h2 i (by omega)
end

/-- The same rows: the same echelon form. -/
theorem ech_same {m n : NM} [NeZero m.p] (hm : Big m) (hn : Big n) (h1 : n.p = m.p) (h2 : n.r = m.r) (h3 : n.c = m.c) (hq : REq m.r (mx m.p m) (mx m.p n)) : echM m = echM n ∧ pivM m = pivM n := by
  obtain ⟨q, r, c, e⟩ := n
  simp only at h1 h2 h3
  subst h1 h2 h3
  have hr := ech_red hn
  have hqq := hq.trans (ech_req hn)
  have a := ech_unique hm hr hqq
  refine ⟨?_, piv_unique hm hr hqq⟩
  exact ext_mx (p := m.p) (c := m.c) (ech_els hm) (ech_els hn) rfl rfl rfl hm.pr.pos' a.2.2

/-! ## Ranks -/

theorem rank_comb {x : NM} [NeZero x.p] (hx : Big x) {k : Nat} (W Y : Mx x.p) (hW : ∀ i, i < x.r → ∀ j, j < x.c → mx x.p x i j = sm k fun t => W i t * Y t j) : (pivM x).length ≤ k := by
  obtain ⟨U, V, h1, _⟩ := ech_req hx
  refine (ech_red hx).rank_le hx.pr.gt hx.pr.inv (mm x.r U W) Y fun i hi j hj => ?_
  rw [h1 i (Nat.lt_of_lt_of_le hi (ech_red hx).kr)]
  have h3 : mm x.r U (mx x.p x) i j = mm x.r U (mm k W Y) i j := mm_congr (fun _ _ => rfl) (fun t ht => hW t ht j hj)
  rw [h3, ← mm_assoc]
  rfl

theorem rank_mul {x y : NM} (hx : Big x) (hy : Big y) (hp : y.p = x.p) (hc : y.c = x.c) (b : NM) (hb : b.c = y.r) (hb' : b.r = x.r) (hbp : b.p = x.p) (he : x = mulM b y) : (pivM x).length ≤ (pivM y).length := by
  haveI := hx.pr.nz
  obtain ⟨py, ry, cy, ey⟩ := y
  simp only at hp hc hb
  subst hp
  obtain ⟨U, V, _, h2⟩ := ech_req hy
  refine rank_comb hx (mm ry (mx x.p b) V) (mx x.p (echM ⟨x.p, ry, cy, ey⟩)) fun i hi j hj => ?_
  have h00 : mx x.p x i j = mx x.p (mulM b ⟨x.p, ry, cy, ey⟩) i j := congrArg (fun z => mx x.p z i j) he
  have h0 : mx x.p x i j = mm b.c (mx x.p b) (mx x.p ⟨x.p, ry, cy, ey⟩) i j := h00.trans (mx_mul hbp (by omega))
  rw [h0, hb]
  have h3 : mm ry (mx x.p b) (mx x.p ⟨x.p, ry, cy, ey⟩) i j = mm ry (mx x.p b) (mm ry V (mx x.p (echM ⟨x.p, ry, cy, ey⟩))) i j := mm_congr (fun _ _ => rfl) (fun t ht => h2 t ht j)
  rw [h3, ← mm_assoc]
  exact (ech_red hy).cut (show j < cy by omega)

theorem tr_tr {m : NM} (h : m.e.length = m.r * m.c) : trM (trM m) = m := by
  obtain ⟨p, r, c, e⟩ := m
  have h : e.length = r * c := h
  show (⟨p, r, c, tab2 r c fun i j => ent r (tab2 c r fun i j => ent c e j i) j i⟩ : NM) = ⟨p, r, c, e⟩
  have : (tab2 r c fun i j => ent r (tab2 c r fun i j => ent c e j i) j i) = e := by
    refine Eq.trans (tab2_congr fun i j hi hj => ?_) (tab2_of h)
    rw [ent_tab2 hj hi]
  rw [this]
theorem rank_tr_le {m : NM} (hm : Rt m) : (pivM (trM m)).length ≤ (pivM m).length := by
  haveI := hm.pr.nz
  haveI : NeZero (trM m).p := hm.pr.nz
  obtain ⟨U, V, _, h2⟩ := ech_req hm.big
  refine rank_comb (x := trM m) hm.tr.big (fun j s => mx m.p (echM m) s j) (fun s i => V i s) fun j hj i hi => ?_
  have hj : j < m.c := hj
  have hi : i < m.r := hi
  have h3 : mx m.p (trM m) j i = mx m.p m i j := by
    rw [mx_in hj]
    show mx m.p ⟨m.p, m.c, m.r, tab2 m.c m.r fun i j => ent m.c m.e j i⟩ j i = _
    rw [mx_tab2 hj hi]
  show mx m.p (trM m) j i = _
  rw [h3, h2 i hi, (ech_red hm.big).cut hj]
  exact sm_congr fun t _ => by grind
theorem rank_tr {m : NM} (hm : Rt m) : (pivM (trM m)).length = (pivM m).length := by
  have h1 := rank_tr_le hm
  have h2 := rank_tr_le hm.tr
  rw [tr_tr hm.len] at h2
  omega

/-! ## Solutions -/

theorem mx_join1 {p : Nat} [NeZero p] {m n : NM} {i j : Nat} (hi : i < m.r) (hj : j < m.c) : mx p (joinM m n) i j = mx p m i j := by
  show mx p ⟨m.p, m.r, m.c + n.c, tab2 m.r (m.c + n.c) fun i j => if j < m.c then ent m.c m.e i j else ent n.c n.e i (j - m.c)⟩ i j = _
  rw [mx_tab2 hi (by omega), if_pos hj, mx_in hj]
theorem mx_join2 {p : Nat} [NeZero p] {m n : NM} {i j : Nat} (hi : i < m.r) : mx p (joinM m n) i (m.c + j) = mx p n i j := by
  by_cases hj : j < n.c
  · show mx p ⟨m.p, m.r, m.c + n.c, tab2 m.r (m.c + n.c) fun i j => if j < m.c then ent m.c m.e i j else ent n.c n.e i (j - m.c)⟩ i (m.c + j) = _
    rw [mx_tab2 hi (by omega), if_neg (by omega), mx_in hj, Nat.add_sub_cancel_left]
  · rw [mx_out (m := joinM m n) (show m.c + n.c ≤ m.c + j by omega), mx_out (show n.c ≤ j by omega)]

theorem join_ech {m n : NM} [NeZero m.p] (hB : Big (joinM m n)) : Red m.r (m.c + n.c) (mx m.p (echM (joinM m n))) (pivM (joinM m n)).length (fun i => (pivM (joinM m n)).getD i 0) ∧ REq m.r (mx m.p (joinM m n)) (mx m.p (echM (joinM m n))) := ⟨ech_red hB, ech_req hB⟩

theorem solG_piv {c c1 : Nat} {e l : List Nat} (hi : ∀ i i', i < i' → i' < l.length → l.getD i 0 < l.getD i' 0) : ∀ {n s : Nat}, n ≤ l.length → s < n → ∀ b, solG c c1 e l n (l.getD s 0) b = ent c e s (c1 + b)
  | 0, s, _, h, _ => by omega
  | n + 1, s, hn, hs, b => by
    show (if l.getD s 0 = l.getD n 0 then ent c e n (c1 + b) else solG c c1 e l n (l.getD s 0) b) = _
    by_cases h : s = n
    · subst h; rw [if_pos rfl]
    · have := hi s n (by omega) (by omega)
      rw [if_neg (by omega), solG_piv hi (by omega) (by omega)]
theorem solG_else {c c1 : Nat} {e l : List Nat} {a : Nat} : ∀ {n : Nat}, (∀ s, s < n → l.getD s 0 ≠ a) → ∀ b, solG c c1 e l n a b = 0
  | 0, _, _ => rfl
  | n + 1, h, b => by
    show (if a = l.getD n 0 then ent c e n (c1 + b) else solG c c1 e l n a b) = _
    rw [if_neg (fun q => h n (by omega) q.symm), solG_else (fun s hs => h s (by omega))]

theorem solM_some {m n x : NM} (h : solM m n = some x) : (∀ i, i < (pivM (joinM m n)).length → (pivM (joinM m n)).getD i 0 < m.c) ∧ x = ⟨m.p, m.c, n.c, tab2 m.c n.c (solG (m.c + n.c) m.c (echM (joinM m n)).e (pivM (joinM m n)) (pivM (joinM m n)).length)⟩ := by
  unfold solM at h
  split at h
  · rename_i hall
    cases h
    exact ⟨fun i hi => hall _ (mem_getD hi), rfl⟩
  · cases h

theorem sol_rt {m n x : NM} (hm : Rt m) (hn : Rt n) (hp : m.p = n.p) (h : solM m n = some x) : Rt x := by
  haveI := hm.pr.nz
  obtain ⟨_, rfl⟩ := solM_some h
  have hB := Big.join hm hn hp
  have hpos := hm.pos
  refine ⟨hm.pr, hm.c, hn.c, by simp, tab2_lt (r := m.c) (c := n.c) (p := m.p) (g := solG (m.c + n.c) m.c (echM (joinM m n)).e (pivM (joinM m n)) (pivM (joinM m n)).length) fun a b _ _ => ?_⟩
  have hent := (ech_els (m := joinM m n) hB).ent hpos
  have key : ∀ k, solG (m.c + n.c) m.c (echM (joinM m n)).e (pivM (joinM m n)) k a b < m.p := fun k => by
    induction k with
    | zero => exact hpos
    | succ k ih =>
      show (if a = (pivM (joinM m n)).getD k 0 then ent (m.c + n.c) (echM (joinM m n)).e k (m.c + b) else _) < m.p
      split
      · exact hent _ _
      · exact ih
  exact key _

/-- A solution, modulo p. -/
theorem mx_sol {m n x : NM} [NeZero m.p] (hm : Rt m) (hn : Rt n) (hp : m.p = n.p) (h : solM m n = some x) :
    (∀ s, s < (pivM (joinM m n)).length → ∀ b, mx m.p x ((pivM (joinM m n)).getD s 0) b = mx m.p (echM (joinM m n)) s (m.c + b)) ∧
    (∀ a, a < m.c → (∀ s, s < (pivM (joinM m n)).length → (pivM (joinM m n)).getD s 0 ≠ a) → ∀ b, mx m.p x a b = 0) := by
  obtain ⟨hall, rfl⟩ := solM_some h
  have hB := Big.join hm hn hp
  have hr := (join_ech hB).1
  refine ⟨fun s hs b => ?_, fun a ha hne b => ?_⟩
  · by_cases hb : b < n.c
    · rw [mx_tab2 (hall s hs) hb, solG_piv hr.inc (Nat.le_refl _) hs]
      exact (mx_in (m := echM (joinM m n)) (show m.c + b < m.c + n.c by omega)).symm
    · exact (mx_out (m := ⟨m.p, m.c, n.c, tab2 m.c n.c (solG (m.c + n.c) m.c (echM (joinM m n)).e (pivM (joinM m n)) (pivM (joinM m n)).length)⟩) (show n.c ≤ b by omega)).trans (mx_out (m := echM (joinM m n)) (show m.c + n.c ≤ m.c + b by omega)).symm
  · by_cases hb : b < n.c
    · rw [mx_tab2 ha hb, solG_else hne]; exact fi_zero
    · exact mx_out (m := ⟨m.p, m.c, n.c, tab2 m.c n.c (solG (m.c + n.c) m.c (echM (joinM m n)).e (pivM (joinM m n)) (pivM (joinM m n)).length)⟩) (show n.c ≤ b by omega)

theorem sol_mul {m n x : NM} (hm : Rt m) (hn : Rt n) (hp : m.p = n.p) (hrr : m.r = n.r) (h : solM m n = some x) : mulM m x = n := by
  haveI := hm.pr.nz
  have hB := Big.join hm hn hp
  obtain ⟨hall, hx⟩ := solM_some h
  have hr := (join_ech hB).1
  obtain ⟨h1, h2⟩ := mx_sol hm hn hp h
  obtain ⟨U, V, _, hV⟩ := (join_ech hB).2
  have hxr : x.r = m.c := by rw [hx]
  have hxc : x.c = n.c := by rw [hx]
  have hxt := sol_rt hm hn hp h
  have hmul := hm.mul hxt
  refine ext_mx (p := m.p) (c := n.c) hmul.big.els (hp ▸ hn.big.els) hp hrr hxc hm.pos fun i hi j hj => ?_
  have hi : i < m.r := hi
  rw [mx_mul rfl hi]
  have key : ∀ s, s < m.r → sm m.c (fun t => mx m.p (echM (joinM m n)) s t * mx m.p x t j) = mx m.p (echM (joinM m n)) s (m.c + j) := fun s hs => by
    by_cases hsk : s < (pivM (joinM m n)).length
    · rw [sm_one (k := (pivM (joinM m n)).getD s 0) (hall s hsk) (fun t ht hne => ?_)]
      · rw [hr.one s hsk, h1 s hsk]; grind
      · by_cases ht2 : ∃ s', s' < (pivM (joinM m n)).length ∧ (pivM (joinM m n)).getD s' 0 = t
        · obtain ⟨s', hs', rfl⟩ := ht2
          rw [hr.col s' s hs' hs (fun e => hne (by rw [e]))]; grind
        · rw [h2 t ht (fun s' hs' e => ht2 ⟨s', hs', e⟩)]; grind
    · have hz : ∀ q, mx m.p (echM (joinM m n)) s q = 0 := fun q => by
        by_cases hq : q < (joinM m n).c
        · exact hr.rest s q (by omega) hs hq
        · exact mx_out (m := echM (joinM m n)) (show (joinM m n).c ≤ q by omega)
      rw [hz, sm_zero]
      intro t _; rw [hz]; grind
  unfold mm
  have e1 : ∀ t, t < m.c → mx m.p m i t * mx m.p x t j = sm m.r (fun s => V i s * (mx m.p (echM (joinM m n)) s t * mx m.p x t j)) := fun t ht => by
    rw [← mx_join1 (n := n) hi ht, hV i hi t]
    unfold mm
    rw [← sm_mulr]
    exact sm_congr fun s _ => by grind
  rw [sm_congr e1, sm_swap]
  have e2 : ∀ s, s < m.r → sm m.c (fun t => V i s * (mx m.p (echM (joinM m n)) s t * mx m.p x t j)) = V i s * mx m.p (echM (joinM m n)) s (m.c + j) := fun s hs => by rw [sm_mull, key s hs]
  rw [sm_congr e2]
  have := hV i hi (m.c + j)
  rw [mx_join2 hi] at this
  exact this.symm

/-- The pivots of the left part come first. -/
theorem piv_split {m n : NM} (hm : Rt m) (hn : Rt n) (hp : m.p = n.p) : (∀ i, i < (pivM m).length → (pivM (joinM m n)).getD i 0 < m.c) ∧ (∀ i, (pivM m).length ≤ i → i < (pivM (joinM m n)).length → m.c ≤ (pivM (joinM m n)).getD i 0) ∧ (pivM m).length ≤ (pivM (joinM m n)).length := by
  haveI := hm.pr.nz
  have hB := Big.join hm hn hp
  have hr := (join_ech hB).1
  obtain ⟨U, V, hU, hV⟩ := (join_ech hB).2
  generalize hl : pivM (joinM m n) = l at *
  generalize mx m.p (echM (joinM m n)) = e at *
  obtain ⟨k, hk, hk1, hk2⟩ : ∃ k, k ≤ l.length ∧ (∀ i, i < k → l.getD i 0 < m.c) ∧ (∀ i, k ≤ i → i < l.length → m.c ≤ l.getD i 0) := by
    have key : ∀ q, q ≤ l.length → ∃ k, k ≤ q ∧ (∀ i, i < k → l.getD i 0 < m.c) ∧ (∀ i, k ≤ i → i < q → m.c ≤ l.getD i 0) := by
      intro q
      induction q with
      | zero => intro _; exact ⟨0, Nat.le_refl _, fun i h => by omega, fun i _ h => by omega⟩
      | succ q ih =>
        intro hq
        obtain ⟨k, h1, h2, h3⟩ := ih (by omega)
        by_cases hlt : l.getD q 0 < m.c
        · have : k = q := by
            rcases Nat.lt_or_ge k q with h | h
            · have a := h3 k (Nat.le_refl _) h
              have b := hr.inc k q h (by omega)
              omega
            · omega
          subst this
          exact ⟨k + 1, Nat.le_refl _, fun i hi => by
            by_cases h : i = k
            · subst h; exact hlt
            · exact h2 i (by omega), fun i a b => by omega⟩
        · exact ⟨k, by omega, h2, fun i a b => by
            by_cases h : i = q
            · subst h; omega
            · exact h3 i a (by omega)⟩
    exact key l.length (Nat.le_refl _)
  have hred : Red m.r m.c (fun i j => if j < m.c then e i j else 0) k (fun i => l.getD i 0) := by
    refine ⟨Nat.le_trans hk hr.kr, fun i i' a b => hr.inc i i' a (by omega), hk1, fun i hi => ?_, fun i i' hi hi' hne => ?_, fun i j hi hj => ?_, fun i j a b c => ?_⟩
    · rw [if_pos (hk1 i hi)]; exact hr.one i (by omega)
    · rw [if_pos (hk1 i hi)]; exact hr.col i i' (by omega) hi' hne
    · have := hk1 i hi
      rw [if_pos (by omega)]; exact hr.left i j (by omega) hj
    · rw [if_pos c]
      by_cases h : i < l.length
      · exact hr.left i j h (by have := hk2 i a h; omega)
      · exact hr.rest i j (by omega) b (show j < m.c + n.c by omega)
  have hreq : REq m.r (mx m.p m) (fun i j => if j < m.c then e i j else 0) := by
    refine ⟨U, V, fun i hi j => ?_, fun i hi j => ?_⟩
    · by_cases hj : j < m.c
      · simp only [if_pos hj]
        rw [hU i hi]
        exact mm_congr (fun _ _ => rfl) (fun t ht => mx_join1 ht hj)
      · simp only [if_neg hj]
        unfold mm
        exact (sm_zero fun t _ => by rw [mx_out (show m.c ≤ j by omega)]; grind).symm
    · by_cases hj : j < m.c
      · rw [← mx_join1 (n := n) hi hj, hV i hi]
        exact mm_congr (fun _ _ => rfl) (fun t _ => by simp only [if_pos hj])
      · rw [mx_out (show m.c ≤ j by omega)]
        unfold mm
        exact (sm_zero fun t _ => by simp only [if_neg hj]; grind).symm
  have := (ech_unique hm.big hred hreq).1
  rw [this]
  exact ⟨hk1, hk2, hk⟩

theorem sol_isSome {m n : NM} (hm : Rt m) (hn : Rt n) (hp : m.p = n.p) : (solM m n).isSome = true ↔ (pivM (joinM m n)).length = (pivM m).length := by
  obtain ⟨h1, h2, h3⟩ := piv_split hm hn hp
  unfold solM
  split
  · rename_i hall
    simp only [Option.isSome_some, true_iff]
    rcases Nat.lt_or_ge (pivM m).length (pivM (joinM m n)).length with h | h
    · have a := h2 _ (Nat.le_refl _) h
      have b := hall _ (mem_getD (d := 0) h)
      omega
    · omega
  · rename_i hall
    simp only [Option.isSome_none, Bool.false_eq_true, false_iff]
    intro he
    apply hall
    intro x hx
    obtain ⟨i, hi, rfl⟩ := List.mem_iff_getElem.1 hx
    have := h1 i (by omega)
    simpa only [List.getD, List.getElem?_eq_getElem hi, Option.getD_some] using this

theorem sol_product {m c : NM} (hm : Rt m) (hc : Rt c) (hp : m.p = c.p) (hr : m.c = c.r) : (solM m (mulM m c)).isSome = true := by
  haveI := hm.pr.nz
  have hn := hm.mul hc
  rw [sol_isSome hm hn rfl]
  obtain ⟨h1, h2, h3⟩ := piv_split hm hn rfl
  have hB := Big.join hm hn rfl
  have hrd := (join_ech hB).1
  obtain ⟨U, V, hU, hV⟩ := (join_ech hB).2
  rcases Nat.lt_or_ge (pivM m).length (pivM (joinM m (mulM m c))).length with h | h
  · exfalso
    have a := h2 _ (Nat.le_refl _) h
    have hir : (pivM m).length < m.r := Nat.lt_of_lt_of_le h hrd.kr
    have b := hrd.one _ h
    obtain ⟨j, hj⟩ : ∃ j, (pivM (joinM m (mulM m c))).getD (pivM m).length 0 = m.c + j := ⟨(pivM (joinM m (mulM m c))).getD (pivM m).length 0 - m.c, by omega⟩
    have hleft := fun t (ht : t < m.c) => hrd.left (pivM m).length t h (by omega)
    have b' : mx m.p (echM (joinM m (mulM m c))) (pivM m).length (m.c + j) = 1 := by rw [← hj]; exact b
    rw [hU _ hir] at b'
    have e1 : mm m.r U (mx m.p (joinM m (mulM m c))) (pivM m).length (m.c + j) = mm m.r U (mm m.c (mx m.p m) (mx m.p c)) (pivM m).length j :=
      sm_congr fun t ht => by rw [mx_join2 ht, mx_mul rfl ht]
    have b' : mm m.r U (mx m.p (joinM m (mulM m c))) (pivM m).length (m.c + j) = 1 := b'
    rw [e1, ← mm_assoc] at b'
    have e2 : mm m.c (mm m.r U (mx m.p m)) (mx m.p c) (pivM m).length j = 0 := sm_zero fun t ht => by
      have e3 : mm m.r U (mx m.p m) (pivM m).length t = mx m.p (echM (joinM m (mulM m c))) (pivM m).length t := by
        rw [hU _ hir]
        exact mm_congr (fun _ _ => rfl) (fun s hs => (mx_join1 hs ht).symm)
      rw [e3]
      have := hleft t ht
      have this : mx m.p (echM (joinM m (mulM m c))) (pivM m).length t = 0 := this
      rw [this]; grind
    rw [e2] at b'
    exact one_ne hm.pr.gt b'.symm
  · omega

end Go.Proofs.Ytdoogoglfbohaaa
