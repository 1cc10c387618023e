/- Walks of field: rows of a reducer, inverses. -/
import Derived.Test.YtdoogoglfbohaaaFldR
import Derived.Test.YtdoogoglfbohaaaExJ
namespace Go.Proofs.Ytdoogoglfbohaaa
open Go Go.RowKit
set_option linter.unusedSimpArgs false
set_option linter.unusedVariables false
set_option linter.unusedSectionVars false

/-- The cells of a reducer. -/
def rdC (p r c : Nat) (E : Value) (ov : List Nat) : Array Value := ⟨nv p :: nv r :: nv c :: E :: ov.map nv⟩

theorem rdC0 (p r c : Nat) (E : Value) (ov : List Nat) : (rdC p r c E ov)[0]? = some (nv p) := by simp [rdC]
theorem rdC1 (p r c : Nat) (E : Value) (ov : List Nat) : (rdC p r c E ov)[1]? = some (nv r) := by simp [rdC]
theorem rdC2 (p r c : Nat) (E : Value) (ov : List Nat) : (rdC p r c E ov)[2]? = some (nv c) := by simp [rdC]
theorem rdC3 (p r c : Nat) (E : Value) (ov : List Nat) : (rdC p r c E ov)[3]? = some E := by simp [rdC]
theorem rdC4 {p r c : Nat} {E : Value} {ov : List Nat} {n : Nat} (h : n < ov.length) : (rdC p r c E ov)[4 + n]? = some (nv (ov.getD n 0)) := by
  have h1 : (rdC p r c E ov)[4 + n]? = (nv p :: nv r :: nv c :: E :: ov.map nv)[4 + n]? := by simp [rdC]
  rw [h1, show 4 + n = n + 1 + 1 + 1 + 1 by omega]
  simp only [List.getElem?_cons_succ, List.getElem?_map, gD_lt (d := 0) h]
  rfl
theorem rdC_set {p r c : Nat} {E : Value} {ov : List Nat} {n u : Nat} : (rdC p r c E ov).setIfInBounds (4 + n) (nv u) = rdC p r c E (ov.set n u) := by
  apply Array.ext'
  rw [Array.toList_setIfInBounds, show 4 + n = n + 1 + 1 + 1 + 1 by omega]
  simp [rdC, List.map_set]
theorem rdC_size (p r c : Nat) (E : Value) (ov : List Nat) : (rdC p r c E ov).size = ov.length + 4 := by simp [rdC]

/-- At w, block b is a reducer. -/
def IsR (w : World) (b p r c : Nat) (E : Value) (ov : List Nat) : Prop := w.heap[b]? = some (.cells (rdC p r c E ov) 63 (0, 0))

set_option maxHeartbeats 1000000 in
theorem c_row (w : World) (b i p r c bE n cap : Nat) (ov : List Nat) (hR : IsR w b p r c (.slice (some ⟨bE, 0, none⟩) n cap) ov) (hi : (i + 1) * c ≤ n) (hc : 0 < c) (hn : n ≤ cap) (hn' : n ≤ 1000000) :
    Calls Try.prog 63 #[.pointer (some ⟨b, 0, none⟩), nv i] w (Ret fun v w' => Kp [] w w' ∧ v = .slice (some ⟨bE, i * c, none⟩) c (cap - i * c)) := by
  have h2 : w.cell? ⟨b, 2, none⟩ = some (nv c) := cell_of_blk hR (rdC2 _ _ _ _ _)
  have h3 : w.cell? ⟨b, 3, none⟩ = some (.slice (some ⟨bE, 0, none⟩) n cap) := cell_of_blk hR (rdC3 _ _ _ _ _)
  have e1 : (i + 1) * c = i * c + c := by rw [Nat.add_mul, Nat.one_mul]
  have e2 : i + 1 ≤ (i + 1) * c := Nat.le_mul_of_pos_right _ hc
  refine calls_of_S [⟨1, 1, [], []⟩] [] (by simp) [] Try.func63 rfl mixed (by kernel_rfl) Try.ntmps63 Try.results63 rfl ⟨by simp, by simp⟩ (by simp) ?_
  simp only [toS, textOps, toSOp, kindAt, kindOf, odAt, sopsAt, ordOf, zipF]
  (repeat' (first | refine JC.seq ?_ | refine JC.ops ?_ | refine JC.opsD ?_ | refine JO.nil ?_ | refine JX.thenN ?_ | (apply r_move; exact rfl; exact rfl; exact rfl) | (apply r_fieldAddr; exact rfl; exact rfl; exact rfl) | (apply r_assign; exact rfl; exact rfl; exact rfl) | (apply r_ldW; exact rfl; exact rfl; exact rfl; exact rfl; assumption; (first | assumption | exact (by simp))) | (apply r_add1; exact rfl; exact rfl; exact rfl; exact rfl; omega) | (apply r_mulN; exact rfl; exact rfl; exact rfl; exact rfl; (first | assumption | omega)) | (apply r_nilCheck; exact rfl; exact rfl; exact rfl)))
  refine r_sliceB rfl rfl rfl rfl rfl (by omega) hi hn ?_
  (repeat' (first | refine JO.nil ?_ | refine JX.thenN ?_ | (apply r_assign; exact rfl; exact rfl; exact rfl) | refine JC.ret ?_))
  refine JX.ret1 rfl (fun a w' st => ⟨st.kp, ?_⟩)
  rw [Nat.zero_add, e1, Nat.add_sub_cancel_left]

/-- Two rows exchanged. -/
def swG (i j : Nat) (g : Nat → Nat → Nat) : Nat → Nat → Nat := fun a b => if a = i then g j b else if a = j then g i b else g a b
def swS (i j k : Nat) (g : Nat → Nat → Nat) : Nat → Nat → Nat := fun a b => if b < k then swG i j g a b else g a b

theorem swS_zero (i j : Nat) (g : Nat → Nat → Nat) : swS i j 0 g = g := by funext a b; simp [swS]
theorem swS_step {r c i j k : Nat} {g : Nat → Nat → Nat} (hi : i < r) (hj : j < r) (hk : k < c) :
    ((tab2 r c (swS i j k g)).set (i * c + k) (ent c (tab2 r c (swS i j k g)) j k)).set (j * c + k) (ent c (tab2 r c (swS i j k g)) i k) = tab2 r c (swS i j (k + 1) g) := by
  rw [ent_tab2 hj hk, ent_tab2 hi hk, tab2_set hk, tab2_set hk]
  refine tab2_congr fun a b _ _ => ?_
  unfold swS swG
  by_cases hb : b = k
  · subst hb
    by_cases h1 : a = j
    · subst h1
      by_cases h2 : a = i
      · subst h2; simp
      · simp [h2]
    · by_cases h2 : a = i
      · subst h2; simp [h1]
      · simp [h1, h2]
  · have : (b < k + 1) = (b < k) := by simp; omega
    simp only [hb, and_false, if_false, this]

theorem tab2_get {r c i j : Nat} {g : Nat → Nat → Nat} (hi : i < r) (hj : j < c) : (tab2 r c g).getD (i * c + j) 0 = g i j := ent_tab2 hi hj

set_option maxHeartbeats 2000000 in
theorem c_swap (w : World) (b i j p r c bE n cap : Nat) (ov : List Nat) (g : Nat → Nat → Nat) (rest : List Value) (hR : IsR w b p r c (.slice (some ⟨bE, 0, none⟩) n cap) ov) (hb : b ≠ bE) (hE : w.heap[bE]? = some (.cells (rowC (tab2 r c g) rest) 3 (0, 0)))
    (hi : i < r) (hj : j < r) (hc : 0 < c) (hn : r * c = n) (hcap : n ≤ cap) (hn' : n ≤ 1000000) :
    Calls Try.prog 64 #[.pointer (some ⟨b, 0, none⟩), nv i, nv j] w (Ret fun _ w' => Kp [bE] w w' ∧ w'.heap[bE]? = some (.cells (rowC (tab2 r c (swG i j g)) rest) 3 (0, 0))) := by
  have hbE : bE < w.heap.size := by
    rcases Nat.lt_or_ge bE w.heap.size with h | h
    · exact h
    · rw [Array.getElem?_eq_none h] at hE; cases hE
  have hil := row_le (c := c) hi
  have hjl := row_le (c := c) hj
  have hbsz : b < w.heap.size := by
    rcases Nat.lt_or_ge b w.heap.size with h | h
    · exact h
    · have hR' := hR; unfold IsR at hR'; rw [Array.getElem?_eq_none h] at hR'; cases hR'
  have hcl : ∀ w', Kp [bE] w w' → IsR w' b p r c (.slice (some ⟨bE, 0, none⟩) n cap) ov := fun w' hk => (hk.block b hbsz (by simpa using hb)).trans hR
  refine calls_of_S [⟨4, 4, [], []⟩] [bE] (by simpa using hbE) [(bE, .cells (rowC (tab2 r c g) rest) 3 (0, 0))] Try.func64 rfl mixed (by kernel_rfl) Try.ntmps64 Try.results64 rfl ⟨by simp, by simpa using hE⟩ (by simp) ?_
  simp only [toS, textOps, toSOp, kindAt, kindOf, odAt, sopsAt, ordOf, zipF]
  (repeat' (first | refine JC.seq ?_ | refine JC.ops ?_ | (apply r_move; exact rfl; exact rfl; exact rfl)))
  refine r_call0 trivial rfl rfl rfl (fun w' hk _ => c_row w' b i p r c bE n cap ov (hcl w' hk) (by omega) hc hcap hn') fun w' v w'' _ _ _ hv => ?_
  subst hv
  (repeat' (first | (apply r_move; exact rfl; exact rfl; exact rfl)))
  refine r_call0 trivial rfl rfl rfl (fun w' hk _ => c_row w' b j p r c bE n cap ov (hcl w' hk) (by omega) hc hcap hn') fun w' v w'' _ _ _ hv => ?_
  subst hv
  (repeat' (first | refine JC.seq ?_ | refine JC.ops ?_ | refine JO.nil ?_ | refine JX.thenN ?_ | (apply r_move; exact rfl; exact rfl; exact rfl) | (apply r_assign; exact rfl; exact rfl; exact rfl) | (apply r_len; exact rfl; exact rfl; exact rfl) | refine JC.block ?_))
  refine JC.loopH (ι := Nat) ⟨fun k => [(17, nv k), (16, nv c), (6, .slice (some ⟨bE, i * c, none⟩) c (cap - i * c)), (7, .slice (some ⟨bE, j * c, none⟩) c (cap - j * c))], fun k => [(bE, .cells (rowC (tab2 r c (swS i j k g)) rest) 3 (0, 0))], fun k => k ≤ c, fun k => c - k⟩ 0 (by omega) (by repeat first | exact trivial | refine ⟨rfl, ?_⟩) (by dsimp only; rw [swS_zero]; exact HSub.refl _) (fun k hk => ?_)
  dsimp only at hk ⊢
  by_cases hkc : k < c
  · have h1 := idx_lt hi hkc
    have h2 := idx_lt hj hkc
    have hl : (tab2 r c (swS i j k g)).length = r * c := tab2_len _ _ _
    (repeat' (first | refine JC.seq ?_ | refine JC.ops ?_ | refine JC.opsD ?_ | refine JO.nil ?_ | refine JX.thenN ?_ | (apply r_move; exact rfl; exact rfl; exact rfl) | (apply r_assign; exact rfl; exact rfl; exact rfl) | (apply r_idxB; exact rfl; exact rfl; exact rfl; exact rfl; omega) | (apply r_ldB; exact rfl; exact rfl; exact rfl; exact rfl; (first | exact at0 | exact at1 | exact at2 | exact at3 | exact at4 | exact at5 | exact at6 | exact at7); omega) | (apply r_add1; exact rfl; exact rfl; exact rfl; exact rfl; omega) | (apply r_lss; exact rfl; exact rfl; exact rfl; exact rfl; all_goals intro hc; all_goals try (exfalso; omega)) | (apply r_stB; exact rfl; (first | exact trivial | exact ⟨rfl, rfl⟩); exact rfl; exact rfl; (first | exact at0 | exact at1 | exact at2 | exact at3 | exact at4 | exact at5 | exact at6 | exact at7); (first | omega | (simp; omega))) | refine JC.skip ?_ | refine JC.condT rfl ?_ | refine JC.block ?_ | refine JX.blockN ?_))
    refine JX.roundH (k + 1) (by dsimp only; omega) (by dsimp only; omega) (by repeat first | exact trivial | refine ⟨rfl, ?_⟩) ?_
    dsimp only
    rw [← swS_step hi hj hkc]
    exact HSub.refl _
  · (repeat' (first | refine JC.seq ?_ | refine JC.ops ?_ | refine JO.nil ?_ | refine JX.thenN ?_ | (apply r_lss; exact rfl; exact rfl; exact rfl; exact rfl; all_goals intro hc; all_goals try (exfalso; omega)) | refine JX.thenE ?_ | refine JC.exit ?_ | refine JC.condF rfl ?_ | refine JX.blockE ?_))
    refine JX.end0 (fun a w' st => ⟨st.kp, ?_⟩)
    have := st.hs.blk _ (List.mem_cons_self ..)
    have e : tab2 r c (swS i j k g) = tab2 r c (swG i j g) := tab2_congr fun a b _ hb => by unfold swS; rw [if_pos (by omega)]
    rw [e] at this
    exact this

set_option maxHeartbeats 1000000 in
theorem c_scale (w : World) (x t p k : Nat) (R : Value) (hx : x < p) (ht : t < p) (hp : p ≤ 997) :
    Calls Try.prog 67 #[.agg #[R, nv t, nv p], nv k, nv x] w (Ret fun v w' => Kp [] w w' ∧ v = nv (x * t % p)) := by
  have hb := mul_bound hx ht hp
  refine calls_of_S [] [] (by simp) [] Try.func67 rfl mixed (by kernel_rfl) Try.ntmps67 Try.results67 rfl ⟨by simp, by simp⟩ (by simp) ?_
  simp only [toS, textOps, toSOp, kindAt, kindOf, odAt, sopsAt, ordOf, zipF]
  (repeat' (first | refine JC.seq ?_ | refine JC.ops ?_ | refine JO.nil ?_ | refine JX.thenN ?_ | (apply r_move; exact rfl; exact rfl; exact rfl) | (apply r_fieldAddr; exact rfl; exact rfl; exact rfl) | (apply r_assign; exact rfl; exact rfl; exact rfl) | (apply r_load; exact rfl; exact rfl; exact rfl; exact rfl; (first | exact at0 | exact at1 | exact at2 | exact at3 | exact at4 | exact at5 | exact at6 | exact at7); exact rfl) | (apply r_mulN; exact rfl; exact rfl; exact rfl; exact rfl; (first | assumption | omega)) | (apply r_modN; exact rfl; exact rfl; exact rfl; exact rfl; omega) | (apply r_boxA; exact rfl; exact rfl; exact rfl; exact rfl; intro _) | refine JC.ret ?_))
  exact JX.ret1 rfl (fun a w' st => ⟨st.kp, rfl⟩)

set_option maxHeartbeats 1000000 in
theorem c_add (w : World) (x t p k o c cap bE : Nat) (T : TypeId) (fz : Nat × Nat) (xs : List Nat) (rest : List Value) (hE : w.heap[bE]? = some (.cells (rowC xs rest) T fz)) (hk : k < c) (ho : o + k < xs.length) (hx : x < p) (hy : xs.getD (o + k) 0 < p) (ht : t ≤ p) (hp : p ≤ 997) :
    Calls Try.prog 68 #[.agg #[.slice (some ⟨bE, o, none⟩) c cap, nv t, nv p], nv k, nv x] w (Ret fun v w' => Kp [] w w' ∧ v = nv ((x + xs.getD (o + k) 0 * t) % p)) := by
  have hb : xs.getD (o + k) 0 * t ≤ 994009 := by
    have := Nat.mul_le_mul (show xs.getD (o + k) 0 ≤ 997 by omega) (show t ≤ 997 by omega)
    omega
  have hc : w.cell? ⟨bE, o + k, none⟩ = some (nv (xs.getD (o + k) 0)) := cell_of_blk hE (rowC_get ho)
  refine calls_of_S [⟨1, 1, [], []⟩] [] (by simp) [] Try.func68 rfl mixed (by kernel_rfl) Try.ntmps68 Try.results68 rfl ⟨by simp, by simp⟩ (by simp) ?_
  simp only [toS, textOps, toSOp, kindAt, kindOf, odAt, sopsAt, ordOf, zipF]
  (repeat' (first | refine JC.seq ?_ | refine JC.ops ?_ | refine JC.opsD ?_ | refine JO.nil ?_ | refine JX.thenN ?_ | (apply r_move; exact rfl; exact rfl; exact rfl) | (apply r_fieldAddr; exact rfl; exact rfl; exact rfl) | (apply r_assign; exact rfl; exact rfl; exact rfl) | (apply r_load; exact rfl; exact rfl; exact rfl; exact rfl; (first | exact at0 | exact at1 | exact at2 | exact at3 | exact at4 | exact at5 | exact at6 | exact at7); exact rfl) | (apply r_idxB; exact rfl; exact rfl; exact rfl; exact rfl; omega) | (apply r_ldW; exact rfl; exact rfl; exact rfl; exact rfl; assumption; (first | assumption | exact (by simp))) | (apply r_addN; exact rfl; exact rfl; exact rfl; exact rfl; omega) | (apply r_mulN; exact rfl; exact rfl; exact rfl; exact rfl; (first | assumption | omega)) | (apply r_modN; exact rfl; exact rfl; exact rfl; exact rfl; omega) | (apply r_boxA; exact rfl; exact rfl; exact rfl; exact rfl; intro _) | refine JC.ret ?_))
  exact JX.ret1 rfl (fun a w' st => ⟨st.kp, rfl⟩)

/-- Row i turned by h. -/
def eaG (i : Nat) (h : Nat → Nat → Nat) (g : Nat → Nat → Nat) : Nat → Nat → Nat := fun a b => if a = i then h b (g a b) else g a b
def eaS (i k : Nat) (h : Nat → Nat → Nat) (g : Nat → Nat → Nat) : Nat → Nat → Nat := fun a b => if b < k then eaG i h g a b else g a b

theorem eaS_step {r c i k : Nat} {h g : Nat → Nat → Nat} (hi : i < r) (hk : k < c) : (tab2 r c (eaS i k h g)).set (i * c + k) (h k (g i k)) = tab2 r c (eaS i (k + 1) h g) := by
  rw [tab2_set hk]
  refine tab2_congr fun a b _ _ => ?_
  unfold eaS eaG
  by_cases hb : b = k
  · subst hb
    by_cases h1 : a = i
    · subst h1; simp
    · simp [h1]
  · have : (b < k + 1) = (b < k) := by simp; omega
    simp only [hb, and_false, if_false, this]

set_option maxHeartbeats 2000000 in
theorem c_each {f : FuncId} [TF Try.prog f] {fst cap' : Array Value} (w : World) (i r c bE cap : Nat) (g h : Nat → Nat → Nat) (rest : List Value) (hE : w.heap[bE]? = some (.cells (rowC (tab2 r c g) rest) 3 (0, 0)))
    (hi : i < r) (hn' : r * c ≤ 1000000)
    (hcl : ∀ w' k, k < c → Kp [bE] w w' → w'.heap[bE]? = some (.cells (rowC (tab2 r c (eaS i k h g)) rest) 3 (0, 0)) → Calls Try.prog f (fst ++ #[nv k, nv (g i k)] ++ cap') w' (Ret fun v w'' => Kp [] w' w'' ∧ v = nv (h k (g i k)))) :
    Calls Try.prog 65 #[.slice (some ⟨bE, i * c, none⟩) c cap, .func (.func f) fst cap'] w (Ret fun _ w' => Kp [bE] w w' ∧ w'.heap[bE]? = some (.cells (rowC (tab2 r c (eaG i h g)) rest) 3 (0, 0))) := by
  have hbE : bE < w.heap.size := by
    rcases Nat.lt_or_ge bE w.heap.size with h | h
    · exact h
    · rw [Array.getElem?_eq_none h] at hE; cases hE
  refine calls_of_S [] [bE] (by simpa using hbE) [(bE, .cells (rowC (tab2 r c g) rest) 3 (0, 0))] Try.func65 rfl mixed (by kernel_rfl) Try.ntmps65 Try.results65 rfl ⟨by simp, by simpa using hE⟩ (by simp) ?_
  simp only [toS, textOps, toSOp, kindAt, kindOf, odAt, sopsAt, ordOf, zipF]
  (repeat' (first | refine JC.seq ?_ | refine JC.ops ?_ | refine JO.nil ?_ | refine JX.thenN ?_ | (apply r_move; exact rfl; exact rfl; exact rfl) | (apply r_len; exact rfl; exact rfl; exact rfl) | refine JC.block ?_))
  refine JC.loopH (ι := Nat) ⟨fun k => [(8, nv k), (7, nv c), (6, .slice (some ⟨bE, i * c, none⟩) c cap), (0, .slice (some ⟨bE, i * c, none⟩) c cap), (1, .func (.func f) fst cap')], fun k => [(bE, .cells (rowC (tab2 r c (eaS i k h g)) rest) 3 (0, 0))], fun k => k ≤ c, fun k => c - k⟩ 0 (by omega) (by repeat first | exact trivial | refine ⟨rfl, ?_⟩) (by dsimp only; rw [show eaS i 0 h g = g by funext a b; simp [eaS]]; exact HSub.refl _) (fun k hk => ?_)
  dsimp only at hk ⊢
  by_cases hkc : k < c
  · have h1 := idx_lt hi hkc
    have hl : (tab2 r c (eaS i k h g)).length = r * c := tab2_len _ _ _
    have he : (tab2 r c (eaS i k h g)).getD (i * c + k) 0 = g i k := by
      rw [tab2_get hi hkc]; unfold eaS; rw [if_neg (by omega)]
    (repeat' (first | refine JC.seq ?_ | refine JC.ops ?_ | refine JO.nil ?_ | refine JX.thenN ?_ | (apply r_move; exact rfl; exact rfl; exact rfl) | (apply r_assign; exact rfl; exact rfl; exact rfl) | (apply r_idxB; exact rfl; exact rfl; exact rfl; exact rfl; omega) | (apply r_ldB; exact rfl; exact rfl; exact rfl; exact rfl; (first | exact at0 | exact at1 | exact at2 | exact at3 | exact at4 | exact at5 | exact at6 | exact at7); omega) | (apply r_lss; exact rfl; exact rfl; exact rfl; exact rfl; all_goals intro hc; all_goals try (exfalso; omega)) | refine JC.skip ?_ | refine JC.condT rfl ?_ | refine JC.block ?_))
    rw [he]
    refine r_callV0 trivial rfl rfl rfl rfl (fun w' hk hs => hcl w' k hkc hk (hs.blk _ (List.mem_cons_self ..))) fun w' v w'' _ _ _ hv => ?_
    subst hv
    (repeat' (first | refine JC.ops ?_ | refine JO.nil ?_ | refine JX.thenN ?_ | (apply r_move; exact rfl; exact rfl; exact rfl) | (apply r_idxB; exact rfl; exact rfl; exact rfl; exact rfl; omega) | (apply r_add1; exact rfl; exact rfl; exact rfl; exact rfl; omega) | (apply r_stB; exact rfl; (first | exact trivial | exact ⟨rfl, rfl⟩); exact rfl; exact rfl; (first | exact at0 | exact at1 | exact at2 | exact at3 | exact at4 | exact at5 | exact at6 | exact at7); (first | omega | (simp; omega))) | refine JX.blockN ?_))
    refine JX.roundH (k + 1) (by dsimp only; omega) (by dsimp only; omega) (by repeat first | exact trivial | refine ⟨rfl, ?_⟩) ?_
    dsimp only
    rw [← eaS_step hi hkc]
    exact HSub.refl _
  · (repeat' (first | refine JC.seq ?_ | refine JC.ops ?_ | refine JO.nil ?_ | refine JX.thenN ?_ | (apply r_lss; exact rfl; exact rfl; exact rfl; exact rfl; all_goals intro hc; all_goals try (exfalso; omega)) | refine JX.thenE ?_ | refine JC.exit ?_ | refine JC.condF rfl ?_ | refine JX.blockE ?_))
    refine JX.end0 (fun a w' st => ⟨st.kp, ?_⟩)
    have := st.hs.blk _ (List.mem_cons_self ..)
    have e : tab2 r c (eaS i k h g) = tab2 r c (eaG i h g) := tab2_congr fun a b _ hb => by unfold eaS; rw [if_pos (by omega)]
    rw [e] at this
    exact this

end Go.Proofs.Ytdoogoglfbohaaa
