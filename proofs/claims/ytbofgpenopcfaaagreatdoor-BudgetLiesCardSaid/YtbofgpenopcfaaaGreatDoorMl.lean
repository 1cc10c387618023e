import Derived.Test.YtbofgpenopcfaaaGreatDoorMk
import Derived.Test.YtbofgpenopcfaaaGreatDoorMi
namespace Go.Proofs.YtbofgpenopcfaaaGreatDoor
open Go Go.RowKit
set_option linter.unusedSimpArgs false
set_option linter.unusedVariables false
set_option linter.unusedSectionVars false

def trL (r c : Nat) (g : List (List Int)) : List (List Int) := (List.range c).map fun j => (List.range r).map fun i => gE g i j
theorem Zt (r c : Nat) (g : List (List Int)) : Rec c r (trL r c g) := ⟨by simp [trL], fun x hx => by
 unfold trL at hx
 obtain ⟨j, _, rfl⟩ := List.mem_map.1 hx
 simp⟩
theorem Xb {r c i j : Nat} {g : List (List Int)} (hi : i < r) (hj : j < c) : gE (trL r c g) j i = gE g i j := by
 unfold trL gE
 simp [List.getD_eq_getElem?_getD, List.getElem?_map, List.getElem?_range, hi, hj]
theorem Q6o {r c i k : Nat} {t : Tn} {g : List (List Int)} (h : Rec r c g) (hi : i < c) (hk : k < c) : trL r c (colsL i k t g) = rowsL i k t (trL r c g) :=
 (Zt r c _).ext ((Zt r c g).rows hi hk) fun a b ha hb => by
  rw [Xb hb ha, XX h hi hk hb, XW (Zt r c g) hi hk hb, Xb hb hi, Xb hb hk, Xb hb ha]
theorem Q9c {r c i k : Nat} {g : List (List Int)} (h : Rec r c g) (hi : i < c) (hk : k < c) : trL r c (exK i k g) = exL i k (trL r c g) :=
 (Zt r c _).ext ((Zt r c g).exL hi hk) fun a b ha hb => by
  rw [Xb hb ha, Q0g h hi hk hb, Q20 (Zt r c g) hi hk, Xb hb (Wt hi hk ha)]
theorem Qcm {r c t : Nat} {g : List (List Int)} (h : Rec r c g) (ht : t < c) : trL r c (negC t g) = negR t (trL r c g) :=
 (Zt r c _).ext ((Zt r c g).negR ht) fun a b ha hb => by
  rw [Xb hb ha, Qhk h ht hb, Qaz (Zt r c g) ht hb, Xb hb ha]
theorem Q9b (n : Nat) : trL n n (oneL n) = oneL n := by
 have h : Rec n n (oneL n) := ⟨by simp [oneL], fun x hx => by
  unfold oneL at hx
  obtain ⟨i, _, rfl⟩ := List.mem_map.1 hx
  simp⟩
 refine (Zt n n _).ext h fun a b ha hb => ?_
 rw [Xb hb ha, Q3u hb ha, Q3u ha hb]
 unfold idI
 by_cases e : a = b
 ·rw [if_pos e, if_pos e.symm]
 ·rw [if_neg e, if_neg (fun h => e h.symm)]
theorem Qaj {K r c : Nat} {g : List (List Int)} (h : okG K g = true) : okG K (trL r c g) = true := by
 unfold okG trL
 refine List.all_eq_true.2 fun x hx => ?_
 obtain ⟨j, _, rfl⟩ := List.mem_map.1 hx
 refine List.all_eq_true.2 fun y hy => ?_
 obtain ⟨i, _, rfl⟩ := List.mem_map.1 hy
 exact decide_eq_true (QW h i j)

def jgC (W : WV) (m n : Nat) (t s : Int) : Array Value := #[nv m, nv n, W.u, W.ui, W.d, W.v, W.vi, iv t, iv s]
def jgH (b : Nat) (W : WV) (m n : Nat) (t s : Int) (T : WT) : SHeap := (b, .cells (jgC W m n t s) 84) :: (W.Nu ++ (tH T.u ++ (W.Nui ++ (tH T.ui ++ (W.Nd ++ (tH T.d ++ (W.Nv ++ (tH T.v ++ (W.Nvi ++ (tH T.vi ++ []))))))))))
structure IsBj (W : WV) (m n : Nat) (T : WT) (S : Sm) : Prop where
 u : IsT W.Nu W.u m m T.u S.u
 ui : IsT W.Nui W.ui m m T.ui (trL m m S.ui)
 d : IsT W.Nd W.d m n T.d S.d
 v : IsT W.Nv W.v n n T.v (trL n n S.v)
 vi : IsT W.Nvi W.vi n n T.vi S.vi
structure SameW (W W' : WV) : Prop where
 u : W'.u = W.u
 ui : W'.ui = W.ui
 d : W'.d = W.d
 v : W'.v = W.v
 vi : W'.vi = W.vi
theorem SameW.refl (W : WV) : SameW W W := ⟨rfl, rfl, rfl, rfl, rfl⟩
theorem SameW.trans {W W' W'' : WV} (h : SameW W W') (k : SameW W' W'') : SameW W W'' := ⟨k.u.trans h.u, k.ui.trans h.ui, k.d.trans h.d, k.v.trans h.v, k.vi.trans h.vi⟩
def JgR (b : Nat) (W : WV) (m n : Nat) (t s : Int) (T : WT) (t' s' : Int) (S' : Sm) (w w' : World) : Prop :=
 Kp (keys (jgH b W m n t s T)) w w' ∧ ∃ W' T', (keys (jgH b W' m n t' s' T')).Perm (keys (jgH b W m n t s T)) ∧ InW (jgH b W' m n t' s' T') w' ∧ IsBj W' m n T' S' ∧ SameW W W'
theorem JgR.same {b : Nat} {W : WV} {m n : Nat} {t s : Int} {T : WT} {S : Sm} (h : IsBj W m n T S) {w w' : World} (h1 : Kp (keys (jgH b W m n t s T)) w w') (h2 : ∀ p ∈ jgH b W m n t s T, w'.heap[p.1]? = some p.2) : JgR b W m n t s T t s S w w' :=
 ⟨h1, W, T, .refl _, h2, h, SameW.refl W⟩

set_option maxHeartbeats 8000000 in
theorem Q5d (K : Nat) (w : World) (v : Value) (N : SHeap) (ts : List TR) (cc i k : Nat) (f : Int) (hT : OwnT N v cc ts) (hs : Hsat (N ++ tH ts) w) (hi : i < ts.length) (hk : k < ts.length) (hik : i ≠ k) (hr : ts.length ≤ 200) (hcc : cc ≤ 200)
  (hK : K ≤ 21000000) (hf : f.natAbs < 256 ^ K) (hb : ∀ a b, (tM ts a b).natAbs < 256 ^ K) :
  Calls Tryz.prog 159 #[tv ts i, tv ts k, Wv f] w (Ret fun _ w' => GridR N ts v cc (fun a b => if a = i ∧ b < cc then tM ts i b + f * tM ts k b else tM ts a b) w w') := by
 have hM := QC hs
 refine Q8 [⟨5, 2, [], []⟩] (keys (N ++ tH ts)) hM (N ++ (tH ts ++ [])) Tryz.func159 rfl mixed (by kernel_rfl) Tryz.ntmps159 Tryz.results159 rfl (by simpa using hs) (fun p hp => List.mem_map.2 ⟨p, by simpa using hp, rfl⟩) ?_
 simp only [toS, textOps, toSOp, kindAt, kindOf, odAt, sopsAt, ordOf, zipF]
 have hV : ∀ a, tv ts a = tv ts a := fun _ => rfl
 repeat' first | apply jS | apply jO | apply jN | apply jT | refine Q1 ?_ | refine Q3k (h := ?_) | refine QB (h := fun _ => ?_) | apply jB
 rename_i b5
 refine Qj (ι := Nat × List TR) ⟨fun z => [(10, nv z.1), (9, nv cc), (8, tv ts k), (5, .pointer (some ⟨b5, 0, none⟩)), (0, tv ts i)], fun z => [(b5, .cells #[.bool (decide (f < 0)), sv (magU f.natAbs)] 75)] ++ (N ++ (tH z.2 ++ [])),
  fun z => z.1 ≤ cc ∧ OwnT N v cc z.2 ∧ z.2.length = ts.length ∧ (∀ a, tv z.2 a = tv ts a) ∧ ∀ a b, tM z.2 a b = if a = i ∧ b < z.1 then tM ts i b + f * tM ts k b else tM ts a b, fun z => cc - z.1⟩ (0, ts)
  ⟨by omega, hT, rfl, hV, fun a b => by rw [if_neg oq]⟩ cqq (HSub.refl _) (fun z hz => ?_)
 obtain ⟨c, t1⟩ := z
 obtain ⟨hc, hT1, hl1, hV1, hM1⟩ := hz
 dsimp only at hc hT1 hl1 hV1 hM1 ⊢
 have hi1 : i < t1.length := by omega
 have hk1 : k < t1.length := by omega
 by_cases hlt : c < cc
 ·have e1 : tM t1 i c = tM ts i c := by rw [hM1, if_neg oq]
  have e2 : tM t1 k c = tM ts k c := by rw [hM1, if_neg oq]
  repeat' first | apply jS | apply jO | apply jN | apply jT | refine Q1 ?_ | refine Q2 ?_ | refine Q0 ?_ | refine Q7 ?_ | refine QY (h := ?_) | refine Yb (h := ?_) | refine Q3 ?_ | refine Yg (h := ?_) | (refine Qi (h1 := ?_) (h2 := ?_) <;> intro hc <;> try (exfalso; omega)) | refine Qf fun _ => ?_ | refine Q3 ?_ | apply jK | refine Q5 rfl ?_ | apply jB
  rename_i b7
  have hmg : decide (magU (tM t1 k c).natAbs ≠ []) = decide (tM t1 k c ≠ 0) := decide_eq_decide.2 (not_congr (magU_nil.trans Int.natAbs_eq_zero))
  rw [hmg]
  by_cases hz : tM t1 k c = 0
  ·rw [decide_eq_false (not_not_intro hz)]
   repeat' first | apply jO | apply jN | apply jT | refine Q1 ?_ | refine Qe ?_ | apply jK | refine Q4 rfl ?_ | apply jW
   exact Qa (c + 1, t1) ⟨by dsimp only; omega, hT1, hl1, hV1, fun a b => by
    dsimp only
    rw [hM1]
    by_cases h1 : a = i ∧ b = c
    ·obtain ⟨rfl, rfl⟩ := h1
     rw [if_neg oq, if_pos ⟨rfl, by omega⟩, ← e2, hz, Int.mul_zero, Int.add_zero]
    ·have e : (a = i ∧ b < c + 1) ↔ (a = i ∧ b < c) := by omega
     simp only [e]⟩ dgq cqq (HSub.skip (HSub.refl _))
  ·rw [decide_eq_true hz]
   repeat' first | apply jD | refine Q1 ?_ | refine Qg ?_ | refine QY (h := ?_) | refine Yb (h := ?_) | refine Q5 rfl ?_
   refine Qb pqq rfl eqq rfl (fun w _ _ => Qib w _ _ f (tM t1 k c) K (Qq hf) (Qq (by rw [e2]; exact hb k c)) oq) fun w v w' _ _ _ hR => ?_
   subst hR
   skip
   refine Qb pqq rfl eqq rfl (fun w _ _ => Qed w _ _ (tM t1 i c) (f * tM t1 k c) (K + K) (Qq (by rw [e1]; exact bd2 (hb i c))) (Qq (XF hf (by rw [e2]; exact hb k c))) oq) fun w v w' _ _ _ hR => ?_
   rw [e1, e2] at hR
   subst hR
   repeat' first | refine QY (h := ?_) | fail
   refine Q1l (A := [_, _]) (B := []) (i := i) (j := c) (V := tv ts) (u := tM ts i c + f * tM ts k c) hV1 hT1 rfl rfl pqq rfl rfl hi1 hlt (fun t2 hT2 hl2 hV2 hM2 => ?_)
   repeat' first | apply jO | apply jN | apply jT | refine Q1 ?_ | refine Qe ?_ | apply jW
   refine Qa (c + 1, t2) ⟨by dsimp only; omega, hT2, by dsimp only; omega, hV2, fun a b => ?_⟩ dgq cqq (HSub.skip (HSub.refl _))
   dsimp only
   rw [hM2, hM1]
   by_cases h1 : a = i ∧ b = c
   ·obtain ⟨rfl, rfl⟩ := h1
    rw [if_pos ⟨rfl, rfl⟩, if_pos ⟨rfl, by omega⟩]
   ·rw [if_neg h1]
    have e : (a = i ∧ b < c + 1) ↔ (a = i ∧ b < c) := by omega
    simp only [e]
 ·obtain rfl : c = cc := by omega
  repeat' first | apply jS | apply jO | apply jN | apply jT | (refine Qi (h1 := ?_) (h2 := ?_) <;> intro hc <;> try (exfalso; omega)) | apply jU | apply jE | refine Q4 rfl ?_ | refine Qc ?_
  exact Zg (fun a w' st => ⟨st.kp, t1, by rw [ZR, ZR, Q9e hT hT1 hl1 hV1], fun p hp => st.hs.blk p (by simpa using Or.inr hp), hT1, hl1, hV1, hM1⟩)


theorem IsT.addR {N : SHeap} {v : Value} {r c i k : Nat} {ts ts' : List TR} {g : List (List Int)} {f : Int} (h : IsT N v r c ts g) (hi : i < r) (hk : k < r) (hik : i ≠ k) (hT : OwnT N v c ts') (hl : ts'.length = ts.length)
  (e : ∀ a b, tM ts' a b = if a = i ∧ b < c then tM ts i b + f * tM ts k b else tM ts a b) : IsT N v r c ts' (rowsL i k (aT f) g) :=
 h.rows hi hk hT hl fun a b => by
  rw [e]
  unfold aT Tn.p Tn.q
  dsimp only
  by_cases h1 : a = k ∧ b < c
  ·obtain ⟨rfl, h2⟩ := h1
   rw [if_neg oq, if_pos ⟨rfl, h2⟩, Int.zero_mul, Int.one_mul, Int.zero_add]
  ·rw [if_neg h1]
   by_cases h2 : a = i ∧ b < c
   ·rw [if_pos h2, if_pos h2, Int.one_mul]
   ·rw [if_neg h2, if_neg h2]
theorem IsT.addF {N : SHeap} {v : Value} {r c i k : Nat} {ts ts' : List TR} {g : List (List Int)} {f : Int} (h : IsT N v r c ts g) (hi : i < r) (hk : k < r) (hik : i ≠ k) (hT : OwnT N v c ts') (hl : ts'.length = ts.length)
  (e : ∀ a b, tM ts' a b = if a = k ∧ b < c then tM ts k b + (-f) * tM ts i b else tM ts a b) : IsT N v r c ts' (rowsL i k (aT f).flip g) :=
 h.rows hi hk hT hl fun a b => by
  rw [e]
  unfold aT Tn.flip Tn.p Tn.q
  dsimp only
  by_cases h1 : a = k ∧ b < c
  ·rw [if_pos h1, if_pos h1, Int.one_mul, Int.add_comm]
  ·rw [if_neg h1, if_neg h1]
   by_cases h2 : a = i ∧ b < c
   ·obtain ⟨rfl, h2⟩ := h2
    rw [if_pos ⟨rfl, h2⟩, Int.neg_zero, Int.zero_mul, Int.one_mul, Int.add_zero]
   ·rw [if_neg h2]
theorem XE {K r c : Nat} {N : SHeap} {v : Value} {ts : List TR} {g : List (List Int)} (h : IsT N v r c ts g) (hb : okG K g = true) (a b : Nat) : (tM ts a b).natAbs < 256 ^ K := by rw [h.at]; exact QW hb a b
theorem Q0y {b m n : Nat} {t s t' s' : Int} {W : WV} {T T' : WT} {S S' : Sm} (h : IsBj W m n T S) (h' : IsBj W m n T' S') (hV : SameV T T') : (keys (jgH b W m n t' s' T')).Perm (keys (jgH b W m n t s T)) := by
 have e : keys (jgH b W m n t' s' T') = keys (jgH b W m n t s T) := by
  unfold jgH
  simp only [keys, List.map_cons, List.map_append]
  have e1 := h.u.keys h'.u hV.u
  have e2 := h.ui.keys h'.ui hV.ui
  have e3 := h.d.keys h'.d hV.d
  have e4 := h.v.keys h'.v hV.v
  have e5 := h.vi.keys h'.vi hV.vi
  unfold keys at e1 e2 e3 e4 e5
  rw [e1, e2, e3, e4, e5]
 rw [e]

set_option maxHeartbeats 8000000 in
theorem Q5c (K : Nat) (w : World) (b : Nat) (W : WV) (m n : Nat) (t s : Int) (T : WT) (S : Sm) (i k : Nat) (f : Int) (hW : IsBj W m n T S) (hD : Dm m n S) (hs : Hsat (jgH b W m n t s T) w) (hi : i < m) (hk : k < m) (hik : i ≠ k) (hm : m ≤ 200) (hn : n ≤ 200)
  (hK : K ≤ 21000000) (hf : f.natAbs < 256 ^ K) (hb : Ok K S) :
  Calls Tryz.prog 110 #[.pointer (some ⟨b, 0, none⟩), nv i, nv k, Wv f] w (Ret fun _ w' => JgR b W m n t s T t s (S.rows i k (aT f)) w w') := by
 have hM := QC hs
 have hlu := hW.u.len
 have hlui := hW.ui.len
 have hld := hW.d.len
 have hTu := hW.u.T
 have hTui := hW.ui.T
 have hTd := hW.d.T
 have hVu : ∀ a, tv T.u a = tv T.u a := fun _ => rfl
 have hVui : ∀ a, tv T.ui a = tv T.ui a := fun _ => rfl
 have hVd : ∀ a, tv T.d a = tv T.d a := fun _ => rfl
 have hiu : i < T.u.length := by omega
 have hku : k < T.u.length := by omega
 have hiui : i < T.ui.length := by omega
 have hkui : k < T.ui.length := by omega
 have hid : i < T.d.length := by omega
 have hkd : k < T.d.length := by omega
 refine Q06 [1, 2, 3] [] (keys (jgH b W m n t s T)) hM (jgH b W m n t s T) Tryz.func110 rfl mixed (by kernel_rfl) Tryz.ntmps110 Tryz.results110 rfl hs (fun p hp => List.mem_map.2 ⟨p, hp, rfl⟩) ?_
 simp only [toR, inR, cond_true, cond_false, Nat.reduceBEq, toS, textOps, toSOp, kindAt, kindOf, odAt, sopsAt, ordOf, zipF]
 unfold jgH jgC
 repeat' first | apply jS | apply jO | apply jN | refine QB (h := fun _ => ?_) | apply jT
 rename_i b7
 refine X4 ((b7, .cells #[.bool (decide (f < 0)), sv (magU f.natAbs)] 75) :: (b, .cells (jgC W m n t s) 84) :: (W.Nu ++ (tH T.u ++ (W.Nui ++ (tH T.ui ++ (W.Nd ++ (tH T.d ++ (W.Nv ++ (tH T.v ++ (W.Nvi ++ (tH T.vi ++ []))))))))))) (HSub.refl _) [(3, 5, 6), (3, 6, 15), (10, 12, 13), (10, 13, 15)] (fun i op => kindAt [] i op) 1 [0, 1, 2, 3, 4, 5, 6, 7, 8, 9, 10, 11, 12, 13, 14, 15] mixed (by kernel_rfl) (by kernel_rfl) ?_
 repeat' first | refine Q1 ?_ | refine Q2 ?_ | refine Q7 ?_ | refine Qg ?_ | refine Z3 (h := ?_) | refine Y7 (h := ?_) | refine Q6 ?_ | fail
 refine Wm (A := (b7, .cells #[.bool (decide (f < 0)), sv (magU f.natAbs)] 75) :: (b, .cells (jgC W m n t s) 84) :: (W.Nu ++ (tH T.u ++ (W.Nui ++ tH T.ui)))) (N := W.Nd) (ts := T.d) (B := W.Nv ++ (tH T.v ++ (W.Nvi ++ (tH T.vi ++ [])))) (by simp only [List.cons_append, List.nil_append, List.append_assoc]; rfl) pqq rfl eqq rfl (fun w hs => Q5d K w W.d W.Nd T.d n i k f hW.d.T hs hid hkd hik oq hn hK hf (XE hW.d hb.d)) (fun _ d' hTd' hld' hVd' hMd' => ?_)
 simp only [List.cons_append, List.nil_append, List.append_assoc]
 repeat' first | apply jS | apply jN | apply jT
 refine X4 ((b7, .cells #[.bool (decide (f < 0)), sv (magU f.natAbs)] 75) :: (b, .cells (jgC W m n t s) 84) :: (W.Nu ++ (tH T.u ++ (W.Nui ++ (tH T.ui ++ (W.Nd ++ (tH d' ++ (W.Nv ++ (tH T.v ++ (W.Nvi ++ (tH T.vi ++ []))))))))))) (HSub.refl _) [(3, 5, 6), (3, 6, 15), (10, 12, 13), (10, 13, 15)] (fun i op => kindAt [] i op) 1 [0, 1, 2, 3, 4, 5, 6, 7, 8, 9, 10, 11, 12, 13, 14, 15] mixed (by kernel_rfl) (by kernel_rfl) ?_
 unfold jgC
 repeat' first | refine Q1 ?_ | refine Q2 ?_ | refine Q7 ?_ | refine Qg ?_ | refine Z3 (h := ?_) | refine Y7 (h := ?_) | refine Q6 ?_ | fail
 refine Wm (A := [(b7, .cells #[.bool (decide (f < 0)), sv (magU f.natAbs)] 75), (b, .cells (jgC W m n t s) 84)]) (N := W.Nu) (ts := T.u) (B := W.Nui ++ (tH T.ui ++ (W.Nd ++ (tH d' ++ (W.Nv ++ (tH T.v ++ (W.Nvi ++ (tH T.vi ++ [])))))))) (by simp only [List.cons_append, List.nil_append, List.append_assoc]; rfl) pqq rfl eqq rfl (fun w hs => Q5d K w W.u W.Nu T.u m i k f hW.u.T hs hiu hku hik oq hm hK hf (XE hW.u hb.u)) (fun _ u' hTu' hlu' hVu' hMu' => ?_)
 simp only [List.cons_append, List.nil_append, List.append_assoc]
 repeat' first | apply jN | apply jT
 refine X4 ((b7, .cells #[.bool (decide (f < 0)), sv (magU f.natAbs)] 75) :: (b, .cells (jgC W m n t s) 84) :: (W.Nu ++ (tH u' ++ (W.Nui ++ (tH T.ui ++ (W.Nd ++ (tH d' ++ (W.Nv ++ (tH T.v ++ (W.Nvi ++ (tH T.vi ++ []))))))))))) (HSub.refl _) [(3, 5, 6), (3, 6, 16), (10, 12, 13), (10, 13, 16), (14, 15, 16)] (fun i op => kindAt [] i op) 1 [0, 1, 2, 3, 4, 5, 6, 7, 8, 9, 10, 11, 12, 13, 14, 15, 16] mixed (by kernel_rfl) (by kernel_rfl) ?_
 unfold jgC
 repeat' first | refine Q1 ?_ | refine Q2 ?_ | refine Q7 ?_ | refine Qg ?_ | refine Z3 (h := ?_) | refine Y7 (h := ?_) | refine Q6 ?_ | fail
 refine Qb pqq rfl eqq rfl (fun w _ _ => Q6e w _ f K (Qq hf) oq) fun w v w' _ _ _ hR => ?_
 subst hR
 skip
 refine Wm (A := (b7, .cells #[.bool (decide (f < 0)), sv (magU f.natAbs)] 75) :: (b, .cells (jgC W m n t s) 84) :: (W.Nu ++ tH u')) (N := W.Nui) (ts := T.ui) (B := W.Nd ++ (tH d' ++ (W.Nv ++ (tH T.v ++ (W.Nvi ++ (tH T.vi ++ [])))))) (by simp only [List.cons_append, List.nil_append, List.append_assoc]; rfl) pqq rfl eqq rfl (fun w hs => Q5d K w W.ui W.Nui T.ui m k i (-f) hW.ui.T hs hkui hiui (fun e => hik e.symm) oq hm hK (by rw [Int.natAbs_neg]; exact hf) (XE hW.ui (Qaj hb.ui))) (fun _ w' hTw' hlw' hVw' hMw' => ?_)
 simp only [List.cons_append, List.nil_append, List.append_assoc]
 repeat' first | apply jN
 have hW' : IsBj W m n ⟨u', w', d', T.v, T.vi⟩ (S.rows i k (aT f)) := ⟨hW.u.addR hi hk hik hTu' hlu' hMu', by
  show IsT W.Nui W.ui m m w' (trL m m (colsL i k (aT f).flip S.ui))
  rw [Q6o hD.ui hi hk]
  exact hW.ui.addF hi hk hik hTw' hlw' hMw', hW.d.addR hi hk hik hTd' hld' hMd', hW.v, hW.vi⟩
 have hV' : SameV T ⟨u', w', d', T.v, T.vi⟩ := ⟨hVu', hVw', hVd', fun _ => rfl, fun _ => rfl⟩
 exact Zg (fun a w'' st => ⟨st.kp, W, _, Q0y hW hW' hV', fun p hp => st.hs.blk p (by unfold jgH at hp; exact List.mem_cons_of_mem _ hp), hW', SameW.refl W⟩)

theorem IsT.addC {N : SHeap} {v : Value} {r c i k : Nat} {ts ts' : List TR} {g : List (List Int)} {f : Int} (h : IsT N v r c ts g) (hi : i < c) (hk : k < c) (hik : i ≠ k) (hT : OwnT N v c ts') (hl : ts'.length = ts.length)
  (e : ∀ a b, tM ts' a b = if a < ts.length ∧ b = i then tM ts a i + f * tM ts a k else tM ts a b) : IsT N v r c ts' (colsL i k (aT f) g) :=
 h.cols hi hk hT hl fun a b => by
  rw [e]
  unfold aT Tn.p Tn.q
  dsimp only
  by_cases h1 : a < ts.length ∧ b = k
  ·obtain ⟨h2, rfl⟩ := h1
   rw [if_neg oq, if_pos ⟨h2, rfl⟩, Int.zero_mul, Int.one_mul, Int.zero_add]
  ·rw [if_neg h1]
   by_cases h2 : a < ts.length ∧ b = i
   ·rw [if_pos h2, if_pos h2, Int.one_mul]
   ·rw [if_neg h2, if_neg h2]

set_option maxHeartbeats 8000000 in
theorem Qbo (K : Nat) (w : World) (b : Nat) (W : WV) (m n : Nat) (t s : Int) (T : WT) (S : Sm) (i k : Nat) (f : Int) (hW : IsBj W m n T S) (hD : Dm m n S) (hs : Hsat (jgH b W m n t s T) w) (hi : i < n) (hk : k < n) (hik : i ≠ k) (hm : m ≤ 200) (hn : n ≤ 200)
  (hK : K ≤ 21000000) (hf : f.natAbs < 256 ^ K) (hb : Ok K S) :
  Calls Tryz.prog 112 #[.pointer (some ⟨b, 0, none⟩), nv i, nv k, Wv f] w (Ret fun _ w' => JgR b W m n t s T t s (S.cols i k (aT f)) w w') := by
 have hM := QC hs
 have hlv := hW.v.len
 have hlvi := hW.vi.len
 have hld := hW.d.len
 have hTv := hW.v.T
 have hTvi := hW.vi.T
 have hTd := hW.d.T
 have hVv : ∀ a, tv T.v a = tv T.v a := fun _ => rfl
 have hVvi : ∀ a, tv T.vi a = tv T.vi a := fun _ => rfl
 have hVd : ∀ a, tv T.d a = tv T.d a := fun _ => rfl
 have hiv : i < T.v.length := by omega
 have hkv : k < T.v.length := by omega
 have hivi : i < T.vi.length := by omega
 have hkvi : k < T.vi.length := by omega
 have hbd := XE hW.d hb.d
 refine Q06 [6, 7] [⟨4, 2, [], []⟩] (keys (jgH b W m n t s T)) hM (jgH b W m n t s T) Tryz.func112 rfl mixed (by kernel_rfl) Tryz.ntmps112 Tryz.results112 rfl hs (fun p hp => List.mem_map.2 ⟨p, hp, rfl⟩) ?_
 simp only [toR, inR, cond_true, cond_false, Nat.reduceBEq, toS, textOps, toSOp, kindAt, kindOf, odAt, sopsAt, ordOf, zipF]
 unfold jgH jgC
 repeat' first | apply jS | apply jO | apply jN | apply jT | refine Q1 ?_ | refine Q2 ?_ | refine Q7 ?_ | refine Qf1 (h := ?_) | refine Q6 ?_ | refine QB (h := fun _ => ?_) | apply jB
 rename_i b7
 refine Qj (ι := Nat × List TR) ⟨fun z => [(15, nv z.1), (14, nv m), (13, W.d), (7, .pointer (some ⟨b7, 0, none⟩)), (0, .pointer (some ⟨b, 0, none⟩)), (1, nv i), (2, nv k)], fun z => ((b7, .cells #[.bool (decide (f < 0)), sv (magU f.natAbs)] 75) :: (b, .cells (jgC W m n t s) 84) :: (W.Nu ++ (tH T.u ++ (W.Nui ++ (tH T.ui ++ (W.Nd ++ (tH z.2 ++ (W.Nv ++ (tH T.v ++ (W.Nvi ++ (tH T.vi ++ []))))))))))),
  fun z => z.1 ≤ m ∧ OwnT W.Nd W.d n z.2 ∧ z.2.length = T.d.length ∧ (∀ a, tv z.2 a = tv T.d a) ∧ ∀ a x, tM z.2 a x = if a < z.1 ∧ x = i then tM T.d a i + f * tM T.d a k else tM T.d a x, fun z => m - z.1⟩ (0, T.d)
  ⟨by omega, hTd, rfl, hVd, fun a x => by rw [if_neg oq]⟩ cqq (HSub.refl _) (fun z hz => ?_)
 clear hTd hVd
 obtain ⟨c, d1⟩ := z
 obtain ⟨hcm, hTd, hld1, hVd, hMd⟩ := hz
 dsimp only at hcm hTd hld1 hVd hMd ⊢
 unfold jgC
 by_cases hlt : c < m
 ·have hc1 : c < d1.length := by omega
  have e1 : tM d1 c i = tM T.d c i := by rw [hMd, if_neg oq]
  have e2 : tM d1 c k = tM T.d c k := by rw [hMd, if_neg oq]
  repeat' first | apply jS | apply jO | apply jD | apply jN | apply jT | refine Q1 ?_ | refine Q0 ?_ | refine Qg ?_ | refine QY (h := ?_) | refine Z3 (h := ?_) | refine Yb (h := ?_) | refine Y7 (h := ?_) | (refine Qi (h1 := ?_) (h2 := ?_) <;> intro hc <;> try (exfalso; omega)) | apply jK | refine Q5 rfl ?_ | apply jB
  refine Qb pqq rfl eqq rfl (fun w _ _ => Qib w _ _ f (tM d1 c k) K (Qq hf) (Qq (by rw [e2]; exact hbd c k)) oq) fun w v w' _ _ _ hR => ?_
  subst hR
  skip
  refine Qb pqq rfl eqq rfl (fun w _ _ => Qed w _ _ (tM d1 c i) (f * tM d1 c k) (K + K) (Qq (by rw [e1]; exact bd2 (hbd c i))) (Qq (XF hf (by rw [e2]; exact hbd c k))) oq) fun w v w' _ _ _ hR => ?_
  rw [e1, e2] at hR
  subst hR
  repeat' first | refine QY (h := ?_) | fail
  refine Q1l (A := (b7, .cells #[.bool (decide (f < 0)), sv (magU f.natAbs)] 75) :: (b, .cells (jgC W m n t s) 84) :: (W.Nu ++ (tH T.u ++ (W.Nui ++ tH T.ui)))) (N := W.Nd) (B := W.Nv ++ (tH T.v ++ (W.Nvi ++ (tH T.vi ++ [])))) (i := c) (j := i) (V := tv T.d) (u := tM T.d c i + f * tM T.d c k) hVd hTd (by simp only [List.cons_append, List.nil_append, List.append_assoc]; rfl) rfl pqq rfl rfl hc1 hi (fun d2 hT2 hl2 hV2 hM2 => ?_)
  simp only [List.cons_append, List.nil_append, List.append_assoc]
  repeat' first | apply jO | apply jN | apply jT | refine Q1 ?_ | refine Qe ?_ | apply jW
  refine Qa (c + 1, d2) ⟨by dsimp only; omega, hT2, by dsimp only; omega, hV2, fun a x => ?_⟩ dgq cqq (HSub.refl _)
  dsimp only
  rw [hM2, hMd]
  by_cases h1 : a = c ∧ x = i
  ·obtain ⟨rfl, rfl⟩ := h1
   rw [if_pos ⟨rfl, rfl⟩, if_pos ⟨by omega, rfl⟩]
  ·rw [if_neg h1]
   have e : (a < c + 1 ∧ x = i) ↔ (a < c ∧ x = i) := by omega
   simp only [e]
 ·obtain rfl : c = m := by omega
  clear hlt
  repeat' first | apply jS | apply jO | apply jN | apply jT | (refine Qi (h1 := ?_) (h2 := ?_) <;> intro hc <;> try (exfalso; omega)) | apply jU | apply jE | refine Q4 rfl ?_ | refine Qc ?_
  refine X4 ((b7, .cells #[.bool (decide (f < 0)), sv (magU f.natAbs)] 75) :: (b, .cells (jgC W c n t s) 84) :: (W.Nu ++ (tH T.u ++ (W.Nui ++ (tH T.ui ++ (W.Nd ++ (tH d1 ++ (W.Nv ++ (tH T.v ++ (W.Nvi ++ (tH T.vi ++ []))))))))))) (HSub.refl _) [(3, 5, 6), (3, 6, 15), (10, 12, 13), (10, 13, 15)] (fun i op => kindAt [] i op) 1 [0, 1, 2, 3, 4, 5, 6, 7, 8, 9, 10, 11, 12, 13, 14, 15] mixed (by kernel_rfl) (by kernel_rfl) ?_
  unfold jgC
  repeat' first | refine Q1 ?_ | refine Q2 ?_ | refine Q7 ?_ | refine Qg ?_ | refine Z3 (h := ?_) | refine Y7 (h := ?_) | refine Q6 ?_ | fail
  refine Wm (A := (b7, .cells #[.bool (decide (f < 0)), sv (magU f.natAbs)] 75) :: (b, .cells (jgC W c n t s) 84) :: (W.Nu ++ (tH T.u ++ (W.Nui ++ (tH T.ui ++ (W.Nd ++ tH d1)))))) (N := W.Nv) (ts := T.v) (B := W.Nvi ++ (tH T.vi ++ [])) (by simp only [List.cons_append, List.nil_append, List.append_assoc]; rfl) pqq rfl eqq rfl (fun w hs => Q5d K w W.v W.Nv T.v n i k f hW.v.T hs hiv hkv hik oq hn hK hf (XE hW.v (Qaj hb.v))) (fun _ v' hTv' hlv' hVv' hMv' => ?_)
  simp only [List.cons_append, List.nil_append, List.append_assoc]
  repeat' first | apply jN | apply jT
  refine X4 ((b7, .cells #[.bool (decide (f < 0)), sv (magU f.natAbs)] 75) :: (b, .cells (jgC W c n t s) 84) :: (W.Nu ++ (tH T.u ++ (W.Nui ++ (tH T.ui ++ (W.Nd ++ (tH d1 ++ (W.Nv ++ (tH v' ++ (W.Nvi ++ (tH T.vi ++ []))))))))))) (HSub.refl _) [(3, 5, 6), (3, 6, 16), (10, 12, 13), (10, 13, 16), (14, 15, 16)] (fun i op => kindAt [] i op) 1 [0, 1, 2, 3, 4, 5, 6, 7, 8, 9, 10, 11, 12, 13, 14, 15, 16] mixed (by kernel_rfl) (by kernel_rfl) ?_
  unfold jgC
  repeat' first | refine Q1 ?_ | refine Q2 ?_ | refine Q7 ?_ | refine Qg ?_ | refine Z3 (h := ?_) | refine Y7 (h := ?_) | refine Q6 ?_ | fail
  refine Qb pqq rfl eqq rfl (fun w _ _ => Q6e w _ f K (Qq hf) oq) fun w v w' _ _ _ hR => ?_
  subst hR
  skip
  refine Wm (A := (b7, .cells #[.bool (decide (f < 0)), sv (magU f.natAbs)] 75) :: (b, .cells (jgC W c n t s) 84) :: (W.Nu ++ (tH T.u ++ (W.Nui ++ (tH T.ui ++ (W.Nd ++ (tH d1 ++ (W.Nv ++ tH v')))))))) (N := W.Nvi) (ts := T.vi) (B := []) (by simp only [List.cons_append, List.nil_append, List.append_assoc]; rfl) pqq rfl eqq rfl (fun w hs => Q5d K w W.vi W.Nvi T.vi n k i (-f) hW.vi.T hs hkvi hivi (fun e => hik e.symm) oq hn hK (by rw [Int.natAbs_neg]; exact hf) (XE hW.vi hb.vi)) (fun _ w' hTw' hlw' hVw' hMw' => ?_)
  simp only [List.cons_append, List.nil_append, List.append_assoc]
  repeat' first | apply jN
  have hW' : IsBj W c n ⟨T.u, T.ui, d1, v', w'⟩ (S.cols i k (aT f)) := ⟨hW.u, hW.ui, hW.d.addC hi hk hik hTd hld1 (fun a x => by
   rw [hMd, hld]), by
   show IsT W.Nv W.v n n v' (trL n n (colsL i k (aT f) S.v))
   rw [Q6o hD.v hi hk]
   exact hW.v.addR hi hk hik hTv' hlv' hMv', hW.vi.addF hi hk hik hTw' hlw' hMw'⟩
  have hV' : SameV T ⟨T.u, T.ui, d1, v', w'⟩ := ⟨fun _ => rfl, fun _ => rfl, hVd, hVv', hVw'⟩
  exact Zg (fun a w'' st => ⟨st.kp, W, _, Q0y hW hW' hV', fun p hp => st.hs.blk p (by unfold jgH at hp; exact List.mem_cons_of_mem _ hp), hW', SameW.refl W⟩)


theorem Qiv (ts : List TR) (i : Nat) : (ts.getD i dT).2.2 = (tL ts).getD i [] := by
 unfold tL
 simp only [List.getD, List.getElem?_map]
 cases h : ts[i]? <;> simp [dT]
theorem Qkm (ts : List TR) (p q : Nat) : tL (swT ts p q) = exL p q (tL ts) := by
 have e : ∀ l : List TR, tL l = l.map (·.2.2) := fun _ => rfl
 unfold swT exL
 rw [← Qiv, ← Qiv, e, e, List.map_set, List.map_set]
theorem IsT.swap {N N' : SHeap} {v : Value} {r c i t : Nat} {ts : List TR} {g : List (List Int)} (h : IsT N v r c ts g) (hi : i < r) (ht : t < r) (hO : OwnRow 26 1 N' v ts.length (((ts.map (·.2.1)).set i (tv ts t)).set t (tv ts i))) : IsT N' v r c (swT ts i t) (exL i t g) := by
 have hl := h.len
 refine ⟨⟨by rw [Q9h, Qiy oq oq]; exact hO, fun q hq => h.T.rows q ((YS oq oq).mem_iff.1 hq)⟩, by rw [Q9h, hl], ?_⟩
 rw [Qkm, h.eq]
theorem IsT.swapK {N N' : SHeap} {v : Value} {r c i t : Nat} {ts : List TR} {g : List (List Int)} (h : IsT N v r c ts g) (hi : i < r) (ht : t < r) (h' : IsT N' v r c (swT ts i t) (exL i t g)) : (Go.Proofs.YtbofgpenopcfaaaGreatDoor.keys (N' ++ tH (swT ts i t))).Perm (Go.Proofs.YtbofgpenopcfaaaGreatDoor.keys (N ++ tH ts)) := by
 have hl := h.len
 have e1 : Go.Proofs.YtbofgpenopcfaaaGreatDoor.keys N' = Go.Proofs.YtbofgpenopcfaaaGreatDoor.keys N := h'.T.keys_out h.T (by rw [h'.len, hl])
 have e2 := Qav (WK (YS (ts := ts) (p := i) (q := t) oq oq))
 rw [ZR, ZR, e1]
 exact e2.append_left _
theorem Q1z {b m n : Nat} {t s t' s' : Int} {W W' : WV} {T T' : WT} (h1 : (keys (W'.Nu ++ tH T'.u)).Perm (keys (W.Nu ++ tH T.u))) (h2 : (keys (W'.Nui ++ tH T'.ui)).Perm (keys (W.Nui ++ tH T.ui))) (h3 : (keys (W'.Nd ++ tH T'.d)).Perm (keys (W.Nd ++ tH T.d)))
  (h4 : (keys (W'.Nv ++ tH T'.v)).Perm (keys (W.Nv ++ tH T.v))) (h5 : (keys (W'.Nvi ++ tH T'.vi)).Perm (keys (W.Nvi ++ tH T.vi))) : (keys (jgH b W' m n t' s' T')).Perm (keys (jgH b W m n t s T)) := by
 unfold jgH
 rw [List.perm_iff_count] at *
 intro x
 have a1 := h1 x
 have a2 := h2 x
 have a3 := h3 x
 have a4 := h4 x
 have a5 := h5 x
 simp only [keys, List.map_cons, List.map_append, List.count_cons, List.count_append, List.map_nil, List.count_nil] at *
 omega
def exP1 (i t : Nat) (S : Sm) : Nat → Sm
 | 0 => S
 | 1 => ⟨S.u, S.ui, exL i t S.d, S.v, S.vi⟩
 | 2 => ⟨exL i t S.u, S.ui, exL i t S.d, S.v, S.vi⟩
 | _ => ⟨exL i t S.u, exK i t S.ui, exL i t S.d, S.v, S.vi⟩
def exP2 (i t : Nat) (S : Sm) : Nat → Sm
 | 0 => S
 | 1 => ⟨S.u, S.ui, S.d, exK i t S.v, S.vi⟩
 | _ => ⟨S.u, S.ui, S.d, exK i t S.v, exL i t S.vi⟩
theorem IsT.exC {N : SHeap} {v : Value} {r c i k : Nat} {ts ts' : List TR} {g : List (List Int)} (h : IsT N v r c ts g) (hi : i < c) (hk : k < c) (hT : OwnT N v c ts') (hl : ts'.length = ts.length)
  (e : ∀ a b, tM ts' a b = if a < ts.length then tM ts a (exN i k b) else tM ts a b) : IsT N v r c ts' (exK i k g) :=
 h.of hT hl h.rc.exK fun a b ha hb => by
  rw [e, Q0g h.rc hi hk ha, if_pos (by rw [h.len]; exact ha), h.at]
theorem Zy {A B : SHeap} (h : B.Perm A) : HSub A B := ⟨[], by rw [List.append_nil]; exact h⟩

set_option maxHeartbeats 16000000 in
theorem Qjz (w : World) (b : Nat) (W : WV) (m n : Nat) (t : Nat) (s : Int) (T : WT) (S : Sm) (i k : Nat) (hW : IsBj W m n T S) (hD : Dm m n S) (hs : Hsat (jgH b W m n t s T) w) (hi : i < m) (hk : k < n) (htm : t < m) (htn : t < n) (hm : m ≤ 200) (hn : n ≤ 200) :
  Calls Tryz.prog 107 #[.pointer (some ⟨b, 0, none⟩), nv i, nv k] w (Ret fun _ w' => JgR b W m n t s T t s (S.ex i k t) w w') := by
 have hM := QC hs
 refine Q8 [⟨1, 0, [0, 1, 2, 3, 4, 5, 6, 7, 8, 9, 10, 11, 14, 12, 13], []⟩, ⟨4, 4, [], []⟩, ⟨9, 4, [], []⟩, ⟨11, 0, [0, 1, 2, 3, 4, 5, 6, 7, 10, 8, 9], []⟩, ⟨14, 4, [], []⟩] (keys (jgH b W m n t s T)) hM (jgH b W m n t s T) Tryz.func107 rfl mixed (by kernel_rfl) Tryz.ntmps107 Tryz.results107 rfl hs (fun p hp => List.mem_map.2 ⟨p, hp, rfl⟩) ?_
 simp only [toS, textOps, toSOp, kindAt, kindOf, odAt, sopsAt, ordOf, zipF]
 obtain ⟨Ad, cd, hfd⟩ := hW.d.T.form
 obtain ⟨Au, cu, hfu⟩ := hW.u.T.form
 obtain ⟨Ai, ci, hfi⟩ := hW.ui.T.form
 obtain ⟨Av, cv, hfv⟩ := hW.v.T.form
 obtain ⟨Aj, cj, hfj⟩ := hW.vi.T.form
 unfold jgH jgC
 repeat' first | apply jS | apply jO | apply jD | apply jN | refine Q1 ?_ | refine Q2 ?_ | refine Q0 ?_ | refine Q7 ?_ | refine Q6 ?_ | apply jT
 refine Zm (l := [(0, W.d), (1, W.u), (2, W.ui)]) (cs := #[W.d, W.u, W.ui]) rfl rfl rfl rfl dq dq (by rw [hfd, hfu, hfi]; kernel_rfl) (fun b29 => ?_)
 repeat' first | apply jN | apply jT | refine Zx (h := ?_) | apply jB
 refine Qj (ι := Nat × WV × WT) ⟨fun z => [(31, nv z.1), (30, nv 3), (29, .slice (some ⟨b29, 0, none⟩) 3 3), (6, nv t), (0, .pointer (some ⟨b, 0, none⟩)), (1, nv i), (2, nv k)], fun z => (b29, .cells #[z.2.1.d, z.2.1.u, z.2.1.ui] 82) :: jgH b z.2.1 m n t s z.2.2,
  fun z => z.1 ≤ 3 ∧ IsBj z.2.1 m n z.2.2 (exP1 i t S z.1) ∧ SameW W z.2.1 ∧ (keys (jgH b z.2.1 m n t s z.2.2)).Perm (keys (jgH b W m n t s T)), fun z => 3 - z.1⟩ (0, W, T) ⟨by omega, hW, SameW.refl W, .refl _⟩ cqq (HSub.refl _) (fun z hz => ?_)
 obtain ⟨q, W1, T1⟩ := z
 obtain ⟨hq, hW1, hS1, hk1⟩ := hz
 dsimp only at hq hW1 hS1 hk1 ⊢
 unfold jgH jgC
 by_cases hlt : q < 3
 ·have h3 : q = 0 ∨ q = 1 ∨ q = 2 := by omega
  rcases h3 with rfl | rfl | rfl
  ·have hl := hW1.d.len
   have hT := hW1.d.T
   have hV : ∀ a, tv T1.d a = tv T1.d a := fun _ => rfl
   have hi1 : i < T1.d.length := by omega
   have ht1 : t < T1.d.length := by omega
   have hO1 := hT.outer
   repeat' first | apply jS | apply jO | apply jN | apply jT | (refine Qi (h1 := ?_) (h2 := ?_) <;> intro hc <;> try (exfalso; omega)) | apply jK | refine Q5 rfl ?_ | apply jB
   refine Zk (o := 0) (j := 0) rfl rfl rfl (fun _ => rfl) rfl oq ?_
   repeat' first | apply jD | apply jN | refine Q1 ?_ | refine Q0 ?_ | refine Q7 ?_ | refine Z3 (h := ?_) | refine Y7 (h := ?_) | apply jT
   refine WQ (A := (b29, .cells #[W1.d, W1.u, W1.ui] 82) :: (b, .cells (jgC W1 m n t s) 84) :: (W1.Nu ++ (tH T1.u ++ (W1.Nui ++ (tH T1.ui))))) (N := W1.Nd) (B := tH T1.d ++ (W1.Nv ++ (tH T1.v ++ (W1.Nvi ++ (tH T1.vi ++ []))))) hT.outer (by simp only [List.cons_append, List.nil_append, List.append_assoc]; rfl) rfl pqq rfl rfl (ZE hT oq).1 (ZE hT oq).2 oq (fun N4 hO4 => ?_)
   simp only [List.cons_append, List.nil_append, List.append_assoc]
   repeat' first | refine Z3 (h := ?_) | fail
   refine WQ (A := (b29, .cells #[W1.d, W1.u, W1.ui] 82) :: (b, .cells (jgC W1 m n t s) 84) :: (W1.Nu ++ (tH T1.u ++ (W1.Nui ++ (tH T1.ui))))) (N := N4) (B := tH T1.d ++ (W1.Nv ++ (tH T1.v ++ (W1.Nvi ++ (tH T1.vi ++ []))))) hO4 (by simp only [List.cons_append, List.nil_append, List.append_assoc]) rfl pqq rfl rfl (ZE hT oq).1 (ZE hT oq).2 oq (fun N5 hO5 => ?_)
   simp only [List.cons_append, List.nil_append, List.append_assoc]
   have hsw : IsT N5 W1.d m n (swT T1.d i t) (exL i t (S.d)) := hW1.d.swap hi htm hO5
   have hkp := hW1.d.swapK hi htm hsw
   have htp := WK (YS (ts := T1.d) (p := i) (q := t) hi1 ht1)
   have hkk : (keys (jgH b { W1 with Nd := N5 } m n t s { T1 with d := swT T1.d i t })).Perm (keys (jgH b W1 m n t s T1)) := Q1z (.refl _) (.refl _) hkp (.refl _) (.refl _)
   repeat' first | apply jO | apply jN | apply jT | refine Q1 ?_ | refine Qe ?_ | apply jW
   refine Qa (1, { W1 with Nd := N5 }, { T1 with d := swT T1.d i t }) ⟨by dsimp only; omega, ⟨hW1.u, hW1.ui, hsw, hW1.v, hW1.vi⟩, ⟨hS1.u, hS1.ui, hS1.d, hS1.v, hS1.vi⟩, hkk.trans hk1⟩ dgq cqq (HSub.at 0 rfl (HSub.at 0 rfl (Zy ((((((htp.symm.append_right _).append_left _).append_left _).append_left _).append_left _).append_left _))))
  ·have hl := hW1.u.len
   have hT := hW1.u.T
   have hV : ∀ a, tv T1.u a = tv T1.u a := fun _ => rfl
   have hi1 : i < T1.u.length := by omega
   have ht1 : t < T1.u.length := by omega
   have hO1 := hT.outer
   repeat' first | apply jS | apply jO | apply jN | apply jT | (refine Qi (h1 := ?_) (h2 := ?_) <;> intro hc <;> try (exfalso; omega)) | apply jK | refine Q5 rfl ?_ | apply jB
   refine Zk (o := 0) (j := 1) rfl rfl rfl (fun _ => rfl) rfl oq ?_
   repeat' first | apply jD | apply jN | refine Q1 ?_ | refine Q0 ?_ | refine Q7 ?_ | refine Z3 (h := ?_) | refine Y7 (h := ?_) | apply jT
   refine WQ (A := (b29, .cells #[W1.d, W1.u, W1.ui] 82) :: (b, .cells (jgC W1 m n t s) 84) :: []) (N := W1.Nu) (B := tH T1.u ++ (W1.Nui ++ (tH T1.ui ++ (W1.Nd ++ (tH T1.d ++ (W1.Nv ++ (tH T1.v ++ (W1.Nvi ++ (tH T1.vi ++ []))))))))) hT.outer (by simp only [List.cons_append, List.nil_append, List.append_assoc]; rfl) rfl pqq rfl rfl (ZE hT oq).1 (ZE hT oq).2 oq (fun N4 hO4 => ?_)
   simp only [List.cons_append, List.nil_append, List.append_assoc]
   repeat' first | refine Z3 (h := ?_) | fail
   refine WQ (A := (b29, .cells #[W1.d, W1.u, W1.ui] 82) :: (b, .cells (jgC W1 m n t s) 84) :: []) (N := N4) (B := tH T1.u ++ (W1.Nui ++ (tH T1.ui ++ (W1.Nd ++ (tH T1.d ++ (W1.Nv ++ (tH T1.v ++ (W1.Nvi ++ (tH T1.vi ++ []))))))))) hO4 (by simp only [List.cons_append, List.nil_append, List.append_assoc]) rfl pqq rfl rfl (ZE hT oq).1 (ZE hT oq).2 oq (fun N5 hO5 => ?_)
   simp only [List.cons_append, List.nil_append, List.append_assoc]
   have hsw : IsT N5 W1.u m m (swT T1.u i t) (exL i t (S.u)) := hW1.u.swap hi htm hO5
   have hkp := hW1.u.swapK hi htm hsw
   have htp := WK (YS (ts := T1.u) (p := i) (q := t) hi1 ht1)
   have hkk : (keys (jgH b { W1 with Nu := N5 } m n t s { T1 with u := swT T1.u i t })).Perm (keys (jgH b W1 m n t s T1)) := Q1z hkp (.refl _) (.refl _) (.refl _) (.refl _)
   repeat' first | apply jO | apply jN | apply jT | refine Q1 ?_ | refine Qe ?_ | apply jW
   refine Qa (2, { W1 with Nu := N5 }, { T1 with u := swT T1.u i t }) ⟨by dsimp only; omega, ⟨hsw, hW1.ui, hW1.d, hW1.v, hW1.vi⟩, ⟨hS1.u, hS1.ui, hS1.d, hS1.v, hS1.vi⟩, hkk.trans hk1⟩ dgq cqq (HSub.at 0 rfl (HSub.at 0 rfl (Zy ((htp.symm.append_right _).append_left _))))
  ·have hl := hW1.ui.len
   have hT := hW1.ui.T
   have hV : ∀ a, tv T1.ui a = tv T1.ui a := fun _ => rfl
   have hi1 : i < T1.ui.length := by omega
   have ht1 : t < T1.ui.length := by omega
   have hO1 := hT.outer
   repeat' first | apply jS | apply jO | apply jN | apply jT | (refine Qi (h1 := ?_) (h2 := ?_) <;> intro hc <;> try (exfalso; omega)) | apply jK | refine Q5 rfl ?_ | apply jB
   refine Zk (o := 0) (j := 2) rfl rfl rfl (fun _ => rfl) rfl oq ?_
   repeat' first | apply jD | apply jN | refine Q1 ?_ | refine Q0 ?_ | refine Q7 ?_ | refine Z3 (h := ?_) | refine Y7 (h := ?_) | apply jT
   refine WQ (A := (b29, .cells #[W1.d, W1.u, W1.ui] 82) :: (b, .cells (jgC W1 m n t s) 84) :: (W1.Nu ++ (tH T1.u))) (N := W1.Nui) (B := tH T1.ui ++ (W1.Nd ++ (tH T1.d ++ (W1.Nv ++ (tH T1.v ++ (W1.Nvi ++ (tH T1.vi ++ []))))))) hT.outer (by simp only [List.cons_append, List.nil_append, List.append_assoc]; rfl) rfl pqq rfl rfl (ZE hT oq).1 (ZE hT oq).2 oq (fun N4 hO4 => ?_)
   simp only [List.cons_append, List.nil_append, List.append_assoc]
   repeat' first | refine Z3 (h := ?_) | fail
   refine WQ (A := (b29, .cells #[W1.d, W1.u, W1.ui] 82) :: (b, .cells (jgC W1 m n t s) 84) :: (W1.Nu ++ (tH T1.u))) (N := N4) (B := tH T1.ui ++ (W1.Nd ++ (tH T1.d ++ (W1.Nv ++ (tH T1.v ++ (W1.Nvi ++ (tH T1.vi ++ []))))))) hO4 (by simp only [List.cons_append, List.nil_append, List.append_assoc]) rfl pqq rfl rfl (ZE hT oq).1 (ZE hT oq).2 oq (fun N5 hO5 => ?_)
   simp only [List.cons_append, List.nil_append, List.append_assoc]
   have hsw : IsT N5 W1.ui m m (swT T1.ui i t) (exL i t (trL m m S.ui)) := hW1.ui.swap hi htm hO5
   have hkp := hW1.ui.swapK hi htm hsw
   have htp := WK (YS (ts := T1.ui) (p := i) (q := t) hi1 ht1)
   rw [← Q9c hD.ui hi htm] at hsw
   have hkk : (keys (jgH b { W1 with Nui := N5 } m n t s { T1 with ui := swT T1.ui i t })).Perm (keys (jgH b W1 m n t s T1)) := Q1z (.refl _) hkp (.refl _) (.refl _) (.refl _)
   repeat' first | apply jO | apply jN | apply jT | refine Q1 ?_ | refine Qe ?_ | apply jW
   refine Qa (3, { W1 with Nui := N5 }, { T1 with ui := swT T1.ui i t }) ⟨by dsimp only; omega, ⟨hW1.u, hsw, hW1.d, hW1.v, hW1.vi⟩, ⟨hS1.u, hS1.ui, hS1.d, hS1.v, hS1.vi⟩, hkk.trans hk1⟩ dgq cqq (HSub.at 0 rfl (HSub.at 0 rfl (Zy ((((htp.symm.append_right _).append_left _).append_left _).append_left _))))
 ·obtain rfl : q = 3 := by omega
  clear hlt
  have hld := hW1.d.len
  have hTd := hW1.d.T
  have hVd : ∀ a, tv T1.d a = tv T1.d a := fun _ => rfl
  have hlv := hW1.v.len
  have hlvi := hW1.vi.len
  repeat' first | apply jS | apply jO | apply jN | apply jT | refine Q1 ?_ | refine Q2 ?_ | refine Q7 ?_ | refine Qf1 (h := ?_) | refine Q6 ?_ | (refine Qi (h1 := ?_) (h2 := ?_) <;> intro hc <;> try (exfalso; omega)) | apply jU | apply jE | refine Q4 rfl ?_ | apply jB | refine Qc ?_
  refine Qj (ι := Nat × List TR) ⟨fun z => [(55, nv z.1), (54, nv m), (53, W1.d), (6, nv t), (0, .pointer (some ⟨b, 0, none⟩)), (2, nv k)], fun z => (b, .cells (jgC W1 m n t s) 84) :: (W1.Nu ++ (tH T1.u ++ (W1.Nui ++ (tH T1.ui ++ (W1.Nd ++ (tH z.2 ++ (W1.Nv ++ (tH T1.v ++ (W1.Nvi ++ (tH T1.vi ++ [])))))))))),
   fun z => z.1 ≤ m ∧ OwnT W1.Nd W1.d n z.2 ∧ z.2.length = T1.d.length ∧ (∀ a, tv z.2 a = tv T1.d a) ∧ ∀ a x, tM z.2 a x = if a < z.1 then tM T1.d a (exN k t x) else tM T1.d a x, fun z => m - z.1⟩ (0, T1.d)
   ⟨by omega, hTd, rfl, hVd, fun a x => by rw [if_neg oq]⟩ cqq (HSub.skip (HSub.refl _)) (fun z hz => ?_)
  clear hTd hVd
  obtain ⟨c, d1⟩ := z
  obtain ⟨hcm, hTd, hld1, hVd, hMd⟩ := hz
  dsimp only at hcm hTd hld1 hVd hMd ⊢
  unfold jgC
  by_cases hlt : c < m
  ·have hc1 : c < d1.length := by omega
   have e1 : tM d1 c t = tM T1.d c t := by rw [hMd, if_neg oq]
   have e2 : tM d1 c k = tM T1.d c k := by rw [hMd, if_neg oq]
   repeat' first | apply jS | apply jO | apply jD | apply jN | apply jT | refine Q1 ?_ | refine Q0 ?_ | refine QY (h := ?_) | refine Z3 (h := ?_) | refine Yb (h := ?_) | refine Y7 (h := ?_) | (refine Qi (h1 := ?_) (h2 := ?_) <;> intro hc <;> try (exfalso; omega)) | apply jK | refine Q5 rfl ?_ | apply jB
   refine Q1l (A := (b, .cells (jgC W1 m n t s) 84) :: (W1.Nu ++ (tH T1.u ++ (W1.Nui ++ tH T1.ui)))) (N := W1.Nd) (B := W1.Nv ++ (tH T1.v ++ (W1.Nvi ++ (tH T1.vi ++ [])))) (i := c) (j := k) (V := tv T1.d) (u := tM d1 c t) hVd hTd (by simp only [List.cons_append, List.nil_append, List.append_assoc]; rfl) rfl pqq rfl rfl hc1 hk (fun d2 hT2 hl2 hV2 hM2 => ?_)
   simp only [List.cons_append, List.nil_append, List.append_assoc]
   repeat' first | refine QY (h := ?_) | fail
   refine Q1l (A := (b, .cells (jgC W1 m n t s) 84) :: (W1.Nu ++ (tH T1.u ++ (W1.Nui ++ tH T1.ui)))) (N := W1.Nd) (B := W1.Nv ++ (tH T1.v ++ (W1.Nvi ++ (tH T1.vi ++ [])))) (i := c) (j := t) (V := tv T1.d) (u := tM d1 c k) hV2 hT2 (by simp only [List.cons_append, List.nil_append, List.append_assoc]) rfl pqq rfl rfl oq htn (fun d3 hT3 hl3 hV3 hM3 => ?_)
   simp only [List.cons_append, List.nil_append, List.append_assoc]
   repeat' first | apply jO | apply jN | apply jT | refine Q1 ?_ | refine Qe ?_ | apply jW
   refine Qa (c + 1, d3) ⟨by dsimp only; omega, hT3, by dsimp only; omega, hV3, fun a x => ?_⟩ dgq cqq (HSub.refl _)
   dsimp only
   rw [hM3, hM2, e1, e2, hMd]
   unfold exN
   by_cases h1 : a = c
   ·subst h1
    rw [if_pos (Nat.lt_succ_self a), if_neg (Nat.lt_irrefl a)]
    by_cases h2 : x = t
    ·rw [if_pos ⟨rfl, h2⟩, if_pos h2]
    ·rw [if_neg (fun h => h2 h.2), if_neg h2]
     by_cases h3 : x = k
     ·rw [if_pos ⟨rfl, h3⟩, if_pos h3]
     ·rw [if_neg (fun h => h3 h.2), if_neg h3]
   ·rw [if_neg (fun h => h1 h.1), if_neg (fun h => h1 h.1)]
    have e : a < c + 1 ↔ a < c := by omega
    simp only [e]
  ·obtain rfl : c = m := by omega
   clear hlt
   have hX : IsT W1.Nd W1.d c n d1 (exK k t (exL i t S.d)) := hW1.d.exC hk htn hTd hld1 (fun a x => by rw [hMd, hld])
   obtain ⟨S2, hS2⟩ : ∃ S2 : Sm, S2 = ⟨exL i t S.u, exK i t S.ui, exK k t (exL i t S.d), S.v, S.vi⟩ := ⟨_, rfl⟩
   have hW2 : IsBj W1 c n { T1 with d := d1 } S2 := by rw [hS2]; exact ⟨hW1.u, hW1.ui, hX, hW1.v, hW1.vi⟩
   have hkd : (keys (jgH b W1 c n t s { T1 with d := d1 })).Perm (keys (jgH b W c n t s T)) := (Q0y hW1 hW2 ⟨fun _ => rfl, fun _ => rfl, hVd, fun _ => rfl, fun _ => rfl⟩).trans hk1
   have hD2 : Rec n n S2.v := by rw [hS2]; exact hD.v
   have hend : exP2 k t S2 2 = S.ex i k t := by rw [hS2]; rfl
   clear hk1 hS2 hX
   have hfv1 : W1.v = _ := hS1.v.trans hfv
   have hfj1 : W1.vi = _ := hS1.vi.trans hfj
   repeat' first | apply jS | apply jO | apply jD | apply jN | apply jT | refine Q1 ?_ | refine Q2 ?_ | refine Q7 ?_ | refine Q6 ?_ | (refine Qi (h1 := ?_) (h2 := ?_) <;> intro hc <;> try (exfalso; omega)) | apply jU | apply jE | refine Q4 rfl ?_ | refine Qc ?_
   refine Zm (l := [(0, W1.v), (1, W1.vi)]) (cs := #[W1.v, W1.vi]) rfl rfl rfl rfl dq dq (by rw [hfv1, hfj1]; kernel_rfl) (fun b82 => ?_)
   repeat' first | apply jN | apply jT | refine Zx (h := ?_) | apply jB
   refine Qj (ι := Nat × WV × WT) ⟨fun z => [(84, nv z.1), (83, nv 2), (82, .slice (some ⟨b82, 0, none⟩) 2 2), (6, nv t), (0, .pointer (some ⟨b, 0, none⟩)), (2, nv k)], fun z => (b82, .cells #[z.2.1.v, z.2.1.vi] 82) :: jgH b z.2.1 c n t s z.2.2,
    fun z => z.1 ≤ 2 ∧ IsBj z.2.1 c n z.2.2 (exP2 k t S2 z.1) ∧ SameW W z.2.1 ∧ (keys (jgH b z.2.1 c n t s z.2.2)).Perm (keys (jgH b W c n t s T)), fun z => 2 - z.1⟩ (0, W1, { T1 with d := d1 }) ⟨by omega, hW2, hS1, hkd⟩ cqq (HSub.refl _) (fun z hz => ?_)
   clear hW2 hS1 hkd hW1 hfv1 hfj1 hlv hlvi hMd hVd hTd hld hld1
   obtain ⟨q, W1, T1⟩ := z
   obtain ⟨hq, hW1, hS1, hk1⟩ := hz
   dsimp only at hq hW1 hS1 hk1 ⊢
   unfold jgH jgC
   by_cases hlt : q < 2
   ·have h3 : q = 0 ∨ q = 1 := by omega
    rcases h3 with rfl | rfl
    ·have hl := hW1.v.len
     have hT := hW1.v.T
     have hV : ∀ a, tv T1.v a = tv T1.v a := fun _ => rfl
     have hi1 : k < T1.v.length := by omega
     have ht1 : t < T1.v.length := by omega
     have hO1 := hT.outer
     repeat' first | apply jS | apply jO | apply jN | apply jT | (refine Qi (h1 := ?_) (h2 := ?_) <;> intro hc <;> try (exfalso; omega)) | apply jK | refine Q5 rfl ?_ | apply jB
     refine Zk (o := 0) (j := 0) rfl rfl rfl (fun _ => rfl) rfl oq ?_
     repeat' first | apply jD | apply jN | refine Q1 ?_ | refine Q0 ?_ | refine Q7 ?_ | refine Z3 (h := ?_) | refine Y7 (h := ?_) | apply jT
     refine WQ (A := (b82, .cells #[W1.v, W1.vi] 82) :: (b, .cells (jgC W1 c n t s) 84) :: (W1.Nu ++ (tH T1.u ++ (W1.Nui ++ (tH T1.ui ++ (W1.Nd ++ (tH T1.d))))))) (N := W1.Nv) (B := tH T1.v ++ (W1.Nvi ++ (tH T1.vi ++ []))) hT.outer (by simp only [List.cons_append, List.nil_append, List.append_assoc]; rfl) rfl pqq rfl rfl (ZE hT oq).1 (ZE hT oq).2 oq (fun N4 hO4 => ?_)
     simp only [List.cons_append, List.nil_append, List.append_assoc]
     repeat' first | refine Z3 (h := ?_) | fail
     refine WQ (A := (b82, .cells #[W1.v, W1.vi] 82) :: (b, .cells (jgC W1 c n t s) 84) :: (W1.Nu ++ (tH T1.u ++ (W1.Nui ++ (tH T1.ui ++ (W1.Nd ++ (tH T1.d))))))) (N := N4) (B := tH T1.v ++ (W1.Nvi ++ (tH T1.vi ++ []))) hO4 (by simp only [List.cons_append, List.nil_append, List.append_assoc]) rfl pqq rfl rfl (ZE hT oq).1 (ZE hT oq).2 oq (fun N5 hO5 => ?_)
     simp only [List.cons_append, List.nil_append, List.append_assoc]
     have hsw : IsT N5 W1.v n n (swT T1.v k t) (exL k t (trL n n S2.v)) := hW1.v.swap hk htn hO5
     have hkp := hW1.v.swapK hk htn hsw
     have htp := WK (YS (ts := T1.v) (p := k) (q := t) hi1 ht1)
     rw [← Q9c hD2 hk htn] at hsw
     have hkk : (keys (jgH b { W1 with Nv := N5 } c n t s { T1 with v := swT T1.v k t })).Perm (keys (jgH b W1 c n t s T1)) := Q1z (.refl _) (.refl _) (.refl _) hkp (.refl _)
     repeat' first | apply jO | apply jN | apply jT | refine Q1 ?_ | refine Qe ?_ | apply jW
     refine Qa (1, { W1 with Nv := N5 }, { T1 with v := swT T1.v k t }) ⟨by dsimp only; omega, ⟨hW1.u, hW1.ui, hW1.d, hsw, hW1.vi⟩, ⟨hS1.u, hS1.ui, hS1.d, hS1.v, hS1.vi⟩, hkk.trans hk1⟩ dgq cqq (HSub.at 0 rfl (HSub.at 0 rfl (Zy ((((((((htp.symm.append_right _).append_left _).append_left _).append_left _).append_left _).append_left _).append_left _).append_left _))))
    ·have hl := hW1.vi.len
     have hT := hW1.vi.T
     have hV : ∀ a, tv T1.vi a = tv T1.vi a := fun _ => rfl
     have hi1 : k < T1.vi.length := by omega
     have ht1 : t < T1.vi.length := by omega
     have hO1 := hT.outer
     repeat' first | apply jS | apply jO | apply jN | apply jT | (refine Qi (h1 := ?_) (h2 := ?_) <;> intro hc <;> try (exfalso; omega)) | apply jK | refine Q5 rfl ?_ | apply jB
     refine Zk (o := 0) (j := 1) rfl rfl rfl (fun _ => rfl) rfl oq ?_
     repeat' first | apply jD | apply jN | refine Q1 ?_ | refine Q0 ?_ | refine Q7 ?_ | refine Z3 (h := ?_) | refine Y7 (h := ?_) | apply jT
     refine WQ (A := (b82, .cells #[W1.v, W1.vi] 82) :: (b, .cells (jgC W1 c n t s) 84) :: (W1.Nu ++ (tH T1.u ++ (W1.Nui ++ (tH T1.ui ++ (W1.Nd ++ (tH T1.d ++ (W1.Nv ++ (tH T1.v))))))))) (N := W1.Nvi) (B := tH T1.vi ++ []) hT.outer (by simp only [List.cons_append, List.nil_append, List.append_assoc]; rfl) rfl pqq rfl rfl (ZE hT oq).1 (ZE hT oq).2 oq (fun N4 hO4 => ?_)
     simp only [List.cons_append, List.nil_append, List.append_assoc]
     repeat' first | refine Z3 (h := ?_) | fail
     refine WQ (A := (b82, .cells #[W1.v, W1.vi] 82) :: (b, .cells (jgC W1 c n t s) 84) :: (W1.Nu ++ (tH T1.u ++ (W1.Nui ++ (tH T1.ui ++ (W1.Nd ++ (tH T1.d ++ (W1.Nv ++ (tH T1.v))))))))) (N := N4) (B := tH T1.vi ++ []) hO4 (by simp only [List.cons_append, List.nil_append, List.append_assoc]) rfl pqq rfl rfl (ZE hT oq).1 (ZE hT oq).2 oq (fun N5 hO5 => ?_)
     simp only [List.cons_append, List.nil_append, List.append_assoc]
     have hsw : IsT N5 W1.vi n n (swT T1.vi k t) (exL k t (S2.vi)) := hW1.vi.swap hk htn hO5
     have hkp := hW1.vi.swapK hk htn hsw
     have htp := WK (YS (ts := T1.vi) (p := k) (q := t) hi1 ht1)
     have hkk : (keys (jgH b { W1 with Nvi := N5 } c n t s { T1 with vi := swT T1.vi k t })).Perm (keys (jgH b W1 c n t s T1)) := Q1z (.refl _) (.refl _) (.refl _) (.refl _) hkp
     repeat' first | apply jO | apply jN | apply jT | refine Q1 ?_ | refine Qe ?_ | apply jW
     refine Qa (2, { W1 with Nvi := N5 }, { T1 with vi := swT T1.vi k t }) ⟨by dsimp only; omega, ⟨hW1.u, hW1.ui, hW1.d, hW1.v, hsw⟩, ⟨hS1.u, hS1.ui, hS1.d, hS1.v, hS1.vi⟩, hkk.trans hk1⟩ dgq cqq (HSub.at 0 rfl (HSub.at 0 rfl (Zy ((((((((((htp.symm.append_right _).append_left _).append_left _).append_left _).append_left _).append_left _).append_left _).append_left _).append_left _).append_left _))))
   ·obtain rfl : q = 2 := by omega
    repeat' first | apply jS | apply jO | apply jN | apply jT | (refine Qi (h1 := ?_) (h2 := ?_) <;> intro hc <;> try (exfalso; omega)) | apply jU | apply jE | refine Q4 rfl ?_ | refine Qc ?_
    exact Zg (fun a w'' st => ⟨st.kp, W1, T1, hk1, fun p hp => st.hs.blk p (by exact List.mem_cons_of_mem _ hp), by rw [← hend]; exact hW1, hS1⟩)


theorem Qfi (w : World) (x : Int) :
  Calls Tryz.prog 116 #[Wv x] w (Ret fun v w' => Kp [] w w' ∧ v = Wv ((x.natAbs : Nat) : Int)) := by
 have e : (.agg #[.bool false, sv (magU x.natAbs)] : Value) = Wv ((x.natAbs : Nat) : Int) := by
  unfold Wv wv
  rw [decide_eq_false oq, Int.natAbs_natCast]
 refine Q8 [] [] spq [] Tryz.func116 rfl mixed (by kernel_rfl) Tryz.ntmps116 Tryz.results116 rfl ⟨by simp, by simp⟩ spq ?_
 simp only [toS, textOps, toSOp, kindAt, kindOf, odAt, sopsAt, ordOf, zipF]
 repeat' first | apply jS | apply jO | apply jN | refine Q2 ?_ | refine Q7 ?_ | refine Qf fun _ => ?_ | refine QB (h := fun _ => ?_) | apply jT
 refine Zv (l := [(1, sv (magU x.natAbs))]) (cs := #[.bool false, sv (magU x.natAbs)]) rfl rfl rfl rfl ?_
 repeat' first | apply jN | apply jT | refine Q3 ?_ | refine Q3 ?_ | apply jR
 exact QG 0 rfl rfl rfl (fun a w' st => ⟨st.kp, by rw [← e]⟩)

set_option maxHeartbeats 8000000 in
theorem Q7w (K : Nat) (w : World) (b : Nat) (W : WV) (m n t : Nat) (s : Int) (T : WT) (S : Sm) (hW : IsBj W m n T S) (hs : Hsat (jgH b W m n t s T) w) (hm : m ≤ 200) (hn : n ≤ 200) (htm : t ≤ m) (htn : t ≤ n) (hK : K ≤ 90000000) (hb : okG K S.d = true) :
  Calls Tryz.prog 51 #[.pointer (some ⟨b, 0, none⟩)] w (Ret fun v w' => Kp [] w w' ∧ v = .tuple #[rwV (leastF S t m n), clV (leastF S t m n)]) := by
 have hM := QC hs
 have hld := hW.d.len
 have hTd := hW.d.T
 have hVd : ∀ a, tv T.d a = tv T.d a := fun _ => rfl
 have hat := hW.d.at
 refine Q8 [⟨9, 0, [0, 1, 2, 3, 4, 5, 6, 7, 9, 10, 11, 12, 13, 14, 15, 16, 17, 18, 8, 19, 20, 21, 22, 23], []⟩] (keys (jgH b W m n t s T)) hM (jgH b W m n t s T) Tryz.func51 rfl mixed (by kernel_rfl) Tryz.ntmps51 Tryz.results51 rfl hs (fun p hp => List.mem_map.2 ⟨p, hp, rfl⟩) ?_
 simp only [toS, textOps, toSOp, kindAt, kindOf, odAt, sopsAt, ordOf, zipF]
 unfold jgH jgC
 repeat' first | apply jS | apply jO | apply jN | apply jT | refine Q1 ?_ | refine Q2 ?_ | refine Q0 ?_ | refine Q7 ?_ | refine Q6 ?_ | apply jB
 refine Qj (ι := Nat × Nat × Nat × Bool) ⟨fun z => [(4, nv z.1), (2, rwV z.2), (3, clV z.2), (0, .pointer (some ⟨b, 0, none⟩))], fun _ => jgH b W m n t s T,
  fun z => t ≤ z.1 ∧ z.1 ≤ m ∧ (z.2.2.2 = true → z.2.1 < m ∧ z.2.2.1 < n) ∧ leastF S t m n = (List.range' z.1 (m - z.1)).foldl (lsRow S t n) z.2, fun z => m - z.1⟩ (t, 0, 0, false) ⟨Nat.le_refl _, htm, fun h => (by cases h), rfl⟩ cqq (HSub.refl _) (fun z hz => ?_)
 obtain ⟨i, x, y, fl⟩ := z
 obtain ⟨hti, him, hin, hls⟩ := hz
 dsimp only at hti him hin hls ⊢
 unfold jgH jgC
 by_cases hlt : i < m
 ·rw [QH hlt, List.foldl_cons] at hls
  repeat' first | apply jS | apply jO | apply jN | apply jT | refine Q1 ?_ | refine Q2 ?_ | refine Q0 ?_ | refine Q7 ?_ | refine Q6 ?_ | (refine Qi (h1 := ?_) (h2 := ?_) <;> intro hc <;> try (exfalso; omega)) | apply jK | refine Q5 rfl ?_ | apply jB
  refine Qj (ι := Nat × Nat × Nat × Bool) ⟨fun z => [(5, nv z.1), (4, nv i), (2, rwV z.2), (3, clV z.2), (0, .pointer (some ⟨b, 0, none⟩))], fun _ => jgH b W m n t s T,
   fun z => t ≤ z.1 ∧ z.1 ≤ n ∧ (z.2.2.2 = true → z.2.1 < m ∧ z.2.2.1 < n) ∧ leastF S t m n = (List.range' (i + 1) (m - (i + 1))).foldl (lsRow S t n) ((List.range' z.1 (n - z.1)).foldl (lsAt S i) z.2), fun z => n - z.1⟩ (t, x, y, fl) ⟨Nat.le_refl _, htn, hin, hls⟩ cqq (HSub.refl _) (fun z hz => ?_)
  clear hls hin
  obtain ⟨j, x, y, fl⟩ := z
  obtain ⟨htj, hjn, hin, hls⟩ := hz
  dsimp only at htj hjn hin hls ⊢
  unfold jgH jgC
  by_cases hjt : j < n
  ·rw [QH hjt, List.foldl_cons] at hls
   have hx : (gE S.d i j).natAbs < 256 ^ K := QW hb _ _
   repeat' first | apply jS | apply jO | apply jD | apply jN | apply jT | refine Q1 ?_ | refine Q2 ?_ | refine Q7 ?_ | refine QY (h := ?_) | refine Z3 (h := ?_) | refine Yb (h := ?_) | refine Y7 (h := ?_) | refine Q6 ?_ | refine Q3 ?_ | refine Yg (h := ?_) | (refine Qi (h1 := ?_) (h2 := ?_) <;> intro hc <;> try (exfalso; omega)) | refine Qf fun _ => ?_ | refine Q3 ?_ | apply jK | refine Q5 rfl ?_ | apply jB
   rename_i bx
   have hTx : tM T.d i j = gE S.d i j := hat i j
   rw [hTx]
   have hmg : decide (magU (gE S.d i j).natAbs ≠ []) = decide (gE S.d i j ≠ 0) := decide_eq_decide.2 (not_congr (magU_nil.trans Int.natAbs_eq_zero))
   rw [hmg]
   by_cases hz : gE S.d i j = 0
   ·have h1 : lsAt S i (x, y, fl) j = (x, y, fl) := by unfold lsAt; rw [if_neg (fun h => h.1 hz)]
    rw [h1] at hls
    rw [show decide (gE S.d i j ≠ 0) = false from decide_eq_false (fun h => h hz)]
    repeat' first | apply jO | apply jN | apply jT | refine Q1 ?_ | refine Q0 ?_ | refine Qe ?_ | refine Qn ?_ | apply jK | refine Q4 rfl ?_ | refine Qy (h := ?_) | apply jW
    exact Qa (j + 1, x, y, fl) ⟨by dsimp only; omega, by dsimp only; omega, hin, hls⟩ dgq cqq (by exact HSub.skip (HSub.refl _))
   ·rw [show decide (gE S.d i j ≠ 0) = true from decide_eq_true hz]
    cases fl with
    | false =>
     have h1 : lsAt S i (x, y, false) j = (i, j, true) := by unfold lsAt; rw [if_pos ⟨hz, .inl rfl⟩]
     rw [h1] at hls
     rw [show rwV (x, y, false) = iv (-1) from rfl]
     repeat' first | apply jO | apply jN | apply jT | refine Q1 ?_ | refine Q0 ?_ | refine Qe ?_ | refine Ql ?_ | (refine Qi (h1 := ?_) (h2 := ?_) <;> intro hc <;> try (exfalso; omega)) | refine Q5 rfl ?_ | refine Qy (h := ?_) | apply jW
     exact Qa (j + 1, i, j, true) ⟨by dsimp only; omega, by dsimp only; omega, fun _ => ⟨hlt, hjt⟩, hls⟩ dgq cqq (by exact HSub.skip (HSub.refl _))
    | true =>
     obtain ⟨hxm, hyn⟩ := hin rfl
     rw [show rwV (x, y, true) = nv x from rfl, show clV (x, y, true) = nv y from rfl]
     repeat' first | refine Q1 ?_ | refine Q2 ?_ | refine Q7 ?_ | refine Qg ?_ | refine QY (h := ?_) | refine Z3 (h := ?_) | refine Yb (h := ?_) | refine Y7 (h := ?_) | refine Q6 ?_ | (refine Qi (h1 := ?_) (h2 := ?_) <;> intro hc <;> try (exfalso; omega)) | fail
     refine Qb pqq rfl eqq rfl (fun w _ _ => Qfi w (gE S.d i j)) fun w v w' _ _ _ hR => ?_
     subst hR
     skip
     have hTy : tM T.d x y = gE S.d x y := hat x y
     rw [hTy]
     refine Qb pqq rfl eqq rfl (fun w _ _ => Qfi w (gE S.d x y)) fun w v w' _ _ _ hR => ?_
     subst hR
     skip
     refine Qb pqq rfl eqq rfl (fun w _ _ => Qkw w _ _ (((gE S.d i j).natAbs : Nat) : Int) (((gE S.d x y).natAbs : Nat) : Int) K (Qq (by simpa using hx)) (Qq (by simpa using QW hb x y)) oq) fun w v w' _ _ _ hR => ?_
     subst hR
     have hsg : ((((gE S.d i j).natAbs : Nat) : Int) - (((gE S.d x y).natAbs : Nat) : Int)).sign < 0 ↔ (gE S.d i j).natAbs < (gE S.d x y).natAbs := by
      rw [Int.sign_neg_iff]; omega
     by_cases hq : (gE S.d i j).natAbs < (gE S.d x y).natAbs
     ·have h1 : lsAt S i (x, y, true) j = (i, j, true) := by unfold lsAt; rw [if_pos ⟨hz, .inr hq⟩]
      rw [h1] at hls
      have := hsg.2 hq
      repeat' first | apply jO | apply jN | apply jT | refine Q1 ?_ | refine Q0 ?_ | refine Qe ?_ | refine Ql ?_ | refine Qn ?_ | (refine Qi (h1 := ?_) (h2 := ?_) <;> intro hc <;> try (exfalso; omega)) | refine Q5 rfl ?_ | apply jW
      exact Qa (j + 1, i, j, true) ⟨by dsimp only; omega, by dsimp only; omega, fun _ => ⟨hlt, hjt⟩, hls⟩ dgq cqq (by exact HSub.skip (HSub.refl _))
     ·have h1 : lsAt S i (x, y, true) j = (x, y, true) := by
       unfold lsAt
       rw [if_neg]
       rintro ⟨_, h | h⟩
       ·cases h
       ·exact hq h
      rw [h1] at hls
      have := fun h => hq (hsg.1 h)
      repeat' first | apply jO | apply jN | apply jT | refine Q1 ?_ | refine Q0 ?_ | refine Qe ?_ | refine Ql ?_ | refine Qn ?_ | (refine Qi (h1 := ?_) (h2 := ?_) <;> intro hc <;> try (exfalso; omega)) | apply jK | refine Q4 rfl ?_ | apply jW
      exact Qa (j + 1, x, y, true) ⟨by dsimp only; omega, by dsimp only; omega, hin, hls⟩ dgq cqq (by exact HSub.skip (HSub.refl _))
  ·rw [show n - j = 0 by omega] at hls
   repeat' first | apply jS | apply jO | apply jN | apply jT | refine Q1 ?_ | refine Q2 ?_ | refine Q0 ?_ | refine Q7 ?_ | refine Qe ?_ | refine Q6 ?_ | (refine Qi (h1 := ?_) (h2 := ?_) <;> intro hc <;> try (exfalso; omega)) | apply jU | apply jE | refine Q4 rfl ?_ | apply jW | refine Qc ?_
   exact Qa (i + 1, x, y, fl) ⟨by dsimp only; omega, by dsimp only; omega, hin, hls⟩ dgq cqq (HSub.refl _)
 ·rw [show m - i = 0 by omega] at hls
  have hls : leastF S t m n = (x, y, fl) := hls
  rw [hls]
  cases fl with
  | true =>
   rw [show rwV (x, y, true) = nv x from rfl, show clV (x, y, true) = nv y from rfl]
   repeat' first | apply jS | apply jO | apply jN | apply jT | refine Q1 ?_ | refine Q2 ?_ | refine Q0 ?_ | refine Q7 ?_ | refine Q6 ?_ | (refine Qi (h1 := ?_) (h2 := ?_) <;> intro hc <;> try (exfalso; omega)) | apply jU | apply jE | apply jR | refine Q4 rfl ?_ | refine Qc ?_
   all_goals first
    | (exfalso; omega)
    | exact Yp [nv x, nv y] ⟨rfl, rfl, trivial⟩ (fun a w' st => ⟨Z1 hs st.kp (fun p hp => st.hs.blk p hp), rfl⟩)
  | false =>
   rw [show rwV (x, y, false) = iv (-1) from rfl, show clV (x, y, false) = iv (-1) from rfl]
   repeat' first | apply jS | apply jO | apply jN | apply jT | refine Q1 ?_ | refine Q2 ?_ | refine Q0 ?_ | refine Q7 ?_ | refine Q6 ?_ | (refine Qi (h1 := ?_) (h2 := ?_) <;> intro hc <;> try (exfalso; omega)) | apply jU | apply jE | apply jR | refine Q4 rfl ?_ | refine Qc ?_
   all_goals first
    | (exfalso; omega)
    | exact Yp [iv (-1), iv (-1)] ⟨rfl, rfl, trivial⟩ (fun a w' st => ⟨Z1 hs st.kp (fun p hp => st.hs.blk p hp), rfl⟩)

def dvV (x y : Int) : Value := .tuple #[Wv (if y = 0 then 0 else -(x / y)), .bool (decide (remZ x y ≠ 0))]
set_option maxHeartbeats 8000000 in
theorem Q49 (K : Nat) (w : World) (b : Nat) (W : WV) (m n t : Nat) (s : Int) (T : WT) (S : Sm) (x : Int) (hW : IsBj W m n T S) (hs : Hsat (jgH b W m n t s T) w) (hm : m ≤ 200) (hn : n ≤ 200) (htm : t < m) (htn : t < n) (hK : K ≤ 21000000) (hx : x.natAbs < 256 ^ K) (hb : okG K S.d = true) :
  Calls Tryz.prog 108 #[.pointer (some ⟨b, 0, none⟩), Wv x] w (Ret fun v w' => Kp [] w w' ∧ v = dvV x (gE S.d t t)) := by
 have hM := QC hs
 have hld := hW.d.len
 have hTd := hW.d.T
 have hVd : ∀ a, tv T.d a = tv T.d a := fun _ => rfl
 have hy : (tM T.d t t).natAbs < 256 ^ K := XE hW.d hb t t
 refine Q8 [⟨1, 3, [], []⟩, ⟨2, 1, [0, 2, 3, 4, 1, 5, 6], []⟩] (keys (jgH b W m n t s T)) hM (jgH b W m n t s T) Tryz.func108 rfl mixed (by kernel_rfl) Tryz.ntmps108 Tryz.results108 rfl hs (fun p hp => List.mem_map.2 ⟨p, hp, rfl⟩) ?_
 simp only [toS, textOps, toSOp, kindAt, kindOf, odAt, sopsAt, ordOf, zipF]
 unfold jgH jgC
 rw [← hW.d.at t t]
 repeat' first | apply jS | apply jO | apply jD | apply jN | refine Q1 ?_ | refine Q2 ?_ | refine Q0 ?_ | refine Q7 ?_ | refine Qg ?_ | refine QY (h := ?_) | refine Z3 (h := ?_) | refine Yb (h := ?_) | refine Y7 (h := ?_) | refine Q6 ?_ | refine Qf fun _ => ?_ | refine QB (h := fun _ => ?_) | apply jT
 refine Qb pqq rfl eqq rfl (fun w _ _ => Qk4 w _ _ x (tM T.d t t) K (Qq hx) (Qq hy) oq) fun w v w' _ _ _ hR => ?_
 have hQ : ∃ q r z, v = .tuple #[Wv q, Wv r, .bool z] ∧ q = (if tM T.d t t = 0 then 0 else x / tM T.d t t) ∧ r = remZ x (tM T.d t t) ∧ q.natAbs < 256 ^ K := by
  unfold remZ
  by_cases h0 : tM T.d t t = 0
  ·rw [if_pos h0] at hR; exact ⟨0, 0, false, hR, by rw [if_pos h0], by rw [if_pos h0], pos256 K⟩
  ·rw [if_neg h0] at hR; exact ⟨_, _, true, hR, by rw [if_neg h0], by rw [if_neg h0], by have := YY x (tM T.d t t); omega⟩
 clear hR
 obtain ⟨q, r, z, rfl, hq, hr, hqb⟩ := hQ
 repeat' first | apply jS | apply jN | refine Q1 ?_ | refine Q0 ?_ | refine Qo (h := ?_) | refine Q3 ?_ | refine Qf fun _ => ?_ | refine Q3 ?_ | apply jT
 rename_i b6 b7
 refine Q15 [(b7, .cells #[.bool (decide (r < 0)), sv (magU r.natAbs)] 75), (b6, .cells #[.bool (decide (q < 0)), sv (magU q.natAbs)] 75)] Qr ?_
 repeat' first | refine Q2 ?_ | refine Q7 ?_ | refine Qg ?_ | refine Yg (h := ?_) | fail
 refine Qb pqq rfl eqq rfl (fun w _ _ => Q6e w _ q K (Qq hqb) oq) fun w v w' _ _ _ hR => ?_
 subst hR
 have hmg : decide (magU r.natAbs ≠ []) = decide (remZ x (tM T.d t t) ≠ 0) := by rw [← hr]; exact decide_eq_decide.2 (not_congr (magU_nil.trans Int.natAbs_eq_zero))
 rw [hmg]
 have hnq : -q = (if tM T.d t t = 0 then 0 else -(x / tM T.d t t)) := by
  rw [hq]
  split
  ·rfl
  ·rfl
 repeat' first | apply jN | apply jT | refine Q0 ?_ | refine Q1k (k := _) (h := ?_) | apply jR
 exact ZD 2 rfl rfl rfl rfl (fun a w' st => ⟨Z1 hs st.kp (fun p hp => st.hs.blk p (by exact List.mem_cons_of_mem _ (List.mem_cons_of_mem _ (List.mem_cons_of_mem _ (List.mem_cons_of_mem _ hp))))), by unfold dvV; rw [← hnq]; rfl⟩)


def ngP (t : Nat) (S : Sm) : Nat → Sm
 | 0 => S
 | 1 => ⟨S.u, S.ui, negR t S.d, S.v, S.vi⟩
 | 2 => ⟨negR t S.u, S.ui, negR t S.d, S.v, S.vi⟩
 | _ => ⟨negR t S.u, negC t S.ui, negR t S.d, S.v, S.vi⟩
theorem IsT.ngR {N : SHeap} {v : Value} {r c t : Nat} {ts ts' : List TR} {g : List (List Int)} (h : IsT N v r c ts g) (ht : t < r) (hT : OwnT N v c ts') (hl : ts'.length = ts.length)
  (e : ∀ a b, tM ts' a b = if a = t ∧ b < c then -(tM ts a b) else tM ts a b) : IsT N v r c ts' (negR t g) :=
 h.of hT hl (h.rc.negR ht) fun a b ha hb => by
  rw [e, Qaz h.rc ht hb, h.at]
  have e2 : (a = t ∧ b < c) ↔ a = t := by omega
  simp only [e2]

set_option maxHeartbeats 16000000 in
theorem Qbn (K : Nat) (w : World) (b : Nat) (W : WV) (m n t : Nat) (s : Int) (T : WT) (S : Sm) (hW : IsBj W m n T S) (hD : Dm m n S) (hs : Hsat (jgH b W m n t s T) w) (hm : m ≤ 200) (hn : n ≤ 200) (htm : t < m) (htn : t < n) (hK : K ≤ 21000000) (hb : Ok K S) :
  Calls Tryz.prog 114 #[.pointer (some ⟨b, 0, none⟩)] w (Ret fun _ w' => JgR b W m n t s T ((t + 1 : Nat) : Int) s (if gE S.d t t < 0 then S.neg t else S) w w') := by
 have hM := QC hs
 have hld := hW.d.len
 have hlu := hW.u.len
 have hlui := hW.ui.len
 have hTd := hW.d.T
 have hTu := hW.u.T
 have hTui := hW.ui.T
 have hVd : ∀ a, tv T.d a = tv T.d a := fun _ => rfl
 have hVu : ∀ a, tv T.u a = tv T.u a := fun _ => rfl
 have hVui : ∀ a, tv T.ui a = tv T.ui a := fun _ => rfl
 have htd : t < T.d.length := by omega
 have htu : t < T.u.length := by omega
 have htui : t < T.ui.length := by omega
 refine Q8 [⟨2, 0, [0, 1, 2, 3, 4, 5, 6, 7, 8, 9, 10, 11, 12, 13, 14, 15, 16, 17, 18, 19, 20, 23, 21, 22], []⟩] (keys (jgH b W m n t s T)) hM (jgH b W m n t s T) Tryz.func114 rfl mixed (by kernel_rfl) Tryz.ntmps114 Tryz.results114 rfl hs (fun p hp => List.mem_map.2 ⟨p, hp, rfl⟩) ?_
 simp only [toS, textOps, toSOp, kindAt, kindOf, odAt, sopsAt, ordOf, zipF]
 unfold jgH jgC
 have hat := hW.d.at t t
 repeat' first | apply jS | apply jO | apply jN | refine Q1 ?_ | refine Q2 ?_ | refine Q0 ?_ | refine Q7 ?_ | refine QY (h := ?_) | refine Z3 (h := ?_) | refine Yb (h := ?_) | refine Y7 (h := ?_) | refine Q6 ?_ | apply jT
 refine Qb pqq rfl eqq rfl (fun w _ _ => Qbu w _ (tM T.d t t) K (Qq (XE hW.d hb.d t t)) oq) fun w v w' _ _ _ hR => ?_
 rw [hat] at hR
 subst hR
 have hsg : (gE S.d t t).sign < 0 ↔ gE S.d t t < 0 := Int.sign_neg_iff
 by_cases hneg : gE S.d t t < 0
 ·have := hsg.2 hneg
  rw [if_pos hneg]
  repeat' first | apply jS | apply jD | apply jN | apply jT | refine Q1 ?_ | refine Q2 ?_ | refine Q7 ?_ | refine Z3 (h := ?_) | refine Y7 (h := ?_) | refine Q6 ?_ | (refine Qi (h1 := ?_) (h2 := ?_) <;> intro hc <;> try (exfalso; omega)) | refine Q5 rfl ?_
  all_goals first
   | (exfalso; omega)
   | skip
  obtain ⟨Ad, cd, hfd⟩ := (hTd.row htd).form
  obtain ⟨Au, cu, hfu⟩ := (hTu.row htu).form
  obtain ⟨Ai, ci, hfi⟩ := (hTui.row htui).form
  refine Zm (l := [(0, tv T.d t), (1, tv T.u t), (2, tv T.ui t)]) (cs := #[tv T.d t, tv T.u t, tv T.ui t]) rfl rfl rfl rfl dq dq (by rw [hfd, hfu, hfi]; kernel_rfl) (fun b44 => ?_)
  repeat' first | apply jN | apply jT | refine Zx (h := ?_) | apply jB
  refine Qj (ι := Nat × WT) ⟨fun z => [(46, nv z.1), (45, nv 3), (44, .slice (some ⟨b44, 0, none⟩) 3 3), (2, nv t), (0, .pointer (some ⟨b, 0, none⟩))], fun z => (b44, .cells #[tv T.d t, tv T.u t, tv T.ui t] 26) :: jgH b W m n t s z.2,
   fun z => z.1 ≤ 3 ∧ IsBj W m n z.2 (ngP t S z.1) ∧ SameV T z.2, fun z => 3 - z.1⟩ (0, T) ⟨by omega, hW, SameV.refl T⟩ cqq (HSub.refl _) (fun z hz => ?_)
  clear hTd hTu hTui hVd hVu hVui hlu hlui hld htd htu htui hat
  obtain ⟨q, T1⟩ := z
  obtain ⟨hq, hW1, hS1⟩ := hz
  dsimp only at hq hW1 hS1 ⊢
  unfold jgH jgC
  by_cases hlt : q < 3
  ·have h3 : q = 0 ∨ q = 1 ∨ q = 2 := by omega
   rcases h3 with rfl | rfl | rfl
   ·have hl := hW1.d.len
    have hT1 := hW1.d.T
    have hbd : ∀ k, (tM T1.d t k).natAbs < 256 ^ K := fun k => by rw [hW1.d.at]; exact QW (hb.d) t k
    have hV1 : ∀ a, tv T1.d a = tv T.d a := hS1.d
    have htl : t < T1.d.length := by omega
    repeat' first | apply jS | apply jO | apply jN | apply jT | (refine Qi (h1 := ?_) (h2 := ?_) <;> intro hc <;> try (exfalso; omega)) | apply jK | refine Q5 rfl ?_ | apply jB
    refine Zk (o := 0) (j := 0) rfl rfl rfl (fun _ => rfl) rfl oq ?_
    repeat' first | apply jS | apply jO | apply jN | refine Q1 ?_ | refine Q0 ?_ | refine Q7 ?_ | apply jT
    refine Q3k (i := t) (V := tv T.d) rfl rfl rfl hV1 hT1 htl ?_
    repeat' first | apply jN | apply jT | refine Q1 ?_ | apply jB
    refine Qj (ι := Nat × List TR) ⟨fun z => [(52, nv z.1), (51, nv n), (50, tv T.d t), (4, tv T.d t), (46, nv 0), (45, nv 3), (44, .slice (some ⟨b44, 0, none⟩) 3 3), (2, nv t), (0, .pointer (some ⟨b, 0, none⟩))], fun z => (b44, .cells #[tv T.d t, tv T.u t, tv T.ui t] 26) :: (b, .cells (jgC W m n t s) 84) :: (W.Nu ++ (tH T1.u ++ (W.Nui ++ (tH T1.ui ++ (W.Nd ++ (tH z.2 ++ (W.Nv ++ (tH T1.v ++ (W.Nvi ++ (tH T1.vi ++ [])))))))))),
     fun z => z.1 ≤ n ∧ OwnT W.Nd W.d n z.2 ∧ z.2.length = T1.d.length ∧ (∀ a, tv z.2 a = tv T.d a) ∧ ∀ a x, tM z.2 a x = if a = t ∧ x < z.1 then -(tM T1.d a x) else tM T1.d a x, fun z => n - z.1⟩ (0, T1.d) ⟨by omega, hT1, rfl, hV1, fun a x => by rw [if_neg oq]⟩ cqq (HSub.refl _) (fun z hz => ?_)
    clear hT1 hV1
    obtain ⟨c, d1⟩ := z
    obtain ⟨hc, hT, hl1, hV, hMd⟩ := hz
    dsimp only at hc hT hl1 hV hMd ⊢
    unfold jgC
    by_cases hlt2 : c < n
    ·have e1 : tM d1 t c = tM T1.d t c := by rw [hMd, if_neg oq]
     have htl1 : t < d1.length := by omega
     repeat' first | apply jS | apply jO | apply jN | apply jT | refine Q1 ?_ | refine Q0 ?_ | refine Qg ?_ | refine QY (h := ?_) | refine Yb (h := ?_) | refine Q3 ?_ | (refine Qi (h1 := ?_) (h2 := ?_) <;> intro hc <;> try (exfalso; omega)) | refine Qf fun _ => ?_ | refine Q3 ?_ | apply jK | refine Q5 rfl ?_ | apply jB
     refine Qb pqq rfl eqq rfl (fun w _ _ => Q6e w _ (tM d1 t c) K (Qq (by rw [e1]; exact hbd c)) oq) fun w v w' _ _ _ hR => ?_
     rw [e1] at hR
     subst hR
     repeat' first | refine QY (h := ?_) | fail
     refine Q1l (A := _ :: (b44, .cells #[tv T.d t, tv T.u t, tv T.ui t] 26) :: (b, .cells (jgC W m n t s) 84) :: (W.Nu ++ (tH T1.u ++ (W.Nui ++ (tH T1.ui))))) (N := W.Nd) (B := W.Nv ++ (tH T1.v ++ (W.Nvi ++ (tH T1.vi ++ [])))) (i := t) (j := c) (V := tv T.d) (u := -(tM T1.d t c)) hV hT (by simp only [List.cons_append, List.nil_append, List.append_assoc]; rfl) rfl pqq rfl rfl htl1 hlt2 (fun d2 hT2 hl2 hV2 hM2 => ?_)
     simp only [List.cons_append, List.nil_append, List.append_assoc]
     repeat' first | apply jO | apply jN | apply jT | refine Q1 ?_ | refine Qe ?_ | apply jW
     refine Qa (c + 1, d2) ⟨by dsimp only; omega, hT2, by dsimp only; omega, hV2, fun a x => ?_⟩ dgq cqq (HSub.skip (HSub.refl _))
     dsimp only
     rw [hM2, hMd]
     by_cases h1 : a = t ∧ x = c
     ·obtain ⟨rfl, rfl⟩ := h1
      rw [if_pos ⟨rfl, rfl⟩, if_pos ⟨rfl, by omega⟩]
     ·rw [if_neg h1]
      have e2 : (a = t ∧ x < c + 1) ↔ (a = t ∧ x < c) := by omega
      simp only [e2]
    ·have hcc : c = n := by omega
     rw [hcc] at hMd
     have hX := hW1.d.ngR htm hT hl1 hMd
     repeat' first | apply jS | apply jO | apply jN | apply jT | refine Q1 ?_ | refine Qe ?_ | (refine Qi (h1 := ?_) (h2 := ?_) <;> intro hc <;> try (exfalso; omega)) | apply jU | apply jE | refine Q4 rfl ?_ | apply jW | refine Qc ?_
     exact Qa (1, { T1 with d := d1 }) ⟨by dsimp only; omega, ⟨hW1.u, hW1.ui, hX, hW1.v, hW1.vi⟩, ⟨hS1.u, hS1.ui, hV, hS1.v, hS1.vi⟩⟩ dgq cqq (HSub.refl _)
   ·have hl := hW1.u.len
    have hT1 := hW1.u.T
    have hbd : ∀ k, (tM T1.u t k).natAbs < 256 ^ K := fun k => by rw [hW1.u.at]; exact QW (hb.u) t k
    have hV1 : ∀ a, tv T1.u a = tv T.u a := hS1.u
    have htl : t < T1.u.length := by omega
    repeat' first | apply jS | apply jO | apply jN | apply jT | (refine Qi (h1 := ?_) (h2 := ?_) <;> intro hc <;> try (exfalso; omega)) | apply jK | refine Q5 rfl ?_ | apply jB
    refine Zk (o := 0) (j := 1) rfl rfl rfl (fun _ => rfl) rfl oq ?_
    repeat' first | apply jS | apply jO | apply jN | refine Q1 ?_ | refine Q0 ?_ | refine Q7 ?_ | apply jT
    refine Q3k (i := t) (V := tv T.u) rfl rfl rfl hV1 hT1 htl ?_
    repeat' first | apply jN | apply jT | refine Q1 ?_ | apply jB
    refine Qj (ι := Nat × List TR) ⟨fun z => [(52, nv z.1), (51, nv m), (50, tv T.u t), (4, tv T.u t), (46, nv 1), (45, nv 3), (44, .slice (some ⟨b44, 0, none⟩) 3 3), (2, nv t), (0, .pointer (some ⟨b, 0, none⟩))], fun z => (b44, .cells #[tv T.d t, tv T.u t, tv T.ui t] 26) :: (b, .cells (jgC W m n t s) 84) :: (W.Nu ++ (tH z.2 ++ (W.Nui ++ (tH T1.ui ++ (W.Nd ++ (tH T1.d ++ (W.Nv ++ (tH T1.v ++ (W.Nvi ++ (tH T1.vi ++ [])))))))))),
     fun z => z.1 ≤ m ∧ OwnT W.Nu W.u m z.2 ∧ z.2.length = T1.u.length ∧ (∀ a, tv z.2 a = tv T.u a) ∧ ∀ a x, tM z.2 a x = if a = t ∧ x < z.1 then -(tM T1.u a x) else tM T1.u a x, fun z => m - z.1⟩ (0, T1.u) ⟨by omega, hT1, rfl, hV1, fun a x => by rw [if_neg oq]⟩ cqq (HSub.refl _) (fun z hz => ?_)
    clear hT1 hV1
    obtain ⟨c, d1⟩ := z
    obtain ⟨hc, hT, hl1, hV, hMd⟩ := hz
    dsimp only at hc hT hl1 hV hMd ⊢
    unfold jgC
    by_cases hlt2 : c < m
    ·have e1 : tM d1 t c = tM T1.u t c := by rw [hMd, if_neg oq]
     have htl1 : t < d1.length := by omega
     repeat' first | apply jS | apply jO | apply jN | apply jT | refine Q1 ?_ | refine Q0 ?_ | refine Qg ?_ | refine QY (h := ?_) | refine Yb (h := ?_) | refine Q3 ?_ | (refine Qi (h1 := ?_) (h2 := ?_) <;> intro hc <;> try (exfalso; omega)) | refine Qf fun _ => ?_ | refine Q3 ?_ | apply jK | refine Q5 rfl ?_ | apply jB
     refine Qb pqq rfl eqq rfl (fun w _ _ => Q6e w _ (tM d1 t c) K (Qq (by rw [e1]; exact hbd c)) oq) fun w v w' _ _ _ hR => ?_
     rw [e1] at hR
     subst hR
     repeat' first | refine QY (h := ?_) | fail
     refine Q1l (A := _ :: (b44, .cells #[tv T.d t, tv T.u t, tv T.ui t] 26) :: (b, .cells (jgC W m n t s) 84) :: []) (N := W.Nu) (B := W.Nui ++ (tH T1.ui ++ (W.Nd ++ (tH T1.d ++ (W.Nv ++ (tH T1.v ++ (W.Nvi ++ (tH T1.vi ++ [])))))))) (i := t) (j := c) (V := tv T.u) (u := -(tM T1.u t c)) hV hT (by simp only [List.cons_append, List.nil_append, List.append_assoc]; rfl) rfl pqq rfl rfl htl1 hlt2 (fun d2 hT2 hl2 hV2 hM2 => ?_)
     simp only [List.cons_append, List.nil_append, List.append_assoc]
     repeat' first | apply jO | apply jN | apply jT | refine Q1 ?_ | refine Qe ?_ | apply jW
     refine Qa (c + 1, d2) ⟨by dsimp only; omega, hT2, by dsimp only; omega, hV2, fun a x => ?_⟩ dgq cqq (HSub.skip (HSub.refl _))
     dsimp only
     rw [hM2, hMd]
     by_cases h1 : a = t ∧ x = c
     ·obtain ⟨rfl, rfl⟩ := h1
      rw [if_pos ⟨rfl, rfl⟩, if_pos ⟨rfl, by omega⟩]
     ·rw [if_neg h1]
      have e2 : (a = t ∧ x < c + 1) ↔ (a = t ∧ x < c) := by omega
      simp only [e2]
    ·have hcc : c = m := by omega
     rw [hcc] at hMd
     have hX := hW1.u.ngR htm hT hl1 hMd
     repeat' first | apply jS | apply jO | apply jN | apply jT | refine Q1 ?_ | refine Qe ?_ | (refine Qi (h1 := ?_) (h2 := ?_) <;> intro hc <;> try (exfalso; omega)) | apply jU | apply jE | refine Q4 rfl ?_ | apply jW | refine Qc ?_
     exact Qa (2, { T1 with u := d1 }) ⟨by dsimp only; omega, ⟨hX, hW1.ui, hW1.d, hW1.v, hW1.vi⟩, ⟨hV, hS1.ui, hS1.d, hS1.v, hS1.vi⟩⟩ dgq cqq (HSub.refl _)
   ·have hl := hW1.ui.len
    have hT1 := hW1.ui.T
    have hbd : ∀ k, (tM T1.ui t k).natAbs < 256 ^ K := fun k => by rw [hW1.ui.at]; exact QW (Qaj hb.ui) t k
    have hV1 : ∀ a, tv T1.ui a = tv T.ui a := hS1.ui
    have htl : t < T1.ui.length := by omega
    repeat' first | apply jS | apply jO | apply jN | apply jT | (refine Qi (h1 := ?_) (h2 := ?_) <;> intro hc <;> try (exfalso; omega)) | apply jK | refine Q5 rfl ?_ | apply jB
    refine Zk (o := 0) (j := 2) rfl rfl rfl (fun _ => rfl) rfl oq ?_
    repeat' first | apply jS | apply jO | apply jN | refine Q1 ?_ | refine Q0 ?_ | refine Q7 ?_ | apply jT
    refine Q3k (i := t) (V := tv T.ui) rfl rfl rfl hV1 hT1 htl ?_
    repeat' first | apply jN | apply jT | refine Q1 ?_ | apply jB
    refine Qj (ι := Nat × List TR) ⟨fun z => [(52, nv z.1), (51, nv m), (50, tv T.ui t), (4, tv T.ui t), (46, nv 2), (45, nv 3), (44, .slice (some ⟨b44, 0, none⟩) 3 3), (2, nv t), (0, .pointer (some ⟨b, 0, none⟩))], fun z => (b44, .cells #[tv T.d t, tv T.u t, tv T.ui t] 26) :: (b, .cells (jgC W m n t s) 84) :: (W.Nu ++ (tH T1.u ++ (W.Nui ++ (tH z.2 ++ (W.Nd ++ (tH T1.d ++ (W.Nv ++ (tH T1.v ++ (W.Nvi ++ (tH T1.vi ++ [])))))))))),
     fun z => z.1 ≤ m ∧ OwnT W.Nui W.ui m z.2 ∧ z.2.length = T1.ui.length ∧ (∀ a, tv z.2 a = tv T.ui a) ∧ ∀ a x, tM z.2 a x = if a = t ∧ x < z.1 then -(tM T1.ui a x) else tM T1.ui a x, fun z => m - z.1⟩ (0, T1.ui) ⟨by omega, hT1, rfl, hV1, fun a x => by rw [if_neg oq]⟩ cqq (HSub.refl _) (fun z hz => ?_)
    clear hT1 hV1
    obtain ⟨c, d1⟩ := z
    obtain ⟨hc, hT, hl1, hV, hMd⟩ := hz
    dsimp only at hc hT hl1 hV hMd ⊢
    unfold jgC
    by_cases hlt2 : c < m
    ·have e1 : tM d1 t c = tM T1.ui t c := by rw [hMd, if_neg oq]
     have htl1 : t < d1.length := by omega
     repeat' first | apply jS | apply jO | apply jN | apply jT | refine Q1 ?_ | refine Q0 ?_ | refine Qg ?_ | refine QY (h := ?_) | refine Yb (h := ?_) | refine Q3 ?_ | (refine Qi (h1 := ?_) (h2 := ?_) <;> intro hc <;> try (exfalso; omega)) | refine Qf fun _ => ?_ | refine Q3 ?_ | apply jK | refine Q5 rfl ?_ | apply jB
     refine Qb pqq rfl eqq rfl (fun w _ _ => Q6e w _ (tM d1 t c) K (Qq (by rw [e1]; exact hbd c)) oq) fun w v w' _ _ _ hR => ?_
     rw [e1] at hR
     subst hR
     repeat' first | refine QY (h := ?_) | fail
     refine Q1l (A := _ :: (b44, .cells #[tv T.d t, tv T.u t, tv T.ui t] 26) :: (b, .cells (jgC W m n t s) 84) :: (W.Nu ++ (tH T1.u))) (N := W.Nui) (B := W.Nd ++ (tH T1.d ++ (W.Nv ++ (tH T1.v ++ (W.Nvi ++ (tH T1.vi ++ [])))))) (i := t) (j := c) (V := tv T.ui) (u := -(tM T1.ui t c)) hV hT (by simp only [List.cons_append, List.nil_append, List.append_assoc]; rfl) rfl pqq rfl rfl htl1 hlt2 (fun d2 hT2 hl2 hV2 hM2 => ?_)
     simp only [List.cons_append, List.nil_append, List.append_assoc]
     repeat' first | apply jO | apply jN | apply jT | refine Q1 ?_ | refine Qe ?_ | apply jW
     refine Qa (c + 1, d2) ⟨by dsimp only; omega, hT2, by dsimp only; omega, hV2, fun a x => ?_⟩ dgq cqq (HSub.skip (HSub.refl _))
     dsimp only
     rw [hM2, hMd]
     by_cases h1 : a = t ∧ x = c
     ·obtain ⟨rfl, rfl⟩ := h1
      rw [if_pos ⟨rfl, rfl⟩, if_pos ⟨rfl, by omega⟩]
     ·rw [if_neg h1]
      have e2 : (a = t ∧ x < c + 1) ↔ (a = t ∧ x < c) := by omega
      simp only [e2]
    ·have hcc : c = m := by omega
     rw [hcc] at hMd
     have hX := hW1.ui.ngR htm hT hl1 hMd
     rw [show ngP t S 2 = ⟨negR t S.u, S.ui, negR t S.d, S.v, S.vi⟩ from rfl, ← Qcm hD.ui htm] at hX
     repeat' first | apply jS | apply jO | apply jN | apply jT | refine Q1 ?_ | refine Qe ?_ | (refine Qi (h1 := ?_) (h2 := ?_) <;> intro hc <;> try (exfalso; omega)) | apply jU | apply jE | refine Q4 rfl ?_ | apply jW | refine Qc ?_
     exact Qa (3, { T1 with ui := d1 }) ⟨by dsimp only; omega, ⟨hW1.u, hX, hW1.d, hW1.v, hW1.vi⟩, ⟨hS1.u, hV, hS1.d, hS1.v, hS1.vi⟩⟩ dgq cqq (HSub.refl _)
  ·obtain rfl : q = 3 := by omega
   clear hlt
   repeat' first | apply jS | apply jO | apply jN | apply jT | refine Q1 ?_ | refine Q2 ?_ | refine Q7 ?_ | refine Qe ?_ | refine Q6 ?_ | (refine Qi (h1 := ?_) (h2 := ?_) <;> intro hc <;> try (exfalso; omega)) | refine QL (k := _) (h := ?_) | apply jU | apply jE | refine Q4 rfl ?_ | refine Qc ?_
   exact Zg (fun a w' st => ⟨st.kp, W, T1, Q0y hW hW1 hS1, fun p hp => st.hs.blk p (by exact List.mem_cons_of_mem _ hp), hW1, SameW.refl W⟩)
 ·have := fun h => hneg (hsg.1 h)
  rw [if_neg hneg]
  repeat' first | apply jO | apply jN | apply jT | refine Q1 ?_ | refine Q2 ?_ | refine Q7 ?_ | refine Qe ?_ | refine Q6 ?_ | (refine Qi (h1 := ?_) (h2 := ?_) <;> intro hc <;> try (exfalso; omega)) | refine QL (k := _) (h := ?_) | apply jK | refine Q4 rfl ?_
  all_goals first
   | (exfalso; omega)
   | skip
  exact Zg (fun a w' st => ⟨st.kp, W, T, .refl _, fun p hp => st.hs.blk p hp, hW, SameW.refl W⟩)


theorem Qh7 {A B : SHeap} {w w' : World} (hs : Hsat (A ++ B) w) (h1 : Kp (keys (A ++ B)) w w') (h2 : ∀ p ∈ A, w'.heap[p.1]? = some p.2) : Kp (keys B) w w' :=
 ⟨h1.os, h1.tape, h1.output, h1.size, fun k hk hn => by
  by_cases hm : k ∈ keys A
  ·obtain ⟨p, hp, rfl⟩ := List.mem_map.1 hm
   rw [h2 p hp, hs.blk p (List.mem_append_left _ hp)]
  ·exact h1.block k hk (by rw [ZR]; exact fun h => (List.mem_append.1 h).elim hm hn)⟩
theorem Q0x {A : SHeap} {b m n : Nat} {t s t' s' : Int} {W W' : WV} {T T' : WT} {S' : Sm} {w w' : World} (hs : Hsat (A ++ jgH b W m n t s T) w) (h1 : Kp (keys (A ++ jgH b W m n t s T)) w w') (h2 : ∀ p ∈ A, w'.heap[p.1]? = some p.2)
  (hk : (keys (jgH b W' m n t' s' T')).Perm (keys (jgH b W m n t s T))) (hi : ∀ p ∈ jgH b W' m n t' s' T', w'.heap[p.1]? = some p.2) (hW : IsBj W' m n T' S') (hS : SameW W W') : JgR b W m n t s T t' s' S' w w' :=
 ⟨Qh7 hs h1 h2, W', T', hk, hi, hW, hS⟩
set_option maxHeartbeats 4000000 in
theorem Qhz (K : Nat) (w : World) (b1 b2 b3 : Nat) (b : Nat) (W : WV) (m n : Nat) (t : Nat) (s : Int) (T : WT) (S : Sm) (i k : Nat) (hW : IsBj W m n T S) (hD : Dm m n S) (hs : Hsat ([(b1, .cells #[.pointer (some ⟨b, 0, none⟩)] 30), (b2, .cells #[nv i] 3), (b3, .cells #[nv k] 3)] ++ jgH b W m n t s T) w) (hi : i < m) (hk : k < n) (htm : t < m) (htn : t < n) (hm : m ≤ 200) (hn : n ≤ 200) (hK : K ≤ 21000000) (hb : Ok K S) :
  Calls Tryz.prog 106 #[.pointer (some ⟨b1, 0, none⟩), .pointer (some ⟨b2, 0, none⟩), .pointer (some ⟨b3, 0, none⟩)] w (Ret fun _ w' => JgR b W m n t s T t s (S.ex i k t) w w') := by
 have hM := QC hs
 have hs1 : Hsat (jgH b W m n t s T) w := (Qh (M := [(b1, .cells #[.pointer (some ⟨b, 0, none⟩)] 30), (b2, .cells #[nv i] 3), (b3, .cells #[nv k] 3)]) (HSub.refl _)).hsat hs
 refine Q8 [] (keys ([(b1, .cells #[.pointer (some ⟨b, 0, none⟩)] 30), (b2, .cells #[nv i] 3), (b3, .cells #[nv k] 3)] ++ jgH b W m n t s T)) hM ([(b1, .cells #[.pointer (some ⟨b, 0, none⟩)] 30), (b2, .cells #[nv i] 3), (b3, .cells #[nv k] 3)] ++ (jgH b W m n t s T ++ [])) Tryz.func106 rfl mixed (by kernel_rfl) Tryz.ntmps106 Tryz.results106 rfl (by rw [List.append_nil (jgH b W m n t s T)]; exact hs) (fun p hp => List.mem_map.2 ⟨p, by rw [List.append_nil (jgH b W m n t s T)] at hp; exact hp, rfl⟩) ?_
 simp only [toS, textOps, toSOp, kindAt, kindOf, odAt, sopsAt, ordOf, zipF]
 repeat' first | refine Q7 ?_ | apply jO
 refine YV (A := [(b1, .cells #[.pointer (some ⟨b, 0, none⟩)] 30), (b2, .cells #[nv i] 3), (b3, .cells #[nv k] 3)]) (N := jgH b W m n t s T) (B := []) (R := fun w _ w' => JgR b W m n t s T t s (S.ex i k t) w w') rfl pqq rfl eqq rfl (fun w _ hs => ?_) (fun w1 v1 w2 _ _ _ hR => ?_)
 ·have h := Qjz w b W m n t s T S i k hW hD ((Qh (M := [(b1, .cells #[.pointer (some ⟨b, 0, none⟩)] 30), (b2, .cells #[nv i] 3), (b3, .cells #[nv k] 3)]) HSub.in0).hsat hs) hi hk htm htn hm hn
  exact Z8 h fun v w' h => ⟨h.1, h⟩
 ·obtain ⟨_, W', T', hkp, hin, hW', hS'⟩ := hR
  refine ⟨jgH b W' m n t s T', hkp, hin, ?_⟩
  repeat' first | apply jN
  exact Zg (fun a w' st => Q0x hs st.kp (fun p hp => st.hs.blk p (List.mem_append_left _ hp)) hkp (fun p hp => st.hs.blk p (List.mem_append_right _ (List.mem_append_left _ hp))) hW' hS')

set_option maxHeartbeats 4000000 in
theorem Qhy (K : Nat) (w : World) (b1 b2 b3 b4 : Nat) (b : Nat) (W : WV) (m n : Nat) (t : Nat) (s : Int) (T : WT) (S : Sm) (i k : Nat) (f : Int) (hW : IsBj W m n T S) (hD : Dm m n S) (hs : Hsat ([(b1, .cells #[.pointer (some ⟨b, 0, none⟩)] 30), (b2, .cells #[nv i] 3), (b3, .cells #[nv k] 3), (b4, .cells #[.bool (decide (f < 0)), sv (magU (f).natAbs)] 75)] ++ jgH b W m n t s T) w) (hi : i < m) (hk : k < m) (hik : i ≠ k) (hf : f.natAbs < 256 ^ K) (hm : m ≤ 200) (hn : n ≤ 200) (hK : K ≤ 21000000) (hb : Ok K S) :
  Calls Tryz.prog 109 #[.pointer (some ⟨b1, 0, none⟩), .pointer (some ⟨b2, 0, none⟩), .pointer (some ⟨b3, 0, none⟩), .pointer (some ⟨b4, 0, none⟩)] w (Ret fun _ w' => JgR b W m n t s T t s (S.rows i k (aT f)) w w') := by
 have hM := QC hs
 have hs1 : Hsat (jgH b W m n t s T) w := (Qh (M := [(b1, .cells #[.pointer (some ⟨b, 0, none⟩)] 30), (b2, .cells #[nv i] 3), (b3, .cells #[nv k] 3), (b4, .cells #[.bool (decide (f < 0)), sv (magU (f).natAbs)] 75)]) (HSub.refl _)).hsat hs
 refine Q8 [] (keys ([(b1, .cells #[.pointer (some ⟨b, 0, none⟩)] 30), (b2, .cells #[nv i] 3), (b3, .cells #[nv k] 3), (b4, .cells #[.bool (decide (f < 0)), sv (magU (f).natAbs)] 75)] ++ jgH b W m n t s T)) hM ([(b1, .cells #[.pointer (some ⟨b, 0, none⟩)] 30), (b2, .cells #[nv i] 3), (b3, .cells #[nv k] 3), (b4, .cells #[.bool (decide (f < 0)), sv (magU (f).natAbs)] 75)] ++ (jgH b W m n t s T ++ [])) Tryz.func109 rfl mixed (by kernel_rfl) Tryz.ntmps109 Tryz.results109 rfl (by rw [List.append_nil (jgH b W m n t s T)]; exact hs) (fun p hp => List.mem_map.2 ⟨p, by rw [List.append_nil (jgH b W m n t s T)] at hp; exact hp, rfl⟩) ?_
 simp only [toS, textOps, toSOp, kindAt, kindOf, odAt, sopsAt, ordOf, zipF]
 repeat' first | refine Q7 ?_ | refine Qg ?_ | apply jO
 refine YV (A := [(b1, .cells #[.pointer (some ⟨b, 0, none⟩)] 30), (b2, .cells #[nv i] 3), (b3, .cells #[nv k] 3), (b4, .cells #[.bool (decide (f < 0)), sv (magU (f).natAbs)] 75)]) (N := jgH b W m n t s T) (B := []) (R := fun w _ w' => JgR b W m n t s T t s (S.rows i k (aT f)) w w') rfl pqq rfl eqq rfl (fun w _ hs => ?_) (fun w1 v1 w2 _ _ _ hR => ?_)
 ·have h := Q5c K w b W m n t s T S i k f hW hD ((Qh (M := [(b1, .cells #[.pointer (some ⟨b, 0, none⟩)] 30), (b2, .cells #[nv i] 3), (b3, .cells #[nv k] 3), (b4, .cells #[.bool (decide (f < 0)), sv (magU (f).natAbs)] 75)]) HSub.in0).hsat hs) hi hk hik hm hn hK hf hb
  exact Z8 h fun v w' h => ⟨h.1, h⟩
 ·obtain ⟨_, W', T', hkp, hin, hW', hS'⟩ := hR
  refine ⟨jgH b W' m n t s T', hkp, hin, ?_⟩
  repeat' first | apply jN
  exact Zg (fun a w' st => Q0x hs st.kp (fun p hp => st.hs.blk p (List.mem_append_left _ hp)) hkp (fun p hp => st.hs.blk p (List.mem_append_right _ (List.mem_append_left _ hp))) hW' hS')

set_option maxHeartbeats 4000000 in
theorem Qhx (K : Nat) (w : World) (b1 b2 b3 b4 : Nat) (b : Nat) (W : WV) (m n : Nat) (t : Nat) (s : Int) (T : WT) (S : Sm) (i k : Nat) (f : Int) (hW : IsBj W m n T S) (hD : Dm m n S) (hs : Hsat ([(b1, .cells #[.pointer (some ⟨b, 0, none⟩)] 30), (b2, .cells #[nv i] 3), (b3, .cells #[nv k] 3), (b4, .cells #[.bool (decide (f < 0)), sv (magU (f).natAbs)] 75)] ++ jgH b W m n t s T) w) (hi : i < n) (hk : k < n) (hik : i ≠ k) (hf : f.natAbs < 256 ^ K) (hm : m ≤ 200) (hn : n ≤ 200) (hK : K ≤ 21000000) (hb : Ok K S) :
  Calls Tryz.prog 111 #[.pointer (some ⟨b1, 0, none⟩), .pointer (some ⟨b2, 0, none⟩), .pointer (some ⟨b3, 0, none⟩), .pointer (some ⟨b4, 0, none⟩)] w (Ret fun _ w' => JgR b W m n t s T t s (S.cols i k (aT f)) w w') := by
 have hM := QC hs
 have hs1 : Hsat (jgH b W m n t s T) w := (Qh (M := [(b1, .cells #[.pointer (some ⟨b, 0, none⟩)] 30), (b2, .cells #[nv i] 3), (b3, .cells #[nv k] 3), (b4, .cells #[.bool (decide (f < 0)), sv (magU (f).natAbs)] 75)]) (HSub.refl _)).hsat hs
 refine Q8 [] (keys ([(b1, .cells #[.pointer (some ⟨b, 0, none⟩)] 30), (b2, .cells #[nv i] 3), (b3, .cells #[nv k] 3), (b4, .cells #[.bool (decide (f < 0)), sv (magU (f).natAbs)] 75)] ++ jgH b W m n t s T)) hM ([(b1, .cells #[.pointer (some ⟨b, 0, none⟩)] 30), (b2, .cells #[nv i] 3), (b3, .cells #[nv k] 3), (b4, .cells #[.bool (decide (f < 0)), sv (magU (f).natAbs)] 75)] ++ (jgH b W m n t s T ++ [])) Tryz.func111 rfl mixed (by kernel_rfl) Tryz.ntmps111 Tryz.results111 rfl (by rw [List.append_nil (jgH b W m n t s T)]; exact hs) (fun p hp => List.mem_map.2 ⟨p, by rw [List.append_nil (jgH b W m n t s T)] at hp; exact hp, rfl⟩) ?_
 simp only [toS, textOps, toSOp, kindAt, kindOf, odAt, sopsAt, ordOf, zipF]
 repeat' first | refine Q7 ?_ | refine Qg ?_ | apply jO
 refine YV (A := [(b1, .cells #[.pointer (some ⟨b, 0, none⟩)] 30), (b2, .cells #[nv i] 3), (b3, .cells #[nv k] 3), (b4, .cells #[.bool (decide (f < 0)), sv (magU (f).natAbs)] 75)]) (N := jgH b W m n t s T) (B := []) (R := fun w _ w' => JgR b W m n t s T t s (S.cols i k (aT f)) w w') rfl pqq rfl eqq rfl (fun w _ hs => ?_) (fun w1 v1 w2 _ _ _ hR => ?_)
 ·have h := Qbo K w b W m n t s T S i k f hW hD ((Qh (M := [(b1, .cells #[.pointer (some ⟨b, 0, none⟩)] 30), (b2, .cells #[nv i] 3), (b3, .cells #[nv k] 3), (b4, .cells #[.bool (decide (f < 0)), sv (magU (f).natAbs)] 75)]) HSub.in0).hsat hs) hi hk hik hm hn hK hf hb
  exact Z8 h fun v w' h => ⟨h.1, h⟩
 ·obtain ⟨_, W', T', hkp, hin, hW', hS'⟩ := hR
  refine ⟨jgH b W' m n t s T', hkp, hin, ?_⟩
  repeat' first | apply jN
  exact Zg (fun a w' st => Q0x hs st.kp (fun p hp => st.hs.blk p (List.mem_append_left _ hp)) hkp (fun p hp => st.hs.blk p (List.mem_append_right _ (List.mem_append_left _ hp))) hW' hS')

set_option maxHeartbeats 4000000 in
theorem Qhw (K : Nat) (w : World) (b1 b2 b3 : Nat) (b : Nat) (W : WV) (m n : Nat) (t : Nat) (s : Int) (T : WT) (S : Sm) (i k : Nat) (hW : IsBj W m n T S) (hD : Dm m n S) (hs : Hsat ([(b1, .cells #[.pointer (some ⟨b, 0, none⟩)] 30), (b2, .cells #[nv i] 3), (b3, .cells #[nv k] 3)] ++ jgH b W m n t s T) w) (hi : i < m) (hk : k < m) (hik : i ≠ k) (hK1 : 1 ≤ K) (hm : m ≤ 200) (hn : n ≤ 200) (hK : K ≤ 21000000) (hb : Ok K S) :
  Calls Tryz.prog 113 #[.pointer (some ⟨b1, 0, none⟩), .pointer (some ⟨b2, 0, none⟩), .pointer (some ⟨b3, 0, none⟩)] w (Ret fun _ w' => JgR b W m n t s T t s (S.rows i k (aT 1)) w w') := by
 have hM := QC hs
 have hs1 : Hsat (jgH b W m n t s T) w := (Qh (M := [(b1, .cells #[.pointer (some ⟨b, 0, none⟩)] 30), (b2, .cells #[nv i] 3), (b3, .cells #[nv k] 3)]) (HSub.refl _)).hsat hs
 refine Q8 [⟨0, 1, [], []⟩] (keys ([(b1, .cells #[.pointer (some ⟨b, 0, none⟩)] 30), (b2, .cells #[nv i] 3), (b3, .cells #[nv k] 3)] ++ jgH b W m n t s T)) hM ([(b1, .cells #[.pointer (some ⟨b, 0, none⟩)] 30), (b2, .cells #[nv i] 3), (b3, .cells #[nv k] 3)] ++ (jgH b W m n t s T ++ [])) Tryz.func113 rfl mixed (by kernel_rfl) Tryz.ntmps113 Tryz.results113 rfl (by rw [List.append_nil (jgH b W m n t s T)]; exact hs) (fun p hp => List.mem_map.2 ⟨p, by rw [List.append_nil (jgH b W m n t s T)] at hp; exact hp, rfl⟩) ?_
 simp only [toS, textOps, toSOp, kindAt, kindOf, odAt, sopsAt, ordOf, zipF]
 repeat' first | refine Q7 ?_ | apply jD
 refine Qb pqq rfl eqq rfl (fun w _ _ => Qc0 w 1 dq dq) fun w v w' _ _ _ hR => ?_
 subst hR
 skip
 refine YV (A := [(b1, .cells #[.pointer (some ⟨b, 0, none⟩)] 30), (b2, .cells #[nv i] 3), (b3, .cells #[nv k] 3)]) (N := jgH b W m n t s T) (B := []) (R := fun w _ w' => JgR b W m n t s T t s (S.rows i k (aT 1)) w w') rfl pqq rfl eqq rfl (fun w _ hs => ?_) (fun w1 v1 w2 _ _ _ hR => ?_)
 ·have h := Q5c K w b W m n t s T S i k 1 hW hD ((Qh (M := [(b1, .cells #[.pointer (some ⟨b, 0, none⟩)] 30), (b2, .cells #[nv i] 3), (b3, .cells #[nv k] 3)]) HSub.in0).hsat hs) hi hk hik hm hn hK (QI (K := 1) dq hK1) hb
  exact Z8 h fun v w' h => ⟨h.1, h⟩
 ·obtain ⟨_, W', T', hkp, hin, hW', hS'⟩ := hR
  refine ⟨jgH b W' m n t s T', hkp, hin, ?_⟩
  repeat' first | apply jN
  exact Zg (fun a w' st => Q0x hs st.kp (fun p hp => st.hs.blk p (List.mem_append_left _ hp)) hkp (fun p hp => st.hs.blk p (List.mem_append_right _ (List.mem_append_left _ hp))) hW' hS')


def NxR (b : Nat) (W : WV) (m n t : Nat) (s : Int) (T : WT) : Option (Sm × Nat) → World → Value → World → Prop
 | none, _, v, _ => v = .tuple #[.agg #[.nilFunc], .bool false]
 | some r, w, v, w' => ∃ (f : FuncId) (_ : TF Tryz.prog f) (first cap : Array Value) (N : SHeap), v = .tuple #[.agg #[.func (.func f) first cap], .bool true] ∧ New N w w' ∧
   ∀ w2, Hsat (N ++ jgH b W m n t s T) w2 → Calls Tryz.prog f (first ++ #[] ++ cap) w2 (Ret fun _ w3 => JgR b W m n t s T (r.2 : Nat) s r.1 w2 w3)
theorem Xl {A B H : SHeap} (h : HSub (A ++ B) H) : HSub (B ++ A) H := (Zy List.perm_append_comm).trans h
def nzR (S : Sm) (t i : Nat) : Bool := decide (gE S.d i t ≠ 0)
def nzC (S : Sm) (t k : Nat) : Bool := decide (gE S.d t k ≠ 0)
theorem Qh9 {b m n : Nat} {t s : Int} {W : WV} {T : WT} : HSub (tH T.d) (jgH b W m n t s T) := HSub.skip (Qh (Qh (Qh (Qh (Qh HSub.in0)))))
set_option maxHeartbeats 16000000 in
theorem Qff (K : Nat) (w : World) (b : Nat) (W : WV) (m n t : Nat) (s : Int) (T : WT) (S : Sm) (hW : IsBj W m n T S) (hD : Dm m n S) (hs : Hsat (jgH b W m n t s T) w) (hm : m ≤ 200) (hn : n ≤ 200) (htm : t ≤ m) (htn : t ≤ n) (hK1 : 1 ≤ K) (hK : K ≤ 21000000) (hb : Ok K S) :
  Calls Tryz.prog 50 #[.pointer (some ⟨b, 0, none⟩)] w (Ret fun v w' => Kp [] w w' ∧ NxR b W m n t s T (stpB m n t S) w v w') := by
 have hM := QC hs
 have hld := hW.d.len
 have hTd := hW.d.T
 have hVd : ∀ a, tv T.d a = tv T.d a := fun _ => rfl
 have hat := hW.d.at
 have hbd := XE hW.d hb.d
 refine Q8 [⟨10, 2, [], []⟩, ⟨18, 2, [], []⟩] (keys (jgH b W m n t s T)) hM (jgH b W m n t s T) Tryz.func50 rfl mixed (by kernel_rfl) Tryz.ntmps50 Tryz.results50 rfl hs (fun p hp => List.mem_map.2 ⟨p, hp, rfl⟩) ?_
 simp only [toS, textOps, toSOp, kindAt, kindOf, odAt, sopsAt, ordOf, zipF]
 repeat' first | apply jS | apply jO | apply jN | apply jT | refine Q2 ?_ | refine Q0 ?_ | refine Q7 ?_ | refine Q6 ?_ | refine Qf fun _ => ?_ | refine Qgr (h := fun _ => ?_) | refine QL (k := _) (h := ?_) | apply jC
 rename_i b1 b2 b4
 refine Qb pqq rfl eqq rfl (fun w _ hs => Q7w K w b W m n t s T S hW ((show HSub (jgH b W m n t s T) _ by exact HSub.skip (HSub.skip (HSub.skip (HSub.refl _)))).hsat hs) hm hn htm htn oq hb.d) fun w v w' _ _ _ hR => ?_
 subst hR
 by_cases hle : (leastF S t m n).2.2 = true
 ·obtain ⟨⟨l1, l2, l3, l4⟩, hlv⟩ := Xk hle
  rw [show rwV (leastF S t m n) = nv (leastF S t m n).1 by unfold rwV; rw [if_pos hle], show clV (leastF S t m n) = nv (leastF S t m n).2.1 by unfold clV; rw [if_pos hle]]
  have htm' : t < m := by omega
  have htn' : t < n := by omega
  repeat' first | refine Q1 ?_ | refine Qo (h := ?_) | refine Qf fun _ => ?_ | refine QL (k := _) (h := ?_) | apply jN
  rename_i b5 b6
  refine JX.part (F' := [(6, .pointer (some ⟨b6, 0, none⟩)), (5, .pointer (some ⟨b5, 0, none⟩)), (4, .pointer (some ⟨b4, 0, none⟩)), (3, .bool false), (2, .pointer (some ⟨b2, 0, none⟩)), (1, .pointer (some ⟨b1, 0, none⟩))])
   (H' := [(b6, .cells #[nv (leastF S t m n).2.1] 3), (b5, .cells #[nv (leastF S t m n).1] 3), (b4, .cells #[nv t] 3), (b2, .cells #[.nilFunc] 97), (b1, .cells #[.pointer (some ⟨b, 0, none⟩)] 30)] ++ jgH b W m n t s T) cqq Qv ?_
  by_cases hmv : (leastF S t m n).1 ≠ t ∨ (leastF S t m n).2.1 ≠ t
  ·have hst : stpB m n t S = some (S.ex (leastF S t m n).1 (leastF S t m n).2.1 t, t) := by
    unfold stpB
    rw [if_neg (by rw [hle]; simp), if_pos hmv]
   rw [hst]
   generalize (leastF S t m n).1 = x at l1 l2 hmv ⊢
   generalize (leastF S t m n).2.1 = y at l3 l4 hmv ⊢
   refine QE ?_
   repeat' first | apply jS | apply jO | apply jN | apply jT | refine Q1 ?_ | refine Q0 ?_ | refine Q7 ?_ | refine Ql ?_ | refine Qn ?_ | (refine Qi (h1 := ?_) (h2 := ?_) <;> intro hc <;> try (exfalso; omega)) | (refine Yf (h1 := ?_) (h2 := ?_) <;> intro hc <;> try (exfalso; omega)) | refine ZG (h := ?_) | refine Q5 rfl ?_ | refine Q4 rfl ?_ | refine Qy (h := ?_) | apply jB
   all_goals first
    | (exfalso; omega)
    | skip
   all_goals
    refine Zv (l := [(0, .func (.func 106) #[] #[.pointer (some ⟨b1, 0, none⟩), .pointer (some ⟨b5, 0, none⟩), .pointer (some ⟨b6, 0, none⟩)])]) (cs := #[.func (.func 106) #[] #[.pointer (some ⟨b1, 0, none⟩), .pointer (some ⟨b5, 0, none⟩), .pointer (some ⟨b6, 0, none⟩)]]) rfl rfl rfl rfl ?_
    repeat' first | apply jN | apply jT | refine Q0 ?_ | refine Q3 ?_ | refine Q3 ?_ | apply jV | apply jR | refine Qt ?_ | refine YQ ?_
    exact ZD 3 rfl rfl rfl rfl (fun a w' st => ⟨Z1 hs st.kp (fun p hp => st.hs.blk p (by exact List.mem_cons_of_mem _ (List.mem_cons_of_mem _ (List.mem_cons_of_mem _ (List.mem_cons_of_mem _ (List.mem_cons_of_mem _ (hp))))))), 106, inferInstance, #[], #[.pointer (some ⟨b1, 0, none⟩), .pointer (some ⟨b5, 0, none⟩), .pointer (some ⟨b6, 0, none⟩)], [(b1, .cells #[.pointer (some ⟨b, 0, none⟩)] 30), (b5, .cells #[nv x] 3), (b6, .cells #[nv y] 3)], rfl, newJ (H0 := jgH b W m n t s T) st rfl (Xl Qv), fun w2 h2 => Qhz K w2 b1 b5 b6 b W m n t s T S x y hW hD h2 l2 l4 htm' htn' hm hn hK hb⟩)
  ·obtain ⟨e1, e2⟩ : (leastF S t m n).1 = t ∧ (leastF S t m n).2.1 = t := by omega
   rw [e1] at l2
   rw [e2] at l4
   rw [e1, e2] at hlv
   have hst : stpB m n t S = match fsR S t m with
     | some i => some (S.rows i t (aT (-(gE S.d i t / gE S.d t t))), t)
     | none => match fsC S t n with
      | some k => some (S.cols k t (aT (-(gE S.d t k / gE S.d t t))), t)
      | none => match spoiledF S t m n with
       | some i => some (S.rows t i (aT 1), t)
       | none => some (if gE S.d t t < 0 then S.neg t else S, t + 1) := by
    unfold stpB
    rw [if_neg (by rw [hle]; simp), if_neg hmv]
    rfl
   rw [hst, e1, e2]
   clear hst
   refine QE ?_
   repeat' first | apply jS | apply jO | apply jN | apply jT | refine Q1 ?_ | refine Q0 ?_ | refine Q7 ?_ | refine Qe ?_ | refine Qn ?_ | (refine Qi (h1 := ?_) (h2 := ?_) <;> intro hc <;> try (exfalso; omega)) | (refine Yf (h1 := ?_) (h2 := ?_) <;> intro hc <;> try (exfalso; omega)) | refine Qf fun _ => ?_ | refine QL (k := _) (h := ?_) | apply jK | refine Q4 rfl ?_ | apply jB | apply jW
   all_goals first
    | (exfalso; omega)
    | skip
   rename_i b7
   refine Qj (ι := Nat × Nat) ⟨fun z => [(7, .pointer (some ⟨z.2, 0, none⟩)), (4, .pointer (some ⟨b4, 0, none⟩)), (3, .bool false), (2, .pointer (some ⟨b2, 0, none⟩)), (1, .pointer (some ⟨b1, 0, none⟩))], fun z => [(z.2, .cells #[nv z.1] 3), (b4, .cells #[nv t] 3), (b2, .cells #[.nilFunc] 97), (b1, .cells #[.pointer (some ⟨b, 0, none⟩)] 30)] ++ jgH b W m n t s T,
    fun z => t + 1 ≤ z.1 ∧ z.1 ≤ m ∧ fsR S t m = (List.range' z.1 (m - z.1)).find? (nzR S t), fun z => m - z.1⟩ (t + 1, b7) ⟨by omega, by omega, rfl⟩ cqq Qv (fun z hz => ?_)
   clear b7
   obtain ⟨i, bz⟩ := z
   obtain ⟨hti, him, hfs⟩ := hz
   dsimp only at hti him hfs ⊢
   by_cases hlt : i < m
   ·rw [QH hlt, List.find?_cons] at hfs
    have hx : (tM T.d i t).natAbs < 256 ^ K := hbd _ _
    repeat' first | apply jS | apply jD | apply jN | apply jT | refine Q2 ?_ | refine Q7 ?_ | refine QY (h := ?_) | refine Z3 (h := ?_) | refine Yb (h := ?_) | refine Y7 (h := ?_) | refine Q6 ?_ | (refine Qi (h1 := ?_) (h2 := ?_) <;> intro hc <;> try (exfalso; omega)) | apply jK | refine Q5 rfl ?_ | apply jB
    all_goals first
     | (exfalso; omega)
     | skip
    refine Qb pqq rfl eqq rfl (fun w _ hs => Q49 K w b W m n t s T S (tM T.d i t) hW ((show HSub (jgH b W m n t s T) _ by exact HSub.skip (HSub.skip (HSub.skip (HSub.skip (HSub.refl _))))).hsat hs) hm hn htm' htn' hK hx hb.d) fun w v w' _ _ _ hR => ?_
    unfold dvV at hR
    rw [if_neg hlv] at hR
    subst hR
    repeat' first | apply jS | apply jD | apply jN | refine Q1 ?_ | refine Q2 ?_ | refine Q0 ?_ | refine Q7 ?_ | refine QY (h := ?_) | refine Z3 (h := ?_) | refine Y7 (h := ?_) | refine Q6 ?_ | refine Qo (h := ?_) | refine Q3 ?_ | refine Qf fun _ => ?_ | refine Q3 ?_ | apply jT
    rename_i bq
    refine Q74 rfl rfl rfl (hTd.row (i := i) oq).rd oq ?_
    skip
    refine Qf2 rfl rfl rfl rfl (hTd.row (i := i) oq).rd ((Q2l (Q2k oq)).trans (by exact HSub.skip (HSub.skip (HSub.skip (HSub.skip (HSub.skip Qh9)))))) oq ?_
    have hdt : ((tr' T.d i).getD t 0) = gE S.d i t := hat i t
    rw [hdt]
    repeat' first | apply jN | refine Yg (h := ?_) | apply jT
    have hmg : decide (magU (gE S.d i t).natAbs ≠ []) = nzR S t i := by exact decide_eq_decide.2 (not_congr (magU_nil.trans Int.natAbs_eq_zero))
    rw [hmg]
    cases hnz : nzR S t i with
    | true =>
     rw [hnz] at hfs
     have hfs : fsR S t m = some i := hfs
     rw [hfs, hat]
     try dsimp only
     have hxs : (-(gE S.d i t / gE S.d t t)).natAbs < 256 ^ K := by
      rw [hat] at hx
      rw [Int.natAbs_neg]
      have := YY (gE S.d i t) (gE S.d t t)
      omega
     generalize hqq : -(gE S.d i t / gE S.d t t) = q at hxs ⊢
     repeat' first | apply jS | apply jO | refine ZG (h := ?_) | refine Q5 rfl ?_
     refine Zv (l := [(0, .func (.func 109) #[] #[.pointer (some ⟨b1, 0, none⟩), .pointer (some ⟨bz, 0, none⟩), .pointer (some ⟨b4, 0, none⟩), .pointer (some ⟨bq, 0, none⟩)])]) (cs := #[.func (.func 109) #[] #[.pointer (some ⟨b1, 0, none⟩), .pointer (some ⟨bz, 0, none⟩), .pointer (some ⟨b4, 0, none⟩), .pointer (some ⟨bq, 0, none⟩)]]) rfl rfl rfl rfl ?_
     repeat' first | apply jN | apply jT | refine Q0 ?_ | refine Q3 ?_ | refine Q3 ?_ | apply jV | apply jR | refine Qt ?_ | refine YQ ?_
     exact ZD 3 rfl rfl rfl rfl (fun a w' st => ⟨Z1 hs st.kp (fun p hp => st.hs.blk p (by exact List.mem_cons_of_mem _ (List.mem_cons_of_mem _ (List.mem_cons_of_mem _ (List.mem_cons_of_mem _ (List.mem_cons_of_mem _ (hp))))))), 109, inferInstance, #[], #[.pointer (some ⟨b1, 0, none⟩), .pointer (some ⟨bz, 0, none⟩), .pointer (some ⟨b4, 0, none⟩), .pointer (some ⟨bq, 0, none⟩)], [(b1, .cells #[.pointer (some ⟨b, 0, none⟩)] 30), (bz, .cells #[nv i] 3), (b4, .cells #[nv t] 3), (bq, .cells #[.bool (decide (q < 0)), sv (magU (q).natAbs)] 75)], rfl, newJ (H0 := jgH b W m n t s T) st rfl (Xl Qv), fun w2 h2 => Qhy K w2 b1 bz b4 bq b W m n t s T S i t q hW hD h2 hlt htm' oq hxs hm hn hK hb⟩)
    | false =>
     rw [hnz] at hfs
     repeat' first | apply jS | apply jO | apply jN | apply jT | refine Q7 ?_ | refine Qe ?_ | refine Qf fun _ => ?_ | refine QL (k := _) (h := ?_) | apply jK | refine Q4 rfl ?_ | apply jW
     rename_i bn
     exact Qa (i + 1, bn) ⟨by dsimp only; omega, by dsimp only; omega, hfs⟩ dgq cqq Qv
   ·rw [show m - i = 0 by omega] at hfs
    have hfs : fsR S t m = none := hfs
    rw [hfs]
    try dsimp only
    repeat' first | apply jS | apply jO | apply jD | apply jN | apply jT | refine Q2 ?_ | refine Q7 ?_ | refine Qe ?_ | refine Q6 ?_ | (refine Qi (h1 := ?_) (h2 := ?_) <;> intro hc <;> try (exfalso; omega)) | refine Qf fun _ => ?_ | refine QL (k := _) (h := ?_) | apply jU | apply jE | refine Q4 rfl ?_ | apply jB | refine Qc ?_
    all_goals first
     | (exfalso; omega)
     | skip
    clear hfs hlt hti him
    rename_i b10
    refine Qj (ι := Nat × Nat) ⟨fun z => [(10, .pointer (some ⟨z.2, 0, none⟩)), (4, .pointer (some ⟨b4, 0, none⟩)), (3, .bool false), (2, .pointer (some ⟨b2, 0, none⟩)), (1, .pointer (some ⟨b1, 0, none⟩))], fun z => [(z.2, .cells #[nv z.1] 3), (b4, .cells #[nv t] 3), (b2, .cells #[.nilFunc] 97), (b1, .cells #[.pointer (some ⟨b, 0, none⟩)] 30)] ++ jgH b W m n t s T,
     fun z => t + 1 ≤ z.1 ∧ z.1 ≤ n ∧ fsC S t n = (List.range' z.1 (n - z.1)).find? (nzC S t), fun z => n - z.1⟩ (t + 1, b10) ⟨by omega, by omega, rfl⟩ cqq Qv (fun z hz => ?_)
    clear b10
    obtain ⟨i, bz⟩ := z
    obtain ⟨hti, him, hfs⟩ := hz
    dsimp only at hti him hfs ⊢
    by_cases hlt : i < n
    ·rw [QH hlt, List.find?_cons] at hfs
     have hx : (tM T.d t i).natAbs < 256 ^ K := hbd _ _
     repeat' first | apply jS | apply jD | apply jN | apply jT | refine Q2 ?_ | refine Q7 ?_ | refine QY (h := ?_) | refine Z3 (h := ?_) | refine Yb (h := ?_) | refine Y7 (h := ?_) | refine Q6 ?_ | (refine Qi (h1 := ?_) (h2 := ?_) <;> intro hc <;> try (exfalso; omega)) | apply jK | refine Q5 rfl ?_ | apply jB
     all_goals first
      | (exfalso; omega)
      | skip
     refine Qb pqq rfl eqq rfl (fun w _ hs => Q49 K w b W m n t s T S (tM T.d t i) hW ((show HSub (jgH b W m n t s T) _ by exact HSub.skip (HSub.skip (HSub.skip (HSub.skip (HSub.refl _))))).hsat hs) hm hn htm' htn' hK hx hb.d) fun w v w' _ _ _ hR => ?_
     unfold dvV at hR
     rw [if_neg hlv] at hR
     subst hR
     repeat' first | apply jS | apply jD | apply jN | refine Q1 ?_ | refine Q2 ?_ | refine Q0 ?_ | refine Q7 ?_ | refine QY (h := ?_) | refine Z3 (h := ?_) | refine Y7 (h := ?_) | refine Q6 ?_ | refine Qo (h := ?_) | refine Q3 ?_ | refine Qf fun _ => ?_ | refine Q3 ?_ | apply jT
     rename_i bq
     refine Q74 rfl rfl rfl (hTd.row (i := t) oq).rd oq ?_
     skip
     refine Qf2 rfl rfl rfl rfl (hTd.row (i := t) oq).rd ((Q2l (Q2k oq)).trans (by exact HSub.skip (HSub.skip (HSub.skip (HSub.skip (HSub.skip Qh9)))))) oq ?_
     have hdt : ((tr' T.d t).getD i 0) = gE S.d t i := hat t i
     rw [hdt]
     repeat' first | apply jN | refine Yg (h := ?_) | apply jT
     have hmg : decide (magU (gE S.d t i).natAbs ≠ []) = nzC S t i := by exact decide_eq_decide.2 (not_congr (magU_nil.trans Int.natAbs_eq_zero))
     rw [hmg]
     cases hnz : nzC S t i with
     | true =>
      rw [hnz] at hfs
      have hfs : fsC S t n = some i := hfs
      rw [hfs, hat]
      try dsimp only
      have hxs : (-(gE S.d t i / gE S.d t t)).natAbs < 256 ^ K := by
       rw [hat] at hx
       rw [Int.natAbs_neg]
       have := YY (gE S.d t i) (gE S.d t t)
       omega
      generalize hqq : -(gE S.d t i / gE S.d t t) = q at hxs ⊢
      repeat' first | apply jS | apply jO | refine ZG (h := ?_) | refine Q5 rfl ?_
      refine Zv (l := [(0, .func (.func 111) #[] #[.pointer (some ⟨b1, 0, none⟩), .pointer (some ⟨bz, 0, none⟩), .pointer (some ⟨b4, 0, none⟩), .pointer (some ⟨bq, 0, none⟩)])]) (cs := #[.func (.func 111) #[] #[.pointer (some ⟨b1, 0, none⟩), .pointer (some ⟨bz, 0, none⟩), .pointer (some ⟨b4, 0, none⟩), .pointer (some ⟨bq, 0, none⟩)]]) rfl rfl rfl rfl ?_
      repeat' first | apply jN | apply jT | refine Q0 ?_ | refine Q3 ?_ | refine Q3 ?_ | apply jV | apply jR | refine Qt ?_ | refine YQ ?_
      exact ZD 3 rfl rfl rfl rfl (fun a w' st => ⟨Z1 hs st.kp (fun p hp => st.hs.blk p (by exact List.mem_cons_of_mem _ (List.mem_cons_of_mem _ (List.mem_cons_of_mem _ (List.mem_cons_of_mem _ (List.mem_cons_of_mem _ (hp))))))), 111, inferInstance, #[], #[.pointer (some ⟨b1, 0, none⟩), .pointer (some ⟨bz, 0, none⟩), .pointer (some ⟨b4, 0, none⟩), .pointer (some ⟨bq, 0, none⟩)], [(b1, .cells #[.pointer (some ⟨b, 0, none⟩)] 30), (bz, .cells #[nv i] 3), (b4, .cells #[nv t] 3), (bq, .cells #[.bool (decide (q < 0)), sv (magU (q).natAbs)] 75)], rfl, newJ (H0 := jgH b W m n t s T) st rfl (Xl Qv), fun w2 h2 => Qhx K w2 b1 bz b4 bq b W m n t s T S i t q hW hD h2 hlt htn' oq hxs hm hn hK hb⟩)
     | false =>
      rw [hnz] at hfs
      repeat' first | apply jS | apply jO | apply jN | apply jT | refine Q7 ?_ | refine Qe ?_ | refine Qf fun _ => ?_ | refine QL (k := _) (h := ?_) | apply jK | refine Q4 rfl ?_ | apply jW
      rename_i bn
      exact Qa (i + 1, bn) ⟨by dsimp only; omega, by dsimp only; omega, hfs⟩ dgq cqq Qv
    ·rw [show n - i = 0 by omega] at hfs
     have hfs : fsC S t n = none := hfs
     rw [hfs]
     try dsimp only
     repeat' first | apply jS | apply jO | apply jD | apply jN | apply jT | refine Q2 ?_ | refine Q7 ?_ | refine Q6 ?_ | (refine Qi (h1 := ?_) (h2 := ?_) <;> intro hc <;> try (exfalso; omega)) | refine Qf fun _ => ?_ | refine QL (k := _) (h := ?_) | apply jU | apply jE | refine Q4 rfl ?_ | refine Qc ?_
     all_goals first
      | (exfalso; omega)
      | skip
     clear hfs hlt hti him
     rename_i b13
     refine JC.label ?_
     repeat' first | apply jS | apply jO | apply jN | apply jT | refine Q0 ?_ | refine Q7 ?_ | refine Qe ?_ | apply jB
     refine Qj (ι := Nat) ⟨fun z => [(14, nv z), (13, .pointer (some ⟨b13, 0, none⟩)), (4, .pointer (some ⟨b4, 0, none⟩)), (3, .bool false), (2, .pointer (some ⟨b2, 0, none⟩)), (1, .pointer (some ⟨b1, 0, none⟩))], fun _ => [(b13, .cells #[iv (-1)] 3), (b4, .cells #[nv t] 3), (b2, .cells #[.nilFunc] 97), (b1, .cells #[.pointer (some ⟨b, 0, none⟩)] 30)] ++ jgH b W m n t s T,
      fun z => t + 1 ≤ z ∧ z ≤ m ∧ spoiledF S t m n = (List.range' z (m - z)).find? (badRow S t n), fun z => m - z⟩ (t + 1) ⟨by omega, by omega, rfl⟩ cqq Qv (fun i hi => ?_)
     obtain ⟨hti, him, hsp⟩ := hi
     dsimp only at hti him hsp ⊢
     by_cases hlt : i < m
     ·rw [QH hlt, List.find?_cons] at hsp
      repeat' first | apply jS | apply jO | apply jD | apply jN | apply jT | refine Q1 ?_ | refine Q2 ?_ | refine Q7 ?_ | refine Z3 (h := ?_) | refine Y7 (h := ?_) | refine Qe ?_ | refine Q6 ?_ | (refine Qi (h1 := ?_) (h2 := ?_) <;> intro hc <;> try (exfalso; omega)) | apply jK | refine Q5 rfl ?_ | apply jB
      all_goals first
       | (exfalso; omega)
       | skip
      refine Qd0 (l := t + 1) (h' := n) rfl rfl rfl (hTd.row (i := i) oq).rd rfl rfl (.inl rfl) rfl rfl (.inr ⟨rfl, rfl⟩) oq oq (fun v142 hv142 _ => ?_)
      repeat' first | apply jN | apply jT | refine Q1 ?_ | refine ZH (h := ?_) | apply jB
      refine Qj (ι := Nat) ⟨fun z => [(144, nv z), (143, nv (n - (t + 1))), (142, v142), (14, nv i), (13, .pointer (some ⟨b13, 0, none⟩)), (4, .pointer (some ⟨b4, 0, none⟩)), (3, .bool false), (2, .pointer (some ⟨b2, 0, none⟩)), (1, .pointer (some ⟨b1, 0, none⟩))], fun _ => [(b13, .cells #[iv (-1)] 3), (b4, .cells #[nv t] 3), (b2, .cells #[.nilFunc] 97), (b1, .cells #[.pointer (some ⟨b, 0, none⟩)] 30)] ++ jgH b W m n t s T,
       fun z => z ≤ n - (t + 1) ∧ badRow S t n i = (List.range' (t + 1 + z) (n - (t + 1 + z))).any (badAt S t i), fun z => n - (t + 1) - z⟩ 0 ⟨by omega, rfl⟩ cqq Qv (fun q hq => ?_)
      obtain ⟨hqn, hbr⟩ := hq
      dsimp only at hqn hbr ⊢
      by_cases hlq : q < n - (t + 1)
      ·rw [QH oq, List.any_cons] at hbr
       have hx : (tM T.d i (t + 1 + q)).natAbs < 256 ^ K := hbd _ _
       repeat' first | apply jS | apply jO | apply jN | apply jT | refine QV (h := ?_) | (refine Qi (h1 := ?_) (h2 := ?_) <;> intro hc <;> try (exfalso; omega)) | apply jK | refine Q5 rfl ?_ | apply jB
       refine Yq rfl rfl rfl rfl hv142 ((Q2l (Q2k oq)).trans (by exact HSub.skip (HSub.skip (HSub.skip (HSub.skip Qh9))))) hlq ?_
       have hxe : ((List.drop (t + 1) (tr' T.d i)).take (n - (t + 1))).getD q 0 = tM T.d i (t + 1 + q) := by
        unfold tM
        simp only [List.getD]
        rw [List.getElem?_take_of_lt hlq, List.getElem?_drop]
       rw [hxe]
       repeat' first | apply jS | apply jO | apply jN | refine Q7 ?_ | refine Qg ?_ | refine Q3 ?_ | refine Qf fun _ => ?_ | refine Q3 ?_ | apply jT
       rename_i b16
       refine Qb pqq rfl eqq rfl (fun w _ hs => Q49 K w b W m n t s T S (tM T.d i (t + 1 + q)) hW ((show HSub (jgH b W m n t s T) _ by exact HSub.skip (HSub.skip (HSub.skip (HSub.skip (HSub.skip (HSub.refl _)))))).hsat hs) hm hn htm' htn' hK hx hb.d) fun w v w' _ _ _ hR => ?_
       unfold dvV at hR
       rw [if_neg hlv, hat] at hR
       subst hR
       have hbe : decide (remZ (gE S.d i (t + 1 + q)) (gE S.d t t) ≠ 0) = badAt S t i (t + 1 + q) := rfl
       rw [hbe]
       cases hba : badAt S t i (t + 1 + q) with
       | true =>
        rw [hba] at hbr
        have hbr : badRow S t n i = true := hbr
        rw [hbr] at hsp
        have hsp : spoiledF S t m n = some i := hsp
        rw [hsp]
        try dsimp only
        repeat' first | apply jS | apply jO | apply jN | apply jT | refine Q1 ?_ | refine Q0 ?_ | refine Q7 ?_ | refine Qo (h := ?_) | refine Q3 ?_ | (refine Zu (h1 := ?_) (h2 := ?_) <;> intro hc <;> try (exfalso; omega)) | refine Qf fun _ => ?_ | refine ZG (h := ?_) | refine Q3 ?_ | refine QL (k := _) (h := ?_) | apply jU | apply jE | refine Q5 rfl ?_ | refine Qc ?_ | refine Qc8 rfl ?_
        refine Zv (l := [(0, .func (.func 113) #[] #[.pointer (some ⟨b1, 0, none⟩), .pointer (some ⟨b4, 0, none⟩), .pointer (some ⟨b13, 0, none⟩)])]) (cs := #[.func (.func 113) #[] #[.pointer (some ⟨b1, 0, none⟩), .pointer (some ⟨b4, 0, none⟩), .pointer (some ⟨b13, 0, none⟩)]]) rfl rfl rfl rfl ?_
        repeat' first | apply jN | apply jT | refine Q0 ?_ | refine Q3 ?_ | refine Q3 ?_ | apply jV | apply jR | refine YQ ?_
        exact ZD 4 rfl rfl rfl rfl (fun a w' st => ⟨Z1 hs st.kp (fun p hp => st.hs.blk p (by exact List.mem_cons_of_mem _ (List.mem_cons_of_mem _ (List.mem_cons_of_mem _ (List.mem_cons_of_mem _ (List.mem_cons_of_mem _ (List.mem_cons_of_mem _ (hp)))))))), 113, inferInstance, #[], #[.pointer (some ⟨b1, 0, none⟩), .pointer (some ⟨b4, 0, none⟩), .pointer (some ⟨b13, 0, none⟩)], [(b1, .cells #[.pointer (some ⟨b, 0, none⟩)] 30), (b4, .cells #[nv t] 3), (b13, .cells #[nv i] 3)], rfl, newJ (H0 := jgH b W m n t s T) st rfl (Xl Qv), fun w2 h2 => Qhw K w2 b1 b4 b13 b W m n t s T S t i hW hD h2 htm' hlt oq hK1 hm hn hK hb⟩)
       | false =>
        rw [hba, Bool.false_or] at hbr
        repeat' first | apply jS | apply jO | apply jN | apply jT | refine Q1 ?_ | refine Q0 ?_ | refine Qe ?_ | refine Qo (h := ?_) | refine Q3 ?_ | refine Qf fun _ => ?_ | refine Q3 ?_ | apply jK | refine Q4 rfl ?_ | apply jW
        exact Qa (q + 1) ⟨by first | omega | (dsimp only; omega), hbr⟩ dgp cqq (by exact HSub.skip (HSub.skip (HSub.refl _)))
      ·rw [show n - (t + 1 + q) = 0 by omega] at hbr
       have hbr : badRow S t n i = false := hbr
       rw [hbr] at hsp
       repeat' first | apply jS | apply jO | apply jN | apply jT | refine Q1 ?_ | refine Q0 ?_ | refine Qe ?_ | (refine Qi (h1 := ?_) (h2 := ?_) <;> intro hc <;> try (exfalso; omega)) | apply jU | apply jE | refine Q4 rfl ?_ | apply jW | refine Qc ?_
       exact Qa (i + 1) ⟨by first | omega | (dsimp only; omega), by first | omega | (dsimp only; omega), hsp⟩ dgp cqq (HSub.refl _)
     ·rw [show m - i = 0 by omega] at hsp
      have hsp : spoiledF S t m n = none := hsp
      rw [hsp]
      try dsimp only
      repeat' first | apply jS | apply jO | apply jN | apply jT | refine Q1 ?_ | refine Q2 ?_ | refine Q7 ?_ | refine Q6 ?_ | (refine Qi (h1 := ?_) (h2 := ?_) <;> intro hc <;> try (exfalso; omega)) | (refine Zu (h1 := ?_) (h2 := ?_) <;> intro hc <;> try (exfalso; omega)) | refine ZG (h := ?_) | apply jU | apply jK | apply jE | refine Q4 rfl ?_ | refine Qc ?_
      all_goals first
       | (exfalso; omega)
       | skip
      refine Zv (l := [(0, .func (.func 114) #[.pointer (some ⟨b, 0, none⟩)] #[])]) (cs := #[.func (.func 114) #[.pointer (some ⟨b, 0, none⟩)] #[]]) rfl rfl rfl rfl ?_
      repeat' first | apply jN | apply jT | refine Q0 ?_ | refine Q3 ?_ | refine Q3 ?_ | apply jR | refine YQ ?_
      exact ZD 2 rfl rfl rfl rfl (fun a w' st => ⟨Z1 hs st.kp (fun p hp => st.hs.blk p (by exact List.mem_cons_of_mem _ (List.mem_cons_of_mem _ (List.mem_cons_of_mem _ (List.mem_cons_of_mem _ (hp)))))), 114, inferInstance, #[.pointer (some ⟨b, 0, none⟩)], #[], [], rfl, newJ (H0 := jgH b W m n t s T) st rfl (Xl (by exact HSub.skip (HSub.skip (HSub.skip (HSub.skip (HSub.refl _)))))), fun w2 h2 => Qbn K w2 b W m n t s T S hW hD h2 hm hn htm' htn' hK hb⟩)
 ·have hle : (leastF S t m n).2.2 = false := by simpa using hle
  have hst : stpB m n t S = none := by unfold stpB; rw [if_pos hle]
  rw [hst, show rwV (leastF S t m n) = iv (-1) by unfold rwV; rw [hle]; rfl, show clV (leastF S t m n) = iv (-1) by unfold clV; rw [hle]; rfl]
  repeat' first | apply jS | apply jO | apply jN | apply jT | refine Q1 ?_ | refine Q0 ?_ | refine Q7 ?_ | refine Qo (h := ?_) | refine Q3 ?_ | (refine Qi (h1 := ?_) (h2 := ?_) <;> intro hc <;> try (exfalso; omega)) | refine Qf fun _ => ?_ | refine Qd9 (h := ?_) | refine Q3 ?_ | refine QL (k := _) (h := ?_) | apply jV | apply jR | refine Q5 rfl ?_ | apply jB | refine Qt ?_ | refine YQ ?_
  all_goals first
   | (exfalso; omega)
   | skip
  exact ZD 3 rfl rfl rfl rfl (fun a w' st => ⟨Z1 hs st.kp (fun p hp => st.hs.blk p (by exact List.mem_cons_of_mem _ (List.mem_cons_of_mem _ (List.mem_cons_of_mem _ (List.mem_cons_of_mem _ (List.mem_cons_of_mem _ hp)))))), rfl⟩)

end Go.Proofs.YtbofgpenopcfaaaGreatDoor

