import Derived.Test.YtdlmnloikakjpaaGreatDoorMh
import Derived.Test.YtdlmnloikakjpaaGreatDoorMg
import Derived.Test.YtdlmnloikakjpaaGreatDoorMe
namespace Go.Proofs.YtdlmnloikakjpaaGreatDoor
open Go Go.RowKit
set_option linter.unusedSimpArgs false
set_option linter.unusedVariables false
set_option linter.unusedSectionVars false

def elS (M : Mi) (k : Nat) (last : Int) (i1 j1 : Nat) : Mi := fun i j => if k < j ∧ k < i ∧ (i < i1 ∨ (i = i1 ∧ j < j1)) then (M k k * M i j - M i k * M k j) / last else M i j
theorem Q6e (M : Mi) (k : Nat) (last : Int) (j1 : Nat) (hj : j1 ≤ k + 1) (i j : Nat) : elS M k last (k + 1) j1 i j = M i j := by
 unfold elS
 rw [if_neg]
 omega
theorem Qas (M : Mi) (k n i1 : Nat) (last : Int) (i j : Nat) (hj : j < n) : elS M k last i1 n i j = elS M k last (i1 + 1) 0 i j := by
 unfold elS
 have : (k < j ∧ k < i ∧ (i < i1 ∨ (i = i1 ∧ j < n))) ↔ (k < j ∧ k < i ∧ (i < i1 + 1 ∨ (i = i1 + 1 ∧ j < 0))) := by omega
 simp only [this]
theorem Q7p (M : Mi) (k i1 : Nat) (last : Int) (i j : Nat) : elS M k last i1 0 i j = elS M k last i1 (k + 1) i j := by
 unfold elS
 have : (k < j ∧ k < i ∧ (i < i1 ∨ (i = i1 ∧ j < 0))) ↔ (k < j ∧ k < i ∧ (i < i1 ∨ (i = i1 ∧ j < k + 1))) := by omega
 simp only [this]
theorem Q7q (M : Mi) (k i1 j1 : Nat) (last : Int) (hk : k < j1) (hi : k < i1) (i j : Nat) : (if i = i1 ∧ j = j1 then (M k k * M i1 j1 - M i1 k * M k j1) / last else elS M k last i1 j1 i j) = elS M k last i1 (j1 + 1) i j := by
 by_cases h : i = i1 ∧ j = j1
 ·obtain ⟨rfl, rfl⟩ := h
  rw [if_pos ⟨rfl, rfl⟩]
  unfold elS
  rw [if_pos ⟨hk, hi, .inr ⟨rfl, by omega⟩⟩]
 ·rw [if_neg h]
  unfold elS
  have : (k < j ∧ k < i ∧ (i < i1 ∨ (i = i1 ∧ j < j1))) ↔ (k < j ∧ k < i ∧ (i < i1 ∨ (i = i1 ∧ j < j1 + 1))) := by omega
  simp only [this]

structure DetI (n K : Nat) (A0 : Mi) (k : Nat) (last : Int) (ts : List TR) : Prop where
 ex : ∃ A, Bar n A k (tM ts) last ∧ det n A = det n A0 ∧ ∀ i j, (A i j).natAbs < 256 ^ K
 bd : ∀ i j, i < n → j < n → (tM ts i j).natAbs < 256 ^ (n * (K + 1) + 1)

theorem Bar.lt {n k K : Nat} {A M : Mi} {last : Int} (h : Bar n A k M last) (hn : n ≤ 200) (hA : ∀ i j, (A i j).natAbs < 256 ^ K) {i j : Nat} (hi : k ≤ i) (hin : i < n) (hj : k ≤ j) (hjn : j < n) : (M i j).natAbs < 256 ^ (n * (K + 1) + 1) := by
 rw [h.eq i j hi hin hj hjn]
 exact Qor (by omega) hn hA
theorem Bar.lastLt {n k K : Nat} {A M : Mi} {last : Int} (h : Bar n A k M last) (hk : k ≤ n) (hn : n ≤ 200) (hA : ∀ i j, (A i j).natAbs < 256 ^ K) : last.natAbs < 256 ^ (n * (K + 1) + 1) := by
 rw [h.eqd]
 refine Nat.lt_of_le_of_lt (Qdz (by omega) hA) (Nat.pow_lt_pow_right (by decide) ?_)
 have := Nat.mul_le_mul_right (K + 1) hk
 omega
theorem Qjz {K : Nat} {A : Mi} (k q : Nat) (h : ∀ i j, (A i j).natAbs < 256 ^ K) : ∀ i j, ((setRow (swp A k q) k (fun j => -1 * A q j)) i j).natAbs < 256 ^ K := fun i j => by
 by_cases hi : i = k
 ·subst hi
  rw [setRow_self, show (-1 : Int) * A q j = -(A q j) by omega, Int.natAbs_neg]
  exact h q j
 ·rw [Q0p hi]
  unfold swp
  rw [if_neg hi]
  split <;> exact h _ _

set_option maxHeartbeats 16000000 in
theorem Qma (K : Nat) (w : World) (v : Value) (m : ZM) (hm : RtZ m) (hsq : m.r = m.c) (hK : (m.r + 1) * (K + 1) ≤ 40000000) (hx : BdZ K m) (hv : IsM w v m) :
  Calls Tryz.prog 7 #[v] w (Ret fun v w' => Kp [] w w' ∧ v = .tuple #[Wv (det m.r m.at), .bool true]) := by
 have hv0 := hv
 have hvX := hv.x
 obtain ⟨E, rfl, hE⟩ := hv
 obtain ⟨n, c, e⟩ := m
 obtain rfl : n = c := hsq
 have hle := hm.le
 have hbr : n ≤ 200 := hm.r
 have hB : n * (K + 1) + 1 ≤ 40000000 := by
  have e1 : (n + 1) * (K + 1) = n * (K + 1) + (K + 1) := by rw [Nat.add_mul, Nat.one_mul]
  simp only at hK; omega
 refine Q9n [12] [⟨12, 2, [], []⟩, ⟨16, 2, [], []⟩, ⟨18, 1, [], []⟩, ⟨25, 1, [0, 1, 2, 3, 4, 6, 7, 8, 9, 10, 11, 12, 13, 14, 15, 16, 5, 17, 18, 19, 20], []⟩] [] (by simp) [] Tryz.func7 rfl mixed (by kernel_rfl) Tryz.ntmps7 Tryz.results7 rfl ⟨by simp, by simp⟩ (by simp) ?_
 simp only [toR, inR, cond_true, cond_false, Nat.reduceBEq, toS, textOps, toSOp, kindAt, kindOf, odAt, sopsAt, ordOf, zipF]
 (repeat' (first | refine JC.seq ?_ | refine JC.ops ?_ | refine JO.nil ?_ | refine Q00 ?_ | (apply Q02; (iterate 3 exact rfl)) | (apply Q0d; (iterate 4 exact rfl); exact at1; exact rfl) | (apply Q0e; (iterate 3 exact rfl); intro _) | (apply Q0x; (iterate 4 exact rfl); intro _)))
 rename_i b1 b2
 refine Q09 trivial rfl rfl rfl (fun w hk _ => Q20 w _ _ (hvX.mono hk) (by simp [ZM.xm]; simp only at hle; omega)) fun w v w' _ _ _ hR => ?_
 obtain ⟨b', rfl, hb⟩ := hR
 obtain rfl := hb.2 hm.rx
 (repeat' (first | refine JC.seq ?_ | refine JC.ops ?_ | refine JO.nil ?_ | refine Q00 ?_ | (apply Q04; (iterate 3 exact rfl)) | (apply Q06; (iterate 3 exact rfl)) | (apply Q0g; (iterate 4 exact rfl); exact at1; exact rfl) | (apply Q0d; (iterate 4 exact rfl); exact at1; exact rfl) | (apply Q0q; (iterate 4 exact rfl)) | (apply Q1e; (iterate 3 exact rfl)) | (apply Q3h; (iterate 4 exact rfl); all_goals intro hc; all_goals try (exfalso; omega)) | refine JC.skip ?_ | refine Q07 rfl ?_))
 refine Q0h (A := [_, _]) (B := []) rfl trivial rfl rfl rfl (fun w hk _ => Qh3 w _ _ hm (hv0.mono hk)) fun w v w' _ _ _ hR => ?_
 obtain ⟨N, ts, hN, hT, hts⟩ := hR
 have hlen : ts.length = n := by have := congrArg List.length hts; simpa using this
 refine ⟨_, hN, ?_⟩
 have hM0 : ∀ i j, i < n → j < n → tM ts i j = (ZM.mk n n e).at i j := fun i j hi hj => by
  have h1 : tr' ts i = rowI ⟨n, n, e⟩ i := by
   have h2 := congrArg (fun l => l[i]?) hts
   simp only [List.getElem?_map, List.getElem?_range hi, Q3i (d := dT) (show i < ts.length by omega), Option.map_some, Option.some.injEq] at h2
   exact h2
  unfold tM
  rw [h1, Q4f hj]
 obtain ⟨At, ct, rfl⟩ := hT.form
 (repeat' (first | refine JC.seq ?_ | refine JC.ops ?_ | refine JO.nil ?_ | refine Q00 ?_ | (apply Q02; (iterate 3 exact rfl))))
 refine Q09 trivial rfl rfl rfl (fun w _ _ => Q9s w 1 (by omega) (by omega)) fun w v w' _ _ _ hR => ?_
 subst hR
 (repeat' (first | refine JC.seq ?_ | refine JC.ops ?_ | refine JO.nil ?_ | refine Q00 ?_ | (apply Q04; (iterate 3 exact rfl)) | (apply Qdk; (iterate 3 exact rfl); assumption; assumption) | (apply Q05; exact rfl; (first | exact trivial | exact ⟨rfl, rfl⟩); exact rfl; exact rfl; exact at0; (iterate 3 exact rfl)) | (apply Q0e; (iterate 3 exact rfl); intro _) | (apply Q05; exact rfl; (first | exact trivial | exact ⟨rfl, rfl⟩); exact rfl; exact rfl; exact at0; (iterate 3 exact rfl)) | refine JC.block ?_))
 rename_i b5
 have hD0 : DetI n K (ZM.mk n n e).at 0 1 ts := ⟨⟨_, ⟨rfl, by decide, fun i j _ hi _ hj => by rw [hM0 i j hi hj, Qhf]⟩, rfl, fun i j => hx.at i j⟩, fun i j hi hj => by rw [hM0 i j hi hj]; exact Q8q (hx.at i j) (by have : K + 1 ≤ n * (K + 1) := Nat.le_mul_of_pos_left _ (by omega); omega)⟩
 generalize htv : Value.slice At ts.length ct = tvv at hT ⊢
 refine Q0k (ι := Nat × Int × SHeap × List TR) ⟨fun z => [(30, nv z.1), (29, nv n), (4, tvv), (5, .pointer (some ⟨b5, 0, none⟩)), (2, .pointer (some ⟨b2, 0, none⟩)), (3, .bool false)],
  fun z => [(b5, .cells (wc z.2.1) 34), (b2, .cells #[.bool false, .string ⟨#[]⟩] 34)] ++ (z.2.2.1 ++ (tH z.2.2.2 ++ [])),
  fun z => z.1 ≤ n ∧ OwnT z.2.2.1 tvv n z.2.2.2 ∧ z.2.2.2.length = n ∧ DetI n K (ZM.mk n n e).at z.1 z.2.1 z.2.2.2, fun z => n - z.1⟩ (0, 1, N, ts) ⟨by omega, hT, hlen, hD0⟩ (by repeat first | exact trivial | refine ⟨rfl, ?_⟩) ?_ ?_
 ·dsimp only
  simp only [List.append_nil]
  exact HSub.at 0 rfl (HSub.at 0 rfl (HSub.skip (HSub.refl _)))
 ·rintro ⟨k, last, N, ts⟩ ⟨hkn, hT, hlen, hD⟩
  dsimp only at hkn hT hlen hD ⊢
  obtain ⟨A, hbar, hdet, hA⟩ := hD.ex
  by_cases hlt : k < n
  ·have hV : ∀ a, tv ts a = tv ts a := fun _ => rfl
   (repeat' (first | refine JC.seq ?_ | refine JC.ops ?_ | refine JO.nil ?_ | refine Q00 ?_ | (apply Q04; (iterate 3 exact rfl)) | (apply Q0g; (iterate 4 exact rfl); exact at0; exact rfl) | (apply Q0m; (iterate 4 exact rfl); all_goals intro hc; all_goals try (exfalso; omega)) | (apply Q0e; (iterate 3 exact rfl); intro _) | (apply Q28; exact rfl; (first | exact trivial | exact ⟨rfl, rfl⟩); exact rfl; exact rfl; exact at0; exact rfl; exact rfl; (first | exact Nat.le_of_ble_eq_true rfl | (simp; done) | omega)) | refine JC.skip ?_ | refine Q08 rfl ?_ | refine JC.block ?_))
   rename_i b6
   refine Q67 (l := k) (h' := n) rfl rfl rfl hT.rd rfl rfl (.inl rfl) rfl rfl (.inr ⟨rfl, hlen.symm⟩) hkn (by omega) (fun v35 hv35 _ => ?_)
   rw [Nat.mul_one, Nat.mul_one] at hv35
   (repeat' (first | (apply Q6t; (iterate 4 exact rfl))))
   refine Q09 trivial rfl rfl rfl (fun w hk hs => Qc6 (f := 32) (fst := #[]) (cap := #[.pointer (some ⟨b6, 0, none⟩)]) (fun i => decide (tM ts (k + i) k ≠ 0)) w v35 (n - k) _ (fun i => tv ts (k + i)) (hv35.at hk hs (by (repeat' first | exact HSub.nil _ | exact HSub.hd | exact Q03 | exact HSub.refl _ | refine HSub.skip ?_ | refine Q01 ?_))) (fun i hi => by rw [List.getElem?_take_of_lt hi, List.getElem?_drop]; exact Q4y (by omega)) (by omega) (fun i w' hi hk' => Qo5 w' (tv ts (k + i)) b6 n k (tr' ts (k + i)) ((hk'.block b6 (hs.lt (List.mem_cons_self ..)) (by simp)).trans (hs.blk _ (List.mem_cons_self ..))) (((hT.row (i := k + i) (by omega)).rd.at hk hs ((Q81 (Q94 (by omega))).trans (by (repeat' first | exact HSub.nil _ | exact HSub.hd | exact Q03 | exact HSub.refl _ | refine HSub.skip ?_ | refine Q01 ?_)))).mono hk') hlt)) fun w v w' _ _ _ hR => ?_
   rcases hR with ⟨p, rfl, hp, hpz⟩ | ⟨rfl, hno⟩
   ·have hpz : tM ts (k + p) k ≠ 0 := of_decide_eq_true hpz
    by_cases hp0 : p = 0
    ·subst hp0
     rw [Nat.add_zero] at hpz
     (repeat' (first | refine JC.seq ?_ | refine JC.ops ?_ | refine JC.opsD ?_ | refine JO.nil ?_ | refine Q00 ?_ | (apply Q04; (iterate 3 exact rfl)) | (apply Q02; (iterate 3 exact rfl)) | (apply Q0g; (iterate 4 exact rfl); (first | exact at0 | exact at1); exact rfl) | (apply Q1w; (iterate 4 exact rfl); assumption; assumption; omega; omega) | (apply Q1u; (iterate 4 exact rfl); assumption; omega) | (apply Q44; (iterate 4 exact rfl); assumption; assumption; (repeat' first | exact HSub.nil _ | exact HSub.hd | exact Q03 | exact HSub.refl _ | refine HSub.skip ?_ | refine Q01 ?_); omega; omega) | (apply Q4h; (iterate 4 exact rfl); assumption; assumption; (repeat' first | exact HSub.nil _ | exact HSub.hd | exact Q03 | exact HSub.refl _ | refine HSub.skip ?_ | refine Q01 ?_); omega) | (apply Q0r; (iterate 4 exact rfl); omega) | (apply Q05; exact rfl; (first | exact trivial | exact ⟨rfl, rfl⟩); exact rfl; exact rfl; (first | exact at0 | exact at1); (iterate 3 exact rfl)) | (apply Q0m; (iterate 4 exact rfl); all_goals intro hc; all_goals try (exfalso; omega)) | (apply Q1l; (iterate 4 exact rfl); all_goals intro hc; all_goals try (exfalso; omega)) | (apply Q0e; (iterate 3 exact rfl); intro _) | (apply Q05; exact rfl; (first | exact trivial | exact ⟨rfl, rfl⟩); exact rfl; exact rfl; (first | exact at0 | exact at1); (iterate 3 exact rfl)) | refine JC.skip ?_ | refine Q07 rfl ?_))
     rename_i b9
     refine Q67 (l := k + 1) (h' := n) rfl rfl rfl hT.rd rfl rfl (.inl rfl) rfl rfl (.inr ⟨rfl, hlen.symm⟩) (by omega) (by omega) (fun v94 hv94 _ => ?_)
     rw [Nat.mul_one, Nat.mul_one] at hv94
     skip
     refine Q4t rfl rfl rfl hv94 ?_
     (repeat' (first | refine JO.nil ?_ | refine Q00 ?_ | (apply Q04; (iterate 3 exact rfl)) | refine JC.block ?_))
     refine Q0k (ι := Nat × List TR) ⟨fun z => [(96, nv z.1), (95, nv (n - (k + 1))), (94, v94), (9, .pointer (some ⟨b9, 0, none⟩)), (6, .pointer (some ⟨b6, 0, none⟩)), (30, nv k), (29, nv n), (4, tvv), (5, .pointer (some ⟨b5, 0, none⟩)), (2, .pointer (some ⟨b2, 0, none⟩)), (3, .bool false)],
      fun z => [(b9, .cells (wc (tM ts k k)) 34), (b6, .cells #[nv k] 3), (b5, .cells (wc last) 34), (b2, .cells #[.bool false, .string ⟨#[]⟩] 34)] ++ (N ++ (tH z.2 ++ [])),
      fun z => z.1 ≤ n - (k + 1) ∧ OwnT N tvv n z.2 ∧ z.2.length = n ∧ (∀ a, tv z.2 a = (tv ts) a) ∧ ∀ i j, i < n → j < n → tM z.2 i j = elS (tM ts) k last (k + 1 + z.1) 0 i j, fun z => n - (k + 1) - z.1⟩ (0, ts) ⟨by omega, hT, hlen, hV, fun i j _ _ => (Q6e _ _ _ _ (by omega) _ _).symm⟩ (by repeat first | exact trivial | refine ⟨rfl, ?_⟩) (HSub.refl _) (fun z hz => ?_)
     obtain ⟨q, ts3⟩ := z
     obtain ⟨hq, hT3, hlen3, hV3, hM3⟩ := hz
     dsimp only at hq hT3 hlen3 hV3 hM3 ⊢
     by_cases hq2 : q < n - (k + 1)
     ·(repeat' (first | refine JC.seq ?_ | refine JC.ops ?_ | refine JO.nil ?_ | refine Q00 ?_ | (apply Q0m; (iterate 4 exact rfl); all_goals intro hc; all_goals try (exfalso; omega)) | refine JC.skip ?_ | refine Q08 rfl ?_ | refine JC.block ?_))
      refine Q3w rfl rfl rfl rfl hv94 hq2 ?_
      skip
      refine Q7g (u := (tv ts) (k + 1 + q)) rfl rfl rfl rfl hv94 (by (repeat' first | exact HSub.nil _ | exact HSub.hd | exact Q03 | exact HSub.refl _ | refine HSub.skip ?_ | refine Q01 ?_)) (by rw [List.getElem?_take_of_lt hq2, List.getElem?_drop, ← hV]; exact Q4y (by omega)) ?_
      (repeat' (first | refine JC.seq ?_ | refine JC.ops ?_ | refine JO.nil ?_ | refine Q00 ?_ | (apply Q02; (iterate 3 exact rfl)) | (apply Q0g; (iterate 4 exact rfl); exact at1; exact rfl) | (apply Q0r; (iterate 4 exact rfl); omega) | refine JC.block ?_))
      refine Q0k (ι := Nat × List TR) ⟨fun z => [(12, nv z.1), (11, (tv ts) (k + 1 + q)), (96, nv q), (95, nv (n - (k + 1))), (94, v94), (9, .pointer (some ⟨b9, 0, none⟩)), (6, .pointer (some ⟨b6, 0, none⟩)), (30, nv k), (29, nv n), (4, tvv), (5, .pointer (some ⟨b5, 0, none⟩)), (2, .pointer (some ⟨b2, 0, none⟩)), (3, .bool false)],
       fun z => [(b9, .cells (wc (tM ts k k)) 34), (b6, .cells #[nv k] 3), (b5, .cells (wc last) 34), (b2, .cells #[.bool false, .string ⟨#[]⟩] 34)] ++ (N ++ (tH z.2 ++ [])),
       fun z => k + 1 ≤ z.1 ∧ z.1 ≤ n ∧ OwnT N tvv n z.2 ∧ z.2.length = n ∧ (∀ a, tv z.2 a = (tv ts) a) ∧ ∀ i j, i < n → j < n → tM z.2 i j = elS (tM ts) k last (k + 1 + q) z.1 i j, fun z => n - z.1⟩ (k + 1, ts3) ⟨by omega, by omega, hT3, hlen3, hV3, fun i j hi hj => by rw [hM3 i j hi hj, Q7p]⟩ (by repeat first | exact trivial | refine ⟨rfl, ?_⟩) (HSub.refl _) (fun z hz => ?_)
      obtain ⟨j, ts4⟩ := z
      obtain ⟨hkj, hjn, hT4, hlen4, hV4, hM4⟩ := hz
      dsimp only at hkj hjn hT4 hlen4 hV4 hM4 ⊢
      by_cases hj : j < n
      ·have e1 : tM ts4 (k + 1 + q) j = tM ts (k + 1 + q) j := by rw [hM4 _ _ (by omega) hj]; unfold elS; rw [if_neg (by omega)]
       have e2 : tM ts4 (k + 1 + q) k = tM ts (k + 1 + q) k := by rw [hM4 _ _ (by omega) hlt]; unfold elS; rw [if_neg (by omega)]
       have e3 : tM ts4 k j = tM ts k j := by rw [hM4 _ _ hlt hj]; unfold elS; rw [if_neg (by omega)]
       have d0 := hD.bd k k hlt hlt
       have d1 := hD.bd (k + 1 + q) j (by omega) hj
       have d2 := hD.bd (k + 1 + q) k (by omega) hlt
       have d3 := hD.bd k j hlt hj
       rw [← e1] at d1
       rw [← e2] at d2
       rw [← e3] at d3
       (repeat' (first | refine JC.seq ?_ | refine JC.ops ?_ | refine JC.opsD ?_ | refine JO.nil ?_ | refine Q00 ?_ | (apply Q04; (iterate 3 exact rfl)) | (apply Q0g; (iterate 4 exact rfl); (first | exact at0 | exact at1); exact rfl) | (apply Q0d; (iterate 4 exact rfl); (first | exact at0 | exact at1); exact rfl) | (apply Q4g; (iterate 3 exact rfl); assumption; assumption; omega) | (apply Q1w; (iterate 4 exact rfl); assumption; assumption; omega; omega) | (apply Q1u; (iterate 4 exact rfl); assumption; omega) | (apply Q44; (iterate 4 exact rfl); assumption; assumption; (repeat' first | exact HSub.nil _ | exact HSub.hd | exact Q03 | exact HSub.refl _ | refine HSub.skip ?_ | refine Q01 ?_); omega; omega) | (apply Q4h; (iterate 4 exact rfl); assumption; assumption; (repeat' first | exact HSub.nil _ | exact HSub.hd | exact Q03 | exact HSub.refl _ | refine HSub.skip ?_ | refine Q01 ?_); omega) | (apply Q0m; (iterate 4 exact rfl); all_goals intro hc; all_goals try (exfalso; omega)) | refine JC.skip ?_ | refine Q08 rfl ?_ | refine JC.block ?_))
       refine Q09 (by first | trivial | exact ⟨rfl, rfl⟩) rfl rfl rfl (fun w _ _ => Qc4 w _ _ (tM ts k k) (tM ts4 (k + 1 + q) j) (n * (K + 1) + 1) (Q0t d0) (Q0t d1) (by omega)) fun w v w' _ _ _ hR => ?_
       subst hR
       skip
       refine Q09 (by first | trivial | exact ⟨rfl, rfl⟩) rfl rfl rfl (fun w _ _ => Qc4 w _ _ (tM ts4 (k + 1 + q) k) (tM ts4 k j) (n * (K + 1) + 1) (Q0t d2) (Q0t d3) (by omega)) fun w v w' _ _ _ hR => ?_
       subst hR
       skip
       refine Q09 (by first | trivial | exact ⟨rfl, rfl⟩) rfl rfl rfl (fun w _ _ => Qj7 w _ _ (tM ts k k * tM ts4 (k + 1 + q) j) (tM ts4 (k + 1 + q) k * tM ts4 k j) _ (Q0t (Q29 d0 d1)) (Q0t (Q29 d2 d3)) (by omega)) fun w v w' _ _ _ hR => ?_
       subst hR
       (repeat' (first | refine JC.ops ?_ | refine JO.nil ?_ | refine Q00 ?_ | (apply Q04; (iterate 3 exact rfl)) | (apply Q0d; (iterate 4 exact rfl); (first | exact at0 | exact at3); exact rfl) | (apply Q05; exact rfl; (first | exact trivial | exact ⟨rfl, rfl⟩); exact rfl; exact rfl; (first | exact at0 | exact at3); (iterate 3 exact rfl)) | (apply Q0e; (iterate 3 exact rfl); intro _) | (apply Q05; exact rfl; (first | exact trivial | exact ⟨rfl, rfl⟩); exact rfl; exact rfl; (first | exact at0 | exact at3); (iterate 3 exact rfl))))
       refine Q09 (by first | trivial | exact ⟨rfl, rfl⟩) rfl rfl rfl (fun w _ _ => Qj8 w _ _ (tM ts k k * tM ts4 (k + 1 + q) j - tM ts4 (k + 1 + q) k * tM ts4 k j) last (n * (K + 1) + 1 + (n * (K + 1) + 1) + 1) (Q0t (Qbg (Q29 d0 d1) (Q29 d2 d3))) (Q0t (Q8q (hbar.lastLt (by omega) hbr hA) (by omega))) (by omega)) fun w v w' _ _ _ hR => ?_
       rw [if_neg hbar.ne] at hR
       subst hR
       (repeat' (first | (apply Q04; (iterate 3 exact rfl)) | (apply Q1w; (iterate 4 exact rfl); assumption; assumption; omega; omega) | (apply Q0v; (iterate 4 exact rfl))))
       refine Q9c (V := (tv ts)) (A := [_, _, _, _, _]) hV4 hT4 rfl rfl (by first | trivial | exact ⟨rfl, rfl⟩) rfl rfl (by omega) hj (fun ts5 hT5 hlen5 hV5 hM5 => ?_)
       (repeat' (first | refine JC.ops ?_ | refine JO.nil ?_ | refine Q00 ?_ | (apply Q04; (iterate 3 exact rfl)) | (apply Q02; (iterate 3 exact rfl)) | (apply Q0r; (iterate 4 exact rfl); omega) | refine Q0b ?_))
       refine Q0c (j + 1, ts5) ⟨by dsimp only; omega, by dsimp only; omega, hT5, by dsimp only; omega, hV5, fun a b ha hb => ?_⟩ (by dsimp only; omega) (by repeat first | exact trivial | refine ⟨rfl, ?_⟩) (HSub.skip (HSub.refl _))
       dsimp only
       rw [hM5, hM4 a b ha hb, e1, e2, e3]
       exact Q7q _ _ _ _ _ (by omega) (by omega) _ _
      ·(repeat' (first | refine JC.seq ?_ | refine JC.ops ?_ | refine JO.nil ?_ | refine Q00 ?_ | (apply Q04; (iterate 3 exact rfl)) | (apply Q4g; (iterate 3 exact rfl); assumption; assumption; omega) | (apply Q0r; (iterate 4 exact rfl); omega) | (apply Q0m; (iterate 4 exact rfl); all_goals intro hc; all_goals try (exfalso; omega)) | refine Q0i ?_ | refine JC.exit ?_ | refine Q07 rfl ?_ | refine Q0b ?_ | refine Q0f ?_))
       obtain rfl : j = n := by omega
       refine Q0c (q + 1, ts4) ⟨by dsimp only; omega, hT4, hlen4, hV4, fun a b ha hb => ?_⟩ (by dsimp only; omega) (by repeat first | exact trivial | refine ⟨rfl, ?_⟩) (HSub.refl _)
       dsimp only
       rw [hM4 a b ha hb, Qas _ _ _ _ _ _ _ hb]
       rfl
     ·(repeat' (first | refine JC.seq ?_ | refine JC.ops ?_ | refine JO.nil ?_ | refine Q00 ?_ | (apply Q04; (iterate 3 exact rfl)) | (apply Q0d; (iterate 4 exact rfl); (first | exact at0 | exact at2); exact rfl) | (apply Q0r; (iterate 4 exact rfl); omega) | (apply Q05; exact rfl; (first | exact trivial | exact ⟨rfl, rfl⟩); exact rfl; exact rfl; (first | exact at0 | exact at2); (iterate 3 exact rfl)) | (apply Q0m; (iterate 4 exact rfl); all_goals intro hc; all_goals try (exfalso; omega)) | (apply Q05; exact rfl; (first | exact trivial | exact ⟨rfl, rfl⟩); exact rfl; exact rfl; (first | exact at0 | exact at2); (iterate 3 exact rfl)) | refine Q0i ?_ | refine JC.exit ?_ | refine Q07 rfl ?_ | refine Q0b ?_ | refine Q0f ?_))
      have hst := hbar.step (M' := tM ts3) hlt hpz (fun i j hi hin hj hjn => by
       rw [hM3 i j hin hjn]
       unfold elS
       rw [if_pos ⟨hj, hi, .inl (by omega)⟩])
      refine Q0c (k + 1, tM ts k k, N, ts3) ⟨by dsimp only; omega, hT3, hlen3, ⟨⟨A, hst, hdet, hA⟩, fun i j hi hj => ?_⟩⟩ (by dsimp only; omega) (by repeat first | exact trivial | refine ⟨rfl, ?_⟩) (by exact HSub.at 2 rfl (HSub.at 2 rfl (HSub.skip (HSub.skip (HSub.refl _)))))
      by_cases hc : k < j ∧ k < i
      ·exact hst.lt hbr hA (by omega) hi (by omega) hj
      ·dsimp only
       rw [hM3 i j hi hj]
       unfold elS
       rw [if_neg (by omega)]
       exact hD.bd i j hi hj
    ·have hkp : k + p < n := by omega
     (repeat' (first | refine JC.seq ?_ | refine JC.ops ?_ | refine JO.nil ?_ | refine Q00 ?_ | (apply Q04; (iterate 3 exact rfl)) | (apply Q02; (iterate 3 exact rfl)) | (apply Q0m; (iterate 4 exact rfl); all_goals intro hc; all_goals try (exfalso; omega)) | (apply Q1l; (iterate 4 exact rfl); all_goals intro hc; all_goals try (exfalso; omega)) | refine JC.skip ?_ | refine Q08 rfl ?_ | refine Q07 rfl ?_))
     have fork : ∀ (X : SHeap), HSub [(b6, Obj.cells #[nv k] 3 (0, 0))] ((b6, Obj.cells #[nv k] 3 (0, 0)) :: X) := fun X => HSub.hd
     refine Qjj [(b6, .cells #[nv k] 3 (0, 0))] (fork _) 11 15 (fun i op => kindAt [(11, .seq), (15, .seq)] i op) 2 2 [0, 1, 2, 3, 4, 5, 6, 7, 8, 9, 10, 12, 13, 14, 11, 15, 16, 17, 18, 19] [0, 1, 2, 3, 4, 5, 6, 7, 8, 9, 10, 12, 13, 14, 15, 11, 16, 17, 18, 19] (by decide) mixed (by kernel_rfl) (by kernel_rfl) ?_ ?_
     ·(repeat' (first | (apply Q04; (iterate 3 exact rfl)) | (apply Q0g; (iterate 4 exact rfl); exact at0; exact rfl) | (apply Q1u; (iterate 4 exact rfl); assumption; omega) | (apply Q1a; (iterate 4 exact rfl); omega)))
      refine Qbk (u := tv ts (k + p)) (by first | trivial | exact ⟨rfl, rfl⟩) rfl rfl rfl hT.rd (by exact HSub.skip (HSub.skip (HSub.skip Q03))) (Q4y (by omega)) ?_
      skip
      refine Qbk (u := tv ts k) (by first | trivial | exact ⟨rfl, rfl⟩) rfl rfl rfl hT.rd (by exact HSub.skip (HSub.skip (HSub.skip Q03))) (Q4y (by omega)) ?_
      (repeat' (first | (apply Q1u; (iterate 4 exact rfl); assumption; omega)))
      refine Qdf (A := [_, _, _]) (N := N) (B := tH ts ++ []) hT.outer rfl HSub.hd rfl rfl rfl (Q4q hT (by omega)).1 (Q4q hT (by omega)).2 (by omega) (fun N4 hO4 => ?_)
      (repeat' (first | (apply Q1u; (iterate 4 exact rfl); assumption; omega)))
      refine Qdf (A := [_, _, _]) (N := N4) (B := tH ts ++ []) hO4 rfl HSub.hd rfl rfl rfl (Q4q hT (by omega)).1 (Q4q hT (by omega)).2 (by omega) (fun N5 hO5 => ?_)
      have hT1 : OwnT N5 tvv n (swT ts k (k + p)) := ⟨by rw [Q5m, Qff (by omega) (by omega)]; exact hO5, fun t ht => hT.rows t ((Q4d (by omega) (by omega)).mem_iff.1 ht)⟩
      have hlen1 : (swT ts k (k + p)).length = n := by rw [Q5m]; exact hlen
      have hV1 : ∀ a, tv (swT ts k (k + p)) a = tv (swT ts k (k + p)) a := fun _ => rfl
      have hsM : ∀ i j, tM (swT ts k (k + p)) i j = if i = k + p then tM ts k j else if i = k then tM ts (k + p) j else tM ts i j := Qkq (by omega) (by omega)
      have hbd1 : ∀ i j, i < n → j < n → (tM (swT ts k (k + p)) i j).natAbs < 256 ^ (n * (K + 1) + 1) := fun i j hi hj => by
       rw [hsM]
       split
       ·exact hD.bd _ _ hlt hj
       ·split
        ·exact hD.bd _ _ hkp hj
        ·exact hD.bd _ _ hi hj
      (repeat' (first | refine JO.nil ?_))
      refine JX.part (F' := [(7, nv p), (6, .pointer (some ⟨b6, 0, none⟩)), (30, nv k), (29, nv n), (4, tvv), (5, .pointer (some ⟨b5, 0, none⟩)), (2, .pointer (some ⟨b2, 0, none⟩)), (3, .bool false)]) (H' := [(b6, .cells #[nv k] 3 (0, 0)), (b5, .cells (wc last) 34), (b2, .cells #[.bool false, .string ⟨#[]⟩] 34)] ++ (N5 ++ (tH (swT ts k (k + p)) ++ []))) (by repeat first | exact trivial | refine ⟨rfl, ?_⟩) ⟨[], ?_⟩ ?_
      ·simp only [List.append_nil]
       exact List.Perm.append_left _ (List.Perm.append_left _ (Qa1 (Q4d (by omega) (by omega)).symm))
      refine Q00 ?_
      (repeat' (first | refine JC.seq ?_ | refine JC.ops ?_ | refine JO.nil ?_ | refine Q00 ?_ | (apply Q04; (iterate 3 exact rfl)) | (apply Q0g; (iterate 4 exact rfl); exact at0; exact rfl) | (apply Q4g; (iterate 3 exact rfl); assumption; assumption; omega) | (apply Q1u; (iterate 4 exact rfl); assumption; omega) | (apply Q4h; (iterate 4 exact rfl); assumption; assumption; (repeat' first | exact HSub.nil _ | exact HSub.hd | exact Q03 | exact HSub.refl _ | refine HSub.skip ?_ | refine Q01 ?_); omega) | refine JC.block ?_))
      refine Q0k (ι := Nat × List TR) ⟨fun z => [(66, nv z.1), (65, nv n), (7, nv p), (6, .pointer (some ⟨b6, 0, none⟩)), (30, nv k), (29, nv n), (4, tvv), (5, .pointer (some ⟨b5, 0, none⟩)), (2, .pointer (some ⟨b2, 0, none⟩)), (3, .bool false)],
       fun z => [(b6, .cells #[nv k] 3 (0, 0)), (b5, .cells (wc last) 34), (b2, .cells #[.bool false, .string ⟨#[]⟩] 34)] ++ (N5 ++ (tH z.2 ++ [])),
       fun z => z.1 ≤ n ∧ OwnT N5 tvv n z.2 ∧ z.2.length = n ∧ (∀ a, tv z.2 a = (tv (swT ts k (k + p))) a) ∧ ∀ i j, i < n → j < n → tM z.2 i j = if i = k ∧ j < z.1 then -(tM (swT ts k (k + p)) i j) else tM (swT ts k (k + p)) i j, fun z => n - z.1⟩ (0, (swT ts k (k + p))) ⟨by omega, hT1, hlen1, hV1, fun i j _ _ => by simp⟩ (by repeat first | exact trivial | refine ⟨rfl, ?_⟩) (HSub.refl _) (fun z hz => ?_)
      obtain ⟨jj, ts2⟩ := z
      obtain ⟨hjj, hT2, hlen2, hV2, hM2⟩ := hz
      dsimp only at hjj hT2 hlen2 hV2 hM2 ⊢
      by_cases hj2 : jj < n
      ·have e4 : tM ts2 k jj = tM (swT ts k (k + p)) k jj := by rw [hM2 _ _ hlt hj2, if_neg (by omega)]
       (repeat' (first | refine JC.seq ?_ | refine JC.ops ?_ | refine JC.opsD ?_ | refine JO.nil ?_ | refine Q00 ?_ | (apply Q04; (iterate 3 exact rfl)) | (apply Q02; (iterate 3 exact rfl)) | (apply Q0g; (iterate 4 exact rfl); exact at0; exact rfl) | (apply Q1w; (iterate 4 exact rfl); assumption; assumption; omega; omega) | (apply Q1u; (iterate 4 exact rfl); assumption; omega) | (apply Q44; (iterate 4 exact rfl); assumption; assumption; (repeat' first | exact HSub.nil _ | exact HSub.hd | exact Q03 | exact HSub.refl _ | refine HSub.skip ?_ | refine Q01 ?_); omega; omega) | (apply Q4h; (iterate 4 exact rfl); assumption; assumption; (repeat' first | exact HSub.nil _ | exact HSub.hd | exact Q03 | exact HSub.refl _ | refine HSub.skip ?_ | refine Q01 ?_); omega) | (apply Q0m; (iterate 4 exact rfl); all_goals intro hc; all_goals try (exfalso; omega)) | refine JC.skip ?_ | refine Q08 rfl ?_ | refine JC.block ?_))
       refine Q09 (by first | trivial | exact ⟨rfl, rfl⟩) rfl rfl rfl (fun w _ _ => Qj9 w _ (tM ts2 k jj) _ (Q0t (by rw [e4]; exact hbd1 k jj hlt hj2)) (by omega)) fun w v w' _ _ _ hR => ?_
       subst hR
       (repeat' (first | (apply Q1w; (iterate 4 exact rfl); assumption; assumption; omega; omega)))
       refine Q9c (V := (tv (swT ts k (k + p)))) (A := [_, _, _]) hV2 hT2 rfl rfl (by first | trivial | exact ⟨rfl, rfl⟩) rfl rfl (by omega) hj2 (fun ts5 hT5 hlen5 hV5 hM5 => ?_)
       (repeat' (first | refine JC.ops ?_ | refine JO.nil ?_ | refine Q00 ?_ | (apply Q04; (iterate 3 exact rfl)) | (apply Q0r; (iterate 4 exact rfl); omega) | refine Q0b ?_))
       refine Q0c (jj + 1, ts5) ⟨by dsimp only; omega, hT5, by dsimp only; omega, hV5, fun a b ha hb => ?_⟩ (by dsimp only; omega) (by repeat first | exact trivial | refine ⟨rfl, ?_⟩) (HSub.refl _)
       dsimp only
       rw [hM5, hM2 a b ha hb, e4]
       by_cases h1 : a = k ∧ b = jj
       ·obtain ⟨rfl, rfl⟩ := h1
        rw [if_pos ⟨rfl, rfl⟩, if_pos ⟨rfl, by omega⟩]
       ·rw [if_neg h1]
        by_cases h2 : a = k ∧ b < jj
        ·rw [if_pos h2, if_pos ⟨h2.1, by omega⟩]
        ·rw [if_neg h2, if_neg (by omega)]
      ·obtain rfl : n = jj := by omega
       have hsw := hbar.swap (M' := tM ts2) (-1) (q := k + p) (by omega) hkp (fun j hj => by rw [hM2 _ _ hlt hj, if_pos ⟨rfl, hj⟩, hsM, if_neg (by omega), if_pos rfl]; omega) (fun j hj => by rw [hM2 _ _ hkp hj, if_neg (by omega), hsM, if_pos rfl]) (fun i j hi hj h1 h2 => by rw [hM2 _ _ hi hj, if_neg (by omega), hsM, if_neg h2, if_neg h1])
       have hpz2 : tM ts2 k k ≠ 0 := by
        rw [hM2 _ _ hlt hlt, if_pos ⟨rfl, hlt⟩, hsM, if_neg (by omega), if_pos rfl]
        omega
       have hdet2 : det n (setRow (swp A k (k + p)) k (fun j => -1 * A (k + p) j)) = det n (ZM.mk n n e).at := by rw [hsw.2, ← hdet]; omega
       have hbd2 : ∀ i j, i < n → j < n → (tM ts2 i j).natAbs < 256 ^ (n * (K + 1) + 1) := fun i j hi hj => by
        rw [hM2 _ _ hi hj]
        split
        ·rw [Int.natAbs_neg]; exact hbd1 i j hi hj
        ·exact hbd1 i j hi hj
       have hA2 := Qjz k (k + p) hA
       (repeat' (first | refine JC.seq ?_ | refine JC.ops ?_ | refine JC.opsD ?_ | refine JO.nil ?_ | refine Q00 ?_ | (apply Q04; (iterate 3 exact rfl)) | (apply Q0g; (iterate 4 exact rfl); (first | exact at0 | exact at1); exact rfl) | (apply Q1w; (iterate 4 exact rfl); assumption; assumption; omega; omega) | (apply Q1u; (iterate 4 exact rfl); assumption; omega) | (apply Q44; (iterate 4 exact rfl); assumption; assumption; (repeat' first | exact HSub.nil _ | exact HSub.hd | exact Q03 | exact HSub.refl _ | refine HSub.skip ?_ | refine Q01 ?_); omega; omega) | (apply Q4h; (iterate 4 exact rfl); assumption; assumption; (repeat' first | exact HSub.nil _ | exact HSub.hd | exact Q03 | exact HSub.refl _ | refine HSub.skip ?_ | refine Q01 ?_); omega) | (apply Q0r; (iterate 4 exact rfl); omega) | (apply Q05; exact rfl; (first | exact trivial | exact ⟨rfl, rfl⟩); exact rfl; exact rfl; (first | exact at0 | exact at1); (iterate 3 exact rfl)) | (apply Q0m; (iterate 4 exact rfl); all_goals intro hc; all_goals try (exfalso; omega)) | (apply Q0e; (iterate 3 exact rfl); intro _) | (apply Q05; exact rfl; (first | exact trivial | exact ⟨rfl, rfl⟩); exact rfl; exact rfl; (first | exact at0 | exact at1); (iterate 3 exact rfl)) | refine Q0i ?_ | refine JC.exit ?_ | refine Q07 rfl ?_ | refine Q0f ?_))
       rename_i b9
       refine Q67 (l := k + 1) (h' := n) rfl rfl rfl hT2.rd rfl rfl (.inl rfl) rfl rfl (.inr ⟨rfl, hlen2.symm⟩) (by omega) (by omega) (fun v94 hv94 _ => ?_)
       rw [Nat.mul_one, Nat.mul_one] at hv94
       skip
       refine Q4t rfl rfl rfl hv94 ?_
       (repeat' (first | refine JO.nil ?_ | refine Q00 ?_ | (apply Q04; (iterate 3 exact rfl)) | refine JC.block ?_))
       refine Q0k (ι := Nat × List TR) ⟨fun z => [(96, nv z.1), (95, nv (n - (k + 1))), (94, v94), (9, .pointer (some ⟨b9, 0, none⟩)), (6, .pointer (some ⟨b6, 0, none⟩)), (30, nv k), (29, nv n), (4, tvv), (5, .pointer (some ⟨b5, 0, none⟩)), (2, .pointer (some ⟨b2, 0, none⟩)), (3, .bool false)],
        fun z => [(b9, .cells (wc (tM ts2 k k)) 34), (b6, .cells #[nv k] 3), (b5, .cells (wc last) 34), (b2, .cells #[.bool false, .string ⟨#[]⟩] 34)] ++ (N5 ++ (tH z.2 ++ [])),
        fun z => z.1 ≤ n - (k + 1) ∧ OwnT N5 tvv n z.2 ∧ z.2.length = n ∧ (∀ a, tv z.2 a = (tv (swT ts k (k + p))) a) ∧ ∀ i j, i < n → j < n → tM z.2 i j = elS (tM ts2) k last (k + 1 + z.1) 0 i j, fun z => n - (k + 1) - z.1⟩ (0, ts2) ⟨by omega, hT2, hlen2, hV2, fun i j _ _ => (Q6e _ _ _ _ (by omega) _ _).symm⟩ (by repeat first | exact trivial | refine ⟨rfl, ?_⟩) (HSub.refl _) (fun z hz => ?_)
       obtain ⟨q, ts3⟩ := z
       obtain ⟨hq, hT3, hlen3, hV3, hM3⟩ := hz
       dsimp only at hq hT3 hlen3 hV3 hM3 ⊢
       by_cases hq2 : q < n - (k + 1)
       ·(repeat' (first | refine JC.seq ?_ | refine JC.ops ?_ | refine JO.nil ?_ | refine Q00 ?_ | (apply Q0m; (iterate 4 exact rfl); all_goals intro hc; all_goals try (exfalso; omega)) | refine JC.skip ?_ | refine Q08 rfl ?_ | refine JC.block ?_))
        refine Q3w rfl rfl rfl rfl hv94 hq2 ?_
        skip
        refine Q7g (u := (tv (swT ts k (k + p))) (k + 1 + q)) rfl rfl rfl rfl hv94 (by (repeat' first | exact HSub.nil _ | exact HSub.hd | exact Q03 | exact HSub.refl _ | refine HSub.skip ?_ | refine Q01 ?_)) (by rw [List.getElem?_take_of_lt hq2, List.getElem?_drop, ← hV2]; exact Q4y (by omega)) ?_
        (repeat' (first | refine JC.seq ?_ | refine JC.ops ?_ | refine JO.nil ?_ | refine Q00 ?_ | (apply Q02; (iterate 3 exact rfl)) | (apply Q0g; (iterate 4 exact rfl); exact at1; exact rfl) | (apply Q0r; (iterate 4 exact rfl); omega) | refine JC.block ?_))
        refine Q0k (ι := Nat × List TR) ⟨fun z => [(12, nv z.1), (11, (tv (swT ts k (k + p))) (k + 1 + q)), (96, nv q), (95, nv (n - (k + 1))), (94, v94), (9, .pointer (some ⟨b9, 0, none⟩)), (6, .pointer (some ⟨b6, 0, none⟩)), (30, nv k), (29, nv n), (4, tvv), (5, .pointer (some ⟨b5, 0, none⟩)), (2, .pointer (some ⟨b2, 0, none⟩)), (3, .bool false)],
         fun z => [(b9, .cells (wc (tM ts2 k k)) 34), (b6, .cells #[nv k] 3), (b5, .cells (wc last) 34), (b2, .cells #[.bool false, .string ⟨#[]⟩] 34)] ++ (N5 ++ (tH z.2 ++ [])),
         fun z => k + 1 ≤ z.1 ∧ z.1 ≤ n ∧ OwnT N5 tvv n z.2 ∧ z.2.length = n ∧ (∀ a, tv z.2 a = (tv (swT ts k (k + p))) a) ∧ ∀ i j, i < n → j < n → tM z.2 i j = elS (tM ts2) k last (k + 1 + q) z.1 i j, fun z => n - z.1⟩ (k + 1, ts3) ⟨by omega, by omega, hT3, hlen3, hV3, fun i j hi hj => by rw [hM3 i j hi hj, Q7p]⟩ (by repeat first | exact trivial | refine ⟨rfl, ?_⟩) (HSub.refl _) (fun z hz => ?_)
        obtain ⟨j, ts4⟩ := z
        obtain ⟨hkj, hjn, hT4, hlen4, hV4, hM4⟩ := hz
        dsimp only at hkj hjn hT4 hlen4 hV4 hM4 ⊢
        by_cases hj : j < n
        ·have e1 : tM ts4 (k + 1 + q) j = tM ts2 (k + 1 + q) j := by rw [hM4 _ _ (by omega) hj]; unfold elS; rw [if_neg (by omega)]
         have e2 : tM ts4 (k + 1 + q) k = tM ts2 (k + 1 + q) k := by rw [hM4 _ _ (by omega) hlt]; unfold elS; rw [if_neg (by omega)]
         have e3 : tM ts4 k j = tM ts2 k j := by rw [hM4 _ _ hlt hj]; unfold elS; rw [if_neg (by omega)]
         have d0 := hbd2 k k hlt hlt
         have d1 := hbd2 (k + 1 + q) j (by omega) hj
         have d2 := hbd2 (k + 1 + q) k (by omega) hlt
         have d3 := hbd2 k j hlt hj
         rw [← e1] at d1
         rw [← e2] at d2
         rw [← e3] at d3
         (repeat' (first | refine JC.seq ?_ | refine JC.ops ?_ | refine JC.opsD ?_ | refine JO.nil ?_ | refine Q00 ?_ | (apply Q04; (iterate 3 exact rfl)) | (apply Q0g; (iterate 4 exact rfl); (first | exact at0 | exact at1); exact rfl) | (apply Q0d; (iterate 4 exact rfl); (first | exact at0 | exact at1); exact rfl) | (apply Q4g; (iterate 3 exact rfl); assumption; assumption; omega) | (apply Q1w; (iterate 4 exact rfl); assumption; assumption; omega; omega) | (apply Q1u; (iterate 4 exact rfl); assumption; omega) | (apply Q44; (iterate 4 exact rfl); assumption; assumption; (repeat' first | exact HSub.nil _ | exact HSub.hd | exact Q03 | exact HSub.refl _ | refine HSub.skip ?_ | refine Q01 ?_); omega; omega) | (apply Q4h; (iterate 4 exact rfl); assumption; assumption; (repeat' first | exact HSub.nil _ | exact HSub.hd | exact Q03 | exact HSub.refl _ | refine HSub.skip ?_ | refine Q01 ?_); omega) | (apply Q0m; (iterate 4 exact rfl); all_goals intro hc; all_goals try (exfalso; omega)) | refine JC.skip ?_ | refine Q08 rfl ?_ | refine JC.block ?_))
         refine Q09 (by first | trivial | exact ⟨rfl, rfl⟩) rfl rfl rfl (fun w _ _ => Qc4 w _ _ (tM ts2 k k) (tM ts4 (k + 1 + q) j) (n * (K + 1) + 1) (Q0t d0) (Q0t d1) (by omega)) fun w v w' _ _ _ hR => ?_
         subst hR
         skip
         refine Q09 (by first | trivial | exact ⟨rfl, rfl⟩) rfl rfl rfl (fun w _ _ => Qc4 w _ _ (tM ts4 (k + 1 + q) k) (tM ts4 k j) (n * (K + 1) + 1) (Q0t d2) (Q0t d3) (by omega)) fun w v w' _ _ _ hR => ?_
         subst hR
         skip
         refine Q09 (by first | trivial | exact ⟨rfl, rfl⟩) rfl rfl rfl (fun w _ _ => Qj7 w _ _ (tM ts2 k k * tM ts4 (k + 1 + q) j) (tM ts4 (k + 1 + q) k * tM ts4 k j) _ (Q0t (Q29 d0 d1)) (Q0t (Q29 d2 d3)) (by omega)) fun w v w' _ _ _ hR => ?_
         subst hR
         (repeat' (first | refine JC.ops ?_ | refine JO.nil ?_ | refine Q00 ?_ | (apply Q04; (iterate 3 exact rfl)) | (apply Q0d; (iterate 4 exact rfl); (first | exact at0 | exact at3); exact rfl) | (apply Q05; exact rfl; (first | exact trivial | exact ⟨rfl, rfl⟩); exact rfl; exact rfl; (first | exact at0 | exact at3); (iterate 3 exact rfl)) | (apply Q0e; (iterate 3 exact rfl); intro _) | (apply Q05; exact rfl; (first | exact trivial | exact ⟨rfl, rfl⟩); exact rfl; exact rfl; (first | exact at0 | exact at3); (iterate 3 exact rfl))))
         refine Q09 (by first | trivial | exact ⟨rfl, rfl⟩) rfl rfl rfl (fun w _ _ => Qj8 w _ _ (tM ts2 k k * tM ts4 (k + 1 + q) j - tM ts4 (k + 1 + q) k * tM ts4 k j) last (n * (K + 1) + 1 + (n * (K + 1) + 1) + 1) (Q0t (Qbg (Q29 d0 d1) (Q29 d2 d3))) (Q0t (Q8q (hsw.1.lastLt (by omega) hbr hA2) (by omega))) (by omega)) fun w v w' _ _ _ hR => ?_
         rw [if_neg hsw.1.ne] at hR
         subst hR
         (repeat' (first | (apply Q04; (iterate 3 exact rfl)) | (apply Q1w; (iterate 4 exact rfl); assumption; assumption; omega; omega) | (apply Q0v; (iterate 4 exact rfl))))
         refine Q9c (V := (tv (swT ts k (k + p)))) (A := [_, _, _, _, _]) hV4 hT4 rfl rfl (by first | trivial | exact ⟨rfl, rfl⟩) rfl rfl (by omega) hj (fun ts5 hT5 hlen5 hV5 hM5 => ?_)
         (repeat' (first | refine JC.ops ?_ | refine JO.nil ?_ | refine Q00 ?_ | (apply Q04; (iterate 3 exact rfl)) | (apply Q02; (iterate 3 exact rfl)) | (apply Q0r; (iterate 4 exact rfl); omega) | refine Q0b ?_))
         refine Q0c (j + 1, ts5) ⟨by dsimp only; omega, by dsimp only; omega, hT5, by dsimp only; omega, hV5, fun a b ha hb => ?_⟩ (by dsimp only; omega) (by repeat first | exact trivial | refine ⟨rfl, ?_⟩) (HSub.skip (HSub.refl _))
         dsimp only
         rw [hM5, hM4 a b ha hb, e1, e2, e3]
         exact Q7q _ _ _ _ _ (by omega) (by omega) _ _
        ·(repeat' (first | refine JC.seq ?_ | refine JC.ops ?_ | refine JO.nil ?_ | refine Q00 ?_ | (apply Q04; (iterate 3 exact rfl)) | (apply Q4g; (iterate 3 exact rfl); assumption; assumption; omega) | (apply Q0r; (iterate 4 exact rfl); omega) | (apply Q0m; (iterate 4 exact rfl); all_goals intro hc; all_goals try (exfalso; omega)) | refine Q0i ?_ | refine JC.exit ?_ | refine Q07 rfl ?_ | refine Q0b ?_ | refine Q0f ?_))
         obtain rfl : j = n := by omega
         refine Q0c (q + 1, ts4) ⟨by dsimp only; omega, hT4, hlen4, hV4, fun a b ha hb => ?_⟩ (by dsimp only; omega) (by repeat first | exact trivial | refine ⟨rfl, ?_⟩) (HSub.refl _)
         dsimp only
         rw [hM4 a b ha hb, Qas _ _ _ _ _ _ _ hb]
         rfl
       ·(repeat' (first | refine JC.seq ?_ | refine JC.ops ?_ | refine JO.nil ?_ | refine Q00 ?_ | (apply Q04; (iterate 3 exact rfl)) | (apply Q0d; (iterate 4 exact rfl); (first | exact at0 | exact at2); exact rfl) | (apply Q0r; (iterate 4 exact rfl); omega) | (apply Q05; exact rfl; (first | exact trivial | exact ⟨rfl, rfl⟩); exact rfl; exact rfl; (first | exact at0 | exact at2); (iterate 3 exact rfl)) | (apply Q0m; (iterate 4 exact rfl); all_goals intro hc; all_goals try (exfalso; omega)) | (apply Q05; exact rfl; (first | exact trivial | exact ⟨rfl, rfl⟩); exact rfl; exact rfl; (first | exact at0 | exact at2); (iterate 3 exact rfl)) | refine Q0i ?_ | refine JC.exit ?_ | refine Q07 rfl ?_ | refine Q0b ?_ | refine Q0f ?_))
        have hst := hsw.1.step (M' := tM ts3) hlt hpz2 (fun i j hi hin hj hjn => by
         rw [hM3 i j hin hjn]
         unfold elS
         rw [if_pos ⟨hj, hi, .inl (by omega)⟩])
        refine Q0c (k + 1, tM ts2 k k, N5, ts3) ⟨by dsimp only; omega, hT3, hlen3, ⟨⟨_, hst, hdet2, hA2⟩, fun i j hi hj => ?_⟩⟩ (by dsimp only; omega) (by repeat first | exact trivial | refine ⟨rfl, ?_⟩) (by exact HSub.at 2 rfl (HSub.at 2 rfl (HSub.skip (HSub.skip (HSub.refl _)))))
        by_cases hc : k < j ∧ k < i
        ·exact hst.lt hbr hA2 (by omega) hi (by omega) hj
        ·dsimp only
         rw [hM3 i j hi hj]
         unfold elS
         rw [if_neg (by omega)]
         exact hbd2 i j hi hj
     ·(repeat' (first | (apply Q04; (iterate 3 exact rfl)) | (apply Q0g; (iterate 4 exact rfl); exact at0; exact rfl) | (apply Q1u; (iterate 4 exact rfl); assumption; omega) | (apply Q1a; (iterate 4 exact rfl); omega)))
      refine Qbk (u := tv ts k) (by first | trivial | exact ⟨rfl, rfl⟩) rfl rfl rfl hT.rd (by exact HSub.skip (HSub.skip (HSub.skip Q03))) (Q4y (by omega)) ?_
      skip
      refine Qbk (u := tv ts (k + p)) (by first | trivial | exact ⟨rfl, rfl⟩) rfl rfl rfl hT.rd (by exact HSub.skip (HSub.skip (HSub.skip Q03))) (Q4y (by omega)) ?_
      (repeat' (first | (apply Q1u; (iterate 4 exact rfl); assumption; omega)))
      refine Qdf (A := [_, _, _]) (N := N) (B := tH ts ++ []) hT.outer rfl HSub.hd rfl rfl rfl (Q4q hT (by omega)).1 (Q4q hT (by omega)).2 (by omega) (fun N4 hO4 => ?_)
      (repeat' (first | (apply Q1u; (iterate 4 exact rfl); assumption; omega)))
      refine Qdf (A := [_, _, _]) (N := N4) (B := tH ts ++ []) hO4 rfl HSub.hd rfl rfl rfl (Q4q hT (by omega)).1 (Q4q hT (by omega)).2 (by omega) (fun N5 hO5 => ?_)
      have hT1 : OwnT N5 tvv n (swT ts k (k + p)) := ⟨by rw [Q5m, Qff (by omega) (by omega)]; exact hO5, fun t ht => hT.rows t ((Q4d (by omega) (by omega)).mem_iff.1 ht)⟩
      have hlen1 : (swT ts k (k + p)).length = n := by rw [Q5m]; exact hlen
      have hV1 : ∀ a, tv (swT ts k (k + p)) a = tv (swT ts k (k + p)) a := fun _ => rfl
      have hsM : ∀ i j, tM (swT ts k (k + p)) i j = if i = k + p then tM ts k j else if i = k then tM ts (k + p) j else tM ts i j := Qkq (by omega) (by omega)
      have hbd1 : ∀ i j, i < n → j < n → (tM (swT ts k (k + p)) i j).natAbs < 256 ^ (n * (K + 1) + 1) := fun i j hi hj => by
       rw [hsM]
       split
       ·exact hD.bd _ _ hlt hj
       ·split
        ·exact hD.bd _ _ hkp hj
        ·exact hD.bd _ _ hi hj
      (repeat' (first | refine JO.nil ?_))
      refine JX.part (F' := [(7, nv p), (6, .pointer (some ⟨b6, 0, none⟩)), (30, nv k), (29, nv n), (4, tvv), (5, .pointer (some ⟨b5, 0, none⟩)), (2, .pointer (some ⟨b2, 0, none⟩)), (3, .bool false)]) (H' := [(b6, .cells #[nv k] 3 (0, 0)), (b5, .cells (wc last) 34), (b2, .cells #[.bool false, .string ⟨#[]⟩] 34)] ++ (N5 ++ (tH (swT ts k (k + p)) ++ []))) (by repeat first | exact trivial | refine ⟨rfl, ?_⟩) ⟨[], ?_⟩ ?_
      ·simp only [List.append_nil]
       exact List.Perm.append_left _ (List.Perm.append_left _ (Qa1 (Q4d (by omega) (by omega)).symm))
      refine Q00 ?_
      (repeat' (first | refine JC.seq ?_ | refine JC.ops ?_ | refine JO.nil ?_ | refine Q00 ?_ | (apply Q04; (iterate 3 exact rfl)) | (apply Q0g; (iterate 4 exact rfl); exact at0; exact rfl) | (apply Q4g; (iterate 3 exact rfl); assumption; assumption; omega) | (apply Q1u; (iterate 4 exact rfl); assumption; omega) | (apply Q4h; (iterate 4 exact rfl); assumption; assumption; (repeat' first | exact HSub.nil _ | exact HSub.hd | exact Q03 | exact HSub.refl _ | refine HSub.skip ?_ | refine Q01 ?_); omega) | refine JC.block ?_))
      refine Q0k (ι := Nat × List TR) ⟨fun z => [(66, nv z.1), (65, nv n), (7, nv p), (6, .pointer (some ⟨b6, 0, none⟩)), (30, nv k), (29, nv n), (4, tvv), (5, .pointer (some ⟨b5, 0, none⟩)), (2, .pointer (some ⟨b2, 0, none⟩)), (3, .bool false)],
       fun z => [(b6, .cells #[nv k] 3 (0, 0)), (b5, .cells (wc last) 34), (b2, .cells #[.bool false, .string ⟨#[]⟩] 34)] ++ (N5 ++ (tH z.2 ++ [])),
       fun z => z.1 ≤ n ∧ OwnT N5 tvv n z.2 ∧ z.2.length = n ∧ (∀ a, tv z.2 a = (tv (swT ts k (k + p))) a) ∧ ∀ i j, i < n → j < n → tM z.2 i j = if i = k ∧ j < z.1 then -(tM (swT ts k (k + p)) i j) else tM (swT ts k (k + p)) i j, fun z => n - z.1⟩ (0, (swT ts k (k + p))) ⟨by omega, hT1, hlen1, hV1, fun i j _ _ => by simp⟩ (by repeat first | exact trivial | refine ⟨rfl, ?_⟩) (HSub.refl _) (fun z hz => ?_)
      obtain ⟨jj, ts2⟩ := z
      obtain ⟨hjj, hT2, hlen2, hV2, hM2⟩ := hz
      dsimp only at hjj hT2 hlen2 hV2 hM2 ⊢
      by_cases hj2 : jj < n
      ·have e4 : tM ts2 k jj = tM (swT ts k (k + p)) k jj := by rw [hM2 _ _ hlt hj2, if_neg (by omega)]
       (repeat' (first | refine JC.seq ?_ | refine JC.ops ?_ | refine JC.opsD ?_ | refine JO.nil ?_ | refine Q00 ?_ | (apply Q04; (iterate 3 exact rfl)) | (apply Q02; (iterate 3 exact rfl)) | (apply Q0g; (iterate 4 exact rfl); exact at0; exact rfl) | (apply Q1w; (iterate 4 exact rfl); assumption; assumption; omega; omega) | (apply Q1u; (iterate 4 exact rfl); assumption; omega) | (apply Q44; (iterate 4 exact rfl); assumption; assumption; (repeat' first | exact HSub.nil _ | exact HSub.hd | exact Q03 | exact HSub.refl _ | refine HSub.skip ?_ | refine Q01 ?_); omega; omega) | (apply Q4h; (iterate 4 exact rfl); assumption; assumption; (repeat' first | exact HSub.nil _ | exact HSub.hd | exact Q03 | exact HSub.refl _ | refine HSub.skip ?_ | refine Q01 ?_); omega) | (apply Q0m; (iterate 4 exact rfl); all_goals intro hc; all_goals try (exfalso; omega)) | refine JC.skip ?_ | refine Q08 rfl ?_ | refine JC.block ?_))
       refine Q09 (by first | trivial | exact ⟨rfl, rfl⟩) rfl rfl rfl (fun w _ _ => Qj9 w _ (tM ts2 k jj) _ (Q0t (by rw [e4]; exact hbd1 k jj hlt hj2)) (by omega)) fun w v w' _ _ _ hR => ?_
       subst hR
       (repeat' (first | (apply Q1w; (iterate 4 exact rfl); assumption; assumption; omega; omega)))
       refine Q9c (V := (tv (swT ts k (k + p)))) (A := [_, _, _]) hV2 hT2 rfl rfl (by first | trivial | exact ⟨rfl, rfl⟩) rfl rfl (by omega) hj2 (fun ts5 hT5 hlen5 hV5 hM5 => ?_)
       (repeat' (first | refine JC.ops ?_ | refine JO.nil ?_ | refine Q00 ?_ | (apply Q04; (iterate 3 exact rfl)) | (apply Q0r; (iterate 4 exact rfl); omega) | refine Q0b ?_))
       refine Q0c (jj + 1, ts5) ⟨by dsimp only; omega, hT5, by dsimp only; omega, hV5, fun a b ha hb => ?_⟩ (by dsimp only; omega) (by repeat first | exact trivial | refine ⟨rfl, ?_⟩) (HSub.refl _)
       dsimp only
       rw [hM5, hM2 a b ha hb, e4]
       by_cases h1 : a = k ∧ b = jj
       ·obtain ⟨rfl, rfl⟩ := h1
        rw [if_pos ⟨rfl, rfl⟩, if_pos ⟨rfl, by omega⟩]
       ·rw [if_neg h1]
        by_cases h2 : a = k ∧ b < jj
        ·rw [if_pos h2, if_pos ⟨h2.1, by omega⟩]
        ·rw [if_neg h2, if_neg (by omega)]
      ·obtain rfl : n = jj := by omega
       have hsw := hbar.swap (M' := tM ts2) (-1) (q := k + p) (by omega) hkp (fun j hj => by rw [hM2 _ _ hlt hj, if_pos ⟨rfl, hj⟩, hsM, if_neg (by omega), if_pos rfl]; omega) (fun j hj => by rw [hM2 _ _ hkp hj, if_neg (by omega), hsM, if_pos rfl]) (fun i j hi hj h1 h2 => by rw [hM2 _ _ hi hj, if_neg (by omega), hsM, if_neg h2, if_neg h1])
       have hpz2 : tM ts2 k k ≠ 0 := by
        rw [hM2 _ _ hlt hlt, if_pos ⟨rfl, hlt⟩, hsM, if_neg (by omega), if_pos rfl]
        omega
       have hdet2 : det n (setRow (swp A k (k + p)) k (fun j => -1 * A (k + p) j)) = det n (ZM.mk n n e).at := by rw [hsw.2, ← hdet]; omega
       have hbd2 : ∀ i j, i < n → j < n → (tM ts2 i j).natAbs < 256 ^ (n * (K + 1) + 1) := fun i j hi hj => by
        rw [hM2 _ _ hi hj]
        split
        ·rw [Int.natAbs_neg]; exact hbd1 i j hi hj
        ·exact hbd1 i j hi hj
       have hA2 := Qjz k (k + p) hA
       (repeat' (first | refine JC.seq ?_ | refine JC.ops ?_ | refine JC.opsD ?_ | refine JO.nil ?_ | refine Q00 ?_ | (apply Q04; (iterate 3 exact rfl)) | (apply Q0g; (iterate 4 exact rfl); (first | exact at0 | exact at1); exact rfl) | (apply Q1w; (iterate 4 exact rfl); assumption; assumption; omega; omega) | (apply Q1u; (iterate 4 exact rfl); assumption; omega) | (apply Q44; (iterate 4 exact rfl); assumption; assumption; (repeat' first | exact HSub.nil _ | exact HSub.hd | exact Q03 | exact HSub.refl _ | refine HSub.skip ?_ | refine Q01 ?_); omega; omega) | (apply Q4h; (iterate 4 exact rfl); assumption; assumption; (repeat' first | exact HSub.nil _ | exact HSub.hd | exact Q03 | exact HSub.refl _ | refine HSub.skip ?_ | refine Q01 ?_); omega) | (apply Q0r; (iterate 4 exact rfl); omega) | (apply Q05; exact rfl; (first | exact trivial | exact ⟨rfl, rfl⟩); exact rfl; exact rfl; (first | exact at0 | exact at1); (iterate 3 exact rfl)) | (apply Q0m; (iterate 4 exact rfl); all_goals intro hc; all_goals try (exfalso; omega)) | (apply Q0e; (iterate 3 exact rfl); intro _) | (apply Q05; exact rfl; (first | exact trivial | exact ⟨rfl, rfl⟩); exact rfl; exact rfl; (first | exact at0 | exact at1); (iterate 3 exact rfl)) | refine Q0i ?_ | refine JC.exit ?_ | refine Q07 rfl ?_ | refine Q0f ?_))
       rename_i b9
       refine Q67 (l := k + 1) (h' := n) rfl rfl rfl hT2.rd rfl rfl (.inl rfl) rfl rfl (.inr ⟨rfl, hlen2.symm⟩) (by omega) (by omega) (fun v94 hv94 _ => ?_)
       rw [Nat.mul_one, Nat.mul_one] at hv94
       skip
       refine Q4t rfl rfl rfl hv94 ?_
       (repeat' (first | refine JO.nil ?_ | refine Q00 ?_ | (apply Q04; (iterate 3 exact rfl)) | refine JC.block ?_))
       refine Q0k (ι := Nat × List TR) ⟨fun z => [(96, nv z.1), (95, nv (n - (k + 1))), (94, v94), (9, .pointer (some ⟨b9, 0, none⟩)), (6, .pointer (some ⟨b6, 0, none⟩)), (30, nv k), (29, nv n), (4, tvv), (5, .pointer (some ⟨b5, 0, none⟩)), (2, .pointer (some ⟨b2, 0, none⟩)), (3, .bool false)],
        fun z => [(b9, .cells (wc (tM ts2 k k)) 34), (b6, .cells #[nv k] 3), (b5, .cells (wc last) 34), (b2, .cells #[.bool false, .string ⟨#[]⟩] 34)] ++ (N5 ++ (tH z.2 ++ [])),
        fun z => z.1 ≤ n - (k + 1) ∧ OwnT N5 tvv n z.2 ∧ z.2.length = n ∧ (∀ a, tv z.2 a = (tv (swT ts k (k + p))) a) ∧ ∀ i j, i < n → j < n → tM z.2 i j = elS (tM ts2) k last (k + 1 + z.1) 0 i j, fun z => n - (k + 1) - z.1⟩ (0, ts2) ⟨by omega, hT2, hlen2, hV2, fun i j _ _ => (Q6e _ _ _ _ (by omega) _ _).symm⟩ (by repeat first | exact trivial | refine ⟨rfl, ?_⟩) (HSub.refl _) (fun z hz => ?_)
       obtain ⟨q, ts3⟩ := z
       obtain ⟨hq, hT3, hlen3, hV3, hM3⟩ := hz
       dsimp only at hq hT3 hlen3 hV3 hM3 ⊢
       by_cases hq2 : q < n - (k + 1)
       ·(repeat' (first | refine JC.seq ?_ | refine JC.ops ?_ | refine JO.nil ?_ | refine Q00 ?_ | (apply Q0m; (iterate 4 exact rfl); all_goals intro hc; all_goals try (exfalso; omega)) | refine JC.skip ?_ | refine Q08 rfl ?_ | refine JC.block ?_))
        refine Q3w rfl rfl rfl rfl hv94 hq2 ?_
        skip
        refine Q7g (u := (tv (swT ts k (k + p))) (k + 1 + q)) rfl rfl rfl rfl hv94 (by (repeat' first | exact HSub.nil _ | exact HSub.hd | exact Q03 | exact HSub.refl _ | refine HSub.skip ?_ | refine Q01 ?_)) (by rw [List.getElem?_take_of_lt hq2, List.getElem?_drop, ← hV2]; exact Q4y (by omega)) ?_
        (repeat' (first | refine JC.seq ?_ | refine JC.ops ?_ | refine JO.nil ?_ | refine Q00 ?_ | (apply Q02; (iterate 3 exact rfl)) | (apply Q0g; (iterate 4 exact rfl); exact at1; exact rfl) | (apply Q0r; (iterate 4 exact rfl); omega) | refine JC.block ?_))
        refine Q0k (ι := Nat × List TR) ⟨fun z => [(12, nv z.1), (11, (tv (swT ts k (k + p))) (k + 1 + q)), (96, nv q), (95, nv (n - (k + 1))), (94, v94), (9, .pointer (some ⟨b9, 0, none⟩)), (6, .pointer (some ⟨b6, 0, none⟩)), (30, nv k), (29, nv n), (4, tvv), (5, .pointer (some ⟨b5, 0, none⟩)), (2, .pointer (some ⟨b2, 0, none⟩)), (3, .bool false)],
         fun z => [(b9, .cells (wc (tM ts2 k k)) 34), (b6, .cells #[nv k] 3), (b5, .cells (wc last) 34), (b2, .cells #[.bool false, .string ⟨#[]⟩] 34)] ++ (N5 ++ (tH z.2 ++ [])),
         fun z => k + 1 ≤ z.1 ∧ z.1 ≤ n ∧ OwnT N5 tvv n z.2 ∧ z.2.length = n ∧ (∀ a, tv z.2 a = (tv (swT ts k (k + p))) a) ∧ ∀ i j, i < n → j < n → tM z.2 i j = elS (tM ts2) k last (k + 1 + q) z.1 i j, fun z => n - z.1⟩ (k + 1, ts3) ⟨by omega, by omega, hT3, hlen3, hV3, fun i j hi hj => by rw [hM3 i j hi hj, Q7p]⟩ (by repeat first | exact trivial | refine ⟨rfl, ?_⟩) (HSub.refl _) (fun z hz => ?_)
        obtain ⟨j, ts4⟩ := z
        obtain ⟨hkj, hjn, hT4, hlen4, hV4, hM4⟩ := hz
        dsimp only at hkj hjn hT4 hlen4 hV4 hM4 ⊢
        by_cases hj : j < n
        ·have e1 : tM ts4 (k + 1 + q) j = tM ts2 (k + 1 + q) j := by rw [hM4 _ _ (by omega) hj]; unfold elS; rw [if_neg (by omega)]
         have e2 : tM ts4 (k + 1 + q) k = tM ts2 (k + 1 + q) k := by rw [hM4 _ _ (by omega) hlt]; unfold elS; rw [if_neg (by omega)]
         have e3 : tM ts4 k j = tM ts2 k j := by rw [hM4 _ _ hlt hj]; unfold elS; rw [if_neg (by omega)]
         have d0 := hbd2 k k hlt hlt
         have d1 := hbd2 (k + 1 + q) j (by omega) hj
         have d2 := hbd2 (k + 1 + q) k (by omega) hlt
         have d3 := hbd2 k j hlt hj
         rw [← e1] at d1
         rw [← e2] at d2
         rw [← e3] at d3
         (repeat' (first | refine JC.seq ?_ | refine JC.ops ?_ | refine JC.opsD ?_ | refine JO.nil ?_ | refine Q00 ?_ | (apply Q04; (iterate 3 exact rfl)) | (apply Q0g; (iterate 4 exact rfl); (first | exact at0 | exact at1); exact rfl) | (apply Q0d; (iterate 4 exact rfl); (first | exact at0 | exact at1); exact rfl) | (apply Q4g; (iterate 3 exact rfl); assumption; assumption; omega) | (apply Q1w; (iterate 4 exact rfl); assumption; assumption; omega; omega) | (apply Q1u; (iterate 4 exact rfl); assumption; omega) | (apply Q44; (iterate 4 exact rfl); assumption; assumption; (repeat' first | exact HSub.nil _ | exact HSub.hd | exact Q03 | exact HSub.refl _ | refine HSub.skip ?_ | refine Q01 ?_); omega; omega) | (apply Q4h; (iterate 4 exact rfl); assumption; assumption; (repeat' first | exact HSub.nil _ | exact HSub.hd | exact Q03 | exact HSub.refl _ | refine HSub.skip ?_ | refine Q01 ?_); omega) | (apply Q0m; (iterate 4 exact rfl); all_goals intro hc; all_goals try (exfalso; omega)) | refine JC.skip ?_ | refine Q08 rfl ?_ | refine JC.block ?_))
         refine Q09 (by first | trivial | exact ⟨rfl, rfl⟩) rfl rfl rfl (fun w _ _ => Qc4 w _ _ (tM ts2 k k) (tM ts4 (k + 1 + q) j) (n * (K + 1) + 1) (Q0t d0) (Q0t d1) (by omega)) fun w v w' _ _ _ hR => ?_
         subst hR
         skip
         refine Q09 (by first | trivial | exact ⟨rfl, rfl⟩) rfl rfl rfl (fun w _ _ => Qc4 w _ _ (tM ts4 (k + 1 + q) k) (tM ts4 k j) (n * (K + 1) + 1) (Q0t d2) (Q0t d3) (by omega)) fun w v w' _ _ _ hR => ?_
         subst hR
         skip
         refine Q09 (by first | trivial | exact ⟨rfl, rfl⟩) rfl rfl rfl (fun w _ _ => Qj7 w _ _ (tM ts2 k k * tM ts4 (k + 1 + q) j) (tM ts4 (k + 1 + q) k * tM ts4 k j) _ (Q0t (Q29 d0 d1)) (Q0t (Q29 d2 d3)) (by omega)) fun w v w' _ _ _ hR => ?_
         subst hR
         (repeat' (first | refine JC.ops ?_ | refine JO.nil ?_ | refine Q00 ?_ | (apply Q04; (iterate 3 exact rfl)) | (apply Q0d; (iterate 4 exact rfl); (first | exact at0 | exact at3); exact rfl) | (apply Q05; exact rfl; (first | exact trivial | exact ⟨rfl, rfl⟩); exact rfl; exact rfl; (first | exact at0 | exact at3); (iterate 3 exact rfl)) | (apply Q0e; (iterate 3 exact rfl); intro _) | (apply Q05; exact rfl; (first | exact trivial | exact ⟨rfl, rfl⟩); exact rfl; exact rfl; (first | exact at0 | exact at3); (iterate 3 exact rfl))))
         refine Q09 (by first | trivial | exact ⟨rfl, rfl⟩) rfl rfl rfl (fun w _ _ => Qj8 w _ _ (tM ts2 k k * tM ts4 (k + 1 + q) j - tM ts4 (k + 1 + q) k * tM ts4 k j) last (n * (K + 1) + 1 + (n * (K + 1) + 1) + 1) (Q0t (Qbg (Q29 d0 d1) (Q29 d2 d3))) (Q0t (Q8q (hsw.1.lastLt (by omega) hbr hA2) (by omega))) (by omega)) fun w v w' _ _ _ hR => ?_
         rw [if_neg hsw.1.ne] at hR
         subst hR
         (repeat' (first | (apply Q04; (iterate 3 exact rfl)) | (apply Q1w; (iterate 4 exact rfl); assumption; assumption; omega; omega) | (apply Q0v; (iterate 4 exact rfl))))
         refine Q9c (V := (tv (swT ts k (k + p)))) (A := [_, _, _, _, _]) hV4 hT4 rfl rfl (by first | trivial | exact ⟨rfl, rfl⟩) rfl rfl (by omega) hj (fun ts5 hT5 hlen5 hV5 hM5 => ?_)
         (repeat' (first | refine JC.ops ?_ | refine JO.nil ?_ | refine Q00 ?_ | (apply Q04; (iterate 3 exact rfl)) | (apply Q02; (iterate 3 exact rfl)) | (apply Q0r; (iterate 4 exact rfl); omega) | refine Q0b ?_))
         refine Q0c (j + 1, ts5) ⟨by dsimp only; omega, by dsimp only; omega, hT5, by dsimp only; omega, hV5, fun a b ha hb => ?_⟩ (by dsimp only; omega) (by repeat first | exact trivial | refine ⟨rfl, ?_⟩) (HSub.skip (HSub.refl _))
         dsimp only
         rw [hM5, hM4 a b ha hb, e1, e2, e3]
         exact Q7q _ _ _ _ _ (by omega) (by omega) _ _
        ·(repeat' (first | refine JC.seq ?_ | refine JC.ops ?_ | refine JO.nil ?_ | refine Q00 ?_ | (apply Q04; (iterate 3 exact rfl)) | (apply Q4g; (iterate 3 exact rfl); assumption; assumption; omega) | (apply Q0r; (iterate 4 exact rfl); omega) | (apply Q0m; (iterate 4 exact rfl); all_goals intro hc; all_goals try (exfalso; omega)) | refine Q0i ?_ | refine JC.exit ?_ | refine Q07 rfl ?_ | refine Q0b ?_ | refine Q0f ?_))
         obtain rfl : j = n := by omega
         refine Q0c (q + 1, ts4) ⟨by dsimp only; omega, hT4, hlen4, hV4, fun a b ha hb => ?_⟩ (by dsimp only; omega) (by repeat first | exact trivial | refine ⟨rfl, ?_⟩) (HSub.refl _)
         dsimp only
         rw [hM4 a b ha hb, Qas _ _ _ _ _ _ _ hb]
         rfl
       ·(repeat' (first | refine JC.seq ?_ | refine JC.ops ?_ | refine JO.nil ?_ | refine Q00 ?_ | (apply Q04; (iterate 3 exact rfl)) | (apply Q0d; (iterate 4 exact rfl); (first | exact at0 | exact at2); exact rfl) | (apply Q0r; (iterate 4 exact rfl); omega) | (apply Q05; exact rfl; (first | exact trivial | exact ⟨rfl, rfl⟩); exact rfl; exact rfl; (first | exact at0 | exact at2); (iterate 3 exact rfl)) | (apply Q0m; (iterate 4 exact rfl); all_goals intro hc; all_goals try (exfalso; omega)) | (apply Q05; exact rfl; (first | exact trivial | exact ⟨rfl, rfl⟩); exact rfl; exact rfl; (first | exact at0 | exact at2); (iterate 3 exact rfl)) | refine Q0i ?_ | refine JC.exit ?_ | refine Q07 rfl ?_ | refine Q0b ?_ | refine Q0f ?_))
        have hst := hsw.1.step (M' := tM ts3) hlt hpz2 (fun i j hi hin hj hjn => by
         rw [hM3 i j hin hjn]
         unfold elS
         rw [if_pos ⟨hj, hi, .inl (by omega)⟩])
        refine Q0c (k + 1, tM ts2 k k, N5, ts3) ⟨by dsimp only; omega, hT3, hlen3, ⟨⟨_, hst, hdet2, hA2⟩, fun i j hi hj => ?_⟩⟩ (by dsimp only; omega) (by repeat first | exact trivial | refine ⟨rfl, ?_⟩) (by exact HSub.at 2 rfl (HSub.at 2 rfl (HSub.skip (HSub.skip (HSub.refl _)))))
        by_cases hc : k < j ∧ k < i
        ·exact hst.lt hbr hA2 (by omega) hi (by omega) hj
        ·dsimp only
         rw [hM3 i j hi hj]
         unfold elS
         rw [if_neg (by omega)]
         exact hbd2 i j hi hj
   ·have hz : det n (ZM.mk n n e).at = 0 := by
     rw [← hdet]
     exact hbar.none hlt (fun i hi hin => by
      have := hno (i - k) (by omega)
      rw [show k + (i - k) = i by omega] at this
      simpa using this)
    (repeat' (first | refine JC.seq ?_ | refine JC.ops ?_ | refine JO.nil ?_ | refine Q00 ?_ | (apply Q04; (iterate 3 exact rfl)) | (apply Q02; (iterate 3 exact rfl)) | (apply Q05; exact rfl; (first | exact trivial | exact ⟨rfl, rfl⟩); exact rfl; exact rfl; exact at2; (iterate 3 exact rfl)) | (apply Q0m; (iterate 4 exact rfl); all_goals intro hc; all_goals try (exfalso; omega)) | (apply Q11; (iterate 5 exact rfl)) | (apply Q05; exact rfl; (first | exact trivial | exact ⟨rfl, rfl⟩); exact rfl; exact rfl; exact at2; (iterate 3 exact rfl)) | refine Q0o ?_ | refine JC.ret ?_ | refine Q08 rfl ?_ | refine Q1b ?_))
    exact Q16 2 rfl rfl rfl rfl (fun a w' st => ⟨st.kp, by rw [hz, Wz0]; rfl⟩)
  ·(repeat' (first | refine JC.seq ?_ | refine JC.ops ?_ | refine JO.nil ?_ | refine Q00 ?_ | (apply Q02; (iterate 3 exact rfl)) | (apply Q0d; (iterate 4 exact rfl); (first | exact at0 | exact at1); exact rfl) | (apply Q05; exact rfl; (first | exact trivial | exact ⟨rfl, rfl⟩); exact rfl; exact rfl; (first | exact at0 | exact at1); (iterate 3 exact rfl)) | (apply Q0m; (iterate 4 exact rfl); all_goals intro hc; all_goals try (exfalso; omega)) | (apply Q05; exact rfl; (first | exact trivial | exact ⟨rfl, rfl⟩); exact rfl; exact rfl; (first | exact at0 | exact at1); (iterate 3 exact rfl)) | refine Q0i ?_ | refine JC.exit ?_ | refine JC.ret ?_ | refine Q07 rfl ?_ | refine Q0f ?_))
   obtain rfl : k = n := by omega
   exact Q16 1 rfl rfl rfl rfl (fun a w' st => ⟨st.kp, by rw [← hdet, ← hbar.done]; rfl⟩)

end Go.Proofs.YtdlmnloikakjpaaGreatDoor

namespace Go.Proofs.YtdlmnloikakjpaaGreatDoor
open Go
set_option linter.unusedSimpArgs false
set_option linter.unusedVariables false
set_option linter.unusedSectionVars false

def FP (x y : Int) : Nat := (if x < 0 then 1 + x.natAbs + 2 * y.natAbs else 1 + x.natAbs) * ((1 + y.natAbs) * (if y < 0 then 3 else 1))

theorem Qkg (x y : Int) : 1 ≤ FP x y := by
 unfold FP
 refine Nat.mul_pos ?_ (Nat.mul_pos (by omega) ?_)
 ·split <;> omega
 ·split <;> omega

theorem Qou {x y : Int} {X : Nat} (hx : x.natAbs ≤ X) (hy : y.natAbs ≤ X) : FP x y ≤ 9 * (1 + X) ^ 2 := by
 unfold FP
 have h1 : (if x < 0 then 1 + x.natAbs + 2 * y.natAbs else 1 + x.natAbs) ≤ 3 * (1 + X) := by split <;> omega
 have h2 : (1 + y.natAbs) * (if y < 0 then 3 else 1) ≤ (1 + X) * 3 := Nat.mul_le_mul (by omega) (by split <;> omega)
 refine Nat.le_trans (Nat.mul_le_mul h1 h2) ?_
 rw [Nat.pow_two]
 have : 3 * (1 + X) * ((1 + X) * 3) = 9 * ((1 + X) * (1 + X)) := by
  rw [Nat.mul_comm (1 + X) 3, Nat.mul_mul_mul_comm]
 omega

theorem Qg8 {x y : Int} (hy : y ≠ 0) : (0 ≤ x → (x / y).natAbs * y.natAbs + (x % y).natAbs = x.natAbs) ∧ (x < 0 → (x / y).natAbs * y.natAbs = x.natAbs + (x % y).natAbs) ∧ (x % y).natAbs < y.natAbs ∧ 0 ≤ x % y := by
 have h0 := Int.emod_nonneg x hy
 have h1 := Int.emod_lt x hy
 have h2 := Int.mul_ediv_add_emod x y
 have h3 : (x / y).natAbs * y.natAbs = (x - x % y).natAbs := by
  rw [← Int.natAbs_mul, Int.mul_comm]
  congr 1
  omega
 have hlt : (x % y).natAbs < y.natAbs := by omega
 refine ⟨fun hx => ?_, fun hx => ?_, hlt, h0⟩
 ·rw [h3]
  by_cases hr : x % y ≤ x
  ·omega
  ·exfalso
   have h4 : (x - x % y).natAbs < y.natAbs := by omega
   rw [← h3] at h4
   rcases Nat.eq_zero_or_pos (x / y).natAbs with hq | hq
   ·rw [hq, Nat.zero_mul] at h3; omega
   ·have := Nat.le_mul_of_pos_left y.natAbs hq
    omega
 ·rw [h3]; omega

theorem Qmo {x y : Int} (hy : y ≠ 0) : (1 + (x / y).natAbs) * FP y (x % y) ≤ FP x y := by
 obtain ⟨h1, h2, h3, h4⟩ := Qg8 (x := x) hy
 unfold FP
 generalize (x / y).natAbs = Q at *
 have hr0 : ¬ (x % y < 0) := by omega
 rw [if_neg hr0, Nat.mul_one]
 have hk : (1 + Q) * (1 + (x % y).natAbs) ≤ 1 + (x % y).natAbs + Q * y.natAbs := by
  have : Q * (1 + (x % y).natAbs) ≤ Q * y.natAbs := Nat.mul_le_mul_left _ (by omega)
  rw [Nat.add_mul, Nat.one_mul]
  omega
 have ha : (1 + Q) * (1 + (x % y).natAbs) ≤ (if x < 0 then 1 + x.natAbs + 2 * y.natAbs else 1 + x.natAbs) := by
  split
  ·rename_i hx
   have := h2 hx
   omega
  ·rename_i hx
   have := h1 (by omega)
   omega
 have hb : (if y < 0 then 1 + y.natAbs + 2 * (x % y).natAbs else 1 + y.natAbs) ≤ (1 + y.natAbs) * (if y < 0 then 3 else 1) := by
  split <;> omega
 have := Nat.mul_le_mul ha hb
 refine Nat.le_trans (Nat.le_of_eq ?_) this
 rw [Nat.mul_comm (if y < 0 then 1 + y.natAbs + 2 * (x % y).natAbs else 1 + y.natAbs) (1 + (x % y).natAbs), Nat.mul_assoc]

end Go.Proofs.YtdlmnloikakjpaaGreatDoor

namespace Go.Proofs.YtdlmnloikakjpaaGreatDoor
open Go Go.RowKit
set_option linter.unusedSimpArgs false
set_option linter.unusedVariables false
set_option linter.unusedSectionVars false

section
variable {c : Cx} {Q : Exit → Act → World → Prop} {m : Mode} {F : SFrame} {H : SHeap} {r : List SOp} {g : Option (Option Tmp × Bool)} {ns : Bool} {ty : TypeId} {N : SHeap} {v : Value} {cc : Nat} {ts : List TR}
theorem Qdp {A B : SHeap} {f : FuncId} {args : Array Operand} {ats : Array TypeId} {vs : List Value} {dd : Option Tmp} {i : Nat} {l' : List Int} [TF c.P f] (hT : OwnT N v cc ts) (hi : i < ts.length) (hl : l'.length = cc) (hH : H = A ++ (N ++ (tH ts ++ B))) (hm : m.mayStore ns r) (hd : dstOk c.n dd = true) (hg : guardF F g = some true) (ha : evArgs F args.toList = some vs)
  (hc : ∀ w, Kp c.M c.w0 w → Hsat H w → Calls c.P f vs.toArray w (Ret fun _ w' => Kp (keys (ts.getD i dT).1) w w' ∧ ∃ N', keys N' = keys (ts.getD i dT).1 ∧ InW N' w' ∧ OwnZ N' (tv ts i) cc l'))
  (h : ∀ u ts', OwnT N v cc ts' → ts'.length = ts.length → (∀ a, tv ts' a = tv ts a) → (∀ a b, tM ts' a b = if a = i then l'.getD b 0 else tM ts a b) → keys (tH ts') = keys (tH ts) → JO c Q m.spent r (putF F dd u) (A ++ (N ++ (tH ts' ++ B)))) :
  JO c Q m (⟨dd, .call ⟨.value (.func f), args, ats⟩, ty, g, .seq, ns⟩ :: r) F H := by
 refine Q6v (A := A ++ (N ++ tH (ts.take i))) (N := (ts.getD i dT).1) (B := tH (ts.drop (i + 1)) ++ B) (by rw [hH, Qbd hi]; simp only [List.append_assoc]) hm hd hg ha hc (fun w u w' _ _ _ hR => ?_)
 obtain ⟨N', hk, hin, hO'⟩ := hR
 refine ⟨N', hk, hin, ?_⟩
 have h1 := h u (ts.set i (N', tv ts i, l')) ⟨by rw [List.length_set, Qf6 hi]; exact hT.outer, fun q hq => by
  rcases List.mem_or_eq_of_mem_set hq with hq | rfl
  ·exact hT.rows q hq
  ·exact hO'⟩ (by simp) (fun a => Qjl hi a) (fun a b => by
   unfold tM tr'
   rw [Q4e (d := dT) hi]
   split
   ·rfl
   ·rfl) (by
   rw [Qfc hi, Qbd hi]
   simp only [keys, List.map_append]
   rw [show N'.map (·.1) = ((ts.getD i dT).1).map (·.1) from hk])
 rw [Qfc hi] at h1
 simpa only [List.append_assoc] using h1
end

theorem Qga {α β : Type} {f : α → β} : ∀ {a b : List β}, a.Perm b → ∀ l : List α, l.map f = a → ∃ l', l.Perm l' ∧ l'.map f = b := by
 intro a b h
 induction h with
 | nil => intro l hl; exact ⟨l, .refl _, hl⟩
 | cons x _ ih =>
  intro l hl
  cases l with
  | nil => cases hl
  | cons y l =>
   simp only [List.map_cons, List.cons.injEq] at hl
   obtain ⟨l', h1, h2⟩ := ih l hl.2
   exact ⟨y :: l', h1.cons y, by simp [hl.1, h2]⟩
 | swap x y _ =>
  intro l hl
  match l, hl with
  | p :: q :: l, hl =>
   simp only [List.map_cons, List.cons.injEq] at hl
   exact ⟨q :: p :: l, List.Perm.swap .., by simp [hl]⟩
 | trans _ _ ih1 ih2 =>
  intro l hl
  obtain ⟨l1, h1, h2⟩ := ih1 l hl
  obtain ⟨l2, h3, h4⟩ := ih2 l1 h2
  exact ⟨l2, h1.trans h3, h4⟩

theorem Qgm {A B : SHeap} (h : A.Perm B) : (keys A).Perm (keys B) := h.map _
theorem OwnT.keys_out {N N' : SHeap} {v : Value} {c c' : Nat} {ts ts' : List TR} (h : OwnT N v c ts) (h' : OwnT N' v c' ts') (hl : ts.length = ts'.length) : keys N = keys N' := by
 have h1 := h'.outer
 rw [← hl] at h1
 exact Q5l h.outer h1

structure RedI (n cc k : Nat) (M0 : Mi) (X E : Nat) (i : Nat) (ts : List TR) : Prop where
 red : Red n M0 (tM ts)
 top : ∀ a, a < k → ∀ b, tM ts a b = M0 a b
 zer : ∀ a, k < a → a < i → tM ts a k = 0
 col : ∀ a, k ≤ a → a < n → (tM ts a k).natAbs ≤ X
 all : ∀ a b, k ≤ a → a < n → (tM ts a b).natAbs ≤ E
 zs : ∀ b, (∀ a, k ≤ a → a < n → M0 a b = 0) → ∀ a, k ≤ a → a < n → tM ts a b = 0

theorem Q95 {N : SHeap} {v : Value} {cc : Nat} {ts : List TR} (hT : OwnT N v cc ts) {a b : Nat} (h : cc ≤ b) : tM ts a b = 0 := by
 unfold tM
 rcases Nat.lt_or_ge a ts.length with ha | ha
 ·simp only [List.getD, List.getElem?_eq_none (show (tr' ts a).length ≤ b by rw [(hT.row ha).len]; exact h), Option.getD_none]
 ·have : tr' ts a = [] := by unfold tr'; simp [List.getD, List.getElem?_eq_none ha, dT]
  rw [this]; rfl

theorem Qfd {ts : List TR} (hn : (keys (tH ts)).Nodup) {i j : Nat} (hi : i < ts.length) (hj : j < ts.length) (hij : i ≠ j) {b : Nat} (hb : b ∈ keys (ts.getD j dT).1) : b ∉ keys (ts.getD i dT).1 := by
 intro hb2
 rw [Qbd hi] at hn
 simp only [keys, List.map_append] at hn
 have hmem : ∀ l : List TR, ts.getD j dT ∈ l → b ∈ (tH l).map (·.1) := fun l hl => by
  obtain ⟨p, hp, rfl⟩ := List.mem_map.1 hb
  exact List.mem_map.2 ⟨p, (Q81 hl).mem p hp, rfl⟩
 rcases Nat.lt_or_ge j i with h | h
 ·have h1 : ts.getD j dT ∈ ts.take i := by
   have : (ts.take i)[j]? = some (ts.getD j dT) := by rw [List.getElem?_take_of_lt h, Q3i (d := dT) hj]
   exact List.mem_of_getElem? this
  exact (List.nodup_append.1 hn).2.2 b (hmem _ h1) b (List.mem_append_left _ hb2) rfl
 ·have h1 : ts.getD j dT ∈ ts.drop (i + 1) := by
   have : (ts.drop (i + 1))[j - (i + 1)]? = some (ts.getD j dT) := by rw [List.getElem?_drop, show i + 1 + (j - (i + 1)) = j by omega, Q3i (d := dT) hj]
   exact List.mem_of_getElem? this
  exact (List.nodup_append.1 (List.nodup_append.1 hn).2.1).2.2 b hb2 b (hmem _ h1) rfl
theorem Qbq {N : SHeap} {v : Value} {n : Nat} {xs : List Int} (h : OwnZ N v n xs) (hn : 0 < n) : (vAt v 0).block ∈ keys N := by
 obtain ⟨_, ⟨_, h2, _⟩ | ⟨b, cap, cur, rfl, rfl, _⟩⟩ := h
 ·omega
 ·simp [keys]

set_option maxHeartbeats 16000000 in
theorem Qj6 (w : World) (tvv : Value) (N0 : SHeap) (cc n k X E G K : Nat) (ts0 : List TR) (hT0 : OwnT N0 tvv cc ts0) (hs0 : Hsat (N0 ++ tH ts0) w) (hlen0 : ts0.length = n) (hk : k < n) (hkc : k < cc) (hn : n ≤ 200) (hcc : cc ≤ 400)
  (hX : ∀ a, k ≤ a → a < n → (tM ts0 a k).natAbs ≤ X) (hE : ∀ a b, k ≤ a → a < n → (tM ts0 a b).natAbs ≤ E) (hG : E * (9 * (1 + X) ^ 2) ^ (n - (k + 1)) ≤ G) (hK : G < 256 ^ K) (hK2 : K ≤ 40000000) :
  Calls Tryz.prog 44 #[tvv, nv k] w (Ret fun _ w' => Kp (keys (N0 ++ tH ts0)) w w' ∧ ∃ N' ts', (keys (N' ++ tH ts')).Perm (keys (N0 ++ tH ts0)) ∧ Hsat (N' ++ tH ts') w' ∧ OwnT N' tvv cc ts' ∧ ts'.length = n ∧ ∃ E', E' ≤ G ∧ RedI n cc k (tM ts0) X E' n ts') := by
 have hM := Qcl hs0
 have hFP : ∀ x y : Int, x.natAbs ≤ X → y.natAbs ≤ X → FP x y ≤ 9 * (1 + X) ^ 2 := fun x y h h' => Qou h h'
 have hDp : 1 ≤ 9 * (1 + X) ^ 2 := by have := Nat.pow_pos (n := 2) (show 0 < 1 + X by omega); omega
 generalize 9 * (1 + X) ^ 2 = D at hFP hDp hG ⊢
 have hDp : ∀ e, 1 ≤ D ^ e := fun e => Nat.pow_pos hDp
 refine Q0a [⟨4, 3, [], []⟩, ⟨5, 1, [], []⟩, ⟨6, 4, [], []⟩] (keys (N0 ++ tH ts0)) hM (N0 ++ (tH ts0 ++ [])) Tryz.func44 rfl mixed (by kernel_rfl) Tryz.ntmps44 Tryz.results44 rfl (by simpa using hs0) (fun p hp => List.mem_map.2 ⟨p, by simpa using hp, rfl⟩) ?_
 simp only [toS, textOps, toSOp, kindAt, kindOf, odAt, sopsAt, ordOf, zipF]
 (repeat' (first | refine JC.seq ?_ | refine JC.ops ?_ | refine JO.nil ?_ | refine Q00 ?_ | (apply Q04; (iterate 3 exact rfl)) | (apply Q02; (iterate 3 exact rfl)) | (apply Q0r; (iterate 4 exact rfl); omega) | refine JC.block ?_))
 refine Q0k (ι := Nat × SHeap × List TR × Nat) ⟨fun z => [(4, nv z.1), (0, tvv), (1, nv k)], fun z => z.2.1 ++ (tH z.2.2.1 ++ []),
  fun z => k + 1 ≤ z.1 ∧ z.1 ≤ n ∧ OwnT z.2.1 tvv cc z.2.2.1 ∧ z.2.2.1.length = n ∧ (keys (z.2.1 ++ tH z.2.2.1)).Perm (keys (N0 ++ tH ts0)) ∧ RedI n cc k (tM ts0) X z.2.2.2 z.1 z.2.2.1 ∧ z.2.2.2 * D ^ (n - z.1) ≤ G, fun z => n - z.1⟩ (k + 1, N0, ts0, E)
  ⟨by omega, by omega, hT0, hlen0, .refl _, ⟨.refl _, fun _ _ _ => rfl, fun a h1 h2 => by omega, hX, hE, fun b h => h⟩, hG⟩ (by repeat first | exact trivial | refine ⟨rfl, ?_⟩) (HSub.refl _) (fun z hz => ?_)
 obtain ⟨i, N, ts, Ec⟩ := z
 obtain ⟨hki, hin, hT, hlen, hperm, hR, hEG⟩ := hz
 dsimp only at hki hin hT hlen hperm hR hEG ⊢
 by_cases hlt : i < n
 ·(repeat' (first | refine JC.seq ?_ | refine JC.ops ?_ | refine JO.nil ?_ | refine Q00 ?_ | (apply Q04; (iterate 3 exact rfl)) | (apply Qdk; (iterate 3 exact rfl); assumption; assumption) | (apply Q0m; (iterate 4 exact rfl); all_goals intro hc; all_goals try (exfalso; omega)) | refine JC.skip ?_ | refine Q08 rfl ?_ | refine JC.block ?_))
  have hD1 : Ec * FP (tM ts k k) (tM ts i k) * D ^ (n - (i + 1)) ≤ G := by
   refine Nat.le_trans ?_ hEG
   rw [show n - i = n - (i + 1) + 1 by omega, Nat.pow_succ', ← Nat.mul_assoc]
   exact Nat.mul_le_mul_right _ (Nat.mul_le_mul_left _ (hFP _ _ (hR.col k (Nat.le_refl _) hk) (hR.col i (by omega) hlt)))
  refine Q0k (ι := SHeap × List TR × Nat) ⟨fun z => [(4, nv i), (0, tvv), (1, nv k)], fun z => z.1 ++ (tH z.2.1 ++ []),
   fun z => OwnT z.1 tvv cc z.2.1 ∧ z.2.1.length = n ∧ (keys (z.1 ++ tH z.2.1)).Perm (keys (N0 ++ tH ts0)) ∧ RedI n cc k (tM ts0) X z.2.2 i z.2.1 ∧ z.2.2 * FP (tM z.2.1 k k) (tM z.2.1 i k) * D ^ (n - (i + 1)) ≤ G, fun z => (tM z.2.1 i k).natAbs⟩ (N, ts, Ec)
   ⟨hT, hlen, hperm, hR, hD1⟩ (by repeat first | exact trivial | refine ⟨rfl, ?_⟩) (HSub.refl _) (fun z hz => ?_)
  clear hD1 hEG hR hperm hlen hT
  obtain ⟨N, ts, Ec⟩ := z
  obtain ⟨hT, hlen, hperm, hR, hEG⟩ := hz
  dsimp only at hT hlen hperm hR hEG ⊢
  have hV : ∀ a, tv ts a = tv ts a := fun _ => rfl
  have hEG2 : Ec * FP (tM ts k k) (tM ts i k) ≤ G := Nat.le_trans (Nat.le_mul_of_pos_right _ (hDp _)) hEG
  have hEc : Ec ≤ G := Nat.le_trans (Nat.le_mul_of_pos_right _ (Qkg _ _)) hEG2
  (repeat' (first | refine JC.seq ?_ | refine JC.ops ?_ | (apply Q04; (iterate 3 exact rfl)) | (apply Q1w; (iterate 4 exact rfl); assumption; assumption; omega; omega) | (apply Q1u; (iterate 4 exact rfl); assumption; omega) | (apply Q44; (iterate 4 exact rfl); assumption; assumption; (repeat' first | exact HSub.nil _ | exact HSub.hd | exact Q03 | exact HSub.refl _ | refine HSub.skip ?_ | refine Q01 ?_); omega; omega) | (apply Q4h; (iterate 4 exact rfl); assumption; assumption; (repeat' first | exact HSub.nil _ | exact HSub.hd | exact Q03 | exact HSub.refl _ | refine HSub.skip ?_ | refine Q01 ?_); omega)))
  refine Q09 (by first | trivial | exact ⟨rfl, rfl⟩) rfl rfl rfl (fun w _ _ => Q8i w (tM ts i k)) fun w v w' _ _ _ hc0 => ?_
  by_cases hz : tM ts i k = 0
  ·rw [decide_eq_true hz] at hc0
   subst hc0
   (repeat' (first | refine JC.ops ?_ | refine JO.nil ?_ | refine Q00 ?_ | (apply Q04; (iterate 3 exact rfl)) | (apply Q02; (iterate 3 exact rfl)) | (apply Q0r; (iterate 4 exact rfl); omega) | (apply Q1e; (iterate 3 exact rfl)) | refine Q0i ?_ | refine JC.exit ?_ | refine Q07 rfl ?_ | refine Q0b ?_ | refine Q0f ?_))
   refine Q0c (i + 1, N, ts, Ec) ⟨by dsimp only; omega, by dsimp only; omega, hT, hlen, hperm, ⟨hR.red, hR.top, fun a h1 h2 => ?_, hR.col, hR.all, hR.zs⟩, ?_⟩ (by dsimp only; omega) (by repeat first | exact trivial | refine ⟨rfl, ?_⟩) (HSub.refl _)
   ·by_cases h : a = i
    ·subst h; exact hz
    ·exact hR.zer a h1 (by omega)
   ·exact Nat.le_trans (Nat.mul_le_mul_right _ (Nat.le_mul_of_pos_right _ (Qkg _ _))) hEG
  ·rw [decide_eq_false hz] at hc0
   subst hc0
   (repeat' (first | refine JC.seq ?_ | refine JC.opsD ?_ | refine JO.nil ?_ | refine Q00 ?_ | (apply Q04; (iterate 3 exact rfl)) | (apply Q1w; (iterate 4 exact rfl); assumption; assumption; omega; omega) | (apply Q1u; (iterate 4 exact rfl); assumption; omega) | (apply Q44; (iterate 4 exact rfl); assumption; assumption; (repeat' first | exact HSub.nil _ | exact HSub.hd | exact Q03 | exact HSub.refl _ | refine HSub.skip ?_ | refine Q01 ?_); omega; omega) | (apply Q4h; (iterate 4 exact rfl); assumption; assumption; (repeat' first | exact HSub.nil _ | exact HSub.hd | exact Q03 | exact HSub.refl _ | refine HSub.skip ?_ | refine Q01 ?_); omega) | (apply Q1e; (iterate 3 exact rfl)) | refine JC.skip ?_ | refine Q08 rfl ?_ | refine JC.block ?_))
   refine Q09 (by first | trivial | exact ⟨rfl, rfl⟩) rfl rfl rfl (fun w _ _ => Qj8 w _ _ (tM ts k k) (tM ts i k) K (Q0t (by have := hR.all k k (Nat.le_refl _) hk; omega)) (Q0t (by have := hR.all i k (by omega) hlt; omega)) (by omega)) fun w v w' _ _ _ hc1 => ?_
   rw [if_neg hz] at hc1
   subst hc1
   (repeat' (first | refine JC.seq ?_ | refine JC.opsD ?_ | refine JO.nil ?_ | refine Q00 ?_ | (apply Q04; (iterate 3 exact rfl)) | (apply Q02; (iterate 3 exact rfl)) | (apply Q0d; (iterate 4 exact rfl); (first | exact at0 | exact at1); exact rfl) | (apply Q1u; (iterate 4 exact rfl); assumption; omega) | (apply Q4h; (iterate 4 exact rfl); assumption; assumption; (repeat' first | exact HSub.nil _ | exact HSub.hd | exact Q03 | exact HSub.refl _ | refine HSub.skip ?_ | refine Q01 ?_); omega) | (apply Q0v; (iterate 4 exact rfl)) | (apply Q05; exact rfl; (first | exact trivial | exact ⟨rfl, rfl⟩); exact rfl; exact rfl; (first | exact at0 | exact at1); (iterate 3 exact rfl)) | (apply Q0e; (iterate 3 exact rfl); intro _) | (apply Q05; exact rfl; (first | exact trivial | exact ⟨rfl, rfl⟩); exact rfl; exact rfl; (first | exact at0 | exact at1); (iterate 3 exact rfl))))
   rename_i b5 b6
   generalize hq : tM ts k k / tM ts i k = q
   have hqn := Qg8 (x := tM ts k k) hz
   have hqx : q.natAbs ≤ (tM ts k k).natAbs := by
    rw [← hq]
    have h1 := hqn.1
    have h2 := hqn.2.1
    have h3 := hqn.2.2
    have h4 : (tM ts k k / tM ts i k).natAbs ≤ (tM ts k k / tM ts i k).natAbs * (tM ts i k).natAbs := Nat.le_mul_of_pos_right _ (by omega)
    rcases Int.lt_or_le (tM ts k k) 0 with h5 | h5
    ·have h6 := h2 h5
     have h7 : ((tM ts k k / tM ts i k).natAbs - 1) * (tM ts i k).natAbs ≤ (tM ts k k).natAbs := by
      rw [Nat.sub_mul]; omega
     rcases Nat.eq_zero_or_pos (tM ts k k / tM ts i k).natAbs with h8 | h8
     ·omega
     ·by_cases h9 : (tM ts i k).natAbs = 1
      ·rw [h9] at h6; omega
      ·have h10 : ((tM ts k k / tM ts i k).natAbs - 1) * 2 ≤ ((tM ts k k / tM ts i k).natAbs - 1) * (tM ts i k).natAbs := Nat.mul_le_mul_left _ (by omega)
       omega
    ·have h6 := h1 h5
     omega
   have hEk : Ec < 256 ^ K := by omega
   have bnd : ∀ a, k ≤ a → a < n → BdL K (tr' ts a) := fun a h1 h2 b => by
    have := hR.all a b h1 h2
    show (tM ts a b).natAbs < _
    omega
   have hki2 : k ≠ i := by omega
   have hll : (tab cc fun j => (tr' ts k).getD j 0 - q * (tr' ts i).getD j 0).length = cc := by simp [tab]
   have hsub : ∀ (a : Nat) (o o' : Nat × Obj), a < ts.length → HSub (ts.getD a dT).1 (o :: o' :: (N ++ (tH ts ++ []))) := fun a o o' ha => HSub.skip (HSub.skip (Q01 ((Q81 (Q94 ha)).trans (by rw [List.append_nil]; exact HSub.refl _))))
   refine Qdp (A := [_, _]) (N := N) (B := []) hT (i := k) (by omega) hll rfl (by first | trivial | exact ⟨rfl, rfl⟩) rfl rfl rfl (fun w hk' hs => Q9p K w (tv ts k) (tv ts i) cc (tr' ts k) (tr' ts i) q (ts.getD k dT).1 (hT.row (by omega)) ((hsub k _ _ (by omega)).hsat hs) ((hT.row (i := i) (by omega)).rd.at hk' hs (hsub i _ _ (by omega)))
    (fun h0 => Qfd ((HSub.skip (HSub.skip (Q01 (by rw [List.append_nil]; exact HSub.refl _)))).nodup hs.nd) (by omega) (by omega) hki2 (Qbq (hT.row (by omega)) h0)) (by omega) (by omega) (bnd k (Nat.le_refl _) hk) (bnd i (by omega) hlt) (by have := hR.all k k (Nat.le_refl _) hk; omega)) (fun u ts1 hT1 hlen1 hV1 hM1 hk1 => ?_)
   (repeat' (first | refine JC.opsD ?_ | refine JO.nil ?_ | refine Q00 ?_ | (apply Q04; (iterate 3 exact rfl)) | (apply Q1u; (iterate 4 exact rfl); assumption; omega) | (apply Q4h; (iterate 4 exact rfl); assumption; assumption; (repeat' first | exact HSub.nil _ | exact HSub.hd | exact Q03 | exact HSub.refl _ | refine HSub.skip ?_ | refine Q01 ?_); omega)))
   refine Qib (A := [_, _]) (N := N) (B := tH ts1 ++ []) hT1.outer rfl rfl (by first | trivial | exact ⟨rfl, rfl⟩) rfl rfl (Q4q hT (by omega)).1 (Q4q hT (by omega)).2 (by omega) (fun N4 hO4 => ?_)
   (repeat' (first | (apply Q1u; (iterate 4 exact rfl); assumption; omega)))
   refine Qib (A := [_, _]) (N := N4) (B := tH ts1 ++ []) hO4 rfl rfl (by first | trivial | exact ⟨rfl, rfl⟩) rfl rfl (Q4q hT (by omega)).1 (Q4q hT (by omega)).2 (by omega) (fun N5 hO5 => ?_)
   have hlen2 : ts1.length = n := by omega
   have hT2 : OwnT N5 tvv cc (swT ts1 k i) := ⟨by rw [Q5m, Qff (by omega) (by omega), hV1, hV1]; exact hO5, fun t ht => hT1.rows t ((Q4d (by omega) (by omega)).mem_iff.1 ht)⟩
   have hE1 : ∀ b, (tab cc fun j => (tr' ts k).getD j 0 - q * (tr' ts i).getD j 0).getD b 0 = tM ts k b - q * tM ts i b := fun b => by
    rcases Nat.lt_or_ge b cc with hb | hb
    ·rw [Q58 hb]; rfl
    ·rw [Q95 hT hb, Q95 hT hb, Int.mul_zero]
     have h0 : (tab cc fun j => (tr' ts k).getD j 0 - q * (tr' ts i).getD j 0)[b]? = none := List.getElem?_eq_none (by rw [hll]; exact hb)
     show ((tab cc fun j => (tr' ts k).getD j 0 - q * (tr' ts i).getD j 0)[b]?).getD 0 = _
     rw [h0]; rfl
   have hM1' : tM ts1 = setRow (tM ts) k (fun j => tM ts k j + (-q) * tM ts i j) := by
    funext a b
    rw [hM1]
    unfold setRow
    by_cases h : a = k
    ·rw [if_pos h, if_pos h, hE1]
     show _ = tM ts k b + (-q) * tM ts i b
     rw [Int.neg_mul]; omega
    ·rw [if_neg h, if_neg h]
   have hM2 : tM (swT ts1 k i) = swp (tM ts1) k i := by
    funext a b
    rw [Qkq (by omega) (by omega)]
    unfold swp
    by_cases h1 : a = i
    ·subst h1
     rw [if_pos rfl, if_neg (Ne.symm hki2), if_pos rfl]
    ·rw [if_neg h1]
     by_cases h2 : a = k
     ·rw [if_pos h2, if_pos h2]
     ·rw [if_neg h2, if_neg h2, if_neg h1]
   have mk : ∀ b, tM (swT ts1 k i) k b = tM ts i b := fun b => by
    rw [hM2]; unfold swp; rw [if_pos rfl, hM1', Q0p (Ne.symm hki2)]
   have mi : ∀ b, tM (swT ts1 k i) i b = tM ts k b - q * tM ts i b := fun b => by
    rw [hM2]; unfold swp; rw [if_neg (Ne.symm hki2), if_pos rfl, hM1', setRow_self]; show tM ts k b + (-q) * tM ts i b = _; rw [Int.neg_mul]; omega
   have mo : ∀ a b, a ≠ k → a ≠ i → tM (swT ts1 k i) a b = tM ts a b := fun a b h1 h2 => by
    rw [hM2]; unfold swp; rw [if_neg h1, if_neg h2, hM1', Q0p h1]
   have hrem : tM ts k k - q * tM ts i k = tM ts k k % tM ts i k := by
    rw [← hq, Int.emod_def, Int.mul_comm]
   have hred : Red n (tM ts0) (tM (swT ts1 k i)) := by
    rw [hM2, hM1']
    exact hR.red.trans (.add k i (-q) hk hlt hki2 (.swap k i hk hlt hki2 (.refl _)))
   have hle : Ec * (1 + q.natAbs) * FP (tM (swT ts1 k i) k k) (tM (swT ts1 k i) i k) * D ^ (n - (i + 1)) ≤ G := by
    refine Nat.le_trans (Nat.mul_le_mul_right _ ?_) hEG
    rw [mk, mi, hrem, Nat.mul_assoc]
    have := Qmo (x := tM ts k k) hz
    rw [hq] at this
    exact Nat.mul_le_mul_left _ this
   (repeat' (first | refine JO.nil ?_ | refine Q0b ?_))
   refine Q0c (N5, swT ts1 k i, Ec * (1 + q.natAbs)) ⟨hT2, by rw [Q5m]; exact hlen2, ?_, ⟨hred, fun a ha b => by rw [mo a b (by omega) (by omega)]; exact hR.top a ha b, fun a h1 h2 => by rw [mo a k (by omega) (by omega)]; exact hR.zer a h1 h2, fun a h1 h2 => ?_, fun a b h1 h2 => ?_, fun b h0 a h1 h2 => ?_⟩, hle⟩ ?_ (by repeat first | exact trivial | refine ⟨rfl, ?_⟩) ?_
   ·refine List.Perm.trans ?_ hperm
    dsimp only
    simp only [keys, List.map_append]
    have e1 : keys N5 = keys N := hT2.keys_out hT (by rw [Q5m]; omega)
    have e2 : (keys (tH (swT ts1 k i))).Perm (keys (tH ts1)) := Qgm (Qa1 (Q4d (by omega) (by omega)))
    rw [hk1] at e2
    simp only [keys] at e1 e2
    rw [e1]
    exact List.Perm.append_left _ e2
   ·dsimp only
    by_cases h3 : a = k
    ·subst h3; rw [mk]; exact hR.col i (by omega) hlt
    ·by_cases h4 : a = i
     ·subst h4; rw [mi, hrem]
      have := hR.col a (by omega) hlt
      have := hqn.2.2.1
      omega
     ·rw [mo a k h3 h4]; exact hR.col a h1 h2
   ·dsimp only
    have hEE : Ec ≤ Ec * (1 + q.natAbs) := Nat.le_mul_of_pos_right _ (by omega)
    by_cases h3 : a = k
    ·subst h3; rw [mk]; exact Nat.le_trans (hR.all i b (by omega) hlt) hEE
    ·by_cases h4 : a = i
     ·subst h4; rw [mi]
      have d1 := hR.all k b (Nat.le_refl _) hk
      have d2 := hR.all a b (by omega) hlt
      have d3 : (q * tM ts a b).natAbs ≤ q.natAbs * Ec := by rw [Int.natAbs_mul]; exact Nat.mul_le_mul_left _ d2
      have d4 : Ec * (1 + q.natAbs) = Ec + q.natAbs * Ec := by rw [Nat.mul_add, Nat.mul_one, Nat.mul_comm Ec q.natAbs]
      omega
     ·rw [mo a b h3 h4]; exact Nat.le_trans (hR.all a b h1 h2) hEE
   ·by_cases h3 : a = k
    ·rw [h3, mk]; exact hR.zs b h0 i (by omega) hlt
    ·by_cases h4 : a = i
     ·rw [h4, mi, hR.zs b h0 k (Nat.le_refl _) hk, hR.zs b h0 i (by omega) hlt, Int.mul_zero]; rfl
     ·rw [mo a b h3 h4]; exact hR.zs b h0 a h1 h2
   ·dsimp only
    rw [mi, hrem]
    exact hqn.2.2.1
   ·dsimp only
    have hp := (Qa1 (Q4d (ts := ts1) (p := k) (q := i) (by omega) (by omega)).symm).append_left N5
    refine HSub.skip (HSub.skip ⟨[], ?_⟩)
    simp only [List.append_nil]
    exact hp
 ·(repeat' (first | refine JC.seq ?_ | refine JC.ops ?_ | refine JO.nil ?_ | refine Q00 ?_ | (apply Q04; (iterate 3 exact rfl)) | (apply Qdk; (iterate 3 exact rfl); assumption; assumption) | (apply Q0m; (iterate 4 exact rfl); all_goals intro hc; all_goals try (exfalso; omega)) | refine Q0i ?_ | refine JC.exit ?_ | refine Q07 rfl ?_ | refine Q0f ?_))
  obtain rfl : n = i := by omega
  refine Qb5 (fun a w' st => ⟨st.kp, N, ts, hperm, by have := st.hs; simpa using this, hT, hlen, Ec, Nat.le_trans (Nat.le_mul_of_pos_right _ (hDp _)) hEG, hR⟩)

end Go.Proofs.YtdlmnloikakjpaaGreatDoor

namespace Go.Proofs.YtdlmnloikakjpaaGreatDoor
open Go
set_option linter.unusedSimpArgs false
set_option linter.unusedVariables false
set_option linter.unusedSectionVars false

def SolL (n : Nat) (A M : Mi) : Prop := ∀ i, i < n → ∀ j, j < n → M i j = smI n fun t => M i (n + t) * A t j
theorem SolL.addr {n : Nat} {A M : Mi} {r s : Nat} {t : Int} (h : SolL n A M) (hr : r < n) (hs : s < n) : SolL n A (setRow M r fun j => M r j + t * M s j) := fun i hi j hj => by
 by_cases he : i = r
 ·subst he
  rw [setRow_self, Q12 (g := fun u => M i (n + u) * A u j + t * (M s (n + u) * A u j)) (fun u _ => by rw [setRow_self]; grind), Q4z, Q2j, ← h i hi j hj, ← h s hs j hj]
 ·rw [Q0p he, Q12 (g := fun u => M i (n + u) * A u j) (fun u _ => by rw [Q0p he]), ← h i hi j hj]
theorem SolL.mulr {n : Nat} {A M : Mi} {r : Nat} {t : Int} (h : SolL n A M) (hr : r < n) : SolL n A (setRow M r fun j => t * M r j) := fun i hi j hj => by
 by_cases he : i = r
 ·subst he
  rw [setRow_self, Q12 (g := fun u => t * (M i (n + u) * A u j)) (fun u _ => by rw [setRow_self]; grind), Q2j, ← h i hi j hj]
 ·rw [Q0p he, Q12 (g := fun u => M i (n + u) * A u j) (fun u _ => by rw [Q0p he]), ← h i hi j hj]
theorem SolL.swp {n : Nat} {A M : Mi} {r s : Nat} (h : SolL n A M) (hr : r < n) (hs : s < n) : SolL n A (swp M r s) := fun i hi j hj => by
 by_cases h1 : i = r
 ·subst h1
  rw [Q12 (g := fun u => M s (n + u) * A u j) (fun u _ => by rw [Proofs.YtdlmnloikakjpaaGreatDoor.swp, if_pos rfl]), ← h s hs j hj, Proofs.YtdlmnloikakjpaaGreatDoor.swp, if_pos rfl]
 ·by_cases h2 : i = s
  ·subst h2
   rw [Q12 (g := fun u => M r (n + u) * A u j) (fun u _ => by rw [Proofs.YtdlmnloikakjpaaGreatDoor.swp, if_neg h1, if_pos rfl]), ← h r hr j hj, Proofs.YtdlmnloikakjpaaGreatDoor.swp, if_neg h1, if_pos rfl]
  ·rw [Q12 (g := fun u => M i (n + u) * A u j) (fun u _ => by rw [Proofs.YtdlmnloikakjpaaGreatDoor.swp, if_neg h1, if_neg h2]), ← h i hi j hj, Proofs.YtdlmnloikakjpaaGreatDoor.swp, if_neg h1, if_neg h2]
theorem SolL.red {n : Nat} {A M M' : Mi} (hr : Red n M M') (h : SolL n A M) : SolL n A M' := by
 induction hr with
 | refl => exact h
 | add r s t hr hs hn _ ih => exact ih (h.addr hr hs)
 | swap r s hr hs hn _ ih => exact ih (h.swp hr hs)
theorem Red.detA {n : Nat} {M M' : Mi} (hr : Red n M M') : (det n M').natAbs = (det n M).natAbs := by
 induction hr with
 | refl => rfl
 | add r s t hr hs hn _ ih => rw [ih, Q4o t hr hs hn]
 | swap r s hr hs hn _ ih => rw [ih, Q4n hr hs hn, Int.natAbs_neg]
theorem Qdy {n : Nat} {M : Mi} {r : Nat} (t : Int) (hr : r < n) : det n (setRow M r fun j => t * M r j) = t * det n M := by
 have h := Q2q (A := M) (f := fun _ => 0) (g := M r) t hr
 rw [Q1p, Q6g hr (fun _ _ => rfl)] at h
 rw [show (fun j => t * M r j) = fun j => 0 + t * M r j by funext j; omega, h, Int.zero_add]
theorem Qlw {n k : Nat} {M : Mi} (hk : k < n) (hu : ∀ j, j < k → ∀ i, i < n → M i j = if i = j then 1 else 0) (hz : ∀ i, k < i → i < n → M i k = 0) : ∃ x, det n M = M k k * x := by
 refine ⟨det n (setRow (tr M) k (unit k)), ?_⟩
 rw [← Qbz (A := M)]
 conv => lhs; rw [← Q1p (tr M) k]
 rw [Q6h hk, Q30 (k := k) hk (fun i hi hne => ?_)]
 ·rfl
 ·rcases Nat.lt_or_ge i k with h | h
  ·rw [Q15 (B := setRow (setRow (tr M) i (unit i)) k (unit i)) (fun a ha b hb => ?_), Q35 (r := i) (s := k) hi hk (by omega) (fun j => by rw [setRow_self, Q0p hne, setRow_self]), Int.mul_zero]
   by_cases h1 : a = k
   ·subst h1; rw [setRow_self, setRow_self]
   ·rw [Q0p h1, Q0p h1]
    by_cases h2 : a = i
    ·subst h2
     rw [setRow_self]
     show M b a = unit a b
     rw [hu a h b hb]
     unfold unit
     by_cases h3 : b = a
     ·rw [if_pos h3, if_pos h3.symm]
     ·rw [if_neg h3, if_neg (Ne.symm h3)]
    ·rw [Q0p h2]
  ·show M i k * _ = 0
   rw [hz i (by omega) hi, Int.zero_mul]

structure Stg (n : Nat) (A : Mi) (k : Nat) (M : Mi) : Prop where
 sol : SolL n A M
 dt : (det n M).natAbs = 1
 un : ∀ j, j < k → ∀ i, i < n → M i j = if i = j then 1 else 0
structure Mid (n : Nat) (A : Mi) (k : Nat) (M : Mi) (i : Nat) : Prop where
 stg : Stg n A k M
 low : ∀ a, k < a → a < n → M a k = 0
 top : ∀ a, a < i → a < k → M a k = 0
 piv : M k k = 1
theorem Qhm {n : Nat} {A M : Mi} (hA : (det n A).natAbs = 1) (h1 : ∀ i, i < n → ∀ j, j < n → M i j = A i j) (h2 : ∀ i, i < n → ∀ t, t < n → M i (n + t) = if i = t then 1 else 0) : Stg n A 0 M :=
 ⟨fun i hi j hj => by
  rw [h1 i hi j hj, Q30 (k := i) hi (fun t ht hne => by rw [h2 i hi t ht, if_neg (Ne.symm hne), Int.zero_mul]), h2 i hi i hi, if_pos rfl, Int.one_mul],
 by rw [Q15 (B := A) (fun i hi j hj => h1 i hi j hj)]; exact hA, fun j hj => by omega⟩
theorem Stg.done {n : Nat} {A M : Mi} (h : Stg n A n M) {i j : Nat} (hi : i < n) (hj : j < n) : (smI n fun t => M i (n + t) * A t j) = if i = j then 1 else 0 := by rw [← h.sol i hi j hj, h.un j hj i hi]
theorem Stg.red {n k : Nat} {A M M' : Mi} (h : Stg n A k M) (hk : k < n) (hr : Red n M M') (ht : ∀ a, a < k → ∀ b, M' a b = M a b) (hz : ∀ b, (∀ a, k ≤ a → a < n → M a b = 0) → ∀ a, k ≤ a → a < n → M' a b = 0) (hl : ∀ a, k < a → a < n → M' a k = 0) :
  Stg n A k M' ∧ (M' k k).natAbs = 1 := by
 have hs : Stg n A k M' := ⟨h.sol.red hr, by rw [hr.detA]; exact h.dt, fun j hj i hi => by
  rcases Nat.lt_or_ge i k with hik | hik
  ·rw [ht i hik, h.un j hj i hi]
  ·rw [if_neg (by omega)]
   exact hz j (fun a h1 h2 => by rw [h.un j hj a h2, if_neg (by omega)]) i hik hi⟩
 obtain ⟨x, hx⟩ := Qlw hk hs.un hl
 have h1 := hs.dt
 rw [hx, Int.natAbs_mul] at h1
 exact ⟨hs, Nat.dvd_one.1 ⟨_, h1.symm⟩⟩
theorem Stg.neg {n k : Nat} {A M : Mi} (h : Stg n A k M) (hk : k < n) : Stg n A k (setRow M k fun j => -1 * M k j) := ⟨h.sol.mulr hk, by rw [Qdy _ hk, Int.natAbs_mul]; simpa using h.dt, fun j hj i hi => by
 by_cases he : i = k
 ·subst he
  rw [setRow_self, h.un j hj i hi, if_neg (by omega)]; rfl
 ·rw [Q0p he, h.un j hj i hi]⟩
theorem Mid.step {n k i : Nat} {A M M' : Mi} (h : Mid n A k M i) (hk : k < n) (hi : i < k) (hM : M' = setRow M i fun j => M i j + (-(M i k)) * M k j) : Mid n A k M' (i + 1) := by
 subst hM
 refine ⟨⟨h.stg.sol.addr (by omega) hk, by rw [Q4o _ (by omega) hk (by omega)]; exact h.stg.dt, fun j hj a ha => ?_⟩, fun a h1 h2 => ?_, fun a h1 h2 => ?_, ?_⟩
 ·by_cases he : a = i
  ·subst he
   rw [setRow_self, h.stg.un j hj k hk, if_neg (show k ≠ j by omega), Int.mul_zero, Int.add_zero, h.stg.un j hj a ha]
  ·rw [Q0p he, h.stg.un j hj a ha]
 ·rw [Q0p (by omega)]; exact h.low a h1 h2
 ·by_cases he : a = i
  ·subst he
   rw [setRow_self, h.piv]; omega
  ·rw [Q0p he]; exact h.top a (by omega) h2
 ·rw [Q0p (by omega)]; exact h.piv
theorem Mid.done {n k : Nat} {A M : Mi} (h : Mid n A k M k) : Stg n A (k + 1) M := ⟨h.stg.sol, h.stg.dt, fun j hj i hi => by
 by_cases he : j = k
 ·subst he
  split
  ·rename_i h1; subst h1; exact h.piv
  ·rcases Nat.lt_or_ge i j with h2 | h2
   ·exact h.top i h2 h2
   ·exact h.low i (by omega) hi
 ·exact h.stg.un j (by omega) i hi⟩

end Go.Proofs.YtdlmnloikakjpaaGreatDoor

namespace Go.Proofs.YtdlmnloikakjpaaGreatDoor
open Go Go.RowKit
set_option linter.unusedSimpArgs false
set_option linter.unusedVariables false
set_option linter.unusedSectionVars false

theorem Qjg {c : Cx} {Q : Exit → Act → World → Prop} {m : Mode} {F : SFrame} {H : SHeap} {r : List SOp} (F0 : SFrame) (H0 : SHeap) (rest : JX c Q .normal F0 H0) (h : JX c Q .normal F0 H0 → JO c Q m r F H) : JO c Q m r F H := h rest

theorem Qhp {ι : Type} {c : Cx} {Q : Exit → Act → World → Prop} {s : SCode} {F : SFrame} {H : SHeap} (p : ι → Prop) (F0 : SFrame) (H0 : ι → SHeap) (rest : ∀ x, p x → JX c Q .normal F0 (H0 x)) (h : (∀ x, p x → JX c Q .normal F0 (H0 x)) → JC c Q s F H) : JC c Q s F H := h rest

structure InvP (n : Nat) (A : Mi) (e u : Nat → Nat) (k : Nat) (M : Mi) : Prop where
 stg : Stg n A k M
 lo : ∀ a b, k ≤ a → a < n → (M a b).natAbs ≤ e k
 up : ∀ a b, a < k → (M a b).natAbs ≤ u k
structure MidP (n : Nat) (A : Mi) (e u : Nat → Nat) (k i : Nat) (M : Mi) : Prop where
 mid : Mid n A k M i
 lo : ∀ a b, k ≤ a → a < n → (M a b).natAbs ≤ e (k + 1)
 up : ∀ a b, i ≤ a → a < k → (M a b).natAbs ≤ u k
 up1 : ∀ a b, a < i → a < k → (M a b).natAbs ≤ u k * (1 + e (k + 1))
theorem Q9z (r c : Nat) (g : Mi) : tbz (r + 1) c g = tbz r c g ++ tab c (g r) := by
 rw [Q3m, Q3m, List.range_succ, List.flatMap_append]
 simp
theorem Qi2 {n k : Nat} {l : List Int} (h : l.length = n + k) : l.drop n = tab k fun j => l.getD (n + j) 0 := by
 refine List.ext_getElem? (fun i => ?_)
 rw [List.getElem?_drop]
 rcases Nat.lt_or_ge i k with hi | hi
 ·have h1 : n + i < l.length := by omega
  simp [tab, hi, List.getD, List.getElem?_eq_getElem h1]
 ·rw [List.getElem?_eq_none (by omega), List.getElem?_eq_none (by simp [tab]; omega)]

section
variable {c : Cx} {Q : Exit → Act → World → Prop} {m : Mode} {F : SFrame} {H : SHeap} {r : List SOp} {g : Option (Option Tmp × Bool)} {ns : Bool} {d : Tmp} {ty t t' : TypeId} {x y : Operand}
theorem Qnd {k : IntKind} {i j : Int} (hd : dstOk c.n (some d) = true) (hg : guardF F g = some true) (hx : ev F x = some (.int k i)) (hy : ev F y = some (.int k j))
  (h : JO c Q m r ((d, .bool (decide (i < j))) :: F) H) : JO c Q m (⟨some d, .binOp .lss t x y t', ty, g, .mov, ns⟩ :: r) F H :=
 Q0m hd hg hx hy (fun h' => by rw [decide_eq_true h'] at h; exact h) (fun h' => by rw [decide_eq_false h'] at h; exact h)
theorem Qfy {a b : Int} [TWide c.P t] (hd : dstOk c.n (some d) = true) (hg : guardF F g = some true) (hx : ev F x = some (Wv a)) (hy : ev F y = some (Wv b)) {v : Bool} (hv : decide (a ≠ b) = v)
  (h : JO c Q m r ((d, .bool v) :: F) H) : JO c Q m (⟨some d, .binOp .neq t x y t', ty, g, .mov, ns⟩ :: r) F H :=
 Qfz hd hg hx hy (by
  rw [Qmk]
  subst hv
  by_cases h1 : a = b
  ·rw [decide_eq_true h1]; rw [decide_eq_false (by simpa using h1)] at h; exact h
  ·rw [decide_eq_false h1]; rw [decide_eq_true h1] at h; exact h)
end

set_option maxHeartbeats 16000000 in
theorem Q8m (K Kd : Nat) (e u : Nat → Nat) (w : World) (v : Value) (m : ZM) (hm : RtZ m) (hsq : m.r = m.c) (h100 : m.r ≤ 100) (hKd : (m.r + 1) * (Kd + 1) ≤ 40000000) (hx : BdZ Kd m) (hv : IsM w v m)
  (he0 : ∀ i j, i < m.r → j < m.r → (m.at i j).natAbs ≤ e 0) (he1 : 1 ≤ e 0) (he : ∀ k, k < m.r → e k * (9 * (1 + e k) ^ 2) ^ (m.r - (k + 1)) ≤ e (k + 1)) (hu : ∀ k, k < m.r → u k * (1 + e (k + 1)) + e (k + 1) ≤ u (k + 1))
  (hK : ∀ k, k ≤ m.r → e k < 256 ^ K ∧ u k < 256 ^ K) (hK2 : K ≤ 40000000) :
  Calls Tryz.prog 9 #[v] w (Ret fun v w' => Kp [] w w' ∧ if (det m.r m.at).natAbs = 1 then ∃ x : ZM, RtZ x ∧ x.r = m.r ∧ x.c = m.r ∧ (∀ i j, i < m.r → j < m.r → mmI m.r x.at m.at i j = idI i j) ∧ GivesMB x true w v w' else v = .tuple #[zeroM, .bool false]) := by
 have hv0 := hv
 obtain ⟨E, rfl, hE⟩ := hv
 obtain ⟨n, c, em⟩ := m
 obtain rfl : n = c := hsq
 have hle := hm.le
 have hbr : n ≤ 200 := hm.r
 dsimp only at h100 hKd he hu hK hle ⊢
 refine Q0a [⟨5, 2, [], []⟩, ⟨15, 2, [], []⟩, ⟨20, 1, [0, 1, 2, 3, 4, 5, 6, 7, 8, 9, 10, 12, 11, 13, 14, 15], [(11, .seq)]⟩, ⟨27, 3, [], []⟩] [] (by simp) [] Tryz.func9 rfl mixed (by kernel_rfl) Tryz.ntmps9 Tryz.results9 rfl ⟨by simp, by simp⟩ (by simp) ?_
 simp only [toS, textOps, toSOp, kindAt, kindOf, odAt, sopsAt, ordOf, zipF]
 (repeat' (first | refine JC.seq ?_ | refine JC.ops ?_ | refine JO.nil ?_ | refine Q00 ?_ | (apply Q02; (iterate 3 exact rfl)) | (apply Q0d; (iterate 4 exact rfl); exact at1; exact rfl) | (apply Q0e; (iterate 3 exact rfl); intro _) | (apply Q0x; (iterate 4 exact rfl); intro _)))
 rename_i b1 b2
 refine Q09 trivial rfl rfl rfl (fun w hk _ => Qma Kd w _ _ hm rfl hKd hx (hv0.mono hk)) fun w v w' _ _ _ hR => ?_
 subst hR
 dsimp only
 generalize hd : det n (ZM.mk n n em).at = dd
 (repeat' (first | refine JC.seq ?_ | refine JC.opsD ?_ | refine JO.nil ?_ | refine Q00 ?_ | (apply Q04; (iterate 3 exact rfl)) | (apply Q02; (iterate 3 exact rfl)) | (apply Q0d; (iterate 4 exact rfl); exact at0; exact rfl) | (apply Q1e; (iterate 3 exact rfl)) | (apply Q0v; (iterate 4 exact rfl)) | (apply Q05; exact rfl; (first | exact trivial | exact ⟨rfl, rfl⟩); exact rfl; exact rfl; exact at0; (iterate 3 exact rfl)) | (apply Q0e; (iterate 3 exact rfl); intro _) | (apply Q05; exact rfl; (first | exact trivial | exact ⟨rfl, rfl⟩); exact rfl; exact rfl; exact at0; (iterate 3 exact rfl))))
 rename_i b4
 have hP : ∀ d', (d' = 1 ∨ d' = -1 ↔ d'.natAbs = 1) := fun d' => by omega
 refine Q09 trivial rfl rfl rfl (fun w _ _ => Q9s w 1 (by omega) (by omega)) fun w v w' _ _ _ hR => ?_
 subst hR
 skip
 by_cases hone : dd = 1 ∨ dd = -1
 ·refine Qjg [(32, .bool false), (1, .pointer (some ⟨b1, 0, none⟩)), (2, .pointer (some ⟨b2, 0, none⟩))] [(b2, .cells #[iv 0, iv 0, .slice none 0 0] 29), (b1, .cells #[nv n, nv n, E] 29)] ?_ (fun rest => ?_)
  ·(repeat' (first | refine JC.seq ?_ | refine JC.ops ?_ | refine JC.opsD ?_ | refine JO.nil ?_ | refine Q00 ?_ | (apply Q04; (iterate 3 exact rfl)) | (apply Q06; (iterate 3 exact rfl)) | (apply Q02; (iterate 3 exact rfl)) | (apply Q0g; (iterate 4 exact rfl); exact at1; exact rfl) | (apply Q0d; (iterate 4 exact rfl); exact at1; exact rfl) | refine JC.skip ?_ | refine Q07 rfl ?_))
   refine Q0h (A := [_, _]) (B := []) rfl (by first | trivial | exact ⟨rfl, rfl⟩) rfl rfl rfl (fun w hk _ => Qoo n hbr w) fun w v w' _ _ _ hR => ?_
   obtain ⟨N1, hN1, hO1⟩ := hR
   refine ⟨N1, hN1, ?_⟩
   obtain ⟨E1, rfl, hO1⟩ := hO1
   skip
   refine Q0h (A := [_, _]) (B := N1 ++ []) rfl (by first | trivial | exact ⟨rfl, rfl⟩) rfl rfl rfl (fun w hk hs => Qo4 w _ _ ⟨n, n, em⟩ (oneZ n) hm (Q74 hbr hbr) rfl (by show n + n ≤ 200; omega) (hv0.mono hk) ⟨E1, rfl, hO1.rd.at hk hs (by (repeat' first | exact HSub.nil _ | exact HSub.hd | exact Q03 | exact HSub.refl _ | refine HSub.skip ?_ | refine Q01 ?_))⟩) fun w v w' _ _ _ hR => ?_
   obtain ⟨N2, u2, rfl, hN2, hO2⟩ := hR
   refine ⟨N2, hN2, ?_⟩
   obtain ⟨E2, rfl, hO2⟩ := hO2
   obtain ⟨A2, c2, rfl⟩ := hO2.form
   (repeat' (first | refine JC.seq ?_ | refine JC.ops ?_ | refine JO.nil ?_ | refine Q00 ?_ | (apply Q04; (iterate 3 exact rfl)) | (apply Q02; (iterate 3 exact rfl)) | (apply Q0d; (iterate 4 exact rfl); exact at0; exact rfl) | (apply Q0v; (iterate 4 exact rfl)) | (apply Q05; exact rfl; (first | exact trivial | exact ⟨rfl, rfl⟩); exact rfl; exact rfl; exact at0; (iterate 3 exact rfl)) | (apply Q0e; (iterate 3 exact rfl); intro _) | (apply Q05; exact rfl; (first | exact trivial | exact ⟨rfl, rfl⟩); exact rfl; exact rfl; exact at0; (iterate 3 exact rfl))))
   have hmj : RtZ (joinZ ⟨n, n, em⟩ (oneZ n)) := Q74 hbr (show n + n ≤ 200 by omega)
   refine Q0h (A := [_, _, _]) (B := N2 ++ (N1 ++ [])) rfl (by first | trivial | exact ⟨rfl, rfl⟩) rfl rfl rfl (fun w hk hs => Qh3 w _ (joinZ ⟨n, n, em⟩ (oneZ n)) hmj ⟨_, rfl, hO2.rd.at hk hs (by (repeat' first | exact HSub.nil _ | exact HSub.hd | exact Q03 | exact HSub.refl _ | refine HSub.skip ?_ | refine Q01 ?_))⟩) fun w v w' _ _ _ hR => ?_
   obtain ⟨N, ts, hN, hT, hts⟩ := hR
   have hlen : ts.length = n := by have := congrArg List.length hts; simpa [joinZ, zof] using this
   refine ⟨_, hN, ?_⟩
   have hM0 : ∀ i j, i < n → j < n + n → tM ts i j = (joinZ ⟨n, n, em⟩ (oneZ n)).at i j := fun i j hi hj => by
    have h1 : tr' ts i = rowI (joinZ ⟨n, n, em⟩ (oneZ n)) i := by
     have h2 := congrArg (fun l => l[i]?) hts
     simp only [List.getElem?_map, List.getElem?_range (show i < (joinZ ⟨n, n, em⟩ (oneZ n)).r from hi), Q3i (d := dT) (show i < ts.length by omega), Option.map_some, Option.some.injEq] at h2
     exact h2
    unfold tM
    rw [h1, Q4f hj]
   replace hT : OwnT N v (n + n) ts := hT
   have hMl : ∀ i j, i < n → j < n → tM ts i j = (ZM.mk n n em).at i j := fun i j hi hj => by
    rw [hM0 i j hi (by omega)]
    refine (Qb8 (r := n) (c := n + n) (g := fun i j => if j < n then (ZM.mk n n em).at i j else (oneZ n).at i (j - n)) hi (by omega)).trans ?_
    rw [if_pos hj]
   have hMr : ∀ i j, i < n → j < n → tM ts i (n + j) = if i = j then 1 else 0 := fun i j hi hj => by
    rw [hM0 i (n + j) hi (by omega)]
    refine (Qb8 (r := n) (c := n + n) (g := fun i j => if j < n then (ZM.mk n n em).at i j else (oneZ n).at i (j - n)) hi (by omega)).trans ?_
    rw [if_neg (show ¬ n + j < n by omega), show n + j - n = j by omega]
    unfold oneZ
    rw [Qb8 hi hj]; rfl
   have hI0 : InvP n (ZM.mk n n em).at e u 0 (tM ts) := ⟨Qhm (by rw [hd]; exact (hP dd).1 hone) (fun i hi j hj => hMl i j hi hj) (fun i hi t ht => hMr i t hi ht), fun a b _ ha => by
    rcases Nat.lt_or_ge b n with hb | hb
    ·rw [hMl a b ha hb]; exact he0 a b ha hb
    ·rcases Nat.lt_or_ge b (n + n) with hb2 | hb2
     ·rw [show b = n + (b - n) by omega, hMr a (b - n) ha (by omega)]
      split
      ·exact he1
      ·exact Nat.zero_le _
     ·rw [Q95 hT hb2]; exact Nat.zero_le _, fun a b h => by omega⟩
   obtain ⟨At, ct, rfl⟩ := hT.form
   (repeat' (first | refine JC.seq ?_ | refine JC.ops ?_ | refine JO.nil ?_ | refine Q00 ?_ | (apply Q04; (iterate 3 exact rfl)) | (apply Q02; (iterate 3 exact rfl)) | refine JC.block ?_))
   generalize htv : Value.slice At ts.length ct = tvv at hT ⊢
   refine Q0k (ι := Nat × SHeap × List TR) ⟨fun z => [(46, nv z.1), (45, nv n), (6, nv n), (9, tvv), (2, .pointer (some ⟨b2, 0, none⟩))],
    fun z => [(b2, .cells #[iv 0, iv 0, .slice none 0 0] 29)] ++ (z.2.1 ++ (tH z.2.2 ++ [])),
    fun z => z.1 ≤ n ∧ OwnT z.2.1 tvv (n + n) z.2.2 ∧ z.2.2.length = n ∧ InvP n (ZM.mk n n em).at e u z.1 (tM z.2.2), fun z => n - z.1⟩ (0, N, ts) ⟨by omega, hT, hlen, hI0⟩ (by repeat first | exact trivial | refine ⟨rfl, ?_⟩) ?_ ?_
   ·dsimp only
    simp only [List.append_nil]
    exact HSub.at 1 rfl (HSub.skip (HSub.skip Q03))
   clear hI0 hMr hMl hM0 hlen hts hT hN
   rintro ⟨k, N, ts⟩ ⟨hkn, hT, hlen, hI⟩
   dsimp only at hkn hT hlen hI ⊢
   by_cases hlt : k < n
   ·(repeat' (first | refine JC.seq ?_ | refine JC.ops ?_ | refine JO.nil ?_ | refine Q00 ?_ | (apply Q04; (iterate 3 exact rfl)) | (apply Q02; (iterate 3 exact rfl)) | (apply Q0m; (iterate 4 exact rfl); all_goals intro hc; all_goals try (exfalso; omega)) | refine JC.skip ?_ | refine Q08 rfl ?_ | refine JC.block ?_))
    refine Q6v (A := [_]) (N := N ++ tH ts) (B := []) (by simp only [List.append_assoc]; rfl) (by first | trivial | exact ⟨rfl, rfl⟩) rfl rfl rfl (fun w hk hs => Qj6 w tvv N (n + n) n k (e k) (e k) (e (k + 1)) K ts hT (HSub.hsat (HSub.skip (by simp only [List.append_nil]; exact HSub.refl _)) hs) hlen hlt (by omega) hbr (by omega) (fun a h1 h2 => hI.lo a k h1 h2) (fun a b h1 h2 => hI.lo a b h1 h2) (he k hlt) (hK (k + 1) hlt).1 hK2) fun w v w' _ _ _ hR => ?_
    obtain ⟨N3, ts3, hpm, hs3, hT3, hlen3, E3, hE3, hR3⟩ := hR
    obtain ⟨l', hl1, hl2⟩ := Qga hpm _ rfl
    refine ⟨l', hl2, fun p hp => hs3.blk p (hl1.mem_iff.2 hp), ?_⟩
    have hst := hI.stg.red hlt hR3.red hR3.top hR3.zs (fun a h1 h2 => hR3.zer a h1 h2)
    have hlo3 : ∀ a b, k ≤ a → a < n → (tM ts3 a b).natAbs ≤ e (k + 1) := fun a b h1 h2 => Nat.le_trans (hR3.all a b h1 h2) hE3
    have hup3 : ∀ a b, a < k → (tM ts3 a b).natAbs ≤ u k := fun a b h1 => by rw [hR3.top a h1]; exact hI.up a b h1
    have hbd3 : ∀ a b, a < n → (tM ts3 a b).natAbs < 256 ^ K := fun a b ha => by
     have b1 := (hK (k + 1) hlt).1
     have b2 := (hK k hkn).2
     rcases Nat.lt_or_ge a k with h | h
     ·have := hup3 a b h; omega
     ·have := hlo3 a b h ha; omega
    (repeat' (first | refine JO.nil ?_))
    refine JX.part (F' := [(10, nv k), (46, nv k), (45, nv n), (6, nv n), (9, tvv), (2, .pointer (some ⟨b2, 0, none⟩))]) (H' := [(b2, .cells #[iv 0, iv 0, .slice none 0 0] 29)] ++ (N3 ++ (tH ts3 ++ []))) (by repeat first | exact trivial | refine ⟨rfl, ?_⟩) ?_ ?_
    ·refine ⟨[], ?_⟩
     simp only [List.append_nil]
     exact List.Perm.append_left _ hl1.symm
    have hV3 : ∀ a, tv ts3 a = tv ts3 a := fun _ => rfl
    refine Q00 ?_
    (repeat' (first | refine JC.seq ?_ | refine JC.ops ?_ | (apply Q04; (iterate 3 exact rfl)) | (apply Q1w; (iterate 4 exact rfl); assumption; assumption; omega; omega) | (apply Q1u; (iterate 4 exact rfl); assumption; omega) | (apply Q44; (iterate 4 exact rfl); assumption; assumption; (repeat' first | exact HSub.nil _ | exact HSub.hd | exact Q03 | exact HSub.refl _ | refine HSub.skip ?_ | refine Q01 ?_); omega; omega) | (apply Q4h; (iterate 4 exact rfl); assumption; assumption; (repeat' first | exact HSub.nil _ | exact HSub.hd | exact Q03 | exact HSub.refl _ | refine HSub.skip ?_ | refine Q01 ?_); omega)))
    refine Q09 (by first | trivial | exact ⟨rfl, rfl⟩) rfl rfl rfl (fun w _ _ => Qnz w _ (tM ts3 k k) K (Q0t (hbd3 k k hlt)) (by omega)) fun w v w' _ _ _ hR => ?_
    subst hR
    refine Qnd rfl rfl rfl rfl ?_
    (repeat' (first | refine JO.nil ?_))
    refine Q00 ?_
    refine Qhp (ι := SHeap × List TR) (fun z => OwnT z.1 tvv (n + n) z.2 ∧ z.2.length = n ∧ MidP n (ZM.mk n n em).at e u k 0 (tM z.2)) [(10, nv k), (46, nv k), (45, nv n), (6, nv n), (9, tvv), (2, .pointer (some ⟨b2, 0, none⟩))] (fun z => [(b2, .cells #[iv 0, iv 0, .slice none 0 0] 29)] ++ (z.1 ++ (tH z.2 ++ []))) ?_ (fun rest => ?_)
    ·rintro ⟨N4, ts4⟩ ⟨hT4, hlen4, hM4⟩
     dsimp only at hT4 hlen4 hM4 ⊢
     (repeat' (first | refine JC.seq ?_ | refine JC.ops ?_ | refine JO.nil ?_ | refine Q00 ?_ | (apply Q04; (iterate 3 exact rfl)) | refine JC.block ?_))
     refine Q0k (ι := Nat × List TR) ⟨fun z => [(85, nv z.1), (84, nv k), (10, nv k), (46, nv k), (45, nv n), (6, nv n), (9, tvv), (2, .pointer (some ⟨b2, 0, none⟩))],
      fun z => [(b2, .cells #[iv 0, iv 0, .slice none 0 0] 29)] ++ (N4 ++ (tH z.2 ++ [])),
      fun z => z.1 ≤ k ∧ OwnT N4 tvv (n + n) z.2 ∧ z.2.length = n ∧ MidP n (ZM.mk n n em).at e u k z.1 (tM z.2), fun z => k - z.1⟩ (0, ts4) ⟨by omega, hT4, hlen4, hM4⟩ (by repeat first | exact trivial | refine ⟨rfl, ?_⟩) (HSub.refl _) (fun z hz => ?_)
     obtain ⟨i, ts5⟩ := z
     obtain ⟨hik, hT5, hlen5, hM5⟩ := hz
     dsimp only at hik hT5 hlen5 hM5 ⊢
     have hV5 : ∀ a, tv ts5 a = tv ts5 a := fun _ => rfl
     by_cases hi2 : i < k
     ·(repeat' (first | refine JC.seq ?_ | refine JC.ops ?_ | refine JC.opsD ?_ | refine JO.nil ?_ | refine Q00 ?_ | (apply Q04; (iterate 3 exact rfl)) | (apply Q02; (iterate 3 exact rfl)) | (apply Q1u; (iterate 4 exact rfl); assumption; omega) | (apply Q4h; (iterate 4 exact rfl); assumption; assumption; (repeat' first | exact HSub.nil _ | exact HSub.hd | exact Q03 | exact HSub.refl _ | refine HSub.skip ?_ | refine Q01 ?_); omega) | (apply Q0m; (iterate 4 exact rfl); all_goals intro hc; all_goals try (exfalso; omega)) | refine JC.skip ?_ | refine Q08 rfl ?_ | refine JC.block ?_))
      refine Qbk (u := tv ts5 i) (by first | trivial | exact ⟨rfl, rfl⟩) rfl rfl rfl hT5.rd (by exact HSub.skip Q03) (Q4y (by omega)) ?_
      (repeat' (first | (apply Q1w; (iterate 4 exact rfl); assumption; assumption; omega; omega) | (apply Q44; (iterate 4 exact rfl); assumption; assumption; (repeat' first | exact HSub.nil _ | exact HSub.hd | exact Q03 | exact HSub.refl _ | refine HSub.skip ?_ | refine Q01 ?_); omega; omega)))
      have hbd5 : ∀ a b, a < n → (tM ts5 a b).natAbs < 256 ^ K := fun a b ha => by
       have c1 := (hK (k + 1) hlt).1
       have c2 := (hK k hkn).2
       have c3 := (hK (k + 1) hlt).2
       have c4 := hu k hlt
       rcases Nat.lt_or_ge a k with h | h
       ·rcases Nat.lt_or_ge a i with h' | h'
        ·have := hM5.up1 a b h' h; omega
        ·have := hM5.up a b h' h; omega
       ·have := hM5.lo a b h ha; omega
      have hll : (tab (n + n) fun j => (tr' ts5 i).getD j 0 - tM ts5 i k * (tr' ts5 k).getD j 0).length = n + n := by simp [tab]
      have hsub : ∀ (a : Nat) (o : Nat × Obj), a < ts5.length → HSub (ts5.getD a dT).1 (o :: (N4 ++ (tH ts5 ++ []))) := fun a o ha => HSub.skip (Q01 ((Q81 (Q94 ha)).trans (by rw [List.append_nil]; exact HSub.refl _)))
      have hsubT : ∀ o : Nat × Obj, HSub (tH ts5) (o :: (N4 ++ (tH ts5 ++ []))) := fun o => HSub.skip (Q01 (by rw [List.append_nil]; exact HSub.refl _))
      refine Qdp (A := [_]) (N := N4) (B := []) hT5 (i := i) (by omega) hll rfl (by first | trivial | exact ⟨rfl, rfl⟩) rfl rfl rfl (fun w hk' hs => Q9p K w (tv ts5 i) (tv ts5 k) (n + n) (tr' ts5 i) (tr' ts5 k) (tM ts5 i k) (ts5.getD i dT).1 (hT5.row (by omega)) ((hsub i _ (by omega)).hsat hs) ((hT5.row (i := k) (by omega)).rd.at hk' hs (hsub k _ (by omega)))
       (fun h0 => Qfd ((hsubT _).nodup hs.nd) (by omega) (by omega) (by omega) (Qbq (hT5.row (by omega)) h0)) (by omega) (by omega) (fun b => hbd5 i b (by omega)) (fun b => hbd5 k b hlt) (hbd5 i k (by omega))) (fun u6 ts6 hT6 hlen6 hV6 hM6 hk6 => ?_)
      have hE6 : ∀ b, (tab (n + n) fun j => (tr' ts5 i).getD j 0 - tM ts5 i k * (tr' ts5 k).getD j 0).getD b 0 = tM ts5 i b - tM ts5 i k * tM ts5 k b := fun b => by
       rcases Nat.lt_or_ge b (n + n) with hb | hb
       ·rw [Q58 hb]; rfl
       ·rw [Q95 hT5 hb, Q95 hT5 hb, Int.mul_zero]
        have h0 : (tab (n + n) fun j => (tr' ts5 i).getD j 0 - tM ts5 i k * (tr' ts5 k).getD j 0)[b]? = none := List.getElem?_eq_none (by rw [hll]; exact hb)
        show ((tab (n + n) fun j => (tr' ts5 i).getD j 0 - tM ts5 i k * (tr' ts5 k).getD j 0)[b]?).getD 0 = _
        rw [h0]; rfl
      have hM6' : tM ts6 = setRow (tM ts5) i (fun j => tM ts5 i j + (-(tM ts5 i k)) * tM ts5 k j) := by
       funext a b
       rw [hM6]
       unfold setRow
       by_cases h : a = i
       ·rw [if_pos h, if_pos h, hE6]
        show _ = tM ts5 i b + (-(tM ts5 i k)) * tM ts5 k b
        rw [Int.neg_mul]; omega
       ·rw [if_neg h, if_neg h]
      have ho6 : ∀ a b, a ≠ i → tM ts6 a b = tM ts5 a b := fun a b h => by rw [hM6, if_neg h]
      (repeat' (first | refine JC.ops ?_ | refine JO.nil ?_ | refine Q00 ?_ | (apply Q04; (iterate 3 exact rfl)) | (apply Q0r; (iterate 4 exact rfl); omega) | refine Q0b ?_))
      refine Q0c (i + 1, ts6) ⟨by dsimp only; omega, hT6, by dsimp only; omega, hM5.mid.step hlt hi2 hM6', fun a b h1 h2 => ?_, fun a b h1 h2 => ?_, fun a b h1 h2 => ?_⟩ (by dsimp only; omega) (by repeat first | exact trivial | refine ⟨rfl, ?_⟩) (HSub.refl _)
      ·dsimp only
       rw [ho6 a b (by omega)]; exact hM5.lo a b h1 h2
      ·dsimp only at h1 ⊢
       rw [ho6 a b (by omega)]; exact hM5.up a b (by omega) h2
      ·dsimp only at h1 ⊢
       by_cases h3 : a = i
       ·rw [h3, hM6, if_pos rfl, hE6]
        have d1 := hM5.up i b (Nat.le_refl _) hi2
        have d2 := hM5.up i k (Nat.le_refl _) hi2
        have d3 := hM5.lo k b (Nat.le_refl _) hlt
        have d4 : (tM ts5 i k * tM ts5 k b).natAbs ≤ u k * e (k + 1) := by rw [Int.natAbs_mul]; exact Nat.mul_le_mul d2 d3
        have d5 : u k * (1 + e (k + 1)) = u k + u k * e (k + 1) := by rw [Nat.mul_add, Nat.mul_one]
        omega
       ·rw [ho6 a b h3]; exact hM5.up1 a b (by omega) h2
     ·obtain rfl : k = i := by omega
      (repeat' (first | refine JC.seq ?_ | refine JC.ops ?_ | refine JO.nil ?_ | refine Q00 ?_ | (apply Q04; (iterate 3 exact rfl)) | (apply Q0r; (iterate 4 exact rfl); omega) | (apply Q0m; (iterate 4 exact rfl); all_goals intro hc; all_goals try (exfalso; omega)) | refine Q0i ?_ | refine JC.exit ?_ | refine Q07 rfl ?_ | refine Q0b ?_ | refine Q0f ?_))
      refine Q0c (k + 1, N4, ts5) ⟨by dsimp only; omega, hT5, hlen5, hM5.mid.done, fun a b h1 h2 => hM5.lo a b (by dsimp only at h1; omega) h2, fun a b h1 => ?_⟩ (by dsimp only; omega) (by repeat first | exact trivial | refine ⟨rfl, ?_⟩) (HSub.refl _)
      dsimp only at h1 ⊢
      have h2 := hu k hlt
      by_cases h3 : a = k
      ·have := hM5.lo a b (by omega) (by omega)
       omega
      ·have := hM5.up1 a b (by omega) (by omega)
       omega
    ·refine JC.cond rfl (fun hb => ?_) (fun hb => ?_)
     ·have hneg := of_decide_eq_true hb
      (repeat' (first | refine JC.seq ?_ | refine JC.ops ?_ | refine JO.nil ?_ | refine Q00 ?_ | (apply Q04; (iterate 3 exact rfl)) | (apply Q4g; (iterate 3 exact rfl); assumption; assumption; omega) | (apply Q1u; (iterate 4 exact rfl); assumption; omega) | (apply Q4h; (iterate 4 exact rfl); assumption; assumption; (repeat' first | exact HSub.nil _ | exact HSub.hd | exact Q03 | exact HSub.refl _ | refine HSub.skip ?_ | refine Q01 ?_); omega) | refine JC.block ?_))
      refine Q0k (ι := Nat × List TR) ⟨fun z => [(66, nv z.1), (65, nv (n + n)), (10, nv k), (46, nv k), (45, nv n), (6, nv n), (9, tvv), (2, .pointer (some ⟨b2, 0, none⟩))],
       fun z => [(b2, .cells #[iv 0, iv 0, .slice none 0 0] 29)] ++ (N3 ++ (tH z.2 ++ [])),
       fun z => z.1 ≤ n + n ∧ OwnT N3 tvv (n + n) z.2 ∧ z.2.length = n ∧ (∀ a, tv z.2 a = (tv ts3) a) ∧ ∀ a b, tM z.2 a b = if a = k ∧ b < z.1 then -(tM ts3 a b) else tM ts3 a b, fun z => n + n - z.1⟩ (0, ts3) ⟨by omega, hT3, hlen3, hV3, fun a b => by simp⟩ (by repeat first | exact trivial | refine ⟨rfl, ?_⟩) (HSub.refl _) (fun z hz => ?_)
      obtain ⟨j, ts4⟩ := z
      obtain ⟨hj, hT4, hlen4, hV4, hM4⟩ := hz
      dsimp only at hj hT4 hlen4 hV4 hM4 ⊢
      by_cases hj2 : j < n + n
      ·have e4 : tM ts4 k j = tM ts3 k j := by rw [hM4, if_neg (by omega)]
       (repeat' (first | refine JC.seq ?_ | refine JC.ops ?_ | refine JC.opsD ?_ | refine JO.nil ?_ | refine Q00 ?_ | (apply Q04; (iterate 3 exact rfl)) | (apply Q02; (iterate 3 exact rfl)) | (apply Q1w; (iterate 4 exact rfl); assumption; assumption; omega; omega) | (apply Q1u; (iterate 4 exact rfl); assumption; omega) | (apply Q44; (iterate 4 exact rfl); assumption; assumption; (repeat' first | exact HSub.nil _ | exact HSub.hd | exact Q03 | exact HSub.refl _ | refine HSub.skip ?_ | refine Q01 ?_); omega; omega) | (apply Q4h; (iterate 4 exact rfl); assumption; assumption; (repeat' first | exact HSub.nil _ | exact HSub.hd | exact Q03 | exact HSub.refl _ | refine HSub.skip ?_ | refine Q01 ?_); omega) | (apply Q0m; (iterate 4 exact rfl); all_goals intro hc; all_goals try (exfalso; omega)) | refine JC.skip ?_ | refine Q08 rfl ?_ | refine JC.block ?_))
       refine Q09 (by first | trivial | exact ⟨rfl, rfl⟩) rfl rfl rfl (fun w _ _ => Qj9 w _ (tM ts4 k j) K (Q0t (by rw [e4]; exact hbd3 k j hlt)) (by omega)) fun w v w' _ _ _ hR => ?_
       subst hR
       (repeat' (first | (apply Q1w; (iterate 4 exact rfl); assumption; assumption; omega; omega)))
       refine Q9c (V := (tv ts3)) (A := [_]) hV4 hT4 rfl rfl (by first | trivial | exact ⟨rfl, rfl⟩) rfl rfl (by omega) hj2 (fun ts5 hT5 hlen5 hV5 hM5 => ?_)
       (repeat' (first | refine JC.ops ?_ | refine JO.nil ?_ | refine Q00 ?_ | (apply Q04; (iterate 3 exact rfl)) | (apply Q0r; (iterate 4 exact rfl); omega) | refine Q0b ?_))
       refine Q0c (j + 1, ts5) ⟨by dsimp only; omega, hT5, by dsimp only; omega, hV5, fun a b => ?_⟩ (by dsimp only; omega) (by repeat first | exact trivial | refine ⟨rfl, ?_⟩) (HSub.refl _)
       dsimp only
       rw [hM5, hM4 a b, e4]
       by_cases h1 : a = k ∧ b = j
       ·obtain ⟨rfl, rfl⟩ := h1
        rw [if_pos ⟨rfl, rfl⟩, if_pos ⟨rfl, by omega⟩]
       ·rw [if_neg h1]
        by_cases h2 : a = k ∧ b < j
        ·rw [if_pos h2, if_pos ⟨h2.1, by omega⟩]
        ·rw [if_neg h2, if_neg (by omega)]
      ·obtain rfl : n + n = j := by omega
       have hM4' : tM ts4 = setRow (tM ts3) k (fun j => -1 * tM ts3 k j) := by
        funext a b
        rw [hM4]
        unfold setRow
        by_cases h : a = k
        ·rw [if_pos h, h]
         show _ = -1 * tM ts3 k b
         rcases Nat.lt_or_ge b (n + n) with hb | hb
         ·rw [if_pos ⟨rfl, hb⟩]; omega
         ·rw [if_neg (by omega), Q95 hT3 hb]; rfl
        ·rw [if_neg h, if_neg (fun h2 => h h2.1)]
       have ho4 : ∀ a b, a ≠ k → tM ts4 a b = tM ts3 a b := fun a b h => by rw [hM4, if_neg (fun h2 => h h2.1)]
       have hn4 : ∀ a b, (tM ts4 a b).natAbs = (tM ts3 a b).natAbs := fun a b => by
        rw [hM4]; split
        ·exact Int.natAbs_neg _
        ·rfl
       (repeat' (first | refine JC.seq ?_ | refine JC.ops ?_ | refine JO.nil ?_ | (apply Q0m; (iterate 4 exact rfl); all_goals intro hc; all_goals try (exfalso; omega))))
       refine Q00 ?_
       (repeat' (first | refine JC.seq ?_ | refine Q0i ?_ | refine JC.exit ?_ | refine Q07 rfl ?_ | refine Q0f ?_))
       refine (rest (N3, ts4) ⟨hT4, hlen4, ⟨⟨by rw [hM4']; exact hst.1.neg hlt, fun a h1 h2 => by dsimp only; rw [ho4 a k (by omega)]; exact hR3.zer a h1 h2, fun a h1 => by omega, ?_⟩, fun a b h1 h2 => by dsimp only; rw [hn4]; exact hlo3 a b h1 h2, fun a b _ h1 => by dsimp only; rw [hn4]; exact hup3 a b h1, fun a b h1 => by omega⟩⟩).part (by repeat first | exact trivial | refine ⟨rfl, ?_⟩) (HSub.refl _)
       have h1 := hst.2
       have h2 : tM ts3 k k < 0 := by
        rcases Int.lt_trichotomy (tM ts3 k k) 0 with h | h | h
        ·exact h
        ·rw [h] at h1; cases h1
        ·rw [Int.sign_eq_one_of_pos h] at hneg; exact absurd hneg (by decide)
       dsimp only
       rw [hM4', setRow_self]
       omega
     ·have hneg := of_decide_eq_false hb
      (repeat' (first | refine JC.skip ?_))
      refine (rest (N3, ts3) ⟨hT3, hlen3, ⟨⟨hst.1, fun a h1 h2 => hR3.zer a h1 h2, fun a h1 => by omega, ?_⟩, hlo3, fun a b _ h1 => hup3 a b h1, fun a b h1 => by omega⟩⟩).part (by repeat first | exact trivial | refine ⟨rfl, ?_⟩) (HSub.refl _)
      have h1 := hst.2
      have h2 : ¬ tM ts3 k k < 0 := fun h => hneg (by rw [Int.sign_eq_neg_one_of_neg h]; decide)
      dsimp only
      omega
   ·obtain rfl : n = k := by omega
    (repeat' (first | refine JC.seq ?_ | refine JC.ops ?_ | refine JO.nil ?_ | refine Q00 ?_ | (apply Q04; (iterate 3 exact rfl)) | (apply Qdk; (iterate 3 exact rfl); assumption; assumption) | (apply Q68; (iterate 4 exact rfl)) | (apply Q05; exact rfl; (first | exact trivial | exact ⟨rfl, rfl⟩); exact rfl; exact rfl; exact at0; (iterate 3 exact rfl)) | (apply Q0m; (iterate 4 exact rfl); all_goals intro hc; all_goals try (exfalso; omega)) | (apply Q0e; (iterate 3 exact rfl); intro _) | (apply Q05; exact rfl; (first | exact trivial | exact ⟨rfl, rfl⟩); exact rfl; exact rfl; exact at0; (iterate 3 exact rfl)) | refine Q0i ?_ | refine JC.exit ?_ | refine Q07 rfl ?_ | refine JC.block ?_ | refine Q0f ?_))
    rename_i b13
    refine Q0k (ι := Nat × SHeap × Value) ⟨fun z => [(111, nv z.1), (110, nv n), (109, tvv), (6, nv n), (13, .pointer (some ⟨b13, 0, none⟩)), (2, .pointer (some ⟨b2, 0, none⟩))],
     fun z => [(b13, .cells #[nv n, nv n, z.2.2] 29), (b2, .cells #[iv 0, iv 0, .slice none 0 0] 29)] ++ (z.2.1 ++ (N ++ (tH ts ++ []))),
     fun z => z.1 ≤ n ∧ OwnZ z.2.1 z.2.2 (z.1 * n) (tbz z.1 n fun a j => tM ts a (n + j)), fun z => n - z.1⟩ (0, [], .slice none 0 0) ⟨by omega, by simpa [Q3m] using OwnZ.nil⟩ (by repeat first | exact trivial | refine ⟨rfl, ?_⟩) (HSub.refl _) (fun z hz => ?_)
    obtain ⟨i, N6, v6⟩ := z
    obtain ⟨hin, hO6⟩ := hz
    dsimp only at hin hO6 ⊢
    obtain ⟨A6, c6, rfl⟩ := hO6.form
    have hV : ∀ a, tv ts a = tv ts a := fun _ => rfl
    by_cases hi2 : i < n
    ·(repeat' (first | refine JC.seq ?_ | refine JC.ops ?_ | refine JO.nil ?_ | refine Q00 ?_ | (apply Q02; (iterate 3 exact rfl)) | (apply Q1u; (iterate 4 exact rfl); assumption; omega) | (apply Q4h; (iterate 4 exact rfl); assumption; assumption; (repeat' first | exact HSub.nil _ | exact HSub.hd | exact Q03 | exact HSub.refl _ | refine HSub.skip ?_ | refine Q01 ?_); omega) | (apply Q0m; (iterate 4 exact rfl); all_goals intro hc; all_goals try (exfalso; omega)) | refine JC.skip ?_ | refine Q08 rfl ?_ | refine JC.block ?_))
     refine Q36 [(b13, .cells #[nv n, nv n, .slice A6 (i * n) c6] 29)] (by (first | exact HSub.refl _ | (repeat' first | exact HSub.nil _ | exact HSub.refl _ | refine HSub.at 0 rfl ?_ | refine HSub.at 1 rfl ?_ | refine HSub.at 2 rfl ?_ | refine HSub.at 3 rfl ?_ | refine HSub.at 4 rfl ?_ | refine HSub.at 5 rfl ?_ | refine HSub.at 6 rfl ?_ | refine HSub.at 7 rfl ?_))) ?_
     (repeat' (first | (apply Q04; (iterate 3 exact rfl)) | (apply Q06; (iterate 3 exact rfl)) | (apply Q0g; (iterate 4 exact rfl); exact at0; exact rfl)))
     refine Qa7 (l := n) (h' := n + n) rfl rfl rfl (hT.row (by omega)).rd rfl rfl (.inl rfl) rfl rfl (.inr ⟨rfl, rfl⟩) (by omega) (by omega) (fun v7 hv7 _ => ?_)
     rw [Nat.add_sub_cancel_left] at hv7
     skip
     have hin2 : i * n ≤ 10000 := Nat.mul_le_mul (show i ≤ 100 by omega) (show n ≤ 100 by omega)
     have hdr : List.take n (List.drop n (tr' ts i)) = tab n fun j => tM ts i (n + j) := by
      rw [Qi2 (k := n) (hT.row (show i < ts.length by omega)).len, List.take_of_length_le (by simp [tab])]
      rfl
     rw [hdr] at hv7
     refine Q39 (A := [_, _]) (B := N ++ (tH ts ++ [])) hO6 hv7 (by exact HSub.skip (HSub.skip (Q01 (Q01 (Q01 ((Q81 (Q94 (by omega))).trans Q03)))))) rfl (by (first | exact HSub.refl _ | (repeat' first | exact HSub.nil _ | exact HSub.refl _ | refine HSub.at 0 rfl ?_ | refine HSub.at 1 rfl ?_ | refine HSub.at 2 rfl ?_ | refine HSub.at 3 rfl ?_ | refine HSub.at 4 rfl ?_ | refine HSub.at 5 rfl ?_ | refine HSub.at 6 rfl ?_ | refine HSub.at 7 rfl ?_))) rfl rfl rfl rfl (by omega) (fun v8 N8 hO8 => ?_)
     obtain ⟨A8, c8, rfl⟩ := hO8.form
     (repeat' (first | refine JC.ops ?_ | refine JO.nil ?_ | refine Q00 ?_ | (apply Q04; (iterate 3 exact rfl)) | (apply Q06; (iterate 3 exact rfl)) | (apply Q0r; (iterate 4 exact rfl); omega) | (apply Q28; exact rfl; (first | exact trivial | exact ⟨rfl, rfl⟩); exact rfl; exact rfl; exact at0; exact rfl; exact rfl; (first | exact Nat.le_of_ble_eq_true rfl | (simp; done) | omega)) | refine Q0b ?_))
     rw [← Q9z] at hO8
     refine Q0c (i + 1, N8, _) ⟨by dsimp only; omega, by dsimp only; rw [Nat.add_mul, Nat.one_mul]; exact hO8⟩ (by dsimp only; omega) (by repeat first | exact trivial | refine ⟨rfl, ?_⟩) (HSub.refl _)
    ·obtain rfl : n = i := by omega
     (repeat' (first | refine JC.seq ?_ | refine JC.ops ?_ | refine JO.nil ?_ | refine Q00 ?_ | (apply Q02; (iterate 3 exact rfl)) | (apply Q0d; (iterate 4 exact rfl); (first | exact at0 | exact at1); exact rfl) | (apply Q05; exact rfl; (first | exact trivial | exact ⟨rfl, rfl⟩); exact rfl; exact rfl; (first | exact at0 | exact at1); (iterate 3 exact rfl)) | (apply Q0m; (iterate 4 exact rfl); all_goals intro hc; all_goals try (exfalso; omega)) | (apply Q05; exact rfl; (first | exact trivial | exact ⟨rfl, rfl⟩); exact rfl; exact rfl; (first | exact at0 | exact at1); (iterate 3 exact rfl)) | refine Q0i ?_ | refine JC.exit ?_ | refine JC.ret ?_ | refine Q07 rfl ?_ | refine Q0f ?_))
     exact Q16 1 rfl rfl rfl rfl (fun a w' st => ⟨st.kp, by
      rw [if_pos ((hP dd).1 hone)]
      refine ⟨zof n n fun a j => tM ts a (n + j), Q74 hbr hbr, rfl, rfl, fun i j hi hj => ?_, N6, _, rfl, st.newOf rfl (by exact HSub.skip (HSub.skip Q03)), OwnM.mk' hO6⟩
      refine Eq.trans ?_ (hI.stg.done hi hj)
      exact Q12 fun t ht => by rw [Qb8 hi ht]⟩)
  ·by_cases h1 : dd = 1
   ·refine Qfy rfl rfl rfl rfl (decide_eq_false (by simpa using h1)) ?_
    (repeat' (first | refine JO.nil ?_ | (apply Q04; (iterate 3 exact rfl)) | (apply Q0q; (iterate 4 exact rfl)) | (apply Q10; exact rfl; exact rfl; (first | (intro h; cases h; done) | (intro _; rfl)))))
    exact rest.part (by repeat first | exact trivial | refine ⟨rfl, ?_⟩) (by (repeat' first | exact HSub.refl _ | exact HSub.nil _ | refine HSub.at 0 rfl ?_ | refine HSub.at 1 rfl ?_ | refine HSub.at 2 rfl ?_ | refine HSub.at 3 rfl ?_ | refine HSub.at 4 rfl ?_ | refine HSub.at 5 rfl ?_ | refine HSub.at 6 rfl ?_ | refine HSub.at 7 rfl ?_ | refine HSub.at 8 rfl ?_ | refine HSub.at 9 rfl ?_ | refine HSub.at 10 rfl ?_ | refine HSub.at 11 rfl ?_ | refine HSub.at 12 rfl ?_ | refine HSub.at 13 rfl ?_ | refine HSub.at 14 rfl ?_ | refine HSub.at 15 rfl ?_ | refine HSub.at 16 rfl ?_ | refine HSub.at 17 rfl ?_ | refine HSub.at 18 rfl ?_ | refine HSub.at 19 rfl ?_ | refine Q0l ?_ | refine HSub.skip ?_ | refine Q01 ?_))
   ·refine Qfy rfl rfl rfl rfl (decide_eq_true h1) ?_
    (repeat' (first | (apply Q04; (iterate 3 exact rfl)) | (apply Q0d; (iterate 4 exact rfl); exact at0; exact rfl)))
    refine Q09 (by first | trivial | exact ⟨rfl, rfl⟩) rfl rfl rfl (fun w _ _ => Q9s w (-1) (by omega) (by omega)) fun w v w' _ _ _ hR => ?_
    subst hR
    skip
    refine Qfy rfl rfl rfl rfl (decide_eq_false (by simp only [ne_eq, Decidable.not_not]; omega)) ?_
    (repeat' (first | refine JO.nil ?_ | (apply Q0n; (iterate 4 exact rfl)) | (apply Q0q; (iterate 4 exact rfl))))
    exact rest.part (by repeat first | exact trivial | refine ⟨rfl, ?_⟩) (by (repeat' first | exact HSub.refl _ | exact HSub.nil _ | refine HSub.at 0 rfl ?_ | refine HSub.at 1 rfl ?_ | refine HSub.at 2 rfl ?_ | refine HSub.at 3 rfl ?_ | refine HSub.at 4 rfl ?_ | refine HSub.at 5 rfl ?_ | refine HSub.at 6 rfl ?_ | refine HSub.at 7 rfl ?_ | refine HSub.at 8 rfl ?_ | refine HSub.at 9 rfl ?_ | refine HSub.at 10 rfl ?_ | refine HSub.at 11 rfl ?_ | refine HSub.at 12 rfl ?_ | refine HSub.at 13 rfl ?_ | refine HSub.at 14 rfl ?_ | refine HSub.at 15 rfl ?_ | refine HSub.at 16 rfl ?_ | refine HSub.at 17 rfl ?_ | refine HSub.at 18 rfl ?_ | refine HSub.at 19 rfl ?_ | refine Q0l ?_ | refine HSub.skip ?_ | refine Q01 ?_))
 ·refine Qfy rfl rfl rfl rfl (decide_eq_true (by omega)) ?_
  (repeat' (first | (apply Q04; (iterate 3 exact rfl)) | (apply Q0d; (iterate 4 exact rfl); exact at0; exact rfl)))
  refine Q09 (by first | trivial | exact ⟨rfl, rfl⟩) rfl rfl rfl (fun w _ _ => Q9s w (-1) (by omega) (by omega)) fun w v w' _ _ _ hR => ?_
  subst hR
  skip
  refine Qfy rfl rfl rfl rfl (decide_eq_true (by omega)) ?_
  (repeat' (first | refine JC.seq ?_ | refine JC.ops ?_ | refine JO.nil ?_ | refine Q00 ?_ | (apply Q02; (iterate 3 exact rfl)) | (apply Q0n; (iterate 4 exact rfl)) | (apply Q0q; (iterate 4 exact rfl)) | (apply Q05; exact rfl; (first | exact trivial | exact ⟨rfl, rfl⟩); exact rfl; exact rfl; exact at1; (iterate 3 exact rfl)) | (apply Q11; (iterate 5 exact rfl)) | (apply Q05; exact rfl; (first | exact trivial | exact ⟨rfl, rfl⟩); exact rfl; exact rfl; exact at1; (iterate 3 exact rfl)) | refine Q0o ?_ | refine JC.ret ?_ | refine Q08 rfl ?_))
  exact Q16 1 rfl rfl rfl rfl (fun a w' st => ⟨st.kp, by rw [if_neg (fun h => hone ((hP dd).2 h))]; rfl⟩)


section
variable {c : Cx} {Q : Exit → Act → World → Prop} {F : SFrame} {H : SHeap} {id : Nat} {ops : Array Oper}
def edges (ops : Array Oper) : List (Nat × Nat) → Array Oper
 | [] => ops
 | p :: es => edge (edges ops es) p.1 p.2
theorem Q9l : ∀ es, (edges ops es).size = ops.size
 | [] => rfl
 | p :: es => by rw [edges, Q8f, Q9l es]
theorem Q77 {kd : Nat → Op → Kind} {tail : Nat} (l : List Nat) : ∀ es, sopsAt kd (edges ops es) tail l = sopsAt kd ops tail l
 | [] => rfl
 | p :: es => by rw [edges, Q2e, Q77 l es]
def JG (c : Cx) (Q : Exit → Act → World → Prop) (ops : Array Oper) (es : List (Nat × Nat)) (F : SFrame) (H : SHeap) : Prop :=
 ∀ a w, St c F H a w → ∀ l, Ordr (edges ops es) ops.size (Array.replicate ops.size false) l → wpOps c.P (edges ops es) (Only (Q .normal)) l a { w with drawn := w.drawn + 1 }
theorem Qho {es : List (Nat × Nat)} (i j : Nat) (hij : i ≠ j) (h1 : JG c Q ops ((i, j) :: es) F H) (h2 : JG c Q ops ((j, i) :: es) F H) : JG c Q ops es F H := fun a w st l hl => by
 rcases Q6a hij _ _ _ hl with h | h
 ·exact Q22 _ _ _ (h1 a w st l h)
 ·exact Q22 _ _ _ (h2 a w st l h)
theorem Qcy {es : List (Nat × Nat)} (Hs : SHeap) (hHs : HSub Hs H) (kd : Nat → Op → Kind) (t : Nat) (o : List Nat) (hB : canonB c.P kd (edges ops es) o t = true) (h : JO c Q (.draw Hs true) (sopsAt kd ops t o) F H) : JG c Q ops es F H := fun a w st l hl => by
 have a1 := Q2y (Q := Q) hB st (hHs.hsat st.hs) (by rw [Q77]; exact h.h)
 rw [Q9l] at a1
 obtain ⟨t', ht⟩ := Q6z _ _ _ hl
 have := wpAny_sound ops.size t' _ a _ a1
 rw [ht] at this
 exact this
theorem Qji (hm : c.P.follows .mixedOrders = true) (h : JG c Q ops [] F H) : JC c Q (.raw (.region id ops true)) F H := ⟨fun a w st => by
 show (Code.region id ops true).wp c.P Q a w
 refine wp_mono ?_ (fun e a w h => Only.up e a w h)
 refine wp_region_draw fun t => ?_
 simp only [Region.schedule, hm, Bool.true_or, if_true]
 exact h a w st _ (Qah (ops := ops) ops.size t (Array.replicate ops.size false))⟩
theorem Qjh {s : SCode} (F0 : SFrame) (H0 : SHeap) (rest : JX c Q .normal F0 H0) (h : JX c Q .normal F0 H0 → JC c Q s F H) : JC c Q s F H := h rest
end


theorem Q1n {w : World} {b n : Nat} {vs : List Value} (xs : List Int) (hb : w.heap[b]? = some (.cells ⟨vs⟩ 3)) (hv : vs = xs.map iv) (hn : xs.length = n) : WI w (.slice (some ⟨b, 0, none⟩) n n) n xs := by
 subst hv
 refine ⟨by simp [hn], _, _, rfl, Nat.le_refl _, fun _ => ⟨⟨b, 0, rfl⟩, fun j u hu => ?_⟩⟩
 simp only [vAt, Nat.zero_add]
 exact Q18 hb (by simpa using hu)
theorem Q9t {w : World} {b n : Nat} {ss : List Value} (xss : List (List Int)) (hb : w.heap[b]? = some (.cells ⟨ss⟩ 22)) (hl : ss.length = n) (hx : xss.length = n) (h : ∀ i, i < n → WI w (ss.getD i (iv 0)) (xss.getD i []).length (xss.getD i [])) : IsRows w (.slice (some ⟨b, 0, none⟩) n n) xss := by
 subst hx
 refine ⟨ss, ⟨by omega, _, _, rfl, Nat.le_refl _, fun _ => ⟨⟨b, 0, rfl⟩, fun j u hu => ?_⟩⟩, h⟩
 simp only [vAt, Nat.zero_add]
 exact Q18 hb (by simpa using hu)
theorem Qcz {w : World} {b : Nat} {s : Value} (xs : List Int) (hb : w.heap[b]? = some (.cells ⟨[s]⟩ 22)) (h : WI w s xs.length xs) : IsRows w (.slice (some ⟨b, 0, none⟩) 1 1) [xs] :=
 Q9t [xs] hb rfl rfl fun i hi => by
  obtain rfl : i = 0 := by omega
  exact h
theorem Q1c {w : World} {b : Nat} {s s' : Value} (xs xs' : List Int) (hb : w.heap[b]? = some (.cells ⟨[s, s']⟩ 22)) (h : WI w s xs.length xs) (h' : WI w s' xs'.length xs') : IsRows w (.slice (some ⟨b, 0, none⟩) 2 2) [xs, xs'] :=
 Q9t [xs, xs'] hb rfl rfl fun i hi => by
  rcases (show i = 0 ∨ i = 1 by omega) with rfl | rfl
  ·exact h
  ·exact h'
theorem Q3u (w : World) (v u : Value) (m : ZM) (hm : RtZ m) (hv : IsM w v m) (hu : IsM w u m) : Calls Tryz.prog 22 #[v, u] w (Ret fun v w' => Kp [] w w' ∧ v = .bool true) :=
 (Qm9 w v u m m hm hm hv hu).mono fun e w' h => by
  cases e with
  | returned v =>
   obtain ⟨hk, hb⟩ := h
   exact ⟨hk, by obtain ⟨b, rfl, hb⟩ := hb; rw [hb.2 rfl]⟩
  | panicked _ => exact h
  | outgrown => exact h

theorem Q2h {xss : List (List Int)} (h : ∀ l ∈ xss, ∀ x ∈ l, I64 x) : ∀ i j, I64 ((xss.getD i []).getD j 0) := fun i j => by
 have h0 : I64 0 := ⟨by decide, by decide⟩
 rw [List.getD]
 cases hj : (xss.getD i [])[j]? with
 | none => exact h0
 | some x =>
  have hx := List.mem_of_getElem? hj
  rw [List.getD] at hx
  cases hi : xss[i]? with
  | none => rw [hi] at hx; cases hx
  | some l => rw [hi] at hx; exact h l (List.mem_of_getElem? hi) x hx
instance (n : Int) : Decidable (I64 n) := by unfold I64; infer_instance

def sA : ZM := ⟨2, 2, [1, 2, 3, 4]⟩
theorem Qkv : RtZ sA := ⟨by decide, by decide, rfl⟩
theorem Qn4 : mulZ sA ⟨2, 2, [0, 1, 1, 0]⟩ = ⟨2, 2, [2, 1, 4, 3]⟩ := by kernel_rfl
theorem Qjn : det 2 sA.at = -2 := by decide
theorem Qn3 : det 2 (ZM.mk 2 2 [2, 1, 1, 1]).at = 1 := by decide
theorem Qku : partZ ⟨2, 3, [1, 2, 3, 4, 5, 6]⟩ 1 1 1 2 = ⟨1, 2, [5, 6]⟩ := by kernel_rfl
theorem Q8v {K : Nat} {m : ZM} (h : ∀ x ∈ m.e, x.natAbs < 256 ^ K) : BdZ K m := fun i => by
 rw [List.getD]
 cases hi : m.e[i]? with
 | none => exact Nat.pow_pos (by decide)
 | some x => exact h x (List.mem_of_getElem? hi)
theorem Qka {b : Nat} {m : ZM} (h : ∀ x ∈ m.e, x.natAbs ≤ b) : ∀ i j, i < m.r → j < m.r → (m.at i j).natAbs ≤ b := fun i j _ _ => by
 show (m.e.getD (i * m.c + j) 0).natAbs ≤ b
 rw [List.getD]
 cases hi : m.e[i * m.c + j]? with
 | none => exact Nat.zero_le _
 | some x => exact h x (List.mem_of_getElem? hi)
theorem Qns (x : ZM) (hx : RtZ x) (hr : x.r = 2) (hc : x.c = 2) (h : ∀ i j, i < 2 → j < 2 → mmI 2 x.at (ZM.mk 2 2 [2, 1, 1, 1]).at i j = idI i j) : ⟨2, 2, [1, -1, -1, 2]⟩ = x := by
 have h00 := h 0 0 (by decide) (by decide)
 have h01 := h 0 1 (by decide) (by decide)
 have h10 := h 1 0 (by decide) (by decide)
 have h11 := h 1 1 (by decide) (by decide)
 obtain ⟨r, c, e⟩ := x
 dsimp only at hr hc
 subst hr hc
 have hl := hx.len
 dsimp only at hl
 match e, hl with
 | [a, b, c, d], _ =>
  have e00 : 0 + a * 2 + b * 1 = 1 := h00
  have e01 : 0 + a * 1 + b * 1 = 0 := h01
  have e10 : 0 + c * 2 + d * 1 = 0 := h10
  have e11 : 0 + c * 1 + d * 1 = 1 := h11
  obtain rfl : a = 1 := by omega
  obtain rfl : b = -1 := by omega
  obtain rfl : c = -1 := by omega
  obtain rfl : d = 2 := by omega
  rfl

set_option maxHeartbeats 16000000 in
theorem Qj2 (w : World) : Calls Tryz.prog 4 #[] w (Ret fun v w' => Kp [] w w' ∧ v = .bool true) := by
 refine Q9n [7] [⟨2, 2, [], []⟩, ⟨8, 1, [], []⟩] [] (by simp) [] Tryz.func4 rfl mixed (by kernel_rfl) Tryz.ntmps4 Tryz.results4 rfl ⟨by simp, by simp⟩ (by simp) ?_
 simp only [toR, inR, cond_true, cond_false, Nat.reduceBEq, toS, textOps, toSOp, kindAt, kindOf, odAt, sopsAt, ordOf, zipF]
 (repeat' (first | refine JC.seq ?_ | refine JC.ops ?_ | refine JO.nil ?_ | refine Q00 ?_ | (apply Q02; (iterate 3 exact rfl)) | (apply Q0w; (iterate 5 exact rfl); (repeat first | exact trivial | refine ⟨rfl, ?_⟩); decide; decide; intro _)))
 refine Q0h (A := [_, _, _]) (B := []) rfl (by first | trivial | exact ⟨rfl, rfl⟩) rfl (by first | rfl | exact ⟨rfl, rfl⟩) rfl (fun w hk hs => c_Of w _ [[1, 2], [3, 4]] (Q1c _ _ (Q1j hs 0 rfl) (Q1n [1, 2] (Q1j hs 2 rfl) rfl rfl) (Q1n [3, 4] (Q1j hs 1 rfl) rfl rfl)) (by decide) (by decide) (Q2h (by decide))) fun w v w' _ _ _ hR => ?_
 rw [show ofZ [[1, 2], [3, 4]] = ⟨2, 2, [1, 2, 3, 4]⟩ by kernel_rfl] at hR
 obtain ⟨N1, hN1, E1, rfl, hO1⟩ := hR
 obtain ⟨A1, c1, rfl⟩ := hO1.form
 refine ⟨N1, hN1, ?_⟩
 (repeat' (first | refine JO.nil ?_ | (apply Q05; exact rfl; (first | exact trivial | exact ⟨rfl, rfl⟩); exact rfl; exact rfl; exact at0; (iterate 3 exact rfl)) | (apply Q0e; (iterate 3 exact rfl); intro _) | (apply Q05; exact rfl; (first | exact trivial | exact ⟨rfl, rfl⟩); exact rfl; exact rfl; exact at0; (iterate 3 exact rfl))))
 rename_i b1
 refine JX.part (F' := [(1, .pointer (some ⟨b1, 0, none⟩))]) (H' := [(b1, .cells #[nv 2, nv 2, .slice A1 4 c1] 29)] ++ (N1 ++ [])) (by repeat first | exact trivial | refine ⟨rfl, ?_⟩) (by (repeat' first | exact HSub.refl _ | exact HSub.nil _ | refine HSub.at 0 rfl ?_ | refine HSub.at 1 rfl ?_ | refine HSub.at 2 rfl ?_ | refine HSub.at 3 rfl ?_ | refine HSub.at 4 rfl ?_ | refine HSub.at 5 rfl ?_ | refine HSub.at 6 rfl ?_ | refine HSub.at 7 rfl ?_ | refine HSub.at 8 rfl ?_ | refine HSub.at 9 rfl ?_ | refine HSub.at 10 rfl ?_ | refine HSub.at 11 rfl ?_ | refine HSub.at 12 rfl ?_ | refine HSub.at 13 rfl ?_ | refine HSub.at 14 rfl ?_ | refine HSub.at 15 rfl ?_ | refine HSub.at 16 rfl ?_ | refine HSub.at 17 rfl ?_ | refine HSub.at 18 rfl ?_ | refine HSub.at 19 rfl ?_ | refine Q0l ?_ | refine HSub.skip ?_ | refine Q01 ?_)) ?_
 refine Q00 ?_
 (repeat' (first | refine JC.seq ?_ | refine JC.opsD ?_ | (apply Q0d; (iterate 4 exact rfl); exact at0; exact rfl) | (apply Q0w; (iterate 5 exact rfl); (repeat first | exact trivial | refine ⟨rfl, ?_⟩); decide; decide; intro _)))
 refine Q0h (A := [_, _, _, _]) (B := N1 ++ []) rfl (by first | trivial | exact ⟨rfl, rfl⟩) rfl (by first | rfl | exact ⟨rfl, rfl⟩) rfl (fun w hk hs => c_Of w _ [[0, 1], [1, 0]] (Q1c _ _ (Q1j hs 0 rfl) (Q1n [0, 1] (Q1j hs 2 rfl) rfl rfl) (Q1n [1, 0] (Q1j hs 1 rfl) rfl rfl)) (by decide) (by decide) (Q2h (by decide))) fun w v w' _ _ _ hR => ?_
 rw [show ofZ [[0, 1], [1, 0]] = ⟨2, 2, [0, 1, 1, 0]⟩ by kernel_rfl] at hR
 obtain ⟨N2, hN2, Ez, rfl, hOz⟩ := hR
 obtain ⟨Az, cz, rfl⟩ := hOz.form
 refine ⟨N2, hN2, ?_⟩
 skip
 refine Q0h (A := [_, _, _, _]) (B := N2 ++ (N1 ++ [])) rfl (by first | trivial | exact ⟨rfl, rfl⟩) rfl rfl rfl (fun w hk hs => Qo2 1 1 w _ _ sA ⟨2, 2, [0, 1, 1, 0]⟩ Qkv ⟨by decide, by decide, rfl⟩ rfl (by decide) (Q8v (by decide)) (Q8v (by decide)) ⟨_, rfl, hO1.rd.at hk hs (by (repeat' first | exact HSub.nil _ | exact HSub.hd | exact Q03 | exact HSub.refl _ | refine HSub.skip ?_ | refine Q01 ?_))⟩ ⟨_, rfl, hOz.rd.at hk hs (by (repeat' first | exact HSub.nil _ | exact HSub.hd | exact Q03 | exact HSub.refl _ | refine HSub.skip ?_ | refine Q01 ?_))⟩) fun w v w' _ _ _ hR => ?_
 rw [Qn4] at hR
 obtain ⟨N3, u2, rfl, hN3, E2, rfl, hO2⟩ := hR
 obtain ⟨A2, c2, rfl⟩ := hO2.form
 refine ⟨N3, hN3, ?_⟩
 (repeat' (first | refine JO.nil ?_ | (apply Q04; (iterate 3 exact rfl)) | (apply Q02; (iterate 3 exact rfl)) | (apply Q0v; (iterate 4 exact rfl)) | (apply Q05; exact rfl; (first | exact trivial | exact ⟨rfl, rfl⟩); exact rfl; exact rfl; exact at0; (iterate 3 exact rfl)) | (apply Q0e; (iterate 3 exact rfl); intro _) | (apply Q05; exact rfl; (first | exact trivial | exact ⟨rfl, rfl⟩); exact rfl; exact rfl; exact at0; (iterate 3 exact rfl))))
 rename_i b2
 refine JX.part (F' := [(3, .bool true), (2, .pointer (some ⟨b2, 0, none⟩)), (1, .pointer (some ⟨b1, 0, none⟩))]) (H' := [(b2, .cells #[nv 2, nv 2, .slice A2 4 c2] 29), (b1, .cells #[nv 2, nv 2, .slice A1 4 c1] 29)] ++ (N3 ++ (N1 ++ []))) (by repeat first | exact trivial | refine ⟨rfl, ?_⟩) (by (repeat' first | exact HSub.refl _ | exact HSub.nil _ | refine HSub.at 0 rfl ?_ | refine HSub.at 1 rfl ?_ | refine HSub.at 2 rfl ?_ | refine HSub.at 3 rfl ?_ | refine HSub.at 4 rfl ?_ | refine HSub.at 5 rfl ?_ | refine HSub.at 6 rfl ?_ | refine HSub.at 7 rfl ?_ | refine HSub.at 8 rfl ?_ | refine HSub.at 9 rfl ?_ | refine HSub.at 10 rfl ?_ | refine HSub.at 11 rfl ?_ | refine HSub.at 12 rfl ?_ | refine HSub.at 13 rfl ?_ | refine HSub.at 14 rfl ?_ | refine HSub.at 15 rfl ?_ | refine HSub.at 16 rfl ?_ | refine HSub.at 17 rfl ?_ | refine HSub.at 18 rfl ?_ | refine HSub.at 19 rfl ?_ | refine Q0l ?_ | refine HSub.skip ?_ | refine Q01 ?_)) ?_
 refine Q00 ?_
 (repeat' (first | refine JC.seq ?_ | refine JC.ops ?_ | (apply Q0d; (iterate 4 exact rfl); exact at1; exact rfl)))
 refine Q09 (by first | trivial | exact ⟨rfl, rfl⟩) rfl rfl rfl (fun w hk hs => Qma 1 w _ sA Qkv rfl (by decide) (Q8v (by decide)) ⟨_, rfl, hO1.rd.at hk hs (by (repeat' first | exact HSub.nil _ | exact HSub.hd | exact Q03 | exact HSub.refl _ | refine HSub.skip ?_ | refine Q01 ?_))⟩) fun w v w' _ _ _ hR => ?_
 rw [show det sA.r sA.at = -2 from Qjn] at hR
 subst hR
 (repeat' (first | refine JO.nil ?_ | (apply Q04; (iterate 3 exact rfl)) | (apply Q02; (iterate 3 exact rfl)) | (apply Q0v; (iterate 4 exact rfl)) | (apply Q05; exact rfl; (first | exact trivial | exact ⟨rfl, rfl⟩); exact rfl; exact rfl; exact at0; (iterate 3 exact rfl)) | (apply Q0e; (iterate 3 exact rfl); intro _) | (apply Q05; exact rfl; (first | exact trivial | exact ⟨rfl, rfl⟩); exact rfl; exact rfl; exact at0; (iterate 3 exact rfl))))
 rename_i b4
 refine JX.part (F' := [(5, .bool true), (4, .pointer (some ⟨b4, 0, none⟩)), (3, .bool true), (2, .pointer (some ⟨b2, 0, none⟩)), (1, .pointer (some ⟨b1, 0, none⟩))]) (H' := [(b4, .cells (wc (-2)) 34), (b2, .cells #[nv 2, nv 2, .slice A2 4 c2] 29), (b1, .cells #[nv 2, nv 2, .slice A1 4 c1] 29)] ++ (N3 ++ (N1 ++ []))) (by repeat first | exact trivial | refine ⟨rfl, ?_⟩) (by (repeat' first | exact HSub.refl _ | exact HSub.nil _ | refine HSub.at 0 rfl ?_ | refine HSub.at 1 rfl ?_ | refine HSub.at 2 rfl ?_ | refine HSub.at 3 rfl ?_ | refine HSub.at 4 rfl ?_ | refine HSub.at 5 rfl ?_ | refine HSub.at 6 rfl ?_ | refine HSub.at 7 rfl ?_ | refine HSub.at 8 rfl ?_ | refine HSub.at 9 rfl ?_ | refine HSub.at 10 rfl ?_ | refine HSub.at 11 rfl ?_ | refine HSub.at 12 rfl ?_ | refine HSub.at 13 rfl ?_ | refine HSub.at 14 rfl ?_ | refine HSub.at 15 rfl ?_ | refine HSub.at 16 rfl ?_ | refine HSub.at 17 rfl ?_ | refine HSub.at 18 rfl ?_ | refine HSub.at 19 rfl ?_ | refine Q0l ?_ | refine HSub.skip ?_ | refine Q01 ?_)) ?_
 refine Q00 ?_
 (repeat' (first | refine JC.seq ?_ | refine JC.ops ?_ | (apply Q0w; (iterate 5 exact rfl); (repeat first | exact trivial | refine ⟨rfl, ?_⟩); decide; decide; intro _)))
 refine Q0h (A := [_, _, _, _, _, _]) (B := N3 ++ (N1 ++ [])) rfl (by first | trivial | exact ⟨rfl, rfl⟩) rfl (by first | rfl | exact ⟨rfl, rfl⟩) rfl (fun w hk hs => c_Of w _ [[2, 1], [1, 1]] (Q1c _ _ (Q1j hs 0 rfl) (Q1n [2, 1] (Q1j hs 2 rfl) rfl rfl) (Q1n [1, 1] (Q1j hs 1 rfl) rfl rfl)) (by decide) (by decide) (Q2h (by decide))) fun w v w' _ _ _ hR => ?_
 rw [show ofZ [[2, 1], [1, 1]] = ⟨2, 2, [2, 1, 1, 1]⟩ by kernel_rfl] at hR
 obtain ⟨N4, hN4, Ey, rfl, hOy⟩ := hR
 obtain ⟨Ay, cy, rfl⟩ := hOy.form
 refine ⟨N4, hN4, ?_⟩
 skip
 refine Q0h (A := [_, _, _, _, _, _]) (B := N4 ++ (N3 ++ (N1 ++ []))) rfl (by first | trivial | exact ⟨rfl, rfl⟩) rfl rfl rfl (fun w hk hs => Q8m 2 1 (fun k => if k = 0 then 2 else 162) (fun k => if k = 0 then 0 else if k = 1 then 162 else 26568) w _ ⟨2, 2, [2, 1, 1, 1]⟩ ⟨by decide, by decide, rfl⟩ rfl (by decide) (by decide) (Q8v (by decide)) ⟨_, rfl, hOy.rd.at hk hs (by (repeat' first | exact HSub.nil _ | exact HSub.hd | exact Q03 | exact HSub.refl _ | refine HSub.skip ?_ | refine Q01 ?_))⟩ (Qka (by decide)) (by decide) (by decide) (by decide) (by decide) (by decide)) fun w v w' _ _ _ hR => ?_
 rw [if_pos (show (det (ZM.mk 2 2 [2, 1, 1, 1]).r (ZM.mk 2 2 [2, 1, 1, 1]).at).natAbs = 1 from congrArg Int.natAbs Qn3)] at hR
 obtain ⟨xi, hxi, hxr, hxc, hxm, hG⟩ := hR
 obtain rfl := Qns xi hxi hxr hxc hxm
 obtain ⟨N5, u6, rfl, hN5, E6, rfl, hO6⟩ := hG
 obtain ⟨A6, c6, rfl⟩ := hO6.form
 refine ⟨N5, hN5, ?_⟩
 (repeat' (first | refine JO.nil ?_ | (apply Q04; (iterate 3 exact rfl)) | (apply Q02; (iterate 3 exact rfl)) | (apply Q0v; (iterate 4 exact rfl)) | (apply Q05; exact rfl; (first | exact trivial | exact ⟨rfl, rfl⟩); exact rfl; exact rfl; exact at0; (iterate 3 exact rfl)) | (apply Q0e; (iterate 3 exact rfl); intro _) | (apply Q05; exact rfl; (first | exact trivial | exact ⟨rfl, rfl⟩); exact rfl; exact rfl; exact at0; (iterate 3 exact rfl))))
 rename_i b6
 refine JX.part (F' := [(7, .bool true), (6, .pointer (some ⟨b6, 0, none⟩)), (5, .bool true), (4, .pointer (some ⟨b4, 0, none⟩)), (3, .bool true), (2, .pointer (some ⟨b2, 0, none⟩)), (1, .pointer (some ⟨b1, 0, none⟩))]) (H' := [(b6, .cells #[nv 2, nv 2, .slice A6 4 c6] 29), (b4, .cells (wc (-2)) 34), (b2, .cells #[nv 2, nv 2, .slice A2 4 c2] 29), (b1, .cells #[nv 2, nv 2, .slice A1 4 c1] 29)] ++ (N5 ++ (N3 ++ (N1 ++ [])))) (by repeat first | exact trivial | refine ⟨rfl, ?_⟩) (by (repeat' first | exact HSub.refl _ | exact HSub.nil _ | refine HSub.at 0 rfl ?_ | refine HSub.at 1 rfl ?_ | refine HSub.at 2 rfl ?_ | refine HSub.at 3 rfl ?_ | refine HSub.at 4 rfl ?_ | refine HSub.at 5 rfl ?_ | refine HSub.at 6 rfl ?_ | refine HSub.at 7 rfl ?_ | refine HSub.at 8 rfl ?_ | refine HSub.at 9 rfl ?_ | refine HSub.at 10 rfl ?_ | refine HSub.at 11 rfl ?_ | refine HSub.at 12 rfl ?_ | refine HSub.at 13 rfl ?_ | refine HSub.at 14 rfl ?_ | refine HSub.at 15 rfl ?_ | refine HSub.at 16 rfl ?_ | refine HSub.at 17 rfl ?_ | refine HSub.at 18 rfl ?_ | refine HSub.at 19 rfl ?_ | refine Q0l ?_ | refine HSub.skip ?_ | refine Q01 ?_)) ?_
 refine Q00 ?_
 (repeat' (first | refine JC.seq ?_ | refine JC.ops ?_ | (apply Q0d; (iterate 4 exact rfl); exact at3; exact rfl)))
 refine Q09 (by first | trivial | exact ⟨rfl, rfl⟩) rfl rfl rfl (fun w hk hs => (Q8m 3 1 (fun k => if k = 0 then 4 else 900) (fun k => if k = 0 then 0 else if k = 1 then 900 else 811800) w _ sA Qkv rfl (by decide) (by decide) (Q8v (by decide)) ⟨_, rfl, hO1.rd.at hk hs (by (repeat' first | exact HSub.nil _ | exact HSub.hd | exact Q03 | exact HSub.refl _ | refine HSub.skip ?_ | refine Q01 ?_))⟩ (Qka (by decide)) (by decide) (by decide) (by decide) (by decide) (by decide)) ) fun w v w' _ _ _ hR => ?_
 rw [if_neg (show ¬ (det sA.r sA.at).natAbs = 1 by rw [show det sA.r sA.at = -2 from Qjn]; decide)] at hR
 subst hR
 (repeat' (first | refine JO.nil ?_ | (apply Q04; (iterate 3 exact rfl)) | (apply Q02; (iterate 3 exact rfl)) | (apply Q0v; (iterate 4 exact rfl)) | (apply Q05; exact rfl; (first | exact trivial | exact ⟨rfl, rfl⟩); exact rfl; exact rfl; exact at0; (iterate 3 exact rfl)) | (apply Q0e; (iterate 3 exact rfl); intro _) | (apply Q05; exact rfl; (first | exact trivial | exact ⟨rfl, rfl⟩); exact rfl; exact rfl; exact at0; (iterate 3 exact rfl))))
 refine JX.part (F' := [(9, .bool false), (7, .bool true), (6, .pointer (some ⟨b6, 0, none⟩)), (5, .bool true), (4, .pointer (some ⟨b4, 0, none⟩)), (3, .bool true), (2, .pointer (some ⟨b2, 0, none⟩))]) (H' := [(b6, .cells #[nv 2, nv 2, .slice A6 4 c6] 29), (b4, .cells (wc (-2)) 34), (b2, .cells #[nv 2, nv 2, .slice A2 4 c2] 29)] ++ (N5 ++ (N3 ++ []))) (by repeat first | exact trivial | refine ⟨rfl, ?_⟩) (by (repeat' first | exact HSub.refl _ | exact HSub.nil _ | refine HSub.at 0 rfl ?_ | refine HSub.at 1 rfl ?_ | refine HSub.at 2 rfl ?_ | refine HSub.at 3 rfl ?_ | refine HSub.at 4 rfl ?_ | refine HSub.at 5 rfl ?_ | refine HSub.at 6 rfl ?_ | refine HSub.at 7 rfl ?_ | refine HSub.at 8 rfl ?_ | refine HSub.at 9 rfl ?_ | refine HSub.at 10 rfl ?_ | refine HSub.at 11 rfl ?_ | refine HSub.at 12 rfl ?_ | refine HSub.at 13 rfl ?_ | refine HSub.at 14 rfl ?_ | refine HSub.at 15 rfl ?_ | refine HSub.at 16 rfl ?_ | refine HSub.at 17 rfl ?_ | refine HSub.at 18 rfl ?_ | refine HSub.at 19 rfl ?_ | refine Q0l ?_ | refine HSub.skip ?_ | refine Q01 ?_)) ?_
 refine Q00 ?_
 (repeat' (first | refine JC.seq ?_ | refine JC.ops ?_ | (apply Q0w; (iterate 5 exact rfl); (repeat first | exact trivial | refine ⟨rfl, ?_⟩); decide; decide; intro _)))
 refine Q0h (A := [_, _, _, _, _, _]) (B := N5 ++ (N3 ++ [])) rfl (by first | trivial | exact ⟨rfl, rfl⟩) rfl (by first | rfl | exact ⟨rfl, rfl⟩) rfl (fun w hk hs => c_Of w _ [[1, 2, 3], [4, 5, 6]] (Q1c _ _ (Q1j hs 0 rfl) (Q1n [1, 2, 3] (Q1j hs 2 rfl) rfl rfl) (Q1n [4, 5, 6] (Q1j hs 1 rfl) rfl rfl)) (by decide) (by decide) (Q2h (by decide))) fun w v w' _ _ _ hR => ?_
 rw [show ofZ [[1, 2, 3], [4, 5, 6]] = ⟨2, 3, [1, 2, 3, 4, 5, 6]⟩ by kernel_rfl] at hR
 obtain ⟨N6, hN6, Ex, rfl, hOx⟩ := hR
 obtain ⟨Ax, cx, rfl⟩ := hOx.form
 refine ⟨N6, hN6, ?_⟩
 skip
 refine Q0h (A := [_, _, _, _, _, _]) (B := N6 ++ (N5 ++ (N3 ++ []))) rfl (by first | trivial | exact ⟨rfl, rfl⟩) rfl rfl rfl (fun w hk hs => Qk4 w _ ⟨2, 3, [1, 2, 3, 4, 5, 6]⟩ 1 1 1 2 ⟨by decide, by decide, rfl⟩ (by decide) (by decide) ⟨_, rfl, hOx.rd.at hk hs (by (repeat' first | exact HSub.nil _ | exact HSub.hd | exact Q03 | exact HSub.refl _ | refine HSub.skip ?_ | refine Q01 ?_))⟩) fun w v w' _ _ _ hR => ?_
 rw [Qku] at hR
 obtain ⟨N7, u7, rfl, hN7, E10, rfl, hO10⟩ := hR
 obtain ⟨A10, c10, rfl⟩ := hO10.form
 refine ⟨N7, hN7, ?_⟩
 (repeat' (first | refine JO.nil ?_ | (apply Q04; (iterate 3 exact rfl)) | (apply Q02; (iterate 3 exact rfl)) | (apply Q0v; (iterate 4 exact rfl)) | (apply Q05; exact rfl; (first | exact trivial | exact ⟨rfl, rfl⟩); exact rfl; exact rfl; exact at0; (iterate 3 exact rfl)) | (apply Q0e; (iterate 3 exact rfl); intro _) | (apply Q05; exact rfl; (first | exact trivial | exact ⟨rfl, rfl⟩); exact rfl; exact rfl; exact at0; (iterate 3 exact rfl))))
 rename_i b10
 refine JX.part (F' := [(11, .bool true), (10, .pointer (some ⟨b10, 0, none⟩)), (9, .bool false), (7, .bool true), (6, .pointer (some ⟨b6, 0, none⟩)), (5, .bool true), (4, .pointer (some ⟨b4, 0, none⟩)), (3, .bool true), (2, .pointer (some ⟨b2, 0, none⟩))]) (H' := [(b10, .cells #[nv 1, nv 2, .slice A10 2 c10] 29), (b6, .cells #[nv 2, nv 2, .slice A6 4 c6] 29), (b4, .cells (wc (-2)) 34), (b2, .cells #[nv 2, nv 2, .slice A2 4 c2] 29)] ++ (N7 ++ (N5 ++ (N3 ++ [])))) (by repeat first | exact trivial | refine ⟨rfl, ?_⟩) (by (repeat' first | exact HSub.refl _ | exact HSub.nil _ | refine HSub.at 0 rfl ?_ | refine HSub.at 1 rfl ?_ | refine HSub.at 2 rfl ?_ | refine HSub.at 3 rfl ?_ | refine HSub.at 4 rfl ?_ | refine HSub.at 5 rfl ?_ | refine HSub.at 6 rfl ?_ | refine HSub.at 7 rfl ?_ | refine HSub.at 8 rfl ?_ | refine HSub.at 9 rfl ?_ | refine HSub.at 10 rfl ?_ | refine HSub.at 11 rfl ?_ | refine HSub.at 12 rfl ?_ | refine HSub.at 13 rfl ?_ | refine HSub.at 14 rfl ?_ | refine HSub.at 15 rfl ?_ | refine HSub.at 16 rfl ?_ | refine HSub.at 17 rfl ?_ | refine HSub.at 18 rfl ?_ | refine HSub.at 19 rfl ?_ | refine Q0l ?_ | refine HSub.skip ?_ | refine Q01 ?_)) ?_
 refine Q00 ?_
 (repeat' (first | refine JC.seq ?_))
 refine Qjh [(12, .bool true), (11, .bool true), (10, .pointer (some ⟨b10, 0, none⟩)), (9, .bool false), (7, .bool true), (6, .pointer (some ⟨b6, 0, none⟩)), (5, .bool true), (4, .pointer (some ⟨b4, 0, none⟩))] ([(b10, .cells #[nv 1, nv 2, .slice A10 2 c10] 29), (b6, .cells #[nv 2, nv 2, .slice A6 4 c6] 29), (b4, .cells (wc (-2)) 34)] ++ (N7 ++ (N5 ++ []))) ?_ (fun rest => ?_)
 ·refine Q00 ?_
  (repeat' (first | refine JC.seq ?_ | refine JC.opsD ?_ | (apply Q04; (iterate 3 exact rfl)) | (apply Q0d; (iterate 4 exact rfl); exact at2; exact rfl) | (apply Q0n; (iterate 4 exact rfl))))
  refine Q09 (by first | trivial | exact ⟨rfl, rfl⟩) rfl (by first | rfl | exact ⟨rfl, rfl⟩) rfl (fun w _ _ => Qaz w (-2) (by decide) (by decide)) fun w v w' _ _ _ hR => ?_
  subst hR
  (repeat' (first | (apply Q04; (iterate 3 exact rfl)) | (apply Q0d; (iterate 4 exact rfl); exact at1; exact rfl) | (apply Q0n; (iterate 4 exact rfl)) | (apply Qng; (iterate 4 exact rfl); (first | exact rfl | assumption)) | (apply Q0w; (iterate 5 exact rfl); (repeat first | exact trivial | refine ⟨rfl, ?_⟩); decide; decide; intro _)))
  refine Q0h (A := [_, _, _, _, _, _]) (B := N7 ++ (N5 ++ [])) rfl (by first | trivial | exact ⟨rfl, rfl⟩) rfl (by first | rfl | exact ⟨rfl, rfl⟩) rfl (fun w hk hs => c_Of w _ [[1, -1], [-1, 2]] (Q1c _ _ (Q1j hs 0 rfl) (Q1n [1, -1] (Q1j hs 2 rfl) rfl rfl) (Q1n [-1, 2] (Q1j hs 1 rfl) rfl rfl)) (by decide) (by decide) (Q2h (by decide))) fun w v w' _ _ _ hR => ?_
  rw [show ofZ [[1, -1], [-1, 2]] = ⟨2, 2, [1, -1, -1, 2]⟩ by kernel_rfl] at hR
  obtain ⟨N8, hN8, Ep, rfl, hOp⟩ := hR
  obtain ⟨Ap, cp, rfl⟩ := hOp.form
  refine ⟨N8, hN8, ?_⟩
  skip
  refine Q09 (by first | trivial | exact ⟨rfl, rfl⟩) rfl (by first | rfl | exact ⟨rfl, rfl⟩) rfl (fun w hk hs => Q3u w _ _ ⟨2, 2, [1, -1, -1, 2]⟩ ⟨by decide, by decide, rfl⟩ ⟨_, rfl, hO6.rd.at hk hs (by (repeat' first | exact HSub.nil _ | exact HSub.hd | exact Q03 | exact HSub.refl _ | refine HSub.skip ?_ | refine Q01 ?_))⟩ ⟨_, rfl, hOp.rd.at hk hs (by (repeat' first | exact HSub.nil _ | exact HSub.hd | exact Q03 | exact HSub.refl _ | refine HSub.skip ?_ | refine Q01 ?_))⟩) fun w v w' _ _ _ hR => ?_
  subst hR
  (repeat' (first | (apply Q04; (iterate 3 exact rfl)) | (apply Q0d; (iterate 4 exact rfl); exact at0; exact rfl) | (apply Q0n; (iterate 4 exact rfl)) | (apply Q1e; (iterate 3 exact rfl)) | (apply Q0w; (iterate 5 exact rfl); (repeat first | exact trivial | refine ⟨rfl, ?_⟩); decide; decide; intro _)))
  refine Q0h (A := [_, _, _, _, _, _, _, _]) (B := N8 ++ (N7 ++ (N5 ++ []))) rfl (by first | trivial | exact ⟨rfl, rfl⟩) rfl (by first | rfl | exact ⟨rfl, rfl⟩) rfl (fun w hk hs => c_Of w _ [[5, 6]] (Qcz _ (Q1j hs 0 rfl) (Q1n [5, 6] (Q1j hs 1 rfl) rfl rfl)) (by decide) (by decide) (Q2h (by decide))) fun w v w' _ _ _ hR => ?_
  rw [show ofZ [[5, 6]] = ⟨1, 2, [5, 6]⟩ by kernel_rfl] at hR
  obtain ⟨N9, hN9, Eq, rfl, hOq⟩ := hR
  obtain ⟨Aq, cq, rfl⟩ := hOq.form
  refine ⟨N9, hN9, ?_⟩
  skip
  refine Q09 (by first | trivial | exact ⟨rfl, rfl⟩) rfl (by first | rfl | exact ⟨rfl, rfl⟩) rfl (fun w hk hs => Q3u w _ _ ⟨1, 2, [5, 6]⟩ ⟨by decide, by decide, rfl⟩ ⟨_, rfl, hO10.rd.at hk hs (by (repeat' first | exact HSub.nil _ | exact HSub.hd | exact Q03 | exact HSub.refl _ | refine HSub.skip ?_ | refine Q01 ?_))⟩ ⟨_, rfl, hOq.rd.at hk hs (by (repeat' first | exact HSub.nil _ | exact HSub.hd | exact Q03 | exact HSub.refl _ | refine HSub.skip ?_ | refine Q01 ?_))⟩) fun w v w' _ _ _ hR => ?_
  subst hR
  (repeat' (first | refine JO.nil ?_ | (apply Q02; (iterate 3 exact rfl)) | (apply Q0n; (iterate 4 exact rfl))))
  refine Q00 ?_
  (repeat' (first | refine JC.ret ?_))
  exact Q0j rfl (fun a w' st => ⟨st.kp, rfl⟩)
 ·refine Qji mixed (Qho 3 6 (by decide) (Qcy _ (HSub.refl _) (fun i op => kindAt [] i op) 1 [0, 1, 2, 3, 4, 5, 6, 7, 8, 9, 10, 11, 12, 13, 14, 15, 16, 17, 18, 19, 20] (by kernel_rfl) ?_) (Qho 2 6 (by decide) (Qcy _ (HSub.refl _) (fun i op => kindAt [] i op) 1 [0, 1, 2, 4, 5, 6, 3, 7, 8, 9, 10, 11, 12, 13, 14, 15, 16, 17, 18, 19, 20] (by kernel_rfl) ?_) (Qcy _ (HSub.refl _) (fun i op => kindAt [] i op) 1 [4, 5, 6, 0, 1, 2, 3, 7, 8, 9, 10, 11, 12, 13, 14, 15, 16, 17, 18, 19, 20] (by kernel_rfl) ?_)))
  ·simp only [sopsAt, toSOp, kindAt]
   (repeat' (first | (apply Q0w; (iterate 5 exact rfl); (repeat first | exact trivial | refine ⟨rfl, ?_⟩); decide; decide; intro _)))
   refine Q0h (A := [_, _, _, _, _, _, _]) (B := N7 ++ (N5 ++ (N3 ++ []))) rfl (by first | trivial | exact ⟨rfl, rfl⟩) rfl (by first | rfl | exact ⟨rfl, rfl⟩) rfl (fun w hk hs => c_Of w _ [[1, 2], [3]] (Q1c _ _ (Q1j hs 0 rfl) (Q1n [1, 2] (Q1j hs 2 rfl) rfl rfl) (Q1n [3] (Q1j hs 1 rfl) rfl rfl)) (by decide) (by decide) (Q2h (by decide))) fun w v w' _ _ _ hR => ?_
   rw [show ofZ [[1, 2], [3]] = ⟨2, 2, [1, 2, 3, 0]⟩ by kernel_rfl] at hR
   obtain ⟨N8, hN8, Ep, rfl, hOp⟩ := hR
   obtain ⟨Ap, cp, rfl⟩ := hOp.form
   refine ⟨N8, hN8, ?_⟩
   (repeat' (first | (apply Q0w; (iterate 5 exact rfl); (repeat first | exact trivial | refine ⟨rfl, ?_⟩); decide; decide; intro _)))
   refine Q0h (A := [_, _, _, _, _, _, _, _, _, _]) (B := N8 ++ (N7 ++ (N5 ++ (N3 ++ [])))) rfl (by first | trivial | exact ⟨rfl, rfl⟩) rfl (by first | rfl | exact ⟨rfl, rfl⟩) rfl (fun w hk hs => c_Of w _ [[1, 2], [3, 0]] (Q1c _ _ (Q1j hs 0 rfl) (Q1n [1, 2] (Q1j hs 2 rfl) rfl rfl) (Q1n [3, 0] (Q1j hs 1 rfl) rfl rfl)) (by decide) (by decide) (Q2h (by decide))) fun w v w' _ _ _ hR => ?_
   rw [show ofZ [[1, 2], [3, 0]] = ⟨2, 2, [1, 2, 3, 0]⟩ by kernel_rfl] at hR
   obtain ⟨N9, hN9, Eq, rfl, hOq⟩ := hR
   obtain ⟨Aq, cq, rfl⟩ := hOq.form
   refine ⟨N9, hN9, ?_⟩
   skip
   refine Q09 (by first | trivial | exact ⟨rfl, rfl⟩) rfl (by first | rfl | exact ⟨rfl, rfl⟩) rfl (fun w hk hs => Q3u w _ _ ⟨2, 2, [1, 2, 3, 0]⟩ ⟨by decide, by decide, rfl⟩ ⟨_, rfl, hOp.rd.at hk hs (by (repeat' first | exact HSub.nil _ | exact HSub.hd | exact Q03 | exact HSub.refl _ | refine HSub.skip ?_ | refine Q01 ?_))⟩ ⟨_, rfl, hOq.rd.at hk hs (by (repeat' first | exact HSub.nil _ | exact HSub.hd | exact Q03 | exact HSub.refl _ | refine HSub.skip ?_ | refine Q01 ?_))⟩) fun w v w' _ _ _ hR => ?_
   subst hR
   (repeat' (first | (apply Q04; (iterate 3 exact rfl)) | (apply Q0d; (iterate 4 exact rfl); exact at3; exact rfl) | (apply Q0n; (iterate 4 exact rfl)) | (apply Q0w; (iterate 5 exact rfl); (repeat first | exact trivial | refine ⟨rfl, ?_⟩); decide; decide; intro _)))
   refine Q0h (A := [_, _, _, _, _, _, _, _, _, _, _, _, _]) (B := N9 ++ (N8 ++ (N7 ++ (N5 ++ (N3 ++ []))))) rfl (by first | trivial | exact ⟨rfl, rfl⟩) rfl (by first | rfl | exact ⟨rfl, rfl⟩) rfl (fun w hk hs => c_Of w _ [[2, 1], [4, 3]] (Q1c _ _ (Q1j hs 0 rfl) (Q1n [2, 1] (Q1j hs 2 rfl) rfl rfl) (Q1n [4, 3] (Q1j hs 1 rfl) rfl rfl)) (by decide) (by decide) (Q2h (by decide))) fun w v w' _ _ _ hR => ?_
   rw [show ofZ [[2, 1], [4, 3]] = ⟨2, 2, [2, 1, 4, 3]⟩ by kernel_rfl] at hR
   obtain ⟨N11, hN11, Er, rfl, hOr⟩ := hR
   obtain ⟨Ar, cr, rfl⟩ := hOr.form
   refine ⟨N11, hN11, ?_⟩
   skip
   refine Q09 (by first | trivial | exact ⟨rfl, rfl⟩) rfl (by first | rfl | exact ⟨rfl, rfl⟩) rfl (fun w hk hs => Q3u w _ _ ⟨2, 2, [2, 1, 4, 3]⟩ ⟨by decide, by decide, rfl⟩ ⟨_, rfl, hO2.rd.at hk hs (by (repeat' first | exact HSub.nil _ | exact HSub.hd | exact Q03 | exact HSub.refl _ | refine HSub.skip ?_ | refine Q01 ?_))⟩ ⟨_, rfl, hOr.rd.at hk hs (by (repeat' first | exact HSub.nil _ | exact HSub.hd | exact Q03 | exact HSub.refl _ | refine HSub.skip ?_ | refine Q01 ?_))⟩) fun w v w' _ _ _ hR => ?_
   subst hR
   (repeat' (first | refine JO.nil ?_ | (apply Q02; (iterate 3 exact rfl)) | (apply Q0n; (iterate 4 exact rfl))))
   exact rest.part (by repeat first | exact trivial | refine ⟨rfl, ?_⟩) (by (repeat' first | exact HSub.refl _ | exact HSub.nil _ | refine HSub.at 0 rfl ?_ | refine HSub.at 1 rfl ?_ | refine HSub.at 2 rfl ?_ | refine HSub.at 3 rfl ?_ | refine HSub.at 4 rfl ?_ | refine HSub.at 5 rfl ?_ | refine HSub.at 6 rfl ?_ | refine HSub.at 7 rfl ?_ | refine HSub.at 8 rfl ?_ | refine HSub.at 9 rfl ?_ | refine HSub.at 10 rfl ?_ | refine HSub.at 11 rfl ?_ | refine HSub.at 12 rfl ?_ | refine HSub.at 13 rfl ?_ | refine HSub.at 14 rfl ?_ | refine HSub.at 15 rfl ?_ | refine HSub.at 16 rfl ?_ | refine HSub.at 17 rfl ?_ | refine HSub.at 18 rfl ?_ | refine HSub.at 19 rfl ?_ | refine Q0l ?_ | refine HSub.skip ?_ | refine Q01 ?_))
  ·simp only [sopsAt, toSOp, kindAt]
   (repeat' (first | (apply Q0w; (iterate 5 exact rfl); (repeat first | exact trivial | refine ⟨rfl, ?_⟩); decide; decide; intro _)))
   refine Q0h (A := [_, _, _, _, _, _, _, _, _, _]) (B := N7 ++ (N5 ++ (N3 ++ []))) rfl (by first | trivial | exact ⟨rfl, rfl⟩) rfl (by first | rfl | exact ⟨rfl, rfl⟩) rfl (fun w hk hs => c_Of w _ [[1, 2], [3]] (Q1c _ _ (Q1j hs 3 rfl) (Q1n [1, 2] (Q1j hs 5 rfl) rfl rfl) (Q1n [3] (Q1j hs 4 rfl) rfl rfl)) (by decide) (by decide) (Q2h (by decide))) fun w v w' _ _ _ hR => ?_
   rw [show ofZ [[1, 2], [3]] = ⟨2, 2, [1, 2, 3, 0]⟩ by kernel_rfl] at hR
   obtain ⟨N8, hN8, Ep, rfl, hOp⟩ := hR
   obtain ⟨Ap, cp, rfl⟩ := hOp.form
   refine ⟨N8, hN8, ?_⟩
   skip
   refine Q0h (A := [_, _, _, _, _, _, _, _, _, _]) (B := N8 ++ (N7 ++ (N5 ++ (N3 ++ [])))) rfl (by first | trivial | exact ⟨rfl, rfl⟩) rfl (by first | rfl | exact ⟨rfl, rfl⟩) rfl (fun w hk hs => c_Of w _ [[1, 2], [3, 0]] (Q1c _ _ (Q1j hs 0 rfl) (Q1n [1, 2] (Q1j hs 2 rfl) rfl rfl) (Q1n [3, 0] (Q1j hs 1 rfl) rfl rfl)) (by decide) (by decide) (Q2h (by decide))) fun w v w' _ _ _ hR => ?_
   rw [show ofZ [[1, 2], [3, 0]] = ⟨2, 2, [1, 2, 3, 0]⟩ by kernel_rfl] at hR
   obtain ⟨N9, hN9, Eq, rfl, hOq⟩ := hR
   obtain ⟨Aq, cq, rfl⟩ := hOq.form
   refine ⟨N9, hN9, ?_⟩
   skip
   refine Q09 (by first | trivial | exact ⟨rfl, rfl⟩) rfl (by first | rfl | exact ⟨rfl, rfl⟩) rfl (fun w hk hs => Q3u w _ _ ⟨2, 2, [1, 2, 3, 0]⟩ ⟨by decide, by decide, rfl⟩ ⟨_, rfl, hOp.rd.at hk hs (by (repeat' first | exact HSub.nil _ | exact HSub.hd | exact Q03 | exact HSub.refl _ | refine HSub.skip ?_ | refine Q01 ?_))⟩ ⟨_, rfl, hOq.rd.at hk hs (by (repeat' first | exact HSub.nil _ | exact HSub.hd | exact Q03 | exact HSub.refl _ | refine HSub.skip ?_ | refine Q01 ?_))⟩) fun w v w' _ _ _ hR => ?_
   subst hR
   (repeat' (first | (apply Q04; (iterate 3 exact rfl)) | (apply Q0d; (iterate 4 exact rfl); exact at3; exact rfl) | (apply Q0n; (iterate 4 exact rfl)) | (apply Q0w; (iterate 5 exact rfl); (repeat first | exact trivial | refine ⟨rfl, ?_⟩); decide; decide; intro _)))
   refine Q0h (A := [_, _, _, _, _, _, _, _, _, _, _, _, _]) (B := N9 ++ (N8 ++ (N7 ++ (N5 ++ (N3 ++ []))))) rfl (by first | trivial | exact ⟨rfl, rfl⟩) rfl (by first | rfl | exact ⟨rfl, rfl⟩) rfl (fun w hk hs => c_Of w _ [[2, 1], [4, 3]] (Q1c _ _ (Q1j hs 0 rfl) (Q1n [2, 1] (Q1j hs 2 rfl) rfl rfl) (Q1n [4, 3] (Q1j hs 1 rfl) rfl rfl)) (by decide) (by decide) (Q2h (by decide))) fun w v w' _ _ _ hR => ?_
   rw [show ofZ [[2, 1], [4, 3]] = ⟨2, 2, [2, 1, 4, 3]⟩ by kernel_rfl] at hR
   obtain ⟨N11, hN11, Er, rfl, hOr⟩ := hR
   obtain ⟨Ar, cr, rfl⟩ := hOr.form
   refine ⟨N11, hN11, ?_⟩
   skip
   refine Q09 (by first | trivial | exact ⟨rfl, rfl⟩) rfl (by first | rfl | exact ⟨rfl, rfl⟩) rfl (fun w hk hs => Q3u w _ _ ⟨2, 2, [2, 1, 4, 3]⟩ ⟨by decide, by decide, rfl⟩ ⟨_, rfl, hO2.rd.at hk hs (by (repeat' first | exact HSub.nil _ | exact HSub.hd | exact Q03 | exact HSub.refl _ | refine HSub.skip ?_ | refine Q01 ?_))⟩ ⟨_, rfl, hOr.rd.at hk hs (by (repeat' first | exact HSub.nil _ | exact HSub.hd | exact Q03 | exact HSub.refl _ | refine HSub.skip ?_ | refine Q01 ?_))⟩) fun w v w' _ _ _ hR => ?_
   subst hR
   (repeat' (first | refine JO.nil ?_ | (apply Q02; (iterate 3 exact rfl)) | (apply Q0n; (iterate 4 exact rfl))))
   exact rest.part (by repeat first | exact trivial | refine ⟨rfl, ?_⟩) (by (repeat' first | exact HSub.refl _ | exact HSub.nil _ | refine HSub.at 0 rfl ?_ | refine HSub.at 1 rfl ?_ | refine HSub.at 2 rfl ?_ | refine HSub.at 3 rfl ?_ | refine HSub.at 4 rfl ?_ | refine HSub.at 5 rfl ?_ | refine HSub.at 6 rfl ?_ | refine HSub.at 7 rfl ?_ | refine HSub.at 8 rfl ?_ | refine HSub.at 9 rfl ?_ | refine HSub.at 10 rfl ?_ | refine HSub.at 11 rfl ?_ | refine HSub.at 12 rfl ?_ | refine HSub.at 13 rfl ?_ | refine HSub.at 14 rfl ?_ | refine HSub.at 15 rfl ?_ | refine HSub.at 16 rfl ?_ | refine HSub.at 17 rfl ?_ | refine HSub.at 18 rfl ?_ | refine HSub.at 19 rfl ?_ | refine Q0l ?_ | refine HSub.skip ?_ | refine Q01 ?_))
  ·simp only [sopsAt, toSOp, kindAt]
   (repeat' (first | (apply Q0w; (iterate 5 exact rfl); (repeat first | exact trivial | refine ⟨rfl, ?_⟩); decide; decide; intro _)))
   refine Q0h (A := [_, _, _, _, _, _, _, _, _, _]) (B := N7 ++ (N5 ++ (N3 ++ []))) rfl (by first | trivial | exact ⟨rfl, rfl⟩) rfl (by first | rfl | exact ⟨rfl, rfl⟩) rfl (fun w hk hs => c_Of w _ [[1, 2], [3]] (Q1c _ _ (Q1j hs 0 rfl) (Q1n [1, 2] (Q1j hs 2 rfl) rfl rfl) (Q1n [3] (Q1j hs 1 rfl) rfl rfl)) (by decide) (by decide) (Q2h (by decide))) fun w v w' _ _ _ hR => ?_
   rw [show ofZ [[1, 2], [3]] = ⟨2, 2, [1, 2, 3, 0]⟩ by kernel_rfl] at hR
   obtain ⟨N8, hN8, Ep, rfl, hOp⟩ := hR
   obtain ⟨Ap, cp, rfl⟩ := hOp.form
   refine ⟨N8, hN8, ?_⟩
   skip
   refine Q0h (A := [_, _, _, _, _, _, _, _, _, _]) (B := N8 ++ (N7 ++ (N5 ++ (N3 ++ [])))) rfl (by first | trivial | exact ⟨rfl, rfl⟩) rfl (by first | rfl | exact ⟨rfl, rfl⟩) rfl (fun w hk hs => c_Of w _ [[1, 2], [3, 0]] (Q1c _ _ (Q1j hs 3 rfl) (Q1n [1, 2] (Q1j hs 5 rfl) rfl rfl) (Q1n [3, 0] (Q1j hs 4 rfl) rfl rfl)) (by decide) (by decide) (Q2h (by decide))) fun w v w' _ _ _ hR => ?_
   rw [show ofZ [[1, 2], [3, 0]] = ⟨2, 2, [1, 2, 3, 0]⟩ by kernel_rfl] at hR
   obtain ⟨N9, hN9, Eq, rfl, hOq⟩ := hR
   obtain ⟨Aq, cq, rfl⟩ := hOq.form
   refine ⟨N9, hN9, ?_⟩
   skip
   refine Q09 (by first | trivial | exact ⟨rfl, rfl⟩) rfl (by first | rfl | exact ⟨rfl, rfl⟩) rfl (fun w hk hs => Q3u w _ _ ⟨2, 2, [1, 2, 3, 0]⟩ ⟨by decide, by decide, rfl⟩ ⟨_, rfl, hOp.rd.at hk hs (by (repeat' first | exact HSub.nil _ | exact HSub.hd | exact Q03 | exact HSub.refl _ | refine HSub.skip ?_ | refine Q01 ?_))⟩ ⟨_, rfl, hOq.rd.at hk hs (by (repeat' first | exact HSub.nil _ | exact HSub.hd | exact Q03 | exact HSub.refl _ | refine HSub.skip ?_ | refine Q01 ?_))⟩) fun w v w' _ _ _ hR => ?_
   subst hR
   (repeat' (first | (apply Q04; (iterate 3 exact rfl)) | (apply Q0d; (iterate 4 exact rfl); exact at3; exact rfl) | (apply Q0n; (iterate 4 exact rfl)) | (apply Q0w; (iterate 5 exact rfl); (repeat first | exact trivial | refine ⟨rfl, ?_⟩); decide; decide; intro _)))
   refine Q0h (A := [_, _, _, _, _, _, _, _, _, _, _, _, _]) (B := N9 ++ (N8 ++ (N7 ++ (N5 ++ (N3 ++ []))))) rfl (by first | trivial | exact ⟨rfl, rfl⟩) rfl (by first | rfl | exact ⟨rfl, rfl⟩) rfl (fun w hk hs => c_Of w _ [[2, 1], [4, 3]] (Q1c _ _ (Q1j hs 0 rfl) (Q1n [2, 1] (Q1j hs 2 rfl) rfl rfl) (Q1n [4, 3] (Q1j hs 1 rfl) rfl rfl)) (by decide) (by decide) (Q2h (by decide))) fun w v w' _ _ _ hR => ?_
   rw [show ofZ [[2, 1], [4, 3]] = ⟨2, 2, [2, 1, 4, 3]⟩ by kernel_rfl] at hR
   obtain ⟨N11, hN11, Er, rfl, hOr⟩ := hR
   obtain ⟨Ar, cr, rfl⟩ := hOr.form
   refine ⟨N11, hN11, ?_⟩
   skip
   refine Q09 (by first | trivial | exact ⟨rfl, rfl⟩) rfl (by first | rfl | exact ⟨rfl, rfl⟩) rfl (fun w hk hs => Q3u w _ _ ⟨2, 2, [2, 1, 4, 3]⟩ ⟨by decide, by decide, rfl⟩ ⟨_, rfl, hO2.rd.at hk hs (by (repeat' first | exact HSub.nil _ | exact HSub.hd | exact Q03 | exact HSub.refl _ | refine HSub.skip ?_ | refine Q01 ?_))⟩ ⟨_, rfl, hOr.rd.at hk hs (by (repeat' first | exact HSub.nil _ | exact HSub.hd | exact Q03 | exact HSub.refl _ | refine HSub.skip ?_ | refine Q01 ?_))⟩) fun w v w' _ _ _ hR => ?_
   subst hR
   (repeat' (first | refine JO.nil ?_ | (apply Q02; (iterate 3 exact rfl)) | (apply Q0n; (iterate 4 exact rfl))))
   exact rest.part (by repeat first | exact trivial | refine ⟨rfl, ?_⟩) (by (repeat' first | exact HSub.refl _ | exact HSub.nil _ | refine HSub.at 0 rfl ?_ | refine HSub.at 1 rfl ?_ | refine HSub.at 2 rfl ?_ | refine HSub.at 3 rfl ?_ | refine HSub.at 4 rfl ?_ | refine HSub.at 5 rfl ?_ | refine HSub.at 6 rfl ?_ | refine HSub.at 7 rfl ?_ | refine HSub.at 8 rfl ?_ | refine HSub.at 9 rfl ?_ | refine HSub.at 10 rfl ?_ | refine HSub.at 11 rfl ?_ | refine HSub.at 12 rfl ?_ | refine HSub.at 13 rfl ?_ | refine HSub.at 14 rfl ?_ | refine HSub.at 15 rfl ?_ | refine HSub.at 16 rfl ?_ | refine HSub.at 17 rfl ?_ | refine HSub.at 18 rfl ?_ | refine HSub.at 19 rfl ?_ | refine Q0l ?_ | refine HSub.skip ?_ | refine Q01 ?_))

end Go.Proofs.YtdlmnloikakjpaaGreatDoor

