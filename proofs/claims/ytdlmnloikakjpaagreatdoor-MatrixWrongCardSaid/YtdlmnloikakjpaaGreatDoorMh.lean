import Derived.Test.YtdlmnloikakjpaaGreatDoorMg
namespace Go.Proofs.YtdlmnloikakjpaaGreatDoor
open Go Go.RowKit
set_option linter.unusedSimpArgs false
set_option linter.unusedVariables false
set_option linter.unusedSectionVars false

end Go.Proofs.YtdlmnloikakjpaaGreatDoor

namespace Go.Proofs.YtdlmnloikakjpaaGreatDoor
open Go Go.RowKit Go.Shelf
set_option linter.unusedSimpArgs false
set_option linter.unusedVariables false
set_option linter.unusedSectionVars false

attribute [local go_sem] Oper.semAt_some

def rowV (A : Option Addr) (cap c i : Nat) : Value := .slice (if cap = i * c then A else A.map (·.add (i * c * 2))) ((i + 1) * c - i * c) (cap - i * c)

set_option maxRecDepth 100000 in
set_option maxHeartbeats 4000000 in
theorem Qia (n : Nat) (hn : 1 ≤ n) (l bx r c k cap : Nat) (A : Option Addr) (hr : r ≤ 200) (hc : c ≤ 200) (hl : r * c ≤ k) (hk : k ≤ cap) (J Jx : List {i : Nat // i < r} → World → Prop)
  (hY : ∀ pre (x : {i : Nat // i < r}) W, J pre W → pre.length < r → YieldAt Fence.wide (n - 1) Tryz.prog l #[nv x.1, rowV A cap c x.1] W fun e W' =>
   (e = .returned (.bool true) ∧ J (pre ++ [x]) W' ∧ KB [bx] W W') ∨ (e = .returned (.bool false) ∧ Jx (pre ++ [x]) W'))
  (W : World) (hB : W.heap[bx]? = some (.cells #[nv r, nv c, .slice A k cap] 29)) (h0 : J [] W) :
  CallsIn Fence.wide n Tryz.prog 76 #[.func (.yield l) #[] #[], .pointer (some ⟨bx, 0, none⟩)] W fun e W' => (∃ v, e = .returned v) ∧
   ((∃ ys : List {i : Nat // i < r}, ys.map (·.1) = List.range r ∧ J ys W') ∨ (∃ pre, True ∧ Jx pre W')) := by
 have hb0 : W.cell? ⟨bx, 0, none⟩ = some (nv r) := Q18 hB rfl
 have hb1 : W.cell? ⟨bx, 1, none⟩ = some (nv c) := Q18 hB rfl
 have hb2 : W.cell? ⟨bx, 2, none⟩ = some (.slice A k cap) := Q18 hB rfl
 refine callsIn_of_wp Tryz.func76 rfl trivial ?_ rfl
 simp only [Tryz.ntmps76, List.size_toArray, List.length_cons, List.length_nil, Nat.reduceAdd, Nat.reduceSub, Array.replicate_succ, Array.replicate_zero, List.push_toArray, List.append_toArray, List.nil_append, List.cons_append]
 gi_wp2
 gi_loopw [6] (fun i wr => ∃ q : Nat, q ≤ r ∧ i = .int .i64 (q : Int) ∧ (∃ ys : List {i : Nat // i < r}, ys.map (·.1) = List.range q ∧ J ys wr) ∧ KB [bx] W wr)
  (fun i _ => (r - intOf i).toNat)
 case atStart => exact ⟨0, Nat.zero_le _, by simp, ⟨[], rfl, h0⟩, KB.refl _ _⟩
 case round =>
  obtain ⟨q, hq, rfl, ⟨ys, hys, hJs⟩, hnx⟩ := hrel
  have hw0 : wr.cell? ⟨bx, 0, none⟩ = some (nv r) := (hnx.cell (p := ⟨bx, 0, none⟩) (by simp)).trans hb0
  have hw1 : wr.cell? ⟨bx, 1, none⟩ = some (nv c) := (hnx.cell (p := ⟨bx, 1, none⟩) (by simp)).trans hb1
  have hw2 : wr.cell? ⟨bx, 2, none⟩ = some (.slice A k cap) := (hnx.cell (p := ⟨bx, 2, none⟩) (by simp)).trans hb2
  by_cases hlt : q < r
  ·obtain ⟨fn, tmps, assign, body, hy, hR⟩ := hY ys ⟨q, hlt⟩ wr hJs (by have := congrArg List.length hys; rw [List.length_map, List.length_range] at this; omega)
   dsimp only at hy
   have hqc : q * c ≤ 40000 := Nat.mul_le_mul (show q ≤ 200 by omega) hc
   have hqc1 : (q + 1) * c ≤ r * c := Q90 hlt
   have hqc2 : (q + 1) * c ≤ 40000 := Nat.le_trans hqc1 (rcZ hr hc)
   have e : ((q : Int) + 1) * (c : Int) = (((q + 1) * c : Nat) : Int) := by simp
   have hI0 : 0 ≤ ((q : Int) + 1) * (c : Int) := by rw [e]; exact Int.natCast_nonneg _
   have hI1 : ((q : Int) + 1) * (c : Int) ≤ (cap : Int) := by rw [e]; omega
   have hI3 : ((q : Int) + 1) * (c : Int) ≤ 40000 := by rw [e]; omega
   have hI2 : (q : Int) * (c : Int) ≤ ((q : Int) + 1) * (c : Int) := by rw [Int.add_mul]; omega
   have e2 : (q + 1) * c = (((q : Int) + 1) * (c : Int)).toNat := by rw [e]; rfl
   by_cases hcc : cap = q * c
   ·subst hcc
    simp only [rowV, if_true, Nat.sub_self] at hy
    clear e e2
    gi_wp2
    refine hR.mono ?_
    rintro e W3 (⟨rfl, hJ3, hk3⟩ | ⟨rfl, hJx3⟩)
    ·gi_wp2
     go_roundw
     case rel => exact ⟨q + 1, by omega, by simp, ⟨_, by rw [List.map_append, hys, List.range_succ]; rfl, hJ3⟩, hnx.trans hk3⟩
     case measure => first | (simp [intOf]; done) | (simp [intOf]; omega)
    ·gi_wp2
     refine bodyPost_ret (results_none rfl _ _ _) rfl ?_
     exact ⟨⟨_, rfl⟩, .inr ⟨_, trivial, hJx3⟩⟩
   ·simp only [rowV, if_neg hcc] at hy; clear e e2
    gi_wp2
    refine hR.mono ?_
    rintro e W3 (⟨rfl, hJ3, hk3⟩ | ⟨rfl, hJx3⟩)
    ·gi_wp2
     go_roundw
     case rel => exact ⟨q + 1, by omega, by simp, ⟨_, by rw [List.map_append, hys, List.range_succ]; rfl, hJ3⟩, hnx.trans hk3⟩
     case measure => first | (simp [intOf]; done) | (simp [intOf]; omega)
    ·gi_wp2
     refine bodyPost_ret (results_none rfl _ _ _) rfl ?_
     exact ⟨⟨_, rfl⟩, .inr ⟨_, trivial, hJx3⟩⟩
  ·obtain rfl : q = r := by omega
   gi_wp2
   go_end0
   exact ⟨⟨_, rfl⟩, .inl ⟨ys, hys, hJs⟩⟩

theorem Q41 {r c k cap bx : Nat} {A : Option Addr} (hr : r ≤ 200) (hc : c ≤ 200) (hl : r * c ≤ k) (hk : k ≤ cap) :
  IterOf Tryz.prog 76 #[.pointer (some ⟨bx, 0, none⟩)] (fun i => nv i) (rowV A cap c) r bx (.cells #[nv r, nv c, .slice A k cap] 29) := fun n w hn hb l J Jx W hW _ _ hY h0 =>
 Qia n hn l bx r c k cap A hr hc hl hk J Jx hY W ((hW.block bx (Array.getElem?_eq_some_iff.1 hb).1).trans hb) h0

end Go.Proofs.YtdlmnloikakjpaaGreatDoor

namespace Go.Proofs.YtdlmnloikakjpaaGreatDoor
open Go Go.RowKit
set_option linter.unusedSimpArgs false
set_option linter.unusedVariables false
set_option linter.unusedSectionVars false

theorem Q9q (w : World) (r c k cap : Nat) (A : Option Addr) : Calls Tryz.prog 49 #[.agg #[nv r, nv c, .slice A k cap]] w (Ret fun v w' => Kp [] w w' ∧ ∃ bx, v = .func (.func 76) #[] #[.pointer (some ⟨bx, 0, none⟩)] ∧ New [(bx, .cells #[nv r, nv c, .slice A k cap] 29 (0, 0))] w w') := by
 refine Q0a [] [] (by simp) [] Tryz.func49 rfl mixed (by kernel_rfl) Tryz.ntmps49 Tryz.results49 rfl ⟨by simp, by simp⟩ (by simp) ?_
 simp only [toS, textOps, toSOp, kindAt, kindOf, odAt, sopsAt, ordOf, zipF]
 (repeat' (first | refine JC.seq ?_ | refine JC.ops ?_ | refine JO.nil ?_ | refine Q00 ?_ | (apply Q02; (iterate 3 exact rfl)) | (apply Q0x; (iterate 4 exact rfl); intro _) | (apply Q6t; (iterate 4 exact rfl)) | refine JC.ret ?_))
 exact Q0j rfl (fun a w' st => ⟨st.kp, _, rfl, st.newOf rfl HSub.hd⟩)

theorem Qhs {w : World} {v : Value} {n : Nat} {zs : List Int} (h : WZ w v n zs) (hn : 0 < n) : (vAt v 0).block < w.heap.size := by
 have hl : (xcs (zs.map wz)).length = n * 2 := h.1
 obtain ⟨_, A, cap, rfl, _, hA⟩ := h
 obtain ⟨_, h2⟩ := hA hn
 have h3 := h2 0 _ (List.getElem?_eq_getElem (by omega))
 exact Q46 h3
theorem Q5r {wb : World} {c2 : Cx} {v : Value} {n : Nat} {zs : List Int} (hv : WZ wb v n zs) (hk : Kp [] wb c2.w0) (hge : ∀ k ∈ c2.M, wb.heap.size ≤ k) (N : SHeap) : RdZ c2 N v n zs :=
 Qkc (hv.mono hk) (fun hn hm => by have := Qhs hv hn; have := hge _ hm; omega) N
theorem Q55 {H : SHeap} {n : Nat} (h : ∀ p ∈ H, n ≤ p.1) : ∀ k ∈ keys H, n ≤ k := fun k hk => by
 obtain ⟨p, hp, rfl⟩ := List.mem_map.1 hk
 exact h p hp

def rowI (m : ZM) (i : Nat) : List Int := (m.e.drop (i * m.c)).take m.c
theorem Q4f {m : ZM} {i j : Nat} (hj : j < m.c) : (rowI m i).getD j 0 = m.at i j := Qfr hj
theorem Q3p {m : ZM} {i : Nat} (hm : RtZ m) (hi : i < m.r) : (rowI m i).length = m.c := by
 unfold rowI
 rw [List.length_take, List.length_drop, hm.len]
 have := Q90 (c := m.c) hi
 rw [Nat.add_mul] at this; omega
theorem Qde {m : ZM} {i : Nat} (hm : RtZ m) (hi : i < m.r) : rowI m i = tab m.c (m.at i) := by
 refine Q6q (Q3p hm hi) (fun j hj => ?_)
 rw [Q3i (d := 0) (by rw [Q3p hm hi]; exact hj), Q4f hj]

theorem Q91 {w : World} {A : Option Addr} {n cap : Nat} {zs : List Int} (h : WZ w (.slice A n cap) n zs) : n ≤ cap := by
 obtain ⟨_, A', cap', he, h, _⟩ := h
 cases he
 exact h
theorem Q99 {w : World} {m : ZM} {A : Option Addr} {cap i : Nat} (hm : RtZ m) (h : WZ w (.slice A (m.r * m.c) cap) (m.r * m.c) m.e) (hi : i < m.r) : WZ w (rowV A cap m.c i) m.c (rowI m i) := by
 have hrow := Q90 (c := m.c) hi
 have e1 : (i + 1) * m.c - i * m.c = m.c := by rw [Nat.add_mul]; omega
 have e2 : (i + 1) * m.c = i * m.c + m.c := by rw [Nat.add_mul]; omega
 have hlen := Q3p hm hi
 obtain ⟨hl, A', cap', he, hcap, hA⟩ := h
 simp only [Value.slice.injEq] at he
 obtain ⟨rfl, _, rfl⟩ := he
 refine ⟨by rw [Q6m, List.length_map, hlen], _, _, by unfold rowV; rw [e1], by omega, fun hc => ?_⟩
 obtain ⟨⟨b, o, rfl⟩, h2⟩ := hA (by omega)
 have hne : cap ≠ i * m.c := by omega
 rw [if_neg hne]
 refine ⟨⟨b, o + i * m.c * 2, by simp [Q1y]⟩, fun j u hu => ?_⟩
 have hx : xcs ((rowI m i).map wz) = ((xcs (m.e.map wz)).drop (i * m.c * 2)).take (m.c * 2) := by
  unfold rowI
  rw [List.map_take, List.map_drop, ← Q7h, ← Q7i]
 rw [hx, List.getElem?_take] at hu
 split at hu
 ·rw [List.getElem?_drop] at hu
  have := h2 _ u hu
  unfold rowV
  rw [if_neg hne]
  simpa [Nat.add_assoc, Q1y, vAt] using this
 ·cases hu

set_option maxHeartbeats 2000000 in
theorem Qja (w : World) (v : Value) (n : Nat) (xs : List Int) (hv : WZ w v n xs) (hn : n ≤ 1000000) :
  Calls Tryz.prog 63 #[v] w (Ret fun u w' => Kp [] w w' ∧ ∃ N, New N w w' ∧ OwnZ N u n xs) := by
 obtain ⟨A, cap, rfl⟩ := hv.form
 cases A with
 | none =>
  have h0 : n = 0 ∧ xs = [] := by
   have h1 := hv.len
   rcases Nat.eq_zero_or_pos n with h | h
   ·subst h; exact ⟨rfl, List.eq_nil_of_length_eq_zero h1⟩
   ·obtain ⟨_, A, cap', he, _, hA⟩ := hv
    cases he
    obtain ⟨⟨_, _, h2⟩, _⟩ := hA (by omega)
    cases h2
  obtain ⟨rfl, rfl⟩ := h0
  refine Q0a [] [] (by simp) [] Tryz.func63 rfl mixed (by kernel_rfl) Tryz.ntmps63 Tryz.results63 rfl ⟨by simp, by simp⟩ (by simp) ?_
  simp only [toS, textOps, toSOp, kindAt, kindOf, odAt, sopsAt, ordOf, zipF]
  (repeat' (first | refine JC.seq ?_ | refine JC.ops ?_ | refine JO.nil ?_ | refine Q00 ?_ | (apply Q04; (iterate 3 exact rfl)) | (apply Q02; (iterate 3 exact rfl)) | (apply Qad; (iterate 4 exact rfl)) | refine Q0o ?_ | refine JC.ret ?_ | refine Q08 rfl ?_))
  exact Q0j rfl (fun a w' st => ⟨st.kp, [], New.nil _ _, OwnZ.nil⟩)
 | some ad =>
  refine Q0a [] [] (by simp) [] Tryz.func63 rfl mixed (by kernel_rfl) Tryz.ntmps63 Tryz.results63 rfl ⟨by simp, by simp⟩ (by simp) ?_
  simp only [toS, textOps, toSOp, kindAt, kindOf, odAt, sopsAt, ordOf, zipF]
  (repeat' (first | refine JC.seq ?_ | refine JC.ops ?_ | refine JO.nil ?_ | refine Q00 ?_ | (apply Q04; (iterate 3 exact rfl)) | (apply Q02; (iterate 3 exact rfl)) | (apply Qad; (iterate 4 exact rfl)) | refine JC.skip ?_ | refine Q07 rfl ?_))
  refine Q33 rfl rfl rfl (fun b => ?_)
  (repeat' (first | (apply Q04; (iterate 3 exact rfl))))
  have hO : OwnZ [(b, .cells #[] 34)] (.slice (some ⟨b, 0, none⟩) 0 0) 0 [] := by
   have := OwnRow.mk' (e := 34) (sz := 2) (n := 0) (b := b) (cs := #[]) rfl (by simp only [maxLen]; omega)
   exact this
  refine Qbn (A := []) hO (WZ.rd hv rfl []) (by (repeat' first | exact HSub.nil _ | exact HSub.hd | exact Q03 | exact HSub.refl _ | refine HSub.skip ?_ | refine Q01 ?_)) rfl trivial rfl rfl rfl rfl (by omega) (fun v' N' hO' => ?_)
  rw [Nat.zero_add, List.nil_append] at hO'
  (repeat' (first | refine JO.nil ?_ | refine Q00 ?_ | (apply Q02; (iterate 3 exact rfl)) | refine JC.ret ?_))
  exact Q0j rfl (fun a w' st => ⟨st.kp, N', st.newOf rfl (by (repeat' first | exact HSub.nil _ | exact HSub.hd | exact Q03 | exact HSub.refl _ | refine HSub.skip ?_ | refine Q01 ?_)), hO'⟩)

def trS (m : ZM) (pre : List Nat) (i j : Nat) : List Int := tbz m.c m.r fun a b => if b ∈ pre ∨ (b = i ∧ a < j) then m.at b a else 0
theorem Qd6 (m : ZM) : trS m [] 0 0 = tab (m.c * m.r) fun _ => 0 := by
 rw [← Q9y]
 exact Q13 fun i j _ _ => by simp
theorem Qbc (m : ZM) (pre : List Nat) (i i' : Nat) : trS m pre i 0 = trS m pre i' 0 := Q13 fun a b _ _ => by simp
theorem Qf7 {m : ZM} {pre : List Nat} {i j : Nat} (hi : i < m.r) : (trS m pre i j).set (j * m.r + i) (m.at i j) = trS m pre i (j + 1) := by
 unfold trS
 rw [Q7z hi]
 refine Q13 fun a b ha hb => ?_
 by_cases h : a = j ∧ b = i
 ·obtain ⟨rfl, rfl⟩ := h
  rw [if_pos ⟨rfl, rfl⟩, if_pos (.inr ⟨rfl, by omega⟩)]
 ·rw [if_neg h]
  by_cases h2 : b ∈ pre ∨ (b = i ∧ a < j)
  ·rw [if_pos h2, if_pos]
   rcases h2 with h2 | h2
   ·exact .inl h2
   ·exact .inr ⟨h2.1, by omega⟩
  ·rw [if_neg h2, if_neg]
   rintro (h3 | h3)
   ·exact h2 (.inl h3)
   ·refine h2 (.inr ⟨h3.1, ?_⟩)
    have : ¬ a = j := fun e => h ⟨e, h3.1⟩
    omega
theorem Qd7 (m : ZM) (pre : List Nat) (i : Nat) : trS m pre i m.c = trS m (pre ++ [i]) 0 0 := Q13 fun a b ha hb => by
 have : (b ∈ pre ∨ (b = i ∧ a < m.c)) ↔ (b ∈ pre ++ [i] ∨ (b = 0 ∧ a < 0)) := by simp [ha]
 simp only [this]
theorem Qf8 (m : ZM) : trS m (List.range m.r) 0 0 = (trZ m).e := Q13 fun a b ha hb => by
 rw [if_pos (.inl (List.mem_range.2 hb))]
 rfl

set_option maxHeartbeats 8000000 in
theorem Qct (w : World) (v : Value) (m : ZM) (hm : RtZ m) (hv : IsM w v m) :
  Calls Tryz.prog 16 #[v] w (Ret fun v w' => Kp [] w w' ∧ GivesM (trZ m) w v w') := by
 have hvX := hv.x
 obtain ⟨E, rfl, hE⟩ := hv
 have hl := hm.len
 have hle := hm.le
 have hbr := hm.r
 have hbc := hm.c
 have hcr := rcZ hbc hbr
 rw [hl] at hE
 obtain ⟨A, cap, rfl⟩ := hE.form
 have hcap : m.r * m.c ≤ cap := Q91 hE
 refine Q3a 5 [] Tryz.func16 rfl mixed (by kernel_rfl) Tryz.ntmps16 (by simp) ?_
 simp only [toZ, hasRF, Bool.or_false, Bool.false_or, Bool.or_self, Bool.true_or, cond_true, cond_false, toS, textOps, toSOp, kindAt, kindOf, odAt, sopsAt, ordOf, zipF]

 (repeat' (first | refine JC.seq ?_ | refine JC.ops ?_ | refine JO.nil ?_ | refine Q00 ?_ | (apply Q0d; (iterate 4 exact rfl); exact at1; exact rfl) | (apply Q0e; (iterate 3 exact rfl); intro _) | (apply Q0x; (iterate 4 exact rfl); intro _)))
 rename_i b1 b2
 refine Q09 trivial rfl rfl rfl (fun w hk _ => Q20 w _ m.xm (hvX.mono hk) (by simp [ZM.xm]; omega)) fun w v w' _ _ _ hR => ?_
 obtain ⟨b', rfl, hb⟩ := hR
 obtain rfl := hb.2 hm.rx
 (repeat' (first | refine JC.seq ?_ | refine JC.ops ?_ | refine JO.nil ?_ | refine Q00 ?_ | (apply Q06; (iterate 3 exact rfl)) | (apply Q0g; (iterate 4 exact rfl); exact at1; exact rfl) | (apply Q1e; (iterate 3 exact rfl)) | refine JC.skip ?_ | refine Q07 rfl ?_))
 refine Q0h (A := [_, _]) (B := []) rfl trivial rfl rfl rfl (fun w hk _ => Qe2 m.c m.r hbc hbr w) fun w v w' _ _ _ hR => ?_
 obtain ⟨N, Eo, hN, rfl, hO⟩ := hR
 obtain ⟨Ao, co, rfl⟩ := hO.form
 refine ⟨N, hN, ?_⟩
 (repeat' (first | refine JC.seq ?_ | refine JC.ops ?_ | refine JO.nil ?_ | refine Q00 ?_ | (apply Q0d; (iterate 4 exact rfl); (first | exact at0 | exact at2); exact rfl) | (apply Q05; exact rfl; (first | exact trivial | exact ⟨rfl, rfl⟩); exact rfl; exact rfl; (first | exact at0 | exact at2); (iterate 3 exact rfl)) | (apply Q0e; (iterate 3 exact rfl); intro _) | (apply Q05; exact rfl; (first | exact trivial | exact ⟨rfl, rfl⟩); exact rfl; exact rfl; (first | exact at0 | exact at2); (iterate 3 exact rfl))))
 rename_i b3
 refine Q0h (A := []) rfl trivial rfl rfl rfl (fun w hk _ => Q9q w m.r m.c (m.r * m.c) cap A) fun w v w' _ _ _ hR => ?_
 obtain ⟨bx, rfl, hNx⟩ := hR
 refine ⟨_, hNx, ?_⟩
 (repeat' (first | refine JO.nil ?_ | refine Q00 ?_ | refine JC.block ?_))
 have hbx : ∀ (N : SHeap), (bx, Obj.cells #[nv m.r, nv m.c, .slice A (m.r * m.c) cap] 29 (0, 0)) ∈ ([(bx, Obj.cells #[nv m.r, nv m.c, .slice A (m.r * m.c) cap] 29 (0, 0)), (b3, .cells #[nv m.c, nv m.r, .slice Ao (m.c * m.r) co] 29 (0, 0)), (b2, .cells #[iv 0, iv 0, .slice none 0 0] 29 (0, 0)), (b1, .cells #[nv m.r, nv m.c, .slice A (m.r * m.c) cap] 29 (0, 0))] ++ (N ++ [])) := fun N => by simp
 refine Q3g (od := []) _ rfl mixed rfl rfl (enters_of Tryz.func76 (by kernel_rfl) rfl) (Q41 hbr hbc (Nat.le_refl _) hcap)
  (fun pre H' => ∃ N, H' = [(bx, Obj.cells #[nv m.r, nv m.c, .slice A (m.r * m.c) cap] 29 (0, 0)), (b3, .cells #[nv m.c, nv m.r, .slice Ao (m.c * m.r) co] 29 (0, 0)), (b2, .cells #[iv 0, iv 0, .slice none 0 0] 29 (0, 0)), (b1, .cells #[nv m.r, nv m.c, .slice A (m.r * m.c) cap] 29 (0, 0))] ++ (N ++ []) ∧ OwnZ N (.slice Ao (m.c * m.r) co) (m.c * m.r) (trS m pre 0 0))
  (by rintro pre _ ⟨N, rfl, _⟩; exact hbx N) (by rintro pre _ ⟨N, rfl, hO⟩; exact Cells.cons (Cells.cons (Cells.cons (Cells.cons (hO.cells.app Cells.nil))))) _ ⟨N, rfl, by rw [Qd6]; exact hO⟩ (by (first | exact HSub.refl _ | (repeat' first | exact HSub.nil _ | exact HSub.refl _ | refine HSub.at 0 rfl ?_ | refine HSub.at 1 rfl ?_ | refine HSub.at 2 rfl ?_ | refine HSub.at 3 rfl ?_ | refine HSub.at 4 rfl ?_ | refine HSub.at 5 rfl ?_ | refine HSub.at 6 rfl ?_ | refine HSub.at 7 rfl ?_)))
  (fun i _ => [(4, nv i), (5, rowV A cap m.c i), (3, .pointer (some ⟨b3, 0, none⟩)), (1, .pointer (some ⟨b1, 0, none⟩))]) (fun _ => none) (fun _ _ h => by cases h) rfl rfl (by kernel_rfl) (by kernel_rfl) rfl (fun _ _ h => h) ?_ ?_ ?_
 ·intro l i W hW
  simp only [toB, textOps, toSOp, kindAt, kindOf, odAt, sopsAt, ordOf]
  (repeat' (first | refine JC.seq ?_ | refine JC.ops ?_ | refine JO.nil ?_ | refine Q00 ?_ | (apply Q02; (iterate 3 exact rfl))))
  exact Q48 rfl (by repeat first | exact trivial | refine ⟨rfl, ?_⟩)
 ·rintro l i pre _ _ W1 hM' hi hpl ⟨N, rfl, hO⟩ hl hln hkb hge
  simp only [toB, textOps, toSOp, kindAt, kindOf, odAt, sopsAt, ordOf, exH, List.nil_append]
  have hrow := Q5r (c2 := ⟨Tryz.prog, 40, W1, _, hM'⟩) (Q99 hm hE hi) hkb (Q55 hge) []
  have hlr := Q3p hm hi
  (repeat' (first | refine JC.seq ?_ | refine JC.ops ?_ | refine JO.nil ?_ | refine Q00 ?_ | (apply Q04; (iterate 3 exact rfl)) | (apply Q4s; (iterate 3 exact rfl); (first | assumption | exact WZ.rd (by assumption) rfl [] | exact OwnZ.rd (by assumption))) | refine JC.block ?_))
  refine Q0k (ι := Nat × SHeap) ⟨fun z => [(23, nv z.1), (22, nv m.c), (21, rowV A cap m.c i), (4, nv i), (3, .pointer (some ⟨b3, 0, none⟩)), (1, .pointer (some ⟨b1, 0, none⟩))],
   fun z => [(bx, .cells #[nv m.r, nv m.c, .slice A (m.r * m.c) cap] 29), (b3, .cells #[nv m.c, nv m.r, .slice Ao (m.c * m.r) co] 29), (b2, .cells #[iv 0, iv 0, .slice none 0 0] 29), (b1, .cells #[nv m.r, nv m.c, .slice A (m.r * m.c) cap] 29)] ++ (z.2 ++ []),
   fun z => z.1 ≤ m.c ∧ OwnZ z.2 (.slice Ao (m.c * m.r) co) (m.c * m.r) (trS m pre i z.1), fun z => m.c - z.1⟩ (0, N) ⟨by omega, by rw [Qbc m pre i 0]; exact hO⟩ (by repeat first | exact trivial | refine ⟨rfl, ?_⟩) (by (first | exact HSub.refl _ | (repeat' first | exact HSub.nil _ | exact HSub.refl _ | refine HSub.at 0 rfl ?_ | refine HSub.at 1 rfl ?_ | refine HSub.at 2 rfl ?_ | refine HSub.at 3 rfl ?_ | refine HSub.at 4 rfl ?_ | refine HSub.at 5 rfl ?_ | refine HSub.at 6 rfl ?_ | refine HSub.at 7 rfl ?_))) (fun j hj => ?_)
  obtain ⟨j, N⟩ := j
  obtain ⟨hjn, hO⟩ := hj
  dsimp only at hjn hO ⊢
  by_cases hj : j < m.c
  ·have hlt := Q3y hj hi
   have hjr : j * m.r ≤ 40000 := by omega
   (repeat' (first | refine JC.seq ?_ | refine JC.ops ?_ | refine JO.nil ?_ | refine Q00 ?_ | (apply Q04; (iterate 3 exact rfl)) | (apply Q06; (iterate 3 exact rfl)) | (apply Q02; (iterate 3 exact rfl)) | (apply Q0g; (iterate 4 exact rfl); (first | exact at0 | exact at2 | exact at4); exact rfl) | (apply Q0d; (iterate 4 exact rfl); (first | exact at0 | exact at2 | exact at4); exact rfl) | (apply Q1m; (iterate 4 exact rfl); (first | assumption | exact WZ.rd (by assumption) rfl [] | exact OwnZ.rd (by assumption)); (first | assumption | omega)) | (apply Q52; (iterate 4 exact rfl); (first | assumption | exact WZ.rd (by assumption) rfl [] | exact OwnZ.rd (by assumption)); (repeat' first | exact HSub.nil _ | exact HSub.hd | exact Q03 | exact HSub.refl _ | refine HSub.skip ?_ | refine Q01 ?_); (first | assumption | omega)) | (apply Q1a; (iterate 4 exact rfl); omega) | (apply Q1q; (iterate 4 exact rfl); (first | assumption | omega)) | (apply Q05; exact rfl; (first | exact trivial | exact ⟨rfl, rfl⟩); exact rfl; exact rfl; (first | exact at0 | exact at2 | exact at4); (iterate 3 exact rfl)) | (apply Q0m; (iterate 4 exact rfl); all_goals intro hc; all_goals try (exfalso; omega)) | (apply Q0e; (iterate 3 exact rfl); intro _) | (apply Q05; exact rfl; (first | exact trivial | exact ⟨rfl, rfl⟩); exact rfl; exact rfl; (first | exact at0 | exact at2 | exact at4); (iterate 3 exact rfl)) | refine JC.skip ?_ | refine Q08 rfl ?_ | refine JC.block ?_))
   rename_i b7
   refine Q5s (A := [_, _, _, _, _]) hO rfl rfl (by first | trivial | exact ⟨rfl, rfl⟩) rfl rfl hlt (fun N' hO' => ?_)
   rw [Q4f hj, Qf7 hi] at hO'
   (repeat' (first | refine JC.ops ?_ | refine JO.nil ?_ | refine Q00 ?_ | (apply Q04; (iterate 3 exact rfl)) | (apply Q0r; (iterate 4 exact rfl); omega) | refine Q0b ?_))
   exact Q0c (j + 1, N') ⟨by dsimp only; omega, hO'⟩ (by dsimp only; omega) (by repeat first | exact trivial | refine ⟨rfl, ?_⟩) (by exact HSub.skip (HSub.refl _))
  ·(repeat' (first | refine JC.seq ?_ | refine JC.ops ?_ | refine JO.nil ?_ | refine Q00 ?_ | (apply Q0m; (iterate 4 exact rfl); all_goals intro hc; all_goals try (exfalso; omega)) | refine Q0i ?_ | refine JC.exit ?_ | refine Q07 rfl ?_ | refine Q0b ?_ | refine Q0f ?_))
   obtain rfl : j = m.c := by omega
   rw [Qd7] at hO
   exact Q2i ⟨N, rfl, hO⟩ (Cells.cons (Cells.cons (Cells.cons (Cells.cons (hO.cells.app Cells.nil))))) (HSub.refl _)
 ·rintro D _ ⟨N, rfl, hO⟩ hD
  simp only [toS, textOps, toSOp, kindAt, kindOf, odAt, sopsAt, ordOf]
  (repeat' (first | refine JC.seq ?_ | refine JC.ops ?_ | refine JO.nil ?_ | refine Q00 ?_ | (apply Q0d; (iterate 4 exact rfl); (first | exact at2 | exact at3); exact rfl) | (apply Q05; exact rfl; (first | exact trivial | exact ⟨rfl, rfl⟩); exact rfl; exact rfl; (first | exact at2 | exact at3); (iterate 3 exact rfl)) | (apply Q05; exact rfl; (first | exact trivial | exact ⟨rfl, rfl⟩); exact rfl; exact rfl; (first | exact at2 | exact at3); (iterate 3 exact rfl)) | refine JC.ret ?_))
  rw [Qf8] at hO
  refine Q56 0 rfl hD rfl ?_
  exact Q0z 2 rfl rfl rfl (fun a w' st => ⟨st.kp, N, st.newOf rfl (by exact HSub.skip (HSub.skip (HSub.skip (HSub.skip Q03)))), OwnM.mk' hO⟩)


theorem Qec {n k : Nat} {f g : Nat → Int} : tab n f ++ tab k g = tab (n + k) fun j => if j < n then f j else g (j - n) := by
 refine Q6q (by simp [tab]) (fun i hi => ?_)
 rw [List.getElem?_append]
 by_cases h : i < n
 ·rw [if_pos (by simpa [tab] using h), if_pos h, Q4c h]
 ·rw [if_neg (by simpa [tab] using h), if_neg h]
  have : (tab n f).length = n := by simp [tab]
  rw [this, Q4c (by omega)]
theorem Q3m (c : Nat) (g : Mi) : ∀ r, tbz r c g = (List.range r).flatMap fun i => tab c (g i)
 | 0 => by simp [tbz, tab]
 | r + 1 => by
  rw [List.range_succ, List.flatMap_append, ← Q3m c g r]
  refine Qmq (r := r + 1) (c := c) (Q80 _ _ _) (by simp [Q80, tab, Nat.add_mul]) (fun i j hi hj => ?_)
  rw [Q8e hi hj]
  unfold enz
  simp only [List.getD, List.getElem?_append, Q80, List.flatMap_cons, List.flatMap_nil, List.append_nil]
  by_cases h : i < r
  ·rw [if_pos (Q3y h hj)]
   have := Qfa (g := g) h hj
   simp only [List.getD] at this
   exact this.symm
  ·obtain rfl : i = r := by omega
   rw [if_neg (by omega), show i * c + j - i * c = j by omega, Q4c hj]
   rfl

def joinS (m n : ZM) (pre : List Nat) : List Int := pre.flatMap fun i => rowI m i ++ rowI n i
theorem Qem (m n : ZM) (pre : List Nat) (i : Nat) : joinS m n (pre ++ [i]) = joinS m n pre ++ rowI m i ++ rowI n i := by simp [joinS]
theorem Qgn {m n : ZM} (hm : RtZ m) (hn : RtZ n) (hr : m.r = n.r) : joinS m n (List.range m.r) = (joinZ m n).e := by
 show joinS m n (List.range m.r) = tbz m.r (m.c + n.c) (fun i j => if j < m.c then m.at i j else n.at i (j - m.c))
 rw [Q3m]
 unfold joinS
 have : ∀ (l : List Nat), (∀ i ∈ l, i < m.r) → (l.flatMap fun i => rowI m i ++ rowI n i) = l.flatMap fun i => tab (m.c + n.c) fun j => if j < m.c then m.at i j else n.at i (j - m.c) := fun l => by
  induction l with
  | nil => intro _; rfl
  | cons i l ih =>
   intro h
   have hi := h i (by simp)
   rw [List.flatMap_cons, List.flatMap_cons, ih (fun j hj => h j (by simp [hj])), Qde hm hi, Qde hn (hr ▸ hi), Qec]
 exact this _ (fun i hi => List.mem_range.1 hi)

set_option maxHeartbeats 8000000 in
theorem Qo4 (w : World) (v u : Value) (m n : ZM) (hm : RtZ m) (hn : RtZ n) (hr : m.r = n.r) (hcc : m.c + n.c ≤ 200) (hv : IsM w v m) (hu : IsM w u n) :
  Calls Tryz.prog 42 #[v, u] w (Ret fun v w' => Kp [] w w' ∧ GivesMB (joinZ m n) true w v w') := by
 have hvX := hv.x
 have huX := hu.x
 obtain ⟨E, rfl, hE⟩ := hv
 obtain ⟨E', rfl, hE'⟩ := hu
 have hl := hm.len
 have hle := hm.le
 have hl' := hn.len
 have hle' := hn.le
 have hbr := hm.r
 have hbc := hm.c
 have hbc' := hn.c
 rw [hl] at hE
 rw [hl'] at hE'
 obtain ⟨A, cap, rfl⟩ := hE.form
 obtain ⟨A', cap', rfl⟩ := hE'.form
 have hcap : m.r * m.c ≤ cap := Q91 hE
 refine Q3a 5 [⟨7, 2, [0, 1, 2, 4, 5, 6, 7, 8, 9, 10, 11, 12, 13, 14, 15, 3, 16, 17, 18], []⟩] Tryz.func42 rfl mixed (by kernel_rfl) Tryz.ntmps42 (by simp) ?_
 simp only [toZ, hasRF, Bool.or_false, Bool.false_or, Bool.or_self, Bool.true_or, cond_true, cond_false, toS, textOps, toSOp, kindAt, kindOf, odAt, sopsAt, ordOf, zipF]
 (repeat' (first | refine JC.seq ?_ | refine JC.ops ?_ | refine JO.nil ?_ | refine Q00 ?_ | (apply Q02; (iterate 3 exact rfl)) | (apply Q0d; (iterate 4 exact rfl); exact at2; exact rfl) | (apply Q0e; (iterate 3 exact rfl); intro _) | (apply Q0x; (iterate 4 exact rfl); intro _)))
 rename_i b2 b3 b4
 refine Q09 trivial rfl rfl rfl (fun w hk _ => Q20 w _ m.xm (hvX.mono hk) (by simp [ZM.xm]; omega)) fun w v w' _ _ _ hR => ?_
 obtain ⟨b', rfl, hb⟩ := hR
 obtain rfl := hb.2 hm.rx
 (repeat' (first | (apply Q04; (iterate 3 exact rfl)) | (apply Q0d; (iterate 4 exact rfl); exact at1; exact rfl) | (apply Q1e; (iterate 3 exact rfl))))
 refine Q09 trivial rfl rfl rfl (fun w hk _ => Q20 w _ n.xm (huX.mono hk) (by simp [ZM.xm]; omega)) fun w v w' _ _ _ hR => ?_
 obtain ⟨b', rfl, hb⟩ := hR
 obtain rfl := hb.2 hn.rx
 (repeat' (first | refine JC.seq ?_ | refine JC.ops ?_ | refine JO.nil ?_ | refine Q00 ?_ | (apply Q04; (iterate 3 exact rfl)) | (apply Q06; (iterate 3 exact rfl)) | (apply Q0g; (iterate 4 exact rfl); (first | exact at0 | exact at1 | exact at2 | exact at3); exact rfl) | (apply Q0d; (iterate 4 exact rfl); (first | exact at0 | exact at1 | exact at2 | exact at3); exact rfl) | (apply Q68; (iterate 4 exact rfl)) | (apply Q1a; (iterate 4 exact rfl); omega) | (apply Q0q; (iterate 4 exact rfl)) | (apply Q1e; (iterate 3 exact rfl)) | (apply Q05; exact rfl; (first | exact trivial | exact ⟨rfl, rfl⟩); exact rfl; exact rfl; (first | exact at0 | exact at1 | exact at2 | exact at3); (iterate 3 exact rfl)) | (apply Q1l; (iterate 4 exact rfl); all_goals intro hc; all_goals try (exfalso; omega)) | (apply Q3h; (iterate 4 exact rfl); all_goals intro hc; all_goals try (exfalso; omega)) | (apply Q0e; (iterate 3 exact rfl); intro _) | (apply Q05; exact rfl; (first | exact trivial | exact ⟨rfl, rfl⟩); exact rfl; exact rfl; (first | exact at0 | exact at1 | exact at2 | exact at3); (iterate 3 exact rfl)) | refine JC.skip ?_ | refine Q07 rfl ?_))
 rename_i b6
 refine Q0h (A := []) rfl trivial rfl rfl rfl (fun w hk _ => Q9q w m.r m.c (m.r * m.c) cap A) fun w v w' _ _ _ hR => ?_
 obtain ⟨bx, rfl, hNx⟩ := hR
 refine ⟨_, hNx, ?_⟩
 (repeat' (first | refine JO.nil ?_ | refine Q00 ?_ | refine JC.block ?_))
 have hbx : ∀ (v : Value) (N : SHeap), (bx, Obj.cells #[nv m.r, nv m.c, .slice A (m.r * m.c) cap] 29 (0, 0)) ∈ ([(bx, Obj.cells #[nv m.r, nv m.c, .slice A (m.r * m.c) cap] 29 (0, 0)), (b6, .cells #[nv m.r, nv (m.c + n.c), v] 29 (0, 0)), (b4, .cells #[iv 0, iv 0, .slice none 0 0] 29 (0, 0)), (b3, .cells #[nv n.r, nv n.c, .slice A' (n.r * n.c) cap'] 29 (0, 0)), (b2, .cells #[nv m.r, nv m.c, .slice A (m.r * m.c) cap] 29 (0, 0))] ++ (N ++ [])) := fun v N => by simp
 refine Q3g (od := [⟨7, 2, [0, 1, 2, 4, 5, 6, 7, 8, 9, 10, 11, 12, 13, 14, 15, 3, 16, 17, 18], []⟩]) _ rfl mixed rfl rfl (enters_of Tryz.func76 (by kernel_rfl) rfl) (Q41 hbr hbc (Nat.le_refl _) hcap)
  (fun pre H' => ∃ v N, H' = [(bx, Obj.cells #[nv m.r, nv m.c, .slice A (m.r * m.c) cap] 29 (0, 0)), (b6, .cells #[nv m.r, nv (m.c + n.c), v] 29 (0, 0)), (b4, .cells #[iv 0, iv 0, .slice none 0 0] 29 (0, 0)), (b3, .cells #[nv n.r, nv n.c, .slice A' (n.r * n.c) cap'] 29 (0, 0)), (b2, .cells #[nv m.r, nv m.c, .slice A (m.r * m.c) cap] 29 (0, 0))] ++ (N ++ []) ∧ OwnZ N v (pre.length * (m.c + n.c)) (joinS m n pre))
  (by rintro pre _ ⟨v, N, rfl, _⟩; exact hbx v N) (by rintro pre _ ⟨v, N, rfl, hO⟩; exact Cells.cons (Cells.cons (Cells.cons (Cells.cons (Cells.cons (hO.cells.app Cells.nil)))))) _ ⟨.slice none 0 0, [], rfl, by simp only [List.length_nil, Nat.zero_mul]; exact OwnZ.nil⟩ (by (first | exact HSub.refl _ | (repeat' first | exact HSub.nil _ | exact HSub.refl _ | refine HSub.at 0 rfl ?_ | refine HSub.at 1 rfl ?_ | refine HSub.at 2 rfl ?_ | refine HSub.at 3 rfl ?_ | refine HSub.at 4 rfl ?_ | refine HSub.at 5 rfl ?_ | refine HSub.at 6 rfl ?_ | refine HSub.at 7 rfl ?_)))
  (fun i _ => [(7, nv i), (8, rowV A cap m.c i), (6, .pointer (some ⟨b6, 0, none⟩)), (3, .pointer (some ⟨b3, 0, none⟩)), (2, .pointer (some ⟨b2, 0, none⟩))]) (fun _ => none) (fun _ _ h => by cases h) rfl rfl (by kernel_rfl) (by kernel_rfl) rfl (fun _ _ h => h) ?_ ?_ ?_
 ·intro l i W hW
  simp only [toB, textOps, toSOp, kindAt, kindOf, odAt, sopsAt, ordOf, exH, List.nil_append, List.cons_append]
  (repeat' (first | refine JC.seq ?_ | refine JC.ops ?_ | refine JO.nil ?_ | refine Q00 ?_ | (apply Q02; (iterate 3 exact rfl))))
  exact Q48 rfl (by repeat first | exact trivial | refine ⟨rfl, ?_⟩)
 ·rintro l i pre _ _ W1 hM' hi hpl ⟨v, N, rfl, hO⟩ hl hln hkb hge
  simp only [toB, textOps, toSOp, kindAt, kindOf, odAt, sopsAt, ordOf, exH, List.nil_append, List.cons_append]
  have hrow := Q5r (c2 := ⟨Tryz.prog, 64, W1, _, hM'⟩) (Q99 hm hE hi) hkb (Q55 hge) []
  have hoth := Q5r (c2 := ⟨Tryz.prog, 64, W1, _, hM'⟩) hE' hkb (Q55 hge) []
  have hlr := Q3p hm hi
  have hrow1 := Q90 (c := n.c) (hr ▸ hi)
  have hic : i * n.c ≤ 40000 := Nat.mul_le_mul (show i ≤ 200 by omega) hbc'
  have hic1 : (i + 1) * n.c ≤ 40200 := by rw [Nat.add_mul]; omega
  have hplc : pre.length * (m.c + n.c) ≤ 40000 := Nat.mul_le_mul (show pre.length ≤ 200 by omega) hcc
  obtain ⟨A2, c2, rfl⟩ := hO.form
  (repeat' (first | refine JC.block ?_))
  refine Q36 [(b6, .cells #[nv m.r, nv (m.c + n.c), .slice A2 (pre.length * (m.c + n.c)) c2] 29 (0, 0)), (b3, .cells #[nv n.r, nv n.c, .slice A' (n.r * n.c) cap'] 29 (0, 0))] (by (first | exact HSub.refl _ | (repeat' first | exact HSub.nil _ | exact HSub.refl _ | refine HSub.at 0 rfl ?_ | refine HSub.at 1 rfl ?_ | refine HSub.at 2 rfl ?_ | refine HSub.at 3 rfl ?_ | refine HSub.at 4 rfl ?_ | refine HSub.at 5 rfl ?_ | refine HSub.at 6 rfl ?_ | refine HSub.at 7 rfl ?_))) ?_
  (repeat' (first | (apply Q04; (iterate 3 exact rfl)) | (apply Q06; (iterate 3 exact rfl)) | (apply Q0g; (iterate 4 exact rfl); (first | exact at0 | exact at1); exact rfl) | (apply Q0r; (iterate 4 exact rfl); omega) | (apply Q1q; (iterate 4 exact rfl); (first | assumption | omega))))
  refine Qn6 rfl rfl rfl hoth rfl rfl hrow1 (fun v3 hv3 _ => ?_)
  skip
  refine Q39 (A := [_, _, _, _, _]) hO hrow (by (repeat' first | exact HSub.nil _ | exact HSub.hd | exact Q03 | exact HSub.refl _ | refine HSub.skip ?_ | refine Q01 ?_)) rfl (by (first | exact HSub.refl _ | (repeat' first | exact HSub.nil _ | exact HSub.refl _ | refine HSub.at 0 rfl ?_ | refine HSub.at 1 rfl ?_ | refine HSub.at 2 rfl ?_ | refine HSub.at 3 rfl ?_ | refine HSub.at 4 rfl ?_ | refine HSub.at 5 rfl ?_ | refine HSub.at 6 rfl ?_ | refine HSub.at 7 rfl ?_))) rfl rfl rfl rfl (by omega) (fun v4 N4 hO4 => ?_)
  skip
  refine Q39 (A := [_, _, _, _, _]) hO4 hv3 (by (repeat' first | exact HSub.nil _ | exact HSub.hd | exact Q03 | exact HSub.refl _ | refine HSub.skip ?_ | refine Q01 ?_)) rfl (by (first | exact HSub.refl _ | (repeat' first | exact HSub.nil _ | exact HSub.refl _ | refine HSub.at 0 rfl ?_ | refine HSub.at 1 rfl ?_ | refine HSub.at 2 rfl ?_ | refine HSub.at 3 rfl ?_ | refine HSub.at 4 rfl ?_ | refine HSub.at 5 rfl ?_ | refine HSub.at 6 rfl ?_ | refine HSub.at 7 rfl ?_))) rfl rfl rfl rfl (by omega) (fun v5 N5 hO5 => ?_)
  obtain ⟨A5, c5, rfl⟩ := hO5.form
  (repeat' (first | refine JO.nil ?_ | (apply Q06; (iterate 3 exact rfl)) | (apply Q28; exact rfl; (first | exact trivial | exact ⟨rfl, rfl⟩); exact rfl; exact rfl; exact at1; exact rfl; exact rfl; (first | exact Nat.le_of_ble_eq_true rfl | (simp; done) | omega)) | refine Q0b ?_))
  have el : pre.length * (m.c + n.c) + m.c + n.c = (pre ++ [i]).length * (m.c + n.c) := by rw [List.length_append, List.length_singleton, Nat.add_mul, Nat.one_mul]; omega
  refine Q2i (H' := [(bx, Obj.cells #[nv m.r, nv m.c, .slice A (m.r * m.c) cap] 29 (0, 0)), (b6, .cells #[nv m.r, nv (m.c + n.c), .slice A5 (pre.length * (m.c + n.c) + m.c + n.c) c5] 29 (0, 0)), (b4, .cells #[iv 0, iv 0, .slice none 0 0] 29 (0, 0)), (b3, .cells #[nv n.r, nv n.c, .slice A' (n.r * n.c) cap'] 29 (0, 0)), (b2, .cells #[nv m.r, nv m.c, .slice A (m.r * m.c) cap] 29 (0, 0))] ++ (N5 ++ [])) ⟨_, N5, rfl, ?_⟩ (Cells.cons (Cells.cons (Cells.cons (Cells.cons (Cells.cons (hO5.cells.app Cells.nil)))))) (HSub.refl _)
  rw [Qem, ← el]
  exact hO5
 ·rintro D _ ⟨v, N, rfl, hO⟩ hD
  obtain ⟨A2, c2, rfl⟩ := hO.form
  simp only [toS, textOps, toSOp, kindAt, kindOf, odAt, sopsAt, ordOf]
  (repeat' (first | refine JC.seq ?_ | refine JC.ops ?_ | refine JO.nil ?_ | refine Q00 ?_ | (apply Q02; (iterate 3 exact rfl)) | (apply Q0d; (iterate 4 exact rfl); (first | exact at2 | exact at3); exact rfl) | (apply Q05; exact rfl; (first | exact trivial | exact ⟨rfl, rfl⟩); exact rfl; exact rfl; (first | exact at2 | exact at3); (iterate 3 exact rfl)) | (apply Q05; exact rfl; (first | exact trivial | exact ⟨rfl, rfl⟩); exact rfl; exact rfl; (first | exact at2 | exact at3); (iterate 3 exact rfl)) | refine JC.ret ?_))
  rw [Qgn hm hn hr] at hO
  refine Q56 0 rfl hD rfl ?_
  exact Q16 2 rfl rfl rfl rfl (fun a w' st => ⟨st.kp, N, _, rfl, st.newOf rfl (by exact HSub.skip (HSub.skip (HSub.skip (HSub.skip (HSub.skip Q03))))), OwnM.mk' hO⟩)

def partOk (m : ZM) (i j r c : Int) : Prop := 0 ≤ i ∧ 0 ≤ j ∧ 0 ≤ r ∧ 0 ≤ c ∧ r ≤ m.r ∧ c ≤ m.c ∧ i ≤ m.r - r ∧ j ≤ m.c - c

def partS (m : ZM) (i0 j0 r c : Nat) (pre : List Nat) : List Int := pre.flatMap fun i => if i0 ≤ i ∧ i < i0 + r then ((rowI m i).drop j0).take c else []
theorem Qik {m : ZM} {i0 j0 r c i : Nat} (pre : List Nat) (h : i0 ≤ i ∧ i < i0 + r) : partS m i0 j0 r c (pre ++ [i]) = partS m i0 j0 r c pre ++ ((rowI m i).drop j0).take c := by simp [partS, h]
theorem Qgc {m : ZM} {i0 j0 r c i : Nat} (pre : List Nat) (h : ¬ (i0 ≤ i ∧ i < i0 + r)) : partS m i0 j0 r c (pre ++ [i]) = partS m i0 j0 r c pre := by simp [partS, h]
theorem Qfs {m : ZM} {i j0 c : Nat} (hm : RtZ m) (hi : i < m.r) (hj : j0 + c ≤ m.c) : ((rowI m i).drop j0).take c = tab c fun j => m.at i (j0 + j) := by
 have hl := Q3p hm hi
 refine Q6q (by rw [List.length_take, List.length_drop, hl]; omega) (fun j hj' => ?_)
 rw [List.getElem?_take_of_lt hj', List.getElem?_drop, Q3i (d := 0) (by rw [hl]; omega), Q4f (by omega)]
theorem Qgd {m : ZM} {i0 j0 r c : Nat} (hm : RtZ m) (hi : i0 + r ≤ m.r) (hj : j0 + c ≤ m.c) : partS m i0 j0 r c (List.range m.r) = (partZ m i0 j0 r c).e := by
 show _ = tbz r c (fun a b => m.at (i0 + a) (j0 + b))
 rw [Q3m]
 have h0 : List.range m.r = List.range i0 ++ ((List.range r).map (i0 + ·) ++ (List.range (m.r - (i0 + r))).map (i0 + r + ·)) := by
  rw [← List.append_assoc, ← List.range_add, ← List.range_add]
  congr 1; omega
 have hz : ∀ l : List Nat, (∀ i ∈ l, ¬ (i0 ≤ i ∧ i < i0 + r)) → partS m i0 j0 r c l = [] := fun l h => by
  unfold partS
  rw [List.flatMap_eq_nil_iff]
  intro i hi
  rw [if_neg (h i hi)]
 have happ : ∀ a b : List Nat, partS m i0 j0 r c (a ++ b) = partS m i0 j0 r c a ++ partS m i0 j0 r c b := fun a b => by unfold partS; rw [List.flatMap_append]
 rw [h0, happ, happ, hz (List.range i0) (fun i hi => by have := List.mem_range.1 hi; omega), hz ((List.range (m.r - (i0 + r))).map (i0 + r + ·)) (fun i hi => by obtain ⟨k, _, rfl⟩ := List.mem_map.1 hi; omega), List.nil_append, List.append_nil]
 unfold partS
 rw [List.flatMap_map]
 have : ∀ l : List Nat, (∀ i ∈ l, i < r) → (l.flatMap fun a => if i0 ≤ i0 + a ∧ i0 + a < i0 + r then ((rowI m (i0 + a)).drop j0).take c else []) = l.flatMap fun a => tab c fun j => m.at (i0 + a) (j0 + j) := fun l => by
  induction l with
  | nil => intro _; rfl
  | cons a l ih =>
   intro h
   have ha := h a (by simp)
   rw [List.flatMap_cons, List.flatMap_cons, ih (fun j hj => h j (by simp [hj])), if_pos ⟨by omega, by omega⟩, Qfs hm (by omega) hj]
 exact this _ (fun i hi => List.mem_range.1 hi)

set_option maxHeartbeats 8000000 in
theorem Qk4 (w : World) (v : Value) (m : ZM) (i0 j0 r c : Nat) (hm : RtZ m) (hi0 : i0 + r ≤ m.r) (hj0 : j0 + c ≤ m.c) (hv : IsM w v m) :
  Calls Tryz.prog 11 #[v, nv i0, nv j0, nv r, nv c] w (Ret fun v w' => Kp [] w w' ∧ GivesMB (partZ m i0 j0 r c) true w v w') := by
 have hvX := hv.x
 obtain ⟨E, rfl, hE⟩ := hv
 have hl := hm.len
 have hle := hm.le
 have hbr := hm.r
 have hbc := hm.c
 rw [hl] at hE
 obtain ⟨A, cap, rfl⟩ := hE.form
 have hcap : m.r * m.c ≤ cap := Q91 hE
 refine Q3a 5 [⟨8, 2, [], []⟩] Tryz.func11 rfl mixed (by kernel_rfl) Tryz.ntmps11 (by simp) ?_
 simp only [toZ, hasRF, Bool.or_false, Bool.false_or, Bool.or_self, Bool.true_or, cond_true, cond_false, toS, textOps, toSOp, kindAt, kindOf, odAt, sopsAt, ordOf, zipF]
 (repeat' (first | refine JC.seq ?_ | refine JC.ops ?_ | refine JO.nil ?_ | refine Q00 ?_ | (apply Q02; (iterate 3 exact rfl)) | (apply Q0d; (iterate 4 exact rfl); exact at5; exact rfl) | (apply Q0e; (iterate 3 exact rfl); intro _) | (apply Q0x; (iterate 4 exact rfl); intro _) | (apply Qg5; (iterate 5 exact rfl); intro _)))
 rename_i b5 b6 b7 b8 b9 b10
 refine Q09 trivial rfl rfl rfl (fun w hk _ => Q20 w _ m.xm (hvX.mono hk) (by simp [ZM.xm]; omega)) fun w v w' _ _ _ hR => ?_
 obtain ⟨b', rfl, hb⟩ := hR
 obtain rfl := hb.2 hm.rx
 (repeat' (first | refine JC.seq ?_ | refine JC.ops ?_ | refine JO.nil ?_ | refine Q00 ?_ | (apply Q04; (iterate 3 exact rfl)) | (apply Q06; (iterate 3 exact rfl)) | (apply Q0g; (iterate 4 exact rfl); (first | exact at0 | exact at1 | exact at2 | exact at3 | exact at4 | exact at5 | exact at6); exact rfl) | (apply Q0d; (iterate 4 exact rfl); (first | exact at0 | exact at1 | exact at2 | exact at3 | exact at4 | exact at5 | exact at6); exact rfl) | (apply Q68; (iterate 4 exact rfl)) | (apply Qju; (iterate 6 exact rfl); intro q hq1 hq2) | (apply Q4r; (iterate 4 exact rfl); omega) | (apply Q0q; (iterate 4 exact rfl)) | (apply Q1e; (iterate 3 exact rfl)) | (apply Q05; exact rfl; (first | exact trivial | exact ⟨rfl, rfl⟩); exact rfl; exact rfl; (first | exact at0 | exact at1 | exact at2 | exact at3 | exact at4 | exact at5 | exact at6); (iterate 3 exact rfl)) | (apply Q0m; (iterate 4 exact rfl); all_goals intro hc; all_goals try (exfalso; omega)) | (apply Q1l; (iterate 4 exact rfl); all_goals intro hc; all_goals try (exfalso; omega)) | (apply Q0e; (iterate 3 exact rfl); intro _) | (apply Q05; exact rfl; (first | exact trivial | exact ⟨rfl, rfl⟩); exact rfl; exact rfl; (first | exact at0 | exact at1 | exact at2 | exact at3 | exact at4 | exact at5 | exact at6); (iterate 3 exact rfl)) | refine JC.skip ?_ | refine Q07 rfl ?_))
 rename_i b12
 refine Q0h (A := []) rfl trivial rfl rfl rfl (fun w hk _ => Q9q w m.r m.c (m.r * m.c) cap A) fun w v w' _ _ _ hR => ?_
 obtain ⟨bx, rfl, hNx⟩ := hR
 refine ⟨_, hNx, ?_⟩
 (repeat' (first | refine JO.nil ?_ | refine Q00 ?_ | refine JC.block ?_))
 have hbx : ∀ (v : Value) (N : SHeap), (bx, Obj.cells #[nv m.r, nv m.c, .slice A (m.r * m.c) cap] 29 (0, 0)) ∈ ([(bx, Obj.cells #[nv m.r, nv m.c, .slice A (m.r * m.c) cap] 29 (0, 0)), (b12, .cells #[nv r, nv c, v] 29 (0, 0)), (b10, .cells #[iv 0, iv 0, .slice none 0 0] 29 (0, 0)), (b9, .cells (nv c).cells 3 (0, 0)), (b8, .cells (nv r).cells 3 (0, 0)), (b7, .cells (nv j0).cells 3 (0, 0)), (b6, .cells (nv i0).cells 3 (0, 0)), (b5, .cells #[nv m.r, nv m.c, .slice A (m.r * m.c) cap] 29 (0, 0))] ++ (N ++ [])) := fun v N => by simp
 refine Q3g (od := [⟨8, 2, [], []⟩]) _ rfl mixed rfl rfl (enters_of Tryz.func76 (by kernel_rfl) rfl) (Q41 hbr hbc (Nat.le_refl _) hcap)
  (fun pre H' => ∃ k v N, H' = [(bx, Obj.cells #[nv m.r, nv m.c, .slice A (m.r * m.c) cap] 29 (0, 0)), (b12, .cells #[nv r, nv c, v] 29 (0, 0)), (b10, .cells #[iv 0, iv 0, .slice none 0 0] 29 (0, 0)), (b9, .cells (nv c).cells 3 (0, 0)), (b8, .cells (nv r).cells 3 (0, 0)), (b7, .cells (nv j0).cells 3 (0, 0)), (b6, .cells (nv i0).cells 3 (0, 0)), (b5, .cells #[nv m.r, nv m.c, .slice A (m.r * m.c) cap] 29 (0, 0))] ++ (N ++ []) ∧ OwnZ N v k (partS m i0 j0 r c pre) ∧ k ≤ pre.length * c)
  (by rintro pre _ ⟨k, v, N, rfl, _⟩; exact hbx v N) (by rintro pre _ ⟨k, v, N, rfl, hO, _⟩; exact (Cells.cons (Cells.cons (Cells.cons (Cells.cons (Cells.cons (Cells.cons (Cells.cons (Cells.cons (hO.cells.app Cells.nil)))))))))) _ ⟨0, .slice none 0 0, [], rfl, OwnZ.nil, Nat.zero_le _⟩ (by (first | exact HSub.refl _ | (repeat' first | exact HSub.nil _ | exact HSub.refl _ | refine HSub.at 0 rfl ?_ | refine HSub.at 1 rfl ?_ | refine HSub.at 2 rfl ?_ | refine HSub.at 3 rfl ?_ | refine HSub.at 4 rfl ?_ | refine HSub.at 5 rfl ?_ | refine HSub.at 6 rfl ?_ | refine HSub.at 7 rfl ?_)))
  (fun i _ => [(13, nv i), (14, rowV A cap m.c i), (12, .pointer (some ⟨b12, 0, none⟩)), (9, .pointer (some ⟨b9, 0, none⟩)), (8, .pointer (some ⟨b8, 0, none⟩)), (7, .pointer (some ⟨b7, 0, none⟩)), (6, .pointer (some ⟨b6, 0, none⟩))]) (fun _ => none) (fun _ _ h => by cases h) rfl rfl (by kernel_rfl) (by kernel_rfl) rfl (fun _ _ h => h) ?_ ?_ ?_
 ·intro l i W hW
  simp only [toB, textOps, toSOp, kindAt, kindOf, odAt, sopsAt, ordOf, exH, List.nil_append, List.cons_append]
  (repeat' (first | refine JC.seq ?_ | refine JC.ops ?_ | refine JO.nil ?_ | refine Q00 ?_ | (apply Q02; (iterate 3 exact rfl))))
  exact Q48 rfl (by repeat first | exact trivial | refine ⟨rfl, ?_⟩)
 ·rintro l i pre _ _ W1 hM' hi hpl ⟨k, v, N, rfl, hO, hkl⟩ hl hln hkb hge
  simp only [toB, textOps, toSOp, kindAt, kindOf, odAt, sopsAt, ordOf, exH, List.nil_append, List.cons_append]
  have hrow := Q5r (c2 := ⟨Tryz.prog, 83, W1, _, hM'⟩) (Q99 hm hE hi) hkb (Q55 hge) []
  have hlr := Q3p hm hi
  have hplc : pre.length * c ≤ 40000 := Nat.mul_le_mul (show pre.length ≤ 200 by omega) (show c ≤ 200 by omega)
  have hpc1 : (pre ++ [i]).length * c = pre.length * c + c := by rw [List.length_append, List.length_singleton, Nat.add_mul, Nat.one_mul]
  obtain ⟨A2, c2, rfl⟩ := hO.form
  by_cases hin : i0 ≤ i ∧ i < i0 + r
  ·(repeat' (first | refine JC.seq ?_ | refine JC.ops ?_ | refine JO.nil ?_ | refine Q00 ?_ | (apply Q04; (iterate 3 exact rfl)) | (apply Q0g; (iterate 4 exact rfl); (first | exact at4 | exact at6); exact rfl) | (apply Q1a; (iterate 4 exact rfl); omega) | (apply Q0n; (iterate 4 exact rfl)) | (apply Q0m; (iterate 4 exact rfl); all_goals intro hc; all_goals try (exfalso; omega)) | (apply Q2k; (iterate 4 exact rfl); all_goals intro hc; all_goals try (exfalso; omega)) | refine Q08 rfl ?_ | refine JC.block ?_))
   refine Q36 [(b12, .cells #[nv r, nv c, .slice A2 k c2] 29 (0, 0)), (b9, .cells (nv c).cells 3 (0, 0)), (b7, .cells (nv j0).cells 3 (0, 0))] (by (first | exact HSub.refl _ | (repeat' first | exact HSub.nil _ | exact HSub.refl _ | refine HSub.at 0 rfl ?_ | refine HSub.at 1 rfl ?_ | refine HSub.at 2 rfl ?_ | refine HSub.at 3 rfl ?_ | refine HSub.at 4 rfl ?_ | refine HSub.at 5 rfl ?_ | refine HSub.at 6 rfl ?_ | refine HSub.at 7 rfl ?_))) ?_
   (repeat' (first | (apply Q04; (iterate 3 exact rfl)) | (apply Q06; (iterate 3 exact rfl)) | (apply Q0g; (iterate 4 exact rfl); (first | exact at0 | exact at1 | exact at2); exact rfl) | (apply Q1a; (iterate 4 exact rfl); omega)))
   refine Qa7 (l := j0) (h' := j0 + c) rfl rfl rfl hrow rfl rfl (.inl rfl) rfl rfl (.inl rfl) (by omega) (by omega) (fun v3 hv3 _ => ?_)
   rw [Nat.add_sub_cancel_left] at hv3
   skip
   refine Q39 (A := [_, _, _, _, _, _, _, _]) hO hv3 (by (repeat' first | exact HSub.nil _ | exact HSub.hd | exact Q03 | exact HSub.refl _ | refine HSub.skip ?_ | refine Q01 ?_)) rfl (by (first | exact HSub.refl _ | (repeat' first | exact HSub.nil _ | exact HSub.refl _ | refine HSub.at 0 rfl ?_ | refine HSub.at 1 rfl ?_ | refine HSub.at 2 rfl ?_ | refine HSub.at 3 rfl ?_ | refine HSub.at 4 rfl ?_ | refine HSub.at 5 rfl ?_ | refine HSub.at 6 rfl ?_ | refine HSub.at 7 rfl ?_))) rfl rfl rfl rfl (by omega) (fun v4 N4 hO4 => ?_)
   obtain ⟨A4, c4, rfl⟩ := hO4.form
   (repeat' (first | refine JO.nil ?_ | (apply Q06; (iterate 3 exact rfl)) | (apply Q28; exact rfl; (first | exact trivial | exact ⟨rfl, rfl⟩); exact rfl; exact rfl; exact at1; exact rfl; exact rfl; (first | exact Nat.le_of_ble_eq_true rfl | (simp; done) | omega)) | refine Q0b ?_))
   rw [← Qik pre hin] at hO4
   exact Q2i (H' := [(bx, Obj.cells #[nv m.r, nv m.c, .slice A (m.r * m.c) cap] 29 (0, 0)), (b12, .cells #[nv r, nv c, .slice A4 (k + c) c4] 29 (0, 0)), (b10, .cells #[iv 0, iv 0, .slice none 0 0] 29 (0, 0)), (b9, .cells (nv c).cells 3 (0, 0)), (b8, .cells (nv r).cells 3 (0, 0)), (b7, .cells (nv j0).cells 3 (0, 0)), (b6, .cells (nv i0).cells 3 (0, 0)), (b5, .cells #[nv m.r, nv m.c, .slice A (m.r * m.c) cap] 29 (0, 0))] ++ (N4 ++ [])) ⟨k + c, _, N4, rfl, hO4, by omega⟩ (Cells.cons (Cells.cons (Cells.cons (Cells.cons (Cells.cons (Cells.cons (Cells.cons (Cells.cons (hO4.cells.app Cells.nil))))))))) (HSub.refl _)
  ·(repeat' (first | refine JC.seq ?_ | refine JC.ops ?_ | refine JO.nil ?_ | refine Q00 ?_ | (apply Q04; (iterate 3 exact rfl)) | (apply Q0g; (iterate 4 exact rfl); (first | exact at4 | exact at6); exact rfl) | (apply Q1a; (iterate 4 exact rfl); omega) | (apply Q0n; (iterate 4 exact rfl)) | (apply Q0q; (iterate 4 exact rfl)) | (apply Q0m; (iterate 4 exact rfl); all_goals intro hc; all_goals try (exfalso; omega)) | (apply Q2k; (iterate 4 exact rfl); all_goals intro hc; all_goals try (exfalso; omega)) | refine JC.skip ?_ | refine Q07 rfl ?_ | refine JC.block ?_ | refine Q0b ?_ | (apply Q10; exact rfl; exact rfl; (first | (intro h; cases h; done) | (intro _; rfl)))))
   all_goals
    rw [← Qgc pre hin] at hO
    exact Q2i ⟨k, _, N, rfl, hO, by omega⟩ (Cells.cons (Cells.cons (Cells.cons (Cells.cons (Cells.cons (Cells.cons (Cells.cons (Cells.cons (hO.cells.app Cells.nil))))))))) (HSub.refl _)
 ·rintro D _ ⟨k, v, N, rfl, hO, hkl⟩ hD
  obtain ⟨A2, c2, rfl⟩ := hO.form
  simp only [toS, textOps, toSOp, kindAt, kindOf, odAt, sopsAt, ordOf]
  (repeat' (first | refine JC.seq ?_ | refine JC.ops ?_ | refine JO.nil ?_ | refine Q00 ?_ | (apply Q02; (iterate 3 exact rfl)) | (apply Q0d; (iterate 4 exact rfl); (first | exact at2 | exact at3); exact rfl) | (apply Q05; exact rfl; (first | exact trivial | exact ⟨rfl, rfl⟩); exact rfl; exact rfl; (first | exact at2 | exact at3); (iterate 3 exact rfl)) | (apply Q05; exact rfl; (first | exact trivial | exact ⟨rfl, rfl⟩); exact rfl; exact rfl; (first | exact at2 | exact at3); (iterate 3 exact rfl)) | refine JC.ret ?_))
  rw [Qgd hm hi0 hj0] at hO
  refine Q56 0 rfl hD rfl ?_
  exact Q16 2 rfl rfl rfl rfl (fun a w' st => ⟨st.kp, N, _, rfl, st.newOf rfl (by exact HSub.skip (HSub.skip (HSub.skip (HSub.skip (HSub.skip (HSub.skip (HSub.skip (HSub.skip Q03)))))))), OwnM.mk' hO⟩)

set_option maxHeartbeats 8000000 in
theorem Qm6 (w : World) (v : Value) (m : ZM) (i j r c : Int) (hm : RtZ m) (h : ¬ partOk m i j r c) (hv : IsM w v m)
  (h1 : -9223372036854775808 ≤ r ∧ r ≤ 9223372036854775807) (h2 : -9223372036854775808 ≤ c ∧ c ≤ 9223372036854775807) :
  Calls Tryz.prog 11 #[v, iv i, iv j, iv r, iv c] w (Ret fun v w' => Kp [] w w' ∧ v = .tuple #[zeroM, .bool false]) := by
 have hvX := hv.x
 obtain ⟨E, rfl, hE⟩ := hv
 have hle := hm.le
 have hbr := hm.r
 have hbc := hm.c
 unfold partOk at h
 refine Q0a [⟨8, 2, [], []⟩] [] (by simp) [] Tryz.func11 rfl mixed (by kernel_rfl) Tryz.ntmps11 Tryz.results11 rfl ⟨by simp, by simp⟩ (by simp) ?_
 simp only [toS, textOps, toSOp, kindAt, kindOf, odAt, sopsAt, ordOf, zipF]
 (repeat' (first | refine JC.seq ?_ | refine JC.ops ?_ | refine JO.nil ?_ | refine Q00 ?_ | (apply Q02; (iterate 3 exact rfl)) | (apply Q0d; (iterate 4 exact rfl); exact at5; exact rfl) | (apply Q0e; (iterate 3 exact rfl); intro _) | (apply Q0x; (iterate 4 exact rfl); intro _) | (apply Qg5; (iterate 5 exact rfl); intro _)))
 refine Q09 trivial rfl rfl rfl (fun w hk _ => Q20 w _ m.xm (hvX.mono hk) (by simp [ZM.xm]; omega)) fun w v w' _ _ _ hR => ?_
 obtain ⟨b', rfl, hb⟩ := hR
 obtain rfl := hb.2 hm.rx
 (repeat' (first | refine JC.seq ?_ | refine JC.ops ?_ | refine JO.nil ?_ | refine Q00 ?_ | (apply Q04; (iterate 3 exact rfl)) | (apply Q06; (iterate 3 exact rfl)) | (apply Q02; (iterate 3 exact rfl)) | (apply Q0g; (iterate 4 exact rfl); (first | exact at0 | exact at1 | exact at2 | exact at3 | exact at4 | exact at5); exact rfl) | (apply Qju; (iterate 6 exact rfl); intro q hq1 hq2) | (apply Q3b; (iterate 4 exact rfl); omega) | (apply Q0n; (iterate 4 exact rfl)) | (apply Q0q; (iterate 4 exact rfl)) | (apply Q1e; (iterate 3 exact rfl)) | (apply Q05; exact rfl; (first | exact trivial | exact ⟨rfl, rfl⟩); exact rfl; exact rfl; (first | exact at0 | exact at1 | exact at2 | exact at3 | exact at4 | exact at5); (iterate 3 exact rfl)) | (apply Q0m; (iterate 4 exact rfl); all_goals intro hc; all_goals try (exfalso; omega)) | (apply Q1l; (iterate 4 exact rfl); all_goals intro hc; all_goals try (exfalso; omega)) | (apply Q11; (iterate 5 exact rfl)) | (apply Q05; exact rfl; (first | exact trivial | exact ⟨rfl, rfl⟩); exact rfl; exact rfl; (first | exact at0 | exact at1 | exact at2 | exact at3 | exact at4 | exact at5); (iterate 3 exact rfl)) | refine Q0o ?_ | refine JC.ret ?_ | refine Q08 rfl ?_ | (apply Q10; exact rfl; exact rfl; (first | (intro h; cases h; done) | (intro _; rfl)))))
 all_goals first
  | exact Q16 0 rfl rfl rfl rfl (fun a w' st => ⟨st.kp, rfl⟩)
  | (exfalso; omega)


abbrev TR := SHeap × Value × List Int
def tH (ts : List TR) : SHeap := (ts.map (·.1)).flatten
theorem Qbe (a b : List TR) : tH (a ++ b) = tH a ++ tH b := by simp [tH]
theorem Qmy (t : TR) : tH [t] = t.1 := by simp [tH]
structure OwnT (N : SHeap) (v : Value) (c : Nat) (ts : List TR) : Prop where
 outer : OwnRow 27 1 N v ts.length (ts.map (·.2.1))
 rows : ∀ t ∈ ts, OwnZ t.1 t.2.1 c t.2.2
theorem OwnT.cells {N : SHeap} {v : Value} {c : Nat} {ts : List TR} (h : OwnT N v c ts) : Cells (N ++ tH ts) := h.outer.cells'.app fun p hp => by
 obtain ⟨l, hl, hp⟩ := List.mem_flatten.1 hp
 obtain ⟨t, ht, rfl⟩ := List.mem_map.1 hl
 exact (h.rows t ht).cells p hp
theorem OwnT.form {N : SHeap} {v : Value} {c : Nat} {ts : List TR} (h : OwnT N v c ts) : ∃ A cap, v = .slice A ts.length cap := by
 obtain ⟨_, ⟨h1, h2, _⟩ | ⟨b, cap, cur, h1, _⟩⟩ := h.outer
 ·exact ⟨none, 0, by rw [h1, h2]⟩
 ·exact ⟨_, _, h1⟩

set_option maxHeartbeats 8000000 in
theorem Qh3 (w : World) (v : Value) (m : ZM) (hm : RtZ m) (hv : IsM w v m) :
  Calls Tryz.prog 29 #[v] w (Ret fun v w' => Kp [] w w' ∧ ∃ N ts, New (N ++ tH ts) w w' ∧ OwnT N v m.c ts ∧ ts.map (·.2.2) = (List.range m.r).map (rowI m)) := by
 have hvX := hv.x
 obtain ⟨E, rfl, hE⟩ := hv
 have hl := hm.len
 have hle := hm.le
 have hbr := hm.r
 have hbc := hm.c
 rw [hl] at hE
 obtain ⟨A, cap, rfl⟩ := hE.form
 have hcap : m.r * m.c ≤ cap := Q91 hE
 refine Q3a 5 [⟨4, 2, [], []⟩] Tryz.func29 rfl mixed (by kernel_rfl) Tryz.ntmps29 (by simp) ?_
 simp only [toZ, hasRF, Bool.or_false, Bool.false_or, Bool.or_self, Bool.true_or, cond_true, cond_false, toS, textOps, toSOp, kindAt, kindOf, odAt, sopsAt, ordOf, zipF]
 (repeat' (first | refine JC.seq ?_ | refine JC.ops ?_ | refine JO.nil ?_ | refine Q00 ?_ | (apply Q02; (iterate 3 exact rfl)) | (apply Q0d; (iterate 4 exact rfl); exact at1; exact rfl) | (apply Q0e; (iterate 3 exact rfl); intro _) | (apply Q0x; (iterate 4 exact rfl); intro _)))
 rename_i b1 b3
 refine Q0h (A := []) rfl trivial rfl rfl rfl (fun w hk _ => Q9q w m.r m.c (m.r * m.c) cap A) fun w v w' _ _ _ hR => ?_
 obtain ⟨bx, rfl, hNx⟩ := hR
 refine ⟨_, hNx, ?_⟩
 (repeat' (first | refine JO.nil ?_ | refine Q00 ?_ | refine JC.block ?_))
 have hbx : ∀ (v : Value) (N : SHeap), (bx, Obj.cells #[nv m.r, nv m.c, .slice A (m.r * m.c) cap] 29 (0, 0)) ∈ ([(bx, Obj.cells #[nv m.r, nv m.c, .slice A (m.r * m.c) cap] 29 (0, 0)), (b3, .cells #[v] 51 (0, 0)), (b1, .cells #[nv m.r, nv m.c, .slice A (m.r * m.c) cap] 29 (0, 0))] ++ N) := fun v N => by simp
 refine Q3g (od := [⟨4, 2, [], []⟩]) _ rfl mixed rfl rfl (enters_of Tryz.func76 (by kernel_rfl) rfl) (Q41 hbr hbc (Nat.le_refl _) hcap)
  (fun pre H' => ∃ v N ts, H' = [(bx, Obj.cells #[nv m.r, nv m.c, .slice A (m.r * m.c) cap] 29 (0, 0)), (b3, .cells #[v] 51 (0, 0)), (b1, .cells #[nv m.r, nv m.c, .slice A (m.r * m.c) cap] 29 (0, 0))] ++ (N ++ tH ts) ∧ OwnT N v m.c ts ∧ ts.map (·.2.2) = pre.map (rowI m))
  (by rintro pre _ ⟨v, N, ts, rfl, _⟩; exact hbx v _) (by rintro pre _ ⟨v, N, ts, rfl, hO, _⟩; exact Cells.cons (Cells.cons (Cells.cons hO.cells))) _ ⟨.slice none 0 0, [], [], rfl, ⟨OwnRow.nil _ 1, fun t ht => by cases ht⟩, rfl⟩ (by (first | exact HSub.refl _ | (repeat' first | exact HSub.nil _ | exact HSub.refl _ | refine HSub.at 0 rfl ?_ | refine HSub.at 1 rfl ?_ | refine HSub.at 2 rfl ?_ | refine HSub.at 3 rfl ?_ | refine HSub.at 4 rfl ?_ | refine HSub.at 5 rfl ?_ | refine HSub.at 6 rfl ?_ | refine HSub.at 7 rfl ?_)))
  (fun i _ => [(5, rowV A cap m.c i), (3, .pointer (some ⟨b3, 0, none⟩))]) (fun _ => none) (fun _ _ h => by cases h) rfl rfl (by kernel_rfl) (by kernel_rfl) rfl (fun _ _ h => h) ?_ ?_ ?_
 ·intro l i W hW
  simp only [toB, textOps, toSOp, kindAt, kindOf, odAt, sopsAt, ordOf, exH, List.nil_append, List.cons_append]
  (repeat' (first | refine JC.ops ?_ | refine JO.nil ?_ | (apply Q02; (iterate 3 exact rfl))))
  exact Q48 rfl (by repeat first | exact trivial | refine ⟨rfl, ?_⟩)
 ·rintro l i pre _ _ W1 hM' hi hpl ⟨v, N, ts, rfl, hO, hts⟩ hl hln hkb hge
  simp only [toB, textOps, toSOp, kindAt, kindOf, odAt, sopsAt, ordOf, exH, List.nil_append, List.cons_append]
  have htl : ts.length = pre.length := by have := congrArg List.length hts; simpa using this
  have hrow := Q5r (c2 := ⟨Tryz.prog, 16, W1, _, hM'⟩) (Q99 hm hE hi) hkb (Q55 hge) []
  have hlr := Q3p hm hi
  obtain ⟨A2, c2, rfl⟩ := hO.form
  (repeat' (first | refine JC.block ?_))
  refine Q36 [(b3, .cells #[.slice A2 ts.length c2] 51 (0, 0))] (by (first | exact HSub.refl _ | (repeat' first | exact HSub.nil _ | exact HSub.refl _ | refine HSub.at 0 rfl ?_ | refine HSub.at 1 rfl ?_ | refine HSub.at 2 rfl ?_ | refine HSub.at 3 rfl ?_ | refine HSub.at 4 rfl ?_ | refine HSub.at 5 rfl ?_ | refine HSub.at 6 rfl ?_ | refine HSub.at 7 rfl ?_))) ?_
  (repeat' (first | (apply Q04; (iterate 3 exact rfl)) | (apply Q0g; (iterate 4 exact rfl); exact at0; exact rfl)))
  refine Q0h (A := [_, _, _]) rfl (by first | trivial | exact ⟨rfl, rfl⟩) rfl rfl rfl (fun w hk hs => Qja w _ _ _ (hrow.at hk hs (HSub.nil _)) (by omega)) fun w v w' _ _ _ hR => ?_
  obtain ⟨N2, hN2, hO2⟩ := hR
  obtain ⟨A3, c3, rfl⟩ := hO2.form
  refine ⟨N2, hN2, ?_⟩
  (repeat' (first | (apply Q0w; (iterate 5 exact rfl); (repeat first | exact trivial | refine ⟨rfl, ?_⟩); decide; decide; intro _)))
  rename_i b13
  refine Qbo (e := 27) (sz := 1) (bytes := 24) (zc := #[.slice none 0 0]) (A := (b13, _) :: (bx, _) :: (b3, _) :: (b1, _) :: N2) (N := N) (B := tH ts) (n := ts.length) (mm := 1) (xs := ts.map (·.2.1)) (news := [.slice A3 m.c c3]) (N2 := [(b13, .cells #[.slice A3 m.c c3] 27)]) rfl hO.outer ?_ (by (repeat' first | exact HSub.nil _ | exact HSub.hd | exact Q03 | exact HSub.refl _ | refine HSub.skip ?_ | refine Q01 ?_)) rfl (by (first | exact HSub.refl _ | (repeat' first | exact HSub.nil _ | exact HSub.refl _ | refine HSub.at 0 rfl ?_ | refine HSub.at 1 rfl ?_ | refine HSub.at 2 rfl ?_ | refine HSub.at 3 rfl ?_ | refine HSub.at 4 rfl ?_ | refine HSub.at 5 rfl ?_ | refine HSub.at 6 rfl ?_ | refine HSub.at 7 rfl ?_))) rfl rfl rfl rfl (fun u hu => by cases List.mem_singleton.1 hu; rfl) (by simp only [maxLen]; omega) (by omega) (fun v4 N4 hO4 => ?_)
  ·have := OwnRow.mk' (e := 27) (sz := 1) (n := 1) (b := b13) (cs := #[.slice A3 m.c c3]) rfl (by simp only [maxLen]; omega)
   exact this.rd
  have hT : OwnT N4 v4 m.c (ts ++ [(N2, .slice A3 m.c c3, rowI m i)]) := ⟨by simpa using hO4, fun t ht => by
   rcases List.mem_append.1 ht with ht | ht
   ·exact hO.rows t ht
   ·cases List.mem_singleton.1 ht; exact hO2⟩
  obtain ⟨A4, c4, rfl⟩ := hT.form
  (repeat' (first | refine JO.nil ?_ | (apply Q28; exact rfl; (first | exact trivial | exact ⟨rfl, rfl⟩); exact rfl; exact rfl; exact at2; exact rfl; exact rfl; (first | exact Nat.le_of_ble_eq_true rfl | (simp; done) | omega)) | refine Q0b ?_))
  refine Q2i (H' := [(bx, Obj.cells #[nv m.r, nv m.c, .slice A (m.r * m.c) cap] 29 (0, 0)), (b3, .cells #[.slice A4 (ts ++ [(N2, Value.slice A3 m.c c3, rowI m i)]).length c4] 51 (0, 0)), (b1, .cells #[nv m.r, nv m.c, .slice A (m.r * m.c) cap] 29 (0, 0))] ++ (N4 ++ tH (ts ++ [(N2, .slice A3 m.c c3, rowI m i)]))) ⟨_, N4, _, rfl, hT, by simp [hts]⟩ (Cells.cons (Cells.cons (Cells.cons (by exact hT.cells)))) ?_
  rw [Qbe, Qmy]
  refine HSub.skip ⟨[], ?_⟩
  rw [List.append_nil]
  refine ((List.Perm.cons _ (List.Perm.cons _ (List.Perm.cons _ ?_))))
  show (N2 ++ (N4 ++ tH ts)).Perm (N4 ++ (tH ts ++ N2))
  refine List.perm_append_comm.trans ?_
  rw [List.append_assoc]
 ·rintro D _ ⟨v, N, ts, rfl, hO, hts⟩ hD
  obtain ⟨A2, c2, rfl⟩ := hO.form
  simp only [toS, textOps, toSOp, kindAt, kindOf, odAt, sopsAt, ordOf]
  (repeat' (first | refine JC.seq ?_ | refine JC.ops ?_ | refine JO.nil ?_ | refine Q00 ?_ | (apply Q02; (iterate 3 exact rfl)) | (apply Q0g; (iterate 4 exact rfl); exact at2; exact rfl) | refine JC.ret ?_))
  refine Q56 0 rfl hD rfl ?_
  exact Q0j rfl (fun a w' st => ⟨st.kp, N, ts, st.newOf rfl (by exact HSub.skip (HSub.skip (HSub.skip (HSub.refl _)))), hO, hts⟩)


def sumL (ks : List Nat) (f : Nat → Int) : Int := (ks.map f).sum
theorem Q82 (ks : List Nat) (k : Nat) (f : Nat → Int) : sumL (ks ++ [k]) f = sumL ks f + f k := by simp [sumL]
theorem Q96 (f : Nat → Int) : ∀ n, sumL (List.range n) f = smI n f
 | 0 => rfl
 | n + 1 => by rw [List.range_succ, Q82, Q96 f n, smI]
theorem Qfg {B : Nat} {f : Nat → Int} (h : ∀ k, (f k).natAbs ≤ B) : ∀ ks : List Nat, (sumL ks f).natAbs ≤ ks.length * B
 | [] => by simp [sumL]
 | k :: ks => by
  have h1 := Qfg h ks
  have h2 := h k
  have h3 := Int.natAbs_add_le (f k) (sumL ks f)
  have e : sumL (k :: ks) f = f k + sumL ks f := by simp [sumL]
  rw [e, List.length_cons, Nat.add_mul, Nat.one_mul]
  omega

def muF (m n : ZM) (pre : List Nat) (i : Nat) (ks : List Nat) (k j : Nat) : Mi := fun a b => (pre.count a : Int) * mmI m.c m.at n.at a b + if a = i then sumL ks (fun t => m.at i t * n.at t b) + (if b < j then m.at i k * n.at k b else 0) else 0
def muS (m n : ZM) (pre : List Nat) (i : Nat) (ks : List Nat) (k j : Nat) : List Int := tbz m.r n.c (muF m n pre i ks k j)
def muE (m n : ZM) (pre : List Nat) : List Int := tbz m.r n.c fun a b => (pre.count a : Int) * mmI m.c m.at n.at a b
theorem Qiu (m n : ZM) : muE m n [] = tab (m.r * n.c) fun _ => 0 := by
 rw [← Q9y]
 exact Q13 fun i j _ _ => by simp
theorem Qgi (m n : ZM) (pre : List Nat) (i k : Nat) : muS m n pre i [] k 0 = muE m n pre := Q13 fun a b _ _ => by simp [muF, sumL]
theorem Qok (m n : ZM) (pre : List Nat) (i : Nat) (ks : List Nat) (k k' : Nat) : muS m n pre i ks k 0 = muS m n pre i ks k' 0 := Q13 fun a b _ _ => by simp [muF]
theorem Qlg {m n : ZM} {pre ks : List Nat} {i k j : Nat} (hi : i < m.r) (hj : j < n.c) : (muS m n pre i ks k j).set (i * n.c + j) (enz n.c (muS m n pre i ks k j) i j + m.at i k * n.at k j) = muS m n pre i ks k (j + 1) := by
 have e : enz n.c (muS m n pre i ks k j) i j = muF m n pre i ks k j i j := Q8e hi hj
 rw [e]
 unfold muS
 rw [Q7z hj]
 refine Q13 fun a b ha hb => ?_
 by_cases h : a = i ∧ b = j
 ·obtain ⟨rfl, rfl⟩ := h
  simp only [muF, and_self, if_true, Nat.lt_irrefl, if_false, Nat.lt_succ_self]
  omega
 ·rw [if_neg h]
  simp only [muF]
  by_cases h1 : a = i
  ·rw [if_pos h1, if_pos h1]
   have : (b < j + 1) ↔ (b < j) := by
    have : ¬ b = j := fun e => h ⟨h1, e⟩
    omega
   simp only [this]
  ·rw [if_neg h1, if_neg h1]
theorem Qir {m n : ZM} {pre ks : List Nat} {i k j : Nat} (h0 : m.at i k * n.at k j = 0) : muS m n pre i ks k j = muS m n pre i ks k (j + 1) := Q13 fun a b ha hb => by
 simp only [muF]
 by_cases hb : b = j
 ·subst hb
  rw [if_neg (Nat.lt_irrefl b), if_pos (Nat.lt_succ_self b), h0]
 ·have : (b < j + 1) ↔ (b < j) := by omega
  simp only [this]
theorem Qis {m n : ZM} {pre ks : List Nat} {i k : Nat} : muS m n pre i ks k n.c = muS m n pre i (ks ++ [k]) 0 0 := Q13 fun a b ha hb => by
 simp only [muF]
 rw [if_pos hb, Q82]
 simp
theorem Qit {m n : ZM} {pre ks : List Nat} {i k : Nat} (h0 : m.at i k = 0) : muS m n pre i ks 0 0 = muS m n pre i (ks ++ [k]) 0 0 := Q13 fun a b ha hb => by
 simp only [muF]
 rw [Q82, h0]
 simp
theorem Qlh {m n : ZM} {pre : List Nat} {i : Nat} : muS m n pre i (List.range m.c) 0 0 = muE m n (pre ++ [i]) := Q13 fun a b ha hb => by
 simp only [muF]
 rw [List.count_append]
 by_cases h : a = i
 ·subst h
  rw [if_pos rfl, Q96]
  simp only [List.count_singleton_self, Nat.not_lt_zero, if_false]
  show _ + (mmI m.c m.at n.at a b + 0) = _
  simp only [Int.natCast_add, Int.add_mul]
  simp
 ·rw [if_neg h, List.count_singleton]
  have : (i == a) = false := by simpa using fun e => h e.symm
  simp [this]
theorem Qli (m n : ZM) : muE m n (List.range m.r) = (mulZ m n).e := Q13 fun a b ha hb => by
 have : (List.range m.r).count a = 1 := by
  have h1 := List.nodup_iff_count.1 (List.nodup_range (n := m.r)) a
  have h2 := List.count_pos_iff.2 (List.mem_range.2 ha)
  omega
 rw [this]
 simp
theorem Qnj {K L : Nat} {m n : ZM} {pre ks : List Nat} {i k j a b : Nat} (hc : m.c ≤ 200) (hm : BdZ K m) (hn : BdZ L n) (hp : pre.length ≤ 200) (hk : ks.length ≤ 200) : (muF m n pre i ks k j a b).natAbs < 256 ^ (K + L + 2) := by
 have hB : ∀ t, (m.at i t * n.at t b).natAbs ≤ 256 ^ (K + L) := fun t => Nat.le_of_lt (Q29 (hm.at i t) (hn.at t b))
 have h1 : (mmI m.c m.at n.at a b).natAbs ≤ 200 * 256 ^ (K + L) := Nat.le_trans (Qfj (n := m.c) (f := fun t => m.at a t * n.at t b) (B := 256 ^ (K + L)) (fun t _ => Nat.le_of_lt (Q29 (hm.at a t) (hn.at t b)))) (Nat.mul_le_mul_right _ hc)
 have h2 : ((pre.count a : Int) * mmI m.c m.at n.at a b).natAbs ≤ 200 * (200 * 256 ^ (K + L)) := by
  rw [Int.natAbs_mul, Int.natAbs_natCast]
  exact Nat.mul_le_mul (Nat.le_trans List.count_le_length hp) h1
 have h3 : (sumL ks (fun t => m.at i t * n.at t b)).natAbs ≤ 200 * 256 ^ (K + L) := Nat.le_trans (Qfg hB ks) (Nat.mul_le_mul_right _ hk)
 have h4 := hB k
 have h5 := pos256 (K + L)
 have e : 256 ^ (K + L + 2) = 65536 * 256 ^ (K + L) := by rw [Nat.pow_succ, Nat.pow_succ]; omega
 rw [e]
 unfold muF
 generalize (pre.count a : Int) * mmI m.c m.at n.at a b = x at h2 ⊢
 generalize sumL ks (fun t => m.at i t * n.at t b) = y at h3 ⊢
 generalize m.at i k * n.at k b = z at h4 ⊢
 generalize 256 ^ (K + L) = P at *
 split
 ·split <;> omega
 ·omega

theorem Qje {N : SHeap} {A : Option Addr} {n cap : Nat} {xs : List WR} (h : OwnX N (.slice A n cap) n xs) : ∃ b, (0 < n → A = some ⟨b, 0, none⟩) ∧ n ≤ cap := by
 obtain ⟨_, ⟨h1, h2, _⟩ | ⟨b, cap', cur, h1, _, h3, _⟩⟩ := h
 ·refine ⟨0, fun h => by omega, by omega⟩
 ·cases h1
  exact ⟨b, fun _ => rfl, h3⟩

theorem Qmz {cx : Cx} {N : SHeap} {A A' : Option Addr} {b n co c l k : Nat} {xs : List Int} (hO : OwnZ N (.slice A n co) n xs) (hA0 : 0 < n → A = some ⟨b, 0, none⟩) (hA : 0 < c → A' = some ⟨b, 0 + l * 2, none⟩) (hl : l + c ≤ n) (hc : c ≤ k) : RdZ cx N (.slice A' c k) c ((xs.drop l).take c) := by
 have hlen := hO.len
 obtain ⟨_, _, _, he, _, h2⟩ := hO.rd (c := cx)
 cases he
 refine ⟨by rw [Q6m, List.length_map, List.length_take, List.length_drop]; omega, _, _, rfl, hc, fun h0 => ?_⟩
 obtain ⟨_, h3⟩ := h2 (by omega)
 obtain rfl := hA h0
 obtain rfl := hA0 (by omega)
 refine ⟨⟨_, _, rfl⟩, fun w hw j u hu => ?_⟩
 rw [List.map_take, List.map_drop, ← Q7h, ← Q7i, List.getElem?_take] at hu
 split at hu
 ·rw [List.getElem?_drop] at hu
  have := h3 w hw _ u hu
  simpa [Nat.add_assoc, vAt] using this
 ·cases hu

theorem OwnZ.ty {N : SHeap} {v : Value} {n : Nat} {xs : List Int} (h : OwnZ N v n xs) : ∀ p ∈ N, ∃ cs fz, p.2 = .cells cs 34 fz := by
 obtain ⟨_, ⟨_, _, rfl⟩ | ⟨b, cap, cur, _, rfl, _⟩⟩ := h
 ·intro p hp; cases hp
 ·intro p hp; cases List.mem_singleton.1 hp; exact ⟨_, _, rfl⟩


set_option maxHeartbeats 16000000 in
theorem Qo2 (K L : Nat) (w : World) (v u : Value) (m n : ZM) (hm : RtZ m) (hn : RtZ n) (hr : m.c = n.r) (hK : K + L ≤ 90000000) (hx : BdZ K m) (hy : BdZ L n) (hv : IsM w v m) (hu : IsM w u n) :
  Calls Tryz.prog 25 #[v, u] w (Ret fun v w' => Kp [] w w' ∧ GivesMB (mulZ m n) true w v w') := by
 have hvX := hv.x
 have huX := hu.x
 obtain ⟨E, rfl, hE⟩ := hv
 obtain ⟨E', rfl, hE'⟩ := hu
 have hl := hm.len
 have hle := hm.le
 have hl' := hn.len
 have hle' := hn.le
 have hbr := hm.r
 have hbc := hm.c
 have hbr' := hn.r
 have hbc' := hn.c
 have hrc := rcZ hbr hbc'
 rw [hl] at hE
 rw [hl'] at hE'
 obtain ⟨A, cap, rfl⟩ := hE.form
 obtain ⟨A', cap', rfl⟩ := hE'.form
 have hcap : m.r * m.c ≤ cap := Q91 hE
 have hcap' : n.r * n.c ≤ cap' := Q91 hE'
 refine Q3a 5 [⟨16, 2, [], []⟩] Tryz.func25 rfl mixed (by kernel_rfl) Tryz.ntmps25 (by simp) ?_
 simp only [toZ, hasRF, Bool.or_false, Bool.false_or, Bool.or_self, Bool.true_or, cond_true, cond_false, toS, textOps, toSOp, kindAt, kindOf, odAt, sopsAt, ordOf, zipF]
 (repeat' (first | refine JC.seq ?_ | refine JC.ops ?_ | refine JO.nil ?_ | refine Q00 ?_ | (apply Q02; (iterate 3 exact rfl)) | (apply Q0d; (iterate 4 exact rfl); exact at2; exact rfl) | (apply Q0e; (iterate 3 exact rfl); intro _) | (apply Q0x; (iterate 4 exact rfl); intro _)))
 rename_i b2 b3 b4
 refine Q09 trivial rfl rfl rfl (fun w hk _ => Q20 w _ m.xm (hvX.mono hk) (by simp [ZM.xm]; omega)) fun w v w' _ _ _ hR => ?_
 obtain ⟨b', rfl, hb⟩ := hR
 obtain rfl := hb.2 hm.rx
 (repeat' (first | (apply Q04; (iterate 3 exact rfl)) | (apply Q0d; (iterate 4 exact rfl); exact at1; exact rfl) | (apply Q1e; (iterate 3 exact rfl))))
 refine Q09 trivial rfl rfl rfl (fun w hk _ => Q20 w _ n.xm (huX.mono hk) (by simp [ZM.xm]; omega)) fun w v w' _ _ _ hR => ?_
 obtain ⟨b', rfl, hb⟩ := hR
 obtain rfl := hb.2 hn.rx
 (repeat' (first | refine JC.seq ?_ | refine JC.ops ?_ | refine JO.nil ?_ | refine Q00 ?_ | (apply Q04; (iterate 3 exact rfl)) | (apply Q06; (iterate 3 exact rfl)) | (apply Q0g; (iterate 4 exact rfl); (first | exact at1 | exact at2); exact rfl) | (apply Q0q; (iterate 4 exact rfl)) | (apply Q1e; (iterate 3 exact rfl)) | (apply Q3h; (iterate 4 exact rfl); all_goals intro hc; all_goals try (exfalso; omega)) | refine JC.skip ?_ | refine Q07 rfl ?_))
 refine Q0h (A := [_, _, _]) (B := []) rfl trivial rfl rfl rfl (fun w hk _ => Qe2 m.r n.c hbr hbc' w) fun w v w' _ _ _ hR => ?_
 obtain ⟨N, Eo, hN, rfl, hO⟩ := hR
 obtain ⟨Ao, co, rfl⟩ := hO.form
 refine ⟨N, hN, ?_⟩
 (repeat' (first | refine JC.seq ?_ | refine JC.ops ?_ | refine JO.nil ?_ | refine Q00 ?_ | (apply Q0d; (iterate 4 exact rfl); (first | exact at0 | exact at3); exact rfl) | (apply Q05; exact rfl; (first | exact trivial | exact ⟨rfl, rfl⟩); exact rfl; exact rfl; (first | exact at0 | exact at3); (iterate 3 exact rfl)) | (apply Q0e; (iterate 3 exact rfl); intro _) | (apply Q05; exact rfl; (first | exact trivial | exact ⟨rfl, rfl⟩); exact rfl; exact rfl; (first | exact at0 | exact at3); (iterate 3 exact rfl))))
 rename_i b6
 refine Q0h (A := []) rfl trivial rfl rfl rfl (fun w hk _ => Q9q w m.r m.c (m.r * m.c) cap A) fun w v w' _ _ _ hR => ?_
 obtain ⟨bx, rfl, hNx⟩ := hR
 refine ⟨_, hNx, ?_⟩
 (repeat' (first | refine JO.nil ?_ | refine Q00 ?_ | refine JC.block ?_))
 obtain ⟨b0, hAo, hco⟩ := Qje hO
 have hbx : ∀ (N : SHeap), (bx, Obj.cells #[nv m.r, nv m.c, .slice A (m.r * m.c) cap] 29 (0, 0)) ∈ ([(bx, Obj.cells #[nv m.r, nv m.c, .slice A (m.r * m.c) cap] 29 (0, 0)), (b6, .cells #[nv m.r, nv n.c, .slice Ao (m.r * n.c) co] 29 (0, 0)), (b4, .cells #[iv 0, iv 0, .slice none 0 0] 29 (0, 0)), (b3, .cells #[nv n.r, nv n.c, .slice A' (n.r * n.c) cap'] 29 (0, 0)), (b2, .cells #[nv m.r, nv m.c, .slice A (m.r * m.c) cap] 29 (0, 0))] ++ (N ++ [])) := fun N => by simp
 refine Q3g (od := [⟨16, 2, [], []⟩]) _ rfl mixed rfl rfl (enters_of Tryz.func76 (by kernel_rfl) rfl) (Q41 hbr hbc (Nat.le_refl _) hcap)
  (fun pre H' => ∃ N, H' = [(bx, Obj.cells #[nv m.r, nv m.c, .slice A (m.r * m.c) cap] 29 (0, 0)), (b6, .cells #[nv m.r, nv n.c, .slice Ao (m.r * n.c) co] 29 (0, 0)), (b4, .cells #[iv 0, iv 0, .slice none 0 0] 29 (0, 0)), (b3, .cells #[nv n.r, nv n.c, .slice A' (n.r * n.c) cap'] 29 (0, 0)), (b2, .cells #[nv m.r, nv m.c, .slice A (m.r * m.c) cap] 29 (0, 0))] ++ (N ++ []) ∧ OwnZ N (.slice Ao (m.r * n.c) co) (m.r * n.c) (muE m n pre))
  (by rintro pre _ ⟨N, rfl, _⟩; exact hbx N) (by rintro pre _ ⟨N, rfl, hO⟩; exact (Cells.cons (Cells.cons (Cells.cons (Cells.cons (Cells.cons (hO.cells.app Cells.nil))))))) _ ⟨N, rfl, by rw [Qiu]; exact hO⟩ (by (first | exact HSub.refl _ | (repeat' first | exact HSub.nil _ | exact HSub.refl _ | refine HSub.at 0 rfl ?_ | refine HSub.at 1 rfl ?_ | refine HSub.at 2 rfl ?_ | refine HSub.at 3 rfl ?_ | refine HSub.at 4 rfl ?_ | refine HSub.at 5 rfl ?_ | refine HSub.at 6 rfl ?_ | refine HSub.at 7 rfl ?_)))
  (fun i b => [(7, nv i), (8, .pointer (some ⟨b, 0, none⟩)), (6, .pointer (some ⟨b6, 0, none⟩)), (3, .pointer (some ⟨b3, 0, none⟩))]) (fun i => some (.cells #[rowV A cap m.c i] 27 (0, 0))) ?_ rfl rfl (by kernel_rfl) (by kernel_rfl) rfl (fun _ _ h => h) ?_ ?_ ?_
 ·rintro i _ ⟨⟩ pre _ ⟨N, rfl, hO⟩ p hp e
  simp only [List.mem_append, List.mem_cons, List.mem_nil_iff, or_false] at hp
  rcases hp with (rfl | rfl | rfl | rfl | rfl) | hp
  ·cases e
  ·cases e
  ·cases e
  ·cases e
  ·cases e
  ·obtain ⟨cs, fz, h⟩ := hO.ty p hp
   rw [h] at e
   cases e
 ·intro l i W hW
  simp only [toB, textOps, toSOp, kindAt, kindOf, odAt, sopsAt, ordOf, exH, List.nil_append, List.cons_append]
  (repeat' (first | refine JC.seq ?_ | refine JC.ops ?_ | refine JO.nil ?_ | refine Q00 ?_ | (apply Q02; (iterate 3 exact rfl)) | (apply Q0e; (iterate 3 exact rfl); intro _) | (apply Q28; exact rfl; (first | exact trivial | exact ⟨rfl, rfl⟩); exact rfl; exact rfl; exact at0; exact rfl; exact rfl; (first | exact Nat.le_of_ble_eq_true rfl | (simp; done) | omega))))
  exact Qew 0 rfl rfl rfl (by repeat first | exact trivial | refine ⟨rfl, ?_⟩)
 ·rintro l i pre b8 _ W1 hM' hi hpl ⟨N, rfl, hO⟩ hl hln hkb hge
  simp only [toB, textOps, toSOp, kindAt, kindOf, odAt, sopsAt, ordOf, exH, List.nil_append, List.cons_append]
  have hrow1 := Q90 (c := n.c) hi
  have hrow2 : (i + 1) * n.c = i * n.c + n.c := by rw [Nat.add_mul]; omega
  have hic : i * n.c ≤ 40000 := by omega
  (repeat' (first | refine JC.seq ?_ | refine JC.ops ?_ | (apply Q04; (iterate 3 exact rfl)) | (apply Q06; (iterate 3 exact rfl)) | (apply Q0g; (iterate 4 exact rfl); (first | exact at2 | exact at4); exact rfl) | (apply Q0r; (iterate 4 exact rfl); omega) | (apply Q1q; (iterate 4 exact rfl); (first | assumption | omega)) | refine JC.block ?_))
  refine Qa8 (b := b0) (o := 0) (l := i * n.c) (h' := (i + 1) * n.c) rfl rfl rfl hAo rfl rfl (.inl rfl) rfl rfl (.inl rfl) (by omega) (by omega) hco (fun A9 hA9 => ?_)
  rw [show (i + 1) * n.c - i * n.c = n.c by omega]
  have hA9 : 0 < n.c → A9 = some ⟨b0, 0 + i * n.c * 2, none⟩ := fun h => hA9 (by omega)
  (repeat' (first | refine JC.seq ?_ | refine JC.ops ?_ | refine JO.nil ?_ | refine Q00 ?_ | (apply Q0d; (iterate 4 exact rfl); (first | exact at0 | exact at5); exact rfl) | (apply Q0e; (iterate 3 exact rfl); intro _) | (apply Q28; exact rfl; (first | exact trivial | exact ⟨rfl, rfl⟩); exact rfl; exact rfl; (first | exact at0 | exact at5); exact rfl; exact rfl; (first | exact Nat.le_of_ble_eq_true rfl | (simp; done) | omega))))
  rename_i b9
  refine Q0h (A := []) rfl trivial rfl rfl rfl (fun w hk _ => Q9q w n.r n.c (n.r * n.c) cap' A') fun w v w' _ _ _ hR => ?_
  obtain ⟨by_, rfl, hNy⟩ := hR
  refine ⟨_, hNy, ?_⟩
  (repeat' (first | refine JO.nil ?_ | refine Q00 ?_ | refine JC.block ?_))
  have hby : ∀ (N : SHeap), (by_, Obj.cells #[nv n.r, nv n.c, .slice A' (n.r * n.c) cap'] 29 (0, 0)) ∈ ((by_, Obj.cells #[nv n.r, nv n.c, .slice A' (n.r * n.c) cap'] 29 (0, 0)) :: (b9, .cells #[.slice A9 n.c (co - i * n.c)] 27 (0, 0)) :: (b8, .cells #[rowV A cap m.c i] 27 (0, 0)) :: ([(bx, Obj.cells #[nv m.r, nv m.c, .slice A (m.r * m.c) cap] 29 (0, 0)), (b6, .cells #[nv m.r, nv n.c, .slice Ao (m.r * n.c) co] 29 (0, 0)), (b4, .cells #[iv 0, iv 0, .slice none 0 0] 29 (0, 0)), (b3, .cells #[nv n.r, nv n.c, .slice A' (n.r * n.c) cap'] 29 (0, 0)), (b2, .cells #[nv m.r, nv m.c, .slice A (m.r * m.c) cap] 29 (0, 0))] ++ (N ++ []))) := fun N => List.mem_cons_self ..
  refine Qex (od := [⟨16, 2, [], []⟩]) _ mixed hl hln rfl (enters_of Tryz.func76 (by kernel_rfl) rfl) (Q41 hbr' hbc' (Nat.le_refl _) hcap') hkb (Q55 hge)
   (fun ks H' => ∃ N, H' = (by_, Obj.cells #[nv n.r, nv n.c, .slice A' (n.r * n.c) cap'] 29 (0, 0)) :: (b9, .cells #[.slice A9 n.c (co - i * n.c)] 27 (0, 0)) :: (b8, .cells #[rowV A cap m.c i] 27 (0, 0)) :: ([(bx, Obj.cells #[nv m.r, nv m.c, .slice A (m.r * m.c) cap] 29 (0, 0)), (b6, .cells #[nv m.r, nv n.c, .slice Ao (m.r * n.c) co] 29 (0, 0)), (b4, .cells #[iv 0, iv 0, .slice none 0 0] 29 (0, 0)), (b3, .cells #[nv n.r, nv n.c, .slice A' (n.r * n.c) cap'] 29 (0, 0)), (b2, .cells #[nv m.r, nv m.c, .slice A (m.r * m.c) cap] 29 (0, 0))] ++ (N ++ [])) ∧ OwnZ N (.slice Ao (m.r * n.c) co) (m.r * n.c) (muS m n pre i ks 0 0))
   (by rintro ks _ ⟨N, rfl, _⟩; exact hby N) (by rintro ks _ ⟨N, rfl, hO⟩; exact (Cells.cons (Cells.cons (Cells.cons (Cells.cons (Cells.cons (Cells.cons (Cells.cons (Cells.cons (hO.cells.app Cells.nil)))))))))) _ ⟨N, rfl, by rw [Qgi]; exact hO⟩ (HSub.refl _)
   (fun k _ => [(10, nv k), (11, rowV A' cap' n.c k), (9, .pointer (some ⟨b9, 0, none⟩)), (8, .pointer (some ⟨b8, 0, none⟩))]) (fun _ => none) (fun _ _ h => by cases h) rfl rfl (by kernel_rfl) (by kernel_rfl) ?_ ?_ ?_
  ·intro l2 k W2 hW2
   simp only [toB, textOps, toSOp, kindAt, kindOf, odAt, sopsAt, ordOf, exH, List.nil_append, List.cons_append]
   (repeat' (first | refine JC.seq ?_ | refine JC.ops ?_ | refine JO.nil ?_ | refine Q00 ?_ | (apply Q02; (iterate 3 exact rfl))))
   exact Q48 rfl (by repeat first | exact trivial | refine ⟨rfl, ?_⟩)
  ·rintro l2 k ks _ _ W2 hM2 hk hkl ⟨N, rfl, hO⟩ hln2 hkb2 hge2
   simp only [toB, textOps, toSOp, kindAt, kindOf, odAt, sopsAt, ordOf, exH, List.nil_append, List.cons_append]
   have hra := Q5r (c2 := ⟨Tryz.prog, 86, W2, _, hM2⟩) (Q99 hm hE hi) hkb2 (Q55 hge2) []
   have hrb := Q5r (c2 := ⟨Tryz.prog, 86, W2, _, hM2⟩) (Q99 hn hE' hk) hkb2 (Q55 hge2) []
   have hkc : k < m.c := by omega
   have ea : (rowI m i).getD k 0 = m.at i k := Q4f hkc
   (repeat' (first | refine JC.seq ?_ | refine JC.ops ?_ | (apply Q04; (iterate 3 exact rfl)) | (apply Q0g; (iterate 4 exact rfl); exact at2; exact rfl) | (apply Q1m; (iterate 4 exact rfl); (first | assumption | exact WZ.rd (by assumption) rfl [] | exact OwnZ.rd (by assumption)); (first | assumption | omega)) | (apply Q52; (iterate 4 exact rfl); (first | assumption | exact WZ.rd (by assumption) rfl [] | exact OwnZ.rd (by assumption)); (repeat' first | exact HSub.nil _ | exact HSub.hd | exact Q03 | exact HSub.refl _ | refine HSub.skip ?_ | refine Q01 ?_); (first | assumption | omega)) | refine JC.block ?_))
   refine Q09 (by first | trivial | exact ⟨rfl, rfl⟩) rfl rfl rfl (fun w _ _ => Q8i w ((rowI m i).getD k 0)) fun w v w' _ _ _ hR => ?_
   by_cases hz : (rowI m i).getD k 0 = 0
   ·rw [decide_eq_true hz] at hR
    subst hR
    (repeat' (first | refine JO.nil ?_ | refine Q00 ?_ | refine Q0i ?_ | refine JC.exit ?_ | refine Q08 rfl ?_ | refine Q0f ?_))
    rw [Qit (show m.at i k = 0 by rw [← ea]; exact hz)] at hO
    exact Q2i ⟨N, rfl, hO⟩ (Cells.cons (Cells.cons (Cells.cons (Cells.cons (Cells.cons (Cells.cons (Cells.cons (Cells.cons (hO.cells.app Cells.nil))))))))) (HSub.refl _)
   ·rw [decide_eq_false hz] at hR
    subst hR
    (repeat' (first | refine JC.seq ?_ | refine JC.ops ?_ | refine JO.nil ?_ | refine Q00 ?_ | (apply Q04; (iterate 3 exact rfl)) | (apply Q4s; (iterate 3 exact rfl); (first | assumption | exact WZ.rd (by assumption) rfl [] | exact OwnZ.rd (by assumption))) | refine JC.skip ?_ | refine Q07 rfl ?_ | refine JC.block ?_))
    refine Q0k (ι := Nat × SHeap) ⟨fun z => [(62, nv z.1), (61, nv n.c), (60, rowV A' cap' n.c k), (10, nv k), (9, .pointer (some ⟨b9, 0, none⟩)), (8, .pointer (some ⟨b8, 0, none⟩))],
     fun z => (by_, Obj.cells #[nv n.r, nv n.c, .slice A' (n.r * n.c) cap'] 29 (0, 0)) :: (b9, .cells #[.slice A9 n.c (co - i * n.c)] 27 (0, 0)) :: (b8, .cells #[rowV A cap m.c i] 27 (0, 0)) :: ([(bx, Obj.cells #[nv m.r, nv m.c, .slice A (m.r * m.c) cap] 29 (0, 0)), (b6, .cells #[nv m.r, nv n.c, .slice Ao (m.r * n.c) co] 29 (0, 0)), (b4, .cells #[iv 0, iv 0, .slice none 0 0] 29 (0, 0)), (b3, .cells #[nv n.r, nv n.c, .slice A' (n.r * n.c) cap'] 29 (0, 0)), (b2, .cells #[nv m.r, nv m.c, .slice A (m.r * m.c) cap] 29 (0, 0))] ++ (z.2 ++ [])),
     fun z => z.1 ≤ n.c ∧ OwnZ z.2 (.slice Ao (m.r * n.c) co) (m.r * n.c) (muS m n pre i ks k z.1), fun z => n.c - z.1⟩ (0, N) ⟨by omega, by rw [Qok m n pre i ks k 0]; exact hO⟩ (by repeat first | exact trivial | refine ⟨rfl, ?_⟩) (HSub.refl _) (fun j hj => ?_)
    obtain ⟨j, N⟩ := j
    obtain ⟨hjn, hO⟩ := hj
    dsimp only at hjn hO ⊢
    by_cases hj : j < n.c
    ·have eb : (rowI n k).getD j 0 = n.at k j := Q4f hj
     have hlt := Q3y hi hj
     obtain rfl := hAo (by omega)
     obtain rfl := hA9 (by omega)
     have hat : vAt (.slice (some ⟨b0, 0 + i * n.c * 2, none⟩) n.c (co - i * n.c)) (j * 2) = vAt (.slice (some ⟨b0, 0, none⟩) (m.r * n.c) co) ((i * n.c + j) * 2) := by
      simp only [Q4b]
      congr 1
      rw [Nat.add_mul]; omega
     have hsub : RdZ ⟨Tryz.prog, 86, W2, _, hM2⟩ N (.slice (some ⟨b0, 0 + i * n.c * 2, none⟩) n.c (co - i * n.c)) n.c _ := Qmz (l := i * n.c) hO (fun _ => rfl) (fun _ => rfl) (by omega) (by omega)
     have es : (((muS m n pre i ks k j).drop (i * n.c)).take n.c).getD j 0 = enz n.c (muS m n pre i ks k j) i j := Qfr hj
     (repeat' (first | refine JC.seq ?_ | refine JC.ops ?_ | refine JO.nil ?_ | refine Q00 ?_ | (apply Q04; (iterate 3 exact rfl)) | (apply Q02; (iterate 3 exact rfl)) | (apply Q0d; (iterate 4 exact rfl); exact at0; exact rfl) | (apply Q1m; (iterate 4 exact rfl); (first | assumption | exact WZ.rd (by assumption) rfl [] | exact OwnZ.rd (by assumption)); (first | assumption | omega)) | (apply Q52; (iterate 4 exact rfl); (first | assumption | exact WZ.rd (by assumption) rfl [] | exact OwnZ.rd (by assumption)); (repeat' first | exact HSub.nil _ | exact HSub.hd | exact Q03 | exact HSub.refl _ | refine HSub.skip ?_ | refine Q01 ?_); (first | assumption | omega)) | (apply Q05; exact rfl; (first | exact trivial | exact ⟨rfl, rfl⟩); exact rfl; exact rfl; exact at0; (iterate 3 exact rfl)) | (apply Q0m; (iterate 4 exact rfl); all_goals intro hc; all_goals try (exfalso; omega)) | (apply Q0e; (iterate 3 exact rfl); intro _) | (apply Q05; exact rfl; (first | exact trivial | exact ⟨rfl, rfl⟩); exact rfl; exact rfl; exact at0; (iterate 3 exact rfl)) | refine JC.skip ?_ | refine Q08 rfl ?_ | refine JC.block ?_))
     refine Q09 (by first | trivial | exact ⟨rfl, rfl⟩) rfl rfl rfl (fun w _ _ => Q8i w ((rowI n k).getD j 0)) fun w v w' _ _ _ hR => ?_
     by_cases hz2 : (rowI n k).getD j 0 = 0
     ·rw [decide_eq_true hz2] at hR
      subst hR
      (repeat' (first | refine JC.ops ?_ | refine JO.nil ?_ | refine Q00 ?_ | (apply Q04; (iterate 3 exact rfl)) | (apply Q0r; (iterate 4 exact rfl); omega) | (apply Q1e; (iterate 3 exact rfl)) | refine JC.skip ?_ | refine Q07 rfl ?_ | refine Q0b ?_))
      rw [Qir (show m.at i k * n.at k j = 0 by rw [← eb, hz2, Int.mul_zero])] at hO
      exact Q0c (j + 1, N) ⟨by dsimp only; omega, hO⟩ (by dsimp only; omega) (by repeat first | exact trivial | refine ⟨rfl, ?_⟩) (HSub.skip (HSub.refl _))
     ·rw [decide_eq_false hz2] at hR
      subst hR
      (repeat' (first | refine JC.opsD ?_ | refine JO.nil ?_ | refine Q00 ?_ | (apply Q04; (iterate 3 exact rfl)) | (apply Q0g; (iterate 4 exact rfl); (first | exact at0 | exact at2 | exact at3); exact rfl) | (apply Q0d; (iterate 4 exact rfl); (first | exact at0 | exact at2 | exact at3); exact rfl) | (apply Q1m; (iterate 4 exact rfl); (first | assumption | exact WZ.rd (by assumption) rfl [] | exact OwnZ.rd (by assumption)); (first | assumption | omega)) | (apply Q52; (iterate 4 exact rfl); (first | assumption | exact WZ.rd (by assumption) rfl [] | exact OwnZ.rd (by assumption)); (repeat' first | exact HSub.nil _ | exact HSub.hd | exact Q03 | exact HSub.refl _ | refine HSub.skip ?_ | refine Q01 ?_); (first | assumption | omega)) | (apply Q1e; (iterate 3 exact rfl)) | refine Q08 rfl ?_))
      refine Q09 (by first | trivial | exact ⟨rfl, rfl⟩) rfl rfl rfl (fun w _ _ => Qc4 w _ _ ((rowI m i).getD k 0) ((rowI n k).getD j 0) (K + L) (Q0t (by rw [ea]; exact Q8q (hx.at i k) (by omega))) (Q0t (by rw [eb]; exact Q8q (hy.at k j) (by omega))) (by omega)) fun w v w' _ _ _ hR => ?_
      subst hR
      skip
      refine Q09 (by first | trivial | exact ⟨rfl, rfl⟩) rfl rfl rfl (fun w _ _ => Qmb w _ _ ((((muS m n pre i ks k j).drop (i * n.c)).take n.c).getD j 0) ((rowI m i).getD k 0 * (rowI n k).getD j 0) (K + L + 2) (Q0t (by rw [es, show enz n.c (muS m n pre i ks k j) i j = muF m n pre i ks k j i j from Q8e hi hj]; exact Qnj hbc hx hy (by omega) (by omega))) (Q0t (by rw [ea, eb]; exact Q8q (Q29 (hx.at i k) (hy.at k j)) (by omega))) (by omega)) fun w v w' _ _ _ hR => ?_
      subst hR
      (repeat' (first | (apply Q1m; (iterate 4 exact rfl); (first | assumption | exact WZ.rd (by assumption) rfl [] | exact OwnZ.rd (by assumption)); (first | assumption | omega))))
      refine Q5s (A := [_, _, _, _, _, _, _, _, _]) hO rfl rfl (by first | trivial | exact ⟨rfl, rfl⟩) (congrArg (fun a => some (Value.pointer (some a))) hat) rfl hlt (fun N' hO' => ?_)
      rw [es, ea, eb, Qlg hi hj] at hO'
      (repeat' (first | refine JC.ops ?_ | refine JO.nil ?_ | refine Q00 ?_ | (apply Q04; (iterate 3 exact rfl)) | (apply Q0r; (iterate 4 exact rfl); omega) | refine Q0b ?_))
      exact Q0c (j + 1, N') ⟨by dsimp only; omega, hO'⟩ (by dsimp only; omega) (by repeat first | exact trivial | refine ⟨rfl, ?_⟩) (HSub.skip (HSub.refl _))
    ·(repeat' (first | refine JC.seq ?_ | refine JC.ops ?_ | refine JO.nil ?_ | refine Q00 ?_ | (apply Q0m; (iterate 4 exact rfl); all_goals intro hc; all_goals try (exfalso; omega)) | refine Q0i ?_ | refine JC.exit ?_ | refine Q07 rfl ?_ | refine Q0b ?_ | refine Q0f ?_))
     obtain rfl : j = n.c := by omega
     rw [Qis] at hO
     exact Q2i ⟨N, rfl, hO⟩ (Cells.cons (Cells.cons (Cells.cons (Cells.cons (Cells.cons (Cells.cons (Cells.cons (Cells.cons (hO.cells.app Cells.nil))))))))) (HSub.refl _)
  ·rintro _ ⟨N, rfl, hO⟩
   (repeat' (first | refine Q0b ?_))
   rw [← hr, Qlh] at hO
   exact Q2i ⟨N, rfl, hO⟩ (Cells.cons (Cells.cons (Cells.cons (Cells.cons (Cells.cons (hO.cells.app Cells.nil)))))) (HSub.skip (HSub.skip (HSub.skip (HSub.refl _))))
 ·rintro D _ ⟨N, rfl, hO⟩ hD
  simp only [toS, textOps, toSOp, kindAt, kindOf, odAt, sopsAt, ordOf]
  (repeat' (first | refine JC.seq ?_ | refine JC.ops ?_ | refine JO.nil ?_ | refine Q00 ?_ | (apply Q02; (iterate 3 exact rfl)) | (apply Q0d; (iterate 4 exact rfl); (first | exact at2 | exact at3); exact rfl) | (apply Q05; exact rfl; (first | exact trivial | exact ⟨rfl, rfl⟩); exact rfl; exact rfl; (first | exact at2 | exact at3); (iterate 3 exact rfl)) | (apply Q05; exact rfl; (first | exact trivial | exact ⟨rfl, rfl⟩); exact rfl; exact rfl; (first | exact at2 | exact at3); (iterate 3 exact rfl)) | refine JC.ret ?_))
  rw [Qli] at hO
  refine Q56 0 rfl hD rfl ?_
  exact Q16 2 rfl rfl rfl rfl (fun a w' st => ⟨st.kp, N, _, rfl, st.newOf rfl (by exact HSub.skip (HSub.skip (HSub.skip (HSub.skip (HSub.skip Q03))))), OwnM.mk' hO⟩)



def dT : TR := ([], undef, [])
def tv (ts : List TR) (i : Nat) : Value := (ts.getD i dT).2.1
def tr' (ts : List TR) (i : Nat) : List Int := (ts.getD i dT).2.2
def tM (ts : List TR) : Mi := fun i j => (tr' ts i).getD j 0
theorem Q4y {ts : List TR} {i : Nat} (h : i < ts.length) : (ts.map (·.2.1))[i]? = some (tv ts i) := by
 rw [List.getElem?_map, Q3i (d := dT) h]
 rfl
theorem Q94 {ts : List TR} {i : Nat} (h : i < ts.length) : ts.getD i dT ∈ ts := Q5c h
theorem OwnT.row {N : SHeap} {v : Value} {c : Nat} {ts : List TR} (h : OwnT N v c ts) {i : Nat} (hi : i < ts.length) : OwnZ (ts.getD i dT).1 (tv ts i) c (tr' ts i) := h.rows _ (Q94 hi)
theorem Q81 : ∀ {ts : List TR} {t : TR}, t ∈ ts → HSub t.1 (tH ts)
 | [], _, h => by cases h
 | x :: ts, t, h => by
  have e : tH (x :: ts) = x.1 ++ tH ts := by simp [tH]
  rw [e]
  rcases List.mem_cons.1 h with rfl | h
  ·exact Q03
  ·exact Q01 (Q81 h)
theorem Qbd {ts : List TR} {i : Nat} (hi : i < ts.length) : tH ts = tH (ts.take i) ++ ((ts.getD i dT).1 ++ tH (ts.drop (i + 1))) := by
 have h1 : ts = ts.take i ++ (ts.getD i dT :: ts.drop (i + 1)) := by
  conv => lhs; rw [← List.take_append_drop i ts]
  congr 1
  rw [List.drop_eq_getElem_cons hi]
  congr 1
  simp only [List.getD, List.getElem?_eq_getElem hi, Option.getD_some]
 conv => lhs; rw [h1]
 rw [Qbe]
 simp [tH]
theorem Qfc {ts : List TR} {i : Nat} (hi : i < ts.length) (t : TR) : tH (ts.set i t) = tH (ts.take i) ++ (t.1 ++ tH (ts.drop (i + 1))) := by
 rw [Qbd (ts := ts.set i t) (i := i) (by simpa using hi)]
 rw [List.take_set_of_le (Nat.le_refl _), List.drop_set_of_lt (by omega)]
 congr 2
 simp [List.getD, hi]
theorem Qmx {ts : List TR} {i j : Nat} {N : SHeap} {v : Value} {u : Int} (hi : i < ts.length) (hj : j < (tr' ts i).length) (a b : Nat) : tM (ts.set i (N, v, (tr' ts i).set j u)) a b = if a = i ∧ b = j then u else tM ts a b := by
 unfold tM tr'
 by_cases ha : a = i
 ·subst ha
  rw [Q4e (d := dT) hi, if_pos rfl]
  show ((tr' ts a).set j u).getD b 0 = _
  rw [Q4e (d := 0) hj]
  by_cases hb : b = j
  ·rw [if_pos hb, if_pos ⟨rfl, hb⟩]
  ·rw [if_neg hb, if_neg (fun h => hb h.2)]; rfl
 ·rw [Q4e (d := dT) hi, if_neg ha, if_neg (fun h => ha h.1)]
theorem Qjl {ts : List TR} {i : Nat} {N : SHeap} {l : List Int} (hi : i < ts.length) (a : Nat) : tv (ts.set i (N, tv ts i, l)) a = tv ts a := by
 unfold tv
 rw [Q4e (d := dT) hi]
 split
 ·rename_i h; subst h; rfl
 ·rfl
theorem Qf6 {ts : List TR} {i : Nat} {N : SHeap} {l : List Int} (hi : i < ts.length) : (ts.set i (N, tv ts i, l)).map (·.2.1) = ts.map (·.2.1) := by
 rw [List.map_set]
 refine List.ext_getElem? (fun k => ?_)
 rw [List.getElem?_set]
 split
 ·rename_i h
  subst h
  rw [if_pos (by simpa using hi), Q4y hi]
 ·rfl

section
variable {c : Cx} {Q : Exit → Act → World → Prop} {m : Mode} {F : SFrame} {H : SHeap} {r : List SOp} {g : Option (Option Tmp × Bool)} {ns : Bool} {d : Tmp} {ty t t' : TypeId} {x y : Operand} {N : SHeap} {v : Value} {cc : Nat} {ts : List TR}
theorem OwnT.rd (h : OwnT N v cc ts) : Rd c N 1 v ts.length (ts.map (·.2.1)) := OwnRow.rd h.outer
theorem Qdk {e : TypeId} {n : Nat} [TSl c.P t e] (hd : dstOk c.n (some d) = true) (hg : guardF F g = some true) (hx : ev F x = some v) (hT : OwnT N v cc ts) (hn : ts.length = n)
  (h : JO c Q m r ((d, .int .i64 n) :: F) H) : JO c Q m (⟨some d, .call ⟨.builtin .len, #[x], #[t]⟩, ty, g, .mov, ns⟩ :: r) F H := Q4t hd hg hx hT.rd (by rw [hn]; exact h)
theorem Q1u {e : TypeId} {j : Nat} {k : IntKind} [TSl c.P t e] [TSz c.P e 1] (hd : dstOk c.n (some d) = true) (hg : guardF F g = some true) (hx : ev F x = some v) (hy : ev F y = some (.int k j)) (hT : OwnT N v cc ts) (hj : j < ts.length)
  (h : JO c Q m r ((d, .pointer (some (vAt v j))) :: F) H) : JO c Q m (⟨some d, .indexAddr t x y, ty, g, .mov, ns⟩ :: r) F H := Q3w hd hg hx hy hT.rd hj h
theorem Q4h {i : Nat} {V : Nat → Value} [T1 c.P t] (hd : dstOk c.n (some d) = true) (hg : guardF F g = some true) (hx : ev F x = some (.pointer (some (vAt v i)))) (hl : m.live = true) (hT : OwnT N v cc ts) (hV : ∀ a, tv ts a = V a) (hN : HSub N (m.src H)) (hi : i < ts.length)
  (h : JO c Q m r ((d, V i) :: F) H) : JO c Q m (⟨some d, .load t x, ty, g, .ld, ns⟩ :: r) F H := Q7g hd hg hx hl hT.rd hN (Q4y hi) (by rw [hV]; exact h)
theorem Q4g {e : TypeId} {i : Nat} {V : Nat → Value} [TSl c.P t e] (hd : dstOk c.n (some d) = true) (hg : guardF F g = some true) (hx : ev F x = some (V i)) (hV : ∀ a, tv ts a = V a) (hT : OwnT N v cc ts) (hi : i < ts.length)
  (h : JO c Q m r ((d, .int .i64 cc) :: F) H) : JO c Q m (⟨some d, .call ⟨.builtin .len, #[x], #[t]⟩, ty, g, .mov, ns⟩ :: r) F H := Q4s hd hg (by rw [hx, hV]) (hT.row hi).rd h
theorem Q1w {e : TypeId} {i j : Nat} {V : Nat → Value} {k : IntKind} [TSl c.P t e] [TSz c.P e 2] (hd : dstOk c.n (some d) = true) (hg : guardF F g = some true) (hx : ev F x = some (V i)) (hy : ev F y = some (.int k j)) (hV : ∀ a, tv ts a = V a) (hT : OwnT N v cc ts) (hi : i < ts.length) (hj : j < cc)
  (h : JO c Q m r ((d, .pointer (some (vAt (V i) (j * 2)))) :: F) H) : JO c Q m (⟨some d, .indexAddr t x y, ty, g, .mov, ns⟩ :: r) F H := Q1m hd hg (by rw [hx, hV]) hy (hT.row hi).rd hj (by rw [hV]; exact h)
theorem Q44 {i j : Nat} {V : Nat → Value} [TN c.P t 2] (hd : dstOk c.n (some d) = true) (hg : guardF F g = some true) (hx : ev F x = some (.pointer (some (vAt (V i) (j * 2))))) (hl : m.live = true) (hV : ∀ a, tv ts a = V a) (hT : OwnT N v cc ts) (hN : HSub (tH ts) (m.src H)) (hi : i < ts.length) (hj : j < cc)
  (h : JO c Q m r ((d, Wv (tM ts i j)) :: F) H) : JO c Q m (⟨some d, .load t x, ty, g, .ld, ns⟩ :: r) F H := Q52 hd hg (by rw [hx, hV]) hl (hT.row hi).rd ((Q81 (Q94 hi)).trans hN) hj h
theorem Q9c {A B : SHeap} {i j : Nat} {u : Int} {V : Nat → Value} [TN c.P t 2] (hV : ∀ a, tv ts a = V a) (hT : OwnT N v cc ts) (hH : H = A ++ (N ++ (tH ts ++ B))) (hg : guardF F g = some true) (hm : m.mayStore ns r) (hx : ev F x = some (.pointer (some (vAt (V i) (j * 2))))) (hy : ev F y = some (Wv u))
  (hi : i < ts.length) (hj : j < cc) (h : ∀ ts', OwnT N v cc ts' → ts'.length = ts.length → (∀ a, tv ts' a = V a) → (∀ a b, tM ts' a b = if a = i ∧ b = j then u else tM ts a b) → JO c Q m.spent r F (A ++ (N ++ (tH ts' ++ B)))) : JO c Q m (⟨none, .store t x y, ty, g, .seq, ns⟩ :: r) F H := by
 refine Q5s (A := A ++ (N ++ tH (ts.take i))) (B := tH (ts.drop (i + 1)) ++ B) (hT.row hi) (by rw [hH, Qbd hi]; simp only [List.append_assoc]) hg hm (by rw [hx, hV]) hy hj (fun N' hO' => ?_)
 have h1 := h (ts.set i (N', tv ts i, (tr' ts i).set j u)) ⟨by rw [List.length_set, Qf6 hi]; exact hT.outer, fun q hq => by
  rcases List.mem_or_eq_of_mem_set hq with hq | rfl
  ·exact hT.rows q hq
  ·exact hO'⟩ (by simp) (fun a => by rw [Qjl hi]; exact hV a) (Qmx hi (by rw [(hT.row hi).len]; exact hj))
 rw [Qfc hi] at h1
 simpa only [List.append_assoc] using h1
theorem Q4q (hT : OwnT N v cc ts) {i : Nat} (hi : i < ts.length) : (tv ts i).cells.toList = [tv ts i] ∧ (tv ts i).oneCell' = true := by
 obtain ⟨A, cap, e⟩ := (hT.row hi).form
 rw [e]
 exact ⟨rfl, rfl⟩
end

section
variable {c : Cx} {Q : Exit → Act → World → Prop} {m : Mode} {F : SFrame} {H : SHeap} {r : List SOp} {g : Option (Option Tmp × Bool)} {ns : Bool} {d : Tmp} {ty t t' : TypeId} {x y : Operand}
theorem Qbk {N : SHeap} {sz n i : Nat} {v u : Value} {cs : List Value} [T1 c.P t] (hm : m.mayCall ns r) (hd : dstOk c.n (some d) = true) (hg : guardF F g = some true) (hx : ev F x = some (.pointer (some (vAt v i)))) (hv : Rd c N sz v n cs) (hN : HSub N H) (hu : cs[i]? = some u)
  (h : JO c Q m r ((d, u) :: F) H) : JO c Q m (⟨some d, .load t x, ty, g, .seq, ns⟩ :: r) F H := by
 refine Qjp (v := u) (dd := some d) hm hd hg (fun a w fr hs => ?_) h
 have hi := (List.getElem?_eq_some_iff.1 hu).1
 obtain ⟨hlen, A, cap, rfl, _, hv⟩ := hv
 have h0 : 0 < n := by
  rcases Nat.eq_zero_or_pos n with h | h
  ·subst h; simp at hlen; simp [hlen] at hi
  ·exact h
 have := (hv h0).2 w (hs.part hN) i u hu
 simp only [execOp, fr.ev hx, Sem.run_bind, Q51 this, Result.andThen_ok, Sem.run_pure]
theorem Qdf {e : TypeId} {N A B Hs : SHeap} {sz n i : Nat} {v u : Value} {cs : List Value} [T1 c.P t] (hO : OwnRow e sz N v n cs) (hH : H = A ++ (N ++ B)) (hHs : HSub Hs (A ++ B)) (hg : guardF F g = some true) (hx : ev F x = some (.pointer (some (vAt v i)))) (hy : ev F y = some u)
  (hc : u.cells.toList = [u]) (hv : u.oneCell' = true) (hi : i < n * sz) (h : ∀ N', OwnRow e sz N' v n (cs.set i u) → JO c Q (.draw Hs true) r F (A ++ (N' ++ B))) :
  JO c Q (.draw Hs true) (⟨none, .store t x y, ty, g, .seq, ns⟩ :: r) F H := by
 obtain ⟨b, cap, cur, rfl, rfl, h1, h2⟩ := hO.set hi
 subst hH
 simp only [Q4b, Nat.zero_add] at hx
 have hb : (A ++ ([(b, Obj.cells cur e (0, 0))] ++ B))[A.length]? = some (b, .cells cur e (0, 0)) := by simp
 have hk := h _ (h2 u)
 have hset : (A ++ ([(b, Obj.cells cur e (0, 0))] ++ B)).set A.length (b, .cells (cur.setIfInBounds i u) e (0, 0)) = A ++ ([(b, .cells (cur.setIfInBounds i u) e (0, 0))] ++ B) := by simp
 refine ⟨⟨rfl, .inr ⟨hg, fun a w st _ => ?_⟩⟩⟩
 have hm' : (b, Obj.cells cur e (0, 0)) ∈ A ++ ([(b, Obj.cells cur e (0, 0))] ++ B) := List.mem_of_getElem? hb
 have hcs : u.cells.size = 1 := by rw [← Array.length_toList, hc]; rfl
 obtain ⟨w', h1', h2', h3, h4, h5, h6, h7⟩ := Q5o (P := c.P) (t := t) (n := 1) T1.size (o := i) (v := u) (w := w) hcs (by rw [hc]; intro q hq; cases List.mem_singleton.1 hq; exact hv) (st.hs.blk _ hm') (by omega)
 rw [hc] at h2'
 have h2'' : w'.heap[b]? = some (.cells (cur.setIfInBounds i u) e (0, 0)) := h2'
 obtain ⟨st', hstep⟩ := setBlk st hb h2'' h3 h4 h5 h6 h7
 rw [hset] at st'
 unfold Oper.wp SOp.oper
 simp only [execOp, st.fr.ev hx, st.fr.ev hy, Sem.run_bind, h1', Result.andThen_ok, Sem.run_pure]
 have hs2 : HSub Hs (A ++ ([(b, Obj.cells (cur.setIfInBounds i u) e (0, 0))] ++ B)) := hHs.trans (HSub.sub (List.Sublist.append_left (List.sublist_append_right _ _) A))
 exact ⟨hstep, F, _, .draw Hs true, st', fun j hj => .inl (by rw [← hset] at hj; exact Qap hb j hj), ⟨rfl, fun _ => ⟨rfl, hs2.hsat st'.hs⟩, fun _ => rfl, .inl rfl⟩, hk.h⟩
end

def swT (ts : List TR) (p q : Nat) : List TR := (ts.set p (ts.getD q dT)).set q (ts.getD p dT)
theorem Q5m (ts : List TR) (p q : Nat) : (swT ts p q).length = ts.length := by simp [swT]
theorem Qkp {ts : List TR} {p q : Nat} (hp : p < ts.length) (hq : q < ts.length) (i : Nat) : (swT ts p q).getD i dT = if i = q then ts.getD p dT else if i = p then ts.getD q dT else ts.getD i dT := by
 unfold swT
 rw [Q4e (d := dT) (by simpa using hq), Q4e (d := dT) hp]
theorem Qkq {ts : List TR} {p q : Nat} (hp : p < ts.length) (hq : q < ts.length) (i j : Nat) : tM (swT ts p q) i j = if i = q then tM ts p j else if i = p then tM ts q j else tM ts i j := by
 unfold tM tr'
 rw [Qkp hp hq]
 split
 ·rfl
 ·split <;> rfl
theorem Q4d {ts : List TR} {p q : Nat} (hp : p < ts.length) (hq : q < ts.length) : (swT ts p q).Perm ts := by
 have h := Array.swap_perm (xs := ts.toArray) (i := p) (j := q) (by simpa using hp) (by simpa using hq)
 have e : (ts.toArray.swap p q (by simpa using hp) (by simpa using hq)).toList = swT ts p q := by
  unfold swT
  simp [Array.swap, List.getD, hp, hq]
 have h2 := Array.perm_iff_toList_perm.1 h
 rw [e] at h2
 exact h2
theorem Qa1 {a b : List TR} (h : a.Perm b) : (tH a).Perm (tH b) := (h.map _).flatten
theorem Qff {ts : List TR} {p q : Nat} (hp : p < ts.length) (hq : q < ts.length) : (swT ts p q).map (·.2.1) = ((ts.map (·.2.1)).set p (tv ts q)).set q (tv ts p) := by
 unfold swT
 rw [List.map_set, List.map_set]
 rfl


theorem Q5l {e : TypeId} {sz n : Nat} {N N' : SHeap} {v : Value} {cs cs' : List Value} (h : OwnRow e sz N v n cs) (h' : OwnRow e sz N' v n cs') : keys N = keys N' := by
 obtain ⟨_, ⟨h1, _, h3⟩ | ⟨b, cap, cur, h1, h3, _⟩⟩ := h
 ·obtain ⟨_, ⟨_, _, k3⟩ | ⟨b, cap, cur, k1, _⟩⟩ := h'
  ·rw [h3, k3]
  ·rw [h1] at k1; cases k1
 ·obtain ⟨_, ⟨k1, _, _⟩ | ⟨b', cap', cur', k1, k3, _⟩⟩ := h'
  ·rw [h1] at k1; cases k1
  ·rw [h1] at k1
   cases k1
   rw [h3, k3]
   rfl

theorem Qjf {c : Cx} {R : Value → World → Prop} {F : SFrame} {H : SHeap} (hR : ∀ a w, St c F H a w → R (.tuple #[]) w) : JX c (endPost c.P #[] (Ret R)) .ret F H := ⟨fun a w st => (Qb5 (c := c) (F := F) (H := H) hR).h a w st⟩

theorem Qi5 {xs ys : List Int} {t : Int} {n k : Nat} (hl : xs.length = n) (hk : k < n) : (tab n fun j => if j < k then xs.getD j 0 - t * ys.getD j 0 else xs.getD j 0).set k (xs.getD k 0 - t * ys.getD k 0) = tab n fun j => if j < k + 1 then xs.getD j 0 - t * ys.getD j 0 else xs.getD j 0 := by
 rw [Qa0]
 refine Q1h fun i hi => ?_
 by_cases h : i = k
 ·subst h; simp
 ·by_cases h' : i < k
  ·rw [if_neg h, if_pos h', if_pos (by omega)]
  ·rw [if_neg h, if_neg h', if_neg (by omega)]

set_option maxHeartbeats 4000000 in
theorem Q9p (K : Nat) (w : World) (v u : Value) (n : Nat) (xs ys : List Int) (t : Int) (N : SHeap) (hO : OwnZ N v n xs) (hs : Hsat N w) (hu : WZ w u n ys) (hd : 0 < n → (vAt u 0).block ∉ keys N) (hn : n ≤ 1000000)
  (hK : 2 * K + 1 ≤ 100000000) (hx : BdL K xs) (hy : BdL K ys) (ht : t.natAbs < 256 ^ K) :
  Calls Tryz.prog 46 #[v, u, Wv t] w (Ret fun _ w' => Kp (keys N) w w' ∧ ∃ N', keys N' = keys N ∧ InW N' w' ∧ OwnZ N' v n (tab n fun j => xs.getD j 0 - t * ys.getD j 0)) := by
 have hl := hO.len
 have hM := Qcl hs
 have hS : OwnZ N v n (tab n fun j => if j < 0 then xs.getD j 0 - t * ys.getD j 0 else xs.getD j 0) := by
  rw [Q1h (g' := fun j => xs.getD j 0) (fun i _ => if_neg (Nat.not_lt_zero i)), Qfb hl]
  exact hO
 refine Q0a [⟨5, 2, [], []⟩] (keys N) hM N Tryz.func46 rfl mixed (by kernel_rfl) Tryz.ntmps46 Tryz.results46 rfl hs (fun p hp => List.mem_map.2 ⟨p, hp, rfl⟩) ?_
 simp only [toS, textOps, toSOp, kindAt, kindOf, odAt, sopsAt, ordOf, zipF]
 have hru : RdZ ⟨Tryz.prog, 29, w, keys N, hM⟩ [] u n ys := Qkc hu hd []
 (repeat' (first | refine JC.seq ?_ | refine JC.ops ?_ | refine JO.nil ?_ | refine Q00 ?_ | (apply Q0d; (iterate 4 exact rfl); exact at0; exact rfl) | (apply Q0x; (iterate 4 exact rfl); intro _)))
 rename_i b5
 refine Q09 trivial rfl rfl rfl (fun w _ _ => Q8i w t) fun w v w' _ _ _ hR => ?_
 by_cases hz : t = 0
 ·rw [decide_eq_true hz] at hR
  subst hR
  (repeat' (first | refine JO.nil ?_ | refine Q00 ?_ | refine Q0o ?_ | refine JC.ret ?_ | refine Q08 rfl ?_))
  refine Qjf (fun a w' st => ⟨st.kp, N, rfl, fun p hp => st.hs.blk p (List.mem_cons_of_mem _ hp), ?_⟩)
  rw [Q1h (g' := fun j => xs.getD j 0) (fun i _ => by rw [hz, Int.zero_mul, Int.sub_zero]), Qfb hl]
  exact hO
 ·rw [decide_eq_false hz] at hR
  subst hR
  (repeat' (first | refine JC.seq ?_ | refine JC.ops ?_ | refine JO.nil ?_ | refine Q00 ?_ | (apply Q04; (iterate 3 exact rfl)) | (apply Q4s; (iterate 3 exact rfl); (first | assumption | exact WZ.rd (by assumption) rfl [] | exact OwnZ.rd (by assumption))) | refine JC.skip ?_ | refine Q07 rfl ?_ | refine JC.block ?_))
  refine Q0k (ι := Nat × SHeap) ⟨fun z => [(11, nv z.1), (10, nv n), (0, v), (1, u), (5, .pointer (some ⟨b5, 0, none⟩))],
   fun z => [(b5, .cells (wc t) 34)] ++ (z.2 ++ []),
   fun z => z.1 ≤ n ∧ OwnZ z.2 v n (tab n fun j => if j < z.1 then xs.getD j 0 - t * ys.getD j 0 else xs.getD j 0), fun z => n - z.1⟩ (0, N) ⟨by omega, hS⟩ (by repeat first | exact trivial | refine ⟨rfl, ?_⟩) (by simp only [List.append_nil]; exact HSub.refl _) (fun z hz' => ?_)
  obtain ⟨k, N1⟩ := z
  obtain ⟨hkn, hO1⟩ := hz'
  dsimp only at hkn hO1 ⊢
  by_cases hlt : k < n
  ·have ex : (tab n fun j => if j < k then xs.getD j 0 - t * ys.getD j 0 else xs.getD j 0).getD k 0 = xs.getD k 0 := by rw [Q58 hlt, if_neg (Nat.lt_irrefl k)]
   (repeat' (first | refine JC.seq ?_ | refine JC.ops ?_ | refine JC.opsD ?_ | refine JO.nil ?_ | refine Q00 ?_ | (apply Q04; (iterate 3 exact rfl)) | (apply Q02; (iterate 3 exact rfl)) | (apply Q0d; (iterate 4 exact rfl); exact at0; exact rfl) | (apply Q1m; (iterate 4 exact rfl); (first | assumption | exact WZ.rd (by assumption) rfl [] | exact OwnZ.rd (by assumption)); (first | assumption | omega)) | (apply Q52; (iterate 4 exact rfl); (first | assumption | exact WZ.rd (by assumption) rfl [] | exact OwnZ.rd (by assumption)); (repeat' first | exact HSub.nil _ | exact HSub.hd | exact Q03 | exact HSub.refl _ | refine HSub.skip ?_ | refine Q01 ?_); (first | assumption | omega)) | (apply Q0m; (iterate 4 exact rfl); all_goals intro hc; all_goals try (exfalso; omega)) | refine JC.skip ?_ | refine Q08 rfl ?_ | refine JC.block ?_))
   refine Q09 (by first | trivial | exact ⟨rfl, rfl⟩) rfl rfl rfl (fun w _ _ => Qc4 w _ _ t (ys.getD k 0) K (Q0t ht) (Q0t (hy k)) (by omega)) fun w v w' _ _ _ hR => ?_
   subst hR
   skip
   refine Q09 (by first | trivial | exact ⟨rfl, rfl⟩) rfl rfl rfl (fun w _ _ => Qj7 w _ _ ((tab n fun j => if j < k then xs.getD j 0 - t * ys.getD j 0 else xs.getD j 0).getD k 0) (t * ys.getD k 0) (K + K) (Q0t (by rw [ex]; exact Q8q (hx k) (by omega))) (Q0t (Q29 ht (hy k))) (by omega)) fun w v w' _ _ _ hR => ?_
   rw [ex] at hR
   subst hR
   (repeat' (first | (apply Q1m; (iterate 4 exact rfl); (first | assumption | exact WZ.rd (by assumption) rfl [] | exact OwnZ.rd (by assumption)); (first | assumption | omega))))
   refine Q5s (A := [_]) hO1 rfl rfl (by first | trivial | exact ⟨rfl, rfl⟩) rfl rfl hlt (fun N2 hO2 => ?_)
   rw [Qi5 hl hlt] at hO2
   (repeat' (first | refine JC.ops ?_ | refine JO.nil ?_ | refine Q00 ?_ | (apply Q04; (iterate 3 exact rfl)) | (apply Q0r; (iterate 4 exact rfl); omega) | refine Q0b ?_))
   exact Q0c (k + 1, N2) ⟨by dsimp only; omega, hO2⟩ (by dsimp only; omega) (by repeat first | exact trivial | refine ⟨rfl, ?_⟩) (HSub.refl _)
  ·(repeat' (first | refine JC.seq ?_ | refine JC.ops ?_ | refine JO.nil ?_ | refine Q00 ?_ | (apply Q0m; (iterate 4 exact rfl); all_goals intro hc; all_goals try (exfalso; omega)) | refine Q0i ?_ | refine JC.exit ?_ | refine Q07 rfl ?_ | refine Q0f ?_))
   refine Qb5 (fun a w' st => ⟨st.kp, N1, Q5l hO1 hO, fun p hp => st.hs.blk p (List.mem_append_right _ (List.mem_append_left _ hp)), ?_⟩)
   rw [Q1h (g' := fun j => xs.getD j 0 - t * ys.getD j 0) (fun i hi => if_pos (by omega))] at hO1
   exact hO1


theorem Qo5 (w : World) (v : Value) (b n k : Nat) (zs : List Int) (hb : w.heap[b]? = some (.cells #[nv k] 3 (0, 0))) (hv : WZ w v n zs) (hk : k < n) :
  Calls Tryz.prog 32 #[v, .pointer (some ⟨b, 0, none⟩)] w (Ret fun u w' => Kp [] w w' ∧ u = .bool (decide (zs.getD k 0 ≠ 0))) := by
 have hc0 : w.cell? ⟨b, 0, none⟩ = some (nv k) := Q18 hb rfl
 refine Q0a [] [] (by simp) [] Tryz.func32 rfl mixed (by kernel_rfl) Tryz.ntmps32 Tryz.results32 rfl ⟨by simp, by simp⟩ (by simp) ?_
 simp only [toS, textOps, toSOp, kindAt, kindOf, odAt, sopsAt, ordOf, zipF]
 have hR := WZ.rd (c := ⟨Tryz.prog, 10, w, [], by simp⟩) hv rfl []
 (repeat' (first | refine JC.seq ?_ | refine JC.ops ?_ | refine JO.nil ?_ | refine Q00 ?_ | (apply Q04; (iterate 3 exact rfl)) | (apply Q02; (iterate 3 exact rfl)) | (apply Q1m; (iterate 4 exact rfl); (first | assumption | exact WZ.rd (by assumption) rfl [] | exact OwnZ.rd (by assumption)); (first | assumption | omega)) | (apply Q52; (iterate 4 exact rfl); (first | assumption | exact WZ.rd (by assumption) rfl [] | exact OwnZ.rd (by assumption)); (repeat' first | exact HSub.nil _ | exact HSub.hd | exact Q03 | exact HSub.refl _ | refine HSub.skip ?_ | refine Q01 ?_); (first | assumption | omega)) | (apply Qoi; (iterate 4 exact rfl); assumption; (first | assumption | exact (by simp)))))
 refine Q09 trivial rfl rfl rfl (fun w _ _ => Q8i w (zs.getD k 0)) fun w v w' _ _ _ hR => ?_
 subst hR
 (repeat' (first | refine JO.nil ?_ | refine Q00 ?_ | (apply Q02; (iterate 3 exact rfl)) | (apply Q1e; (iterate 3 exact rfl)) | refine JC.ret ?_))
 exact Q0j rfl (fun a w' st => ⟨st.kp, by simp⟩)

set_option maxHeartbeats 1000000 in
theorem Qc6 {f : FuncId} [TF Tryz.prog f] {fst cap : Array Value} (pred : Nat → Bool) (w : World) (E : Value) (n : Nat) (vs : List Value) (V : Nat → Value) (hE : RdW w 1 E n vs) (hV : ∀ i, i < n → vs[i]? = some (V i)) (hn : n < 9223372036854775807)
  (hcl : ∀ i w', i < n → Kp [] w w' → Calls Tryz.prog f (fst ++ #[V i] ++ cap) w' (Ret fun v w'' => Kp [] w' w'' ∧ v = .bool (pred i))) :
  Calls Tryz.prog 31 #[E, .func (.func f) fst cap] w (Ret fun v w' => Kp [] w w' ∧ ((∃ p : Nat, v = nv p ∧ p < n ∧ pred p = true) ∨ (v = iv (-1) ∧ ∀ i, i < n → pred i = false))) := by
 refine Q0a [] [] (by simp) [] Tryz.func31 rfl mixed (by kernel_rfl) Tryz.ntmps31 Tryz.results31 rfl ⟨by simp, by simp⟩ (by simp) ?_
 simp only [toS, textOps, toSOp, kindAt, kindOf, odAt, sopsAt, ordOf, zipF]
 have hR := RdW.rd (c := ⟨Tryz.prog, 19, w, [], by simp⟩) hE rfl []
 (repeat' (first | refine JC.seq ?_ | refine JC.ops ?_ | refine JO.nil ?_ | refine Q00 ?_ | (apply Q04; (iterate 3 exact rfl)) | (apply Q02; (iterate 3 exact rfl))))
 refine Q4t rfl rfl rfl hR ?_
 (repeat' (first | refine JO.nil ?_ | refine Q00 ?_ | (apply Q04; (iterate 3 exact rfl)) | refine JC.block ?_))
 refine Q0k (ι := Nat) ⟨fun k => [(8, nv k), (7, nv n), (0, E), (1, .func (.func f) fst cap)], fun _ => [], fun k => k ≤ n ∧ ∀ i, i < k → pred i = false, fun k => n - k⟩ 0 ⟨by omega, fun i h => by omega⟩ ⟨rfl, rfl, rfl, rfl, trivial⟩ (HSub.nil _) (fun k hk => ?_)
 obtain ⟨hkn, hpr⟩ := hk
 dsimp only
 by_cases hlt : k < n
 ·(repeat' (first | refine JC.seq ?_ | refine JC.ops ?_ | refine JO.nil ?_ | refine Q00 ?_ | (apply Q04; (iterate 3 exact rfl)) | (apply Q02; (iterate 3 exact rfl)) | (apply Q0m; (iterate 4 exact rfl); all_goals intro hc; all_goals try (exfalso; omega)) | refine JC.skip ?_ | refine Q08 rfl ?_ | refine JC.block ?_))
  refine Q3w rfl rfl rfl rfl hR hlt ?_
  skip
  refine Q7g rfl rfl rfl rfl hR (HSub.nil _) (hV k hlt) ?_
  skip
  refine Qaf trivial rfl rfl rfl rfl (fun w' hk _ => hcl k w' hlt hk) fun w v w' _ _ _ hv => ?_
  subst hv
  cases hp : pred k
  ·(repeat' (first | refine JC.ops ?_ | refine JO.nil ?_ | refine Q00 ?_ | (apply Q04; (iterate 3 exact rfl)) | (apply Q0r; (iterate 4 exact rfl); omega) | refine JC.skip ?_ | refine Q07 rfl ?_ | refine Q0b ?_))
   refine Q0c (k + 1) ⟨by omega, fun i h => ?_⟩ (by dsimp only; omega) ⟨rfl, rfl, rfl, rfl, trivial⟩ (HSub.nil _)
   rcases Nat.lt_or_ge i k with h' | h'
   ·exact hpr i h'
   ·have : i = k := by omega
    subst this; exact hp
  ·(repeat' (first | refine JC.seq ?_ | refine JC.ops ?_ | refine JO.nil ?_ | refine Q00 ?_ | (apply Q04; (iterate 3 exact rfl)) | (apply Q02; (iterate 3 exact rfl)) | refine Q0o ?_ | refine JC.ret ?_ | refine Q08 rfl ?_ | refine Q1b ?_))
   exact Q0j rfl (fun a w' st => ⟨st.kp, .inl ⟨k, rfl, hlt, hp⟩⟩)
 ·(repeat' (first | refine JC.seq ?_ | refine JC.ops ?_ | refine JO.nil ?_ | refine Q00 ?_ | (apply Q02; (iterate 3 exact rfl)) | (apply Q0m; (iterate 4 exact rfl); all_goals intro hc; all_goals try (exfalso; omega)) | refine Q0i ?_ | refine JC.exit ?_ | refine JC.ret ?_ | refine Q07 rfl ?_ | refine Q0f ?_))
  exact Q0j rfl (fun a w' st => ⟨st.kp, .inr ⟨rfl, fun i hi => hpr i (by omega)⟩⟩)

theorem Qfi {B : Nat} : ∀ {n : Nat} {f : Nat → Int}, (∀ i, i < n → (f i).natAbs ≤ B) → (smI n f).natAbs ≤ n * B
 | 0, f, _ => by simp [smI]
 | n + 1, f, h => by
  rw [smI]
  have h1 := Qfi (n := n) (f := f) (fun i hi => h i (by omega))
  have h2 := h n (by omega)
  have h3 := Int.natAbs_add_le (smI n f) (f n)
  rw [Nat.add_mul, Nat.one_mul]
  omega
theorem Qdz {K : Nat} : ∀ {n : Nat} {A : Mi}, n ≤ 256 → (∀ i j, (A i j).natAbs < 256 ^ K) → (det n A).natAbs ≤ 256 ^ (n * (K + 1))
 | 0, A, _, _ => by simp [det]
 | n + 1, A, hn, h => by
  rw [det]
  have h1 := Qfi (n := n + 1) (f := fun i => sg i * A i 0 * det n (fun a b => A (sk i a) (b + 1))) (B := 256 ^ K * 256 ^ (n * (K + 1))) (fun i hi => by
   have h2 := Qdz (n := n) (A := fun a b => A (sk i a) (b + 1)) (by omega) (fun a b => h _ _)
   have h3 : (sg i * A i 0).natAbs ≤ 256 ^ K := by
    have := h i 0
    unfold sg
    split
    ·rw [Int.one_mul]; omega
    ·rw [show (-1 : Int) * A i 0 = -(A i 0) by omega, Int.natAbs_neg]; omega
   rw [Int.natAbs_mul]
   exact Nat.mul_le_mul h3 h2)
  refine Nat.le_trans h1 ?_
  have e : 256 ^ ((n + 1) * (K + 1)) = 256 * (256 ^ K * 256 ^ (n * (K + 1))) := by
   rw [← Nat.pow_add, ← Nat.pow_succ']
   congr 1
   rw [Nat.add_mul]; omega
  rw [e]
  exact Nat.mul_le_mul_right _ hn
theorem Qor {K k n : Nat} {A : Mi} {i j : Nat} (hk : k < n) (hn : n ≤ 200) (h : ∀ i j, (A i j).natAbs < 256 ^ K) : (bm k A i j).natAbs < 256 ^ (n * (K + 1) + 1) := by
 have h1 := Qdz (K := K) (n := k + 1) (A := bd k A i j) (by omega) (fun a b => h _ _)
 unfold bm
 refine Nat.lt_of_le_of_lt h1 (Nat.pow_lt_pow_right (by decide) ?_)
 have := Nat.mul_le_mul_right (K + 1) (show k + 1 ≤ n from hk)
 omega

end Go.Proofs.YtdlmnloikakjpaaGreatDoor

