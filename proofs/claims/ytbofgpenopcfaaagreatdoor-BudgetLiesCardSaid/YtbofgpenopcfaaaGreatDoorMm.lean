import Derived.Test.YtbofgpenopcfaaaGreatDoorMl
import Derived.Laws.Pointers
import Derived.Room.Shelf.Join48
import Derived.Shelf.Strconv.Itoa3
import Derived.Shelf.Strings.Split
import Derived.Test.YtbofgpenopcfaaaGreatDoorMg
import Derived.Test.YtbofgpenopcfaaaGreatDoorMe
namespace Go.Proofs.YtbofgpenopcfaaaGreatDoor
open Go Go.RowKit
set_option linter.unusedSimpArgs false
set_option linter.unusedVariables false
set_option linter.unusedSectionVars false

section
variable {c : Cx} {Q : Exit → Act → World → Prop} {m : Mode} {F : SFrame} {H : SHeap} {r : List SOp} {g : Option (Option Tmp × Bool)} {ns : Bool} {ty : TypeId} {x : Operand}
theorem Qd5 {A N B : SHeap} {f : FuncId} {args : Array Operand} {ats : Array TypeId} {vs : List Value} {first cap : Array Value} {R : World → Value → World → Prop} {dd : Option Tmp} [TF c.P f] (hH : H.Perm (A ++ (N ++ B))) (hm : m.mayStore ns r) (hd : dstOk c.n dd = true) (hg : guardF F g = some true)
  (hx : ev F x = some (.func (.func f) first cap)) (ha : evArgs F args.toList = some vs)
  (hc : ∀ w, Kp c.M c.w0 w → Hsat H w → Calls c.P f (first ++ vs.toArray ++ cap) w (Ret fun v w' => Kp (keys N) w w' ∧ R w v w'))
  (h : ∀ w v w', Kp c.M c.w0 w → Hsat H w → Kp (keys N) w w' → R w v w' → ∃ N', (keys N').Perm (keys N) ∧ (∀ p ∈ N', w'.heap[p.1]? = some p.2) ∧ JO c Q m.spent r (putF F dd v) (A ++ (N' ++ B))) :
  JO c Q m (⟨dd, .call ⟨.value x, args, ats⟩, ty, g, .seq, ns⟩ :: r) F H := by
 refine ⟨⟨hd, .inr ⟨hg, fun a w st hs => ?_⟩⟩⟩
 have hrun : (execOp a.eval ⟨dd, .call ⟨.value x, args, ats⟩, ty, "", #[], none⟩).run c.P w = .ok (.enter f (first ++ vs.toArray ++ cap)) w := by
  show (do let d ← resolve a.eval ⟨.value x, args, ats⟩ ty; invoke d.target d.args).run c.P w = _
  have h1 : args.map a.eval = vs.toArray := by
   have := ZS st.fr ha
   apply Array.ext'
   rw [Array.toList_map, this]
  have h0 : (resolve a.eval ⟨.value x, args, ats⟩ ty).run c.P w = .ok { target := .fn (.func f) cap, args := first ++ vs.toArray } w := by
   simp [resolve, h1, st.fr.ev hx, Deferred.ofValue]
  rw [Sem.run_bind, h0]
  simp only [Result.andThen_ok, invoke, TF.run]
 unfold Oper.wp SOp.oper
 rw [hrun]
 refine Calls.mono (hc w st.kp st.hs) fun e w' he => ?_
 cases e with
 | panicked ch => exact he.elim
 | outgrown => exact he.elim
 | returned v =>
  obtain ⟨hk, hR⟩ := he
  obtain ⟨N', hkeys, hb, hj⟩ := h w v w' st.kp st.hs hk hR
  have hp : H.Perm ((A ++ B) ++ N) := hH.trans (QJ A N B).symm
  have hnd := (st.perm hp).hs.nd
  rw [List.map_append, List.nodup_append] at hnd
  obtain ⟨st', hstep, hkk⟩ := ZJ (N' := N') st hp (hkeys.nodup_iff.2 hnd.2.1) hb (fun k hk' => .inl (hkeys.mem_iff.1 hk')) (fun k h1 h2 => hk.block k h1 h2) hk.size hk.os hk.tape hk.output
  refine ⟨hstep, _, _, m.spent, (st'.perm (QJ A N' B)).put v hd, fun k hk' => hkk k ?_, QU hm, hj.h⟩
  obtain ⟨q, hq, rfl⟩ := List.mem_map.1 hk'
  exact List.mem_map.2 ⟨q, (QJ A N' B).mem_iff.2 hq, rfl⟩
end

section
variable {c : Cx} {Q : Exit → Act → World → Prop} {m : Mode} {F : SFrame} {H : SHeap} {r : List SOp} {g : Option (Option Tmp × Bool)} {ns : Bool} {d : Tmp} {ty t t' : TypeId} {x y : Operand}
theorem Q8f {p : Option Addr} (hu : c.P.underlying t = some (.pointer (c.P.pointee t))) (hd : dstOk c.n (some d) = true) (hg : guardF F g = some true) (hx : ev F x = some (.pointer p)) (hy : ev F y = some (.pointer none))
  (h : JO c Q m r ((d, .bool p.isNone) :: F) H) : JO c Q m (⟨some d, .binOp .eql t x y t', ty, g, .mov, ns⟩ :: r) F H :=
 Z9 hd hg (fun a w fr => by
  have h1 := run_eql_pointer_nil (P := c.P) w t p hu
  simp [execOp, fr.ev hx, fr.ev hy, eqGuard, h1]) h
theorem Qgd {p : Option Addr} (hu : c.P.underlying t = some (.pointer (c.P.pointee t))) (hd : dstOk c.n (some d) = true) (hg : guardF F g = some true) (hx : ev F x = some (.pointer p)) (hy : ev F y = some (.pointer none))
  (h : JO c Q m r ((d, .bool (!p.isNone)) :: F) H) : JO c Q m (⟨some d, .binOp .neq t x y t', ty, g, .mov, ns⟩ :: r) F H :=
 Z9 hd hg (fun a w fr => by
  have h1 := run_neq_pointer_nil (P := c.P) w t p hu
  simp [execOp, fr.ev hx, fr.ev hy, eqGuard, h1]) h
end

theorem Qcp {m n t : Nat} {S : Sm} (h : stpB m n t S = none) : (leastF S t m n).2.2 = false := by
 unfold stpB at h
 split at h
 ·assumption
 ·split at h
  ·cases h
  ·split at h
   ·cases h
   ·split at h
    ·cases h
    ·split at h <;> cases h
theorem Qde {α : Type} (x y : α) (N T : List α) : (x :: y :: (N ++ T)).Perm ((x :: N) ++ ((y :: T) ++ [])) := by
 rw [List.append_nil]
 exact (List.perm_middle.symm).cons x
set_option maxHeartbeats 16000000 in
theorem Qk0 (K : Nat) (w : World) (b : Nat) (W : WV) (m n t s k : Nat) (T : WT) (S : Sm) (hW : IsBj W m n T S) (hD : Dm m n S) (hs : Hsat (jgH b W m n t s T) w) (hm : m ≤ 200) (hn : n ≤ 200) (htm : t ≤ m) (htn : t ≤ n) (hK1 : 1 ≤ K) (hK : K ≤ 21000000) (hsk : s + k < 1099511627776)
  (hb : ∀ j, j ≤ (runB m n k t S).2.2 → Ok K (runB m n j t S).1) :
  Calls Tryz.prog 17 #[.pointer (some ⟨b, 0, none⟩), nv k] w (Ret fun v w' => JgR b W m n t s T ((runB m n k t S).2.1 : Nat) ((s + (runB m n k t S).2.2 : Nat) : Int) (runB m n k t S).1 w w' ∧ v = iv (if (leastF (runB m n k t S).1 (runB m n k t S).2.1 m n).2.2 = true then 60 else 0)) := by
 have hM := QC hs
 refine Q8 [] (keys (jgH b W m n t s T)) hM (jgH b W m n t s T) Tryz.func17 rfl mixed (by kernel_rfl) Tryz.ntmps17 Tryz.results17 rfl hs (fun p hp => List.mem_map.2 ⟨p, hp, rfl⟩) ?_
 simp only [toS, textOps, toSOp, kindAt, kindOf, odAt, sopsAt, ordOf, zipF]
 repeat' first | apply jS | apply jO | apply jN | refine Q1 ?_ | refine Q0 ?_ | apply jT
 refine Q8f (by kernel_rfl) rfl rfl rfl rfl ?_
 repeat' first | apply jN | apply jT | refine Q1 ?_ | refine Qn ?_ | (refine Qi (h1 := ?_) (h2 := ?_) <;> intro hc <;> try (exfalso; omega)) | (refine QM (h1 := ?_) (h2 := ?_) <;> intro hc <;> try (exfalso; omega)) | apply jK | refine Q4 rfl ?_ | apply jB
 all_goals first
  | (exfalso; omega)
  | skip
 refine Qj (ι := Nat × Nat × Sm × WV × WT) ⟨fun z => [(1, nv (k - z.1)), (0, .pointer (some ⟨b, 0, none⟩))], fun z => jgH b z.2.2.2.1 m n z.2.1 ((s + z.1 : Nat) : Int) z.2.2.2.2,
  fun z => z.1 ≤ k ∧ Dm m n z.2.2.1 ∧ IsBj z.2.2.2.1 m n z.2.2.2.2 z.2.2.1 ∧ SameW W z.2.2.2.1 ∧ (keys (jgH b z.2.2.2.1 m n z.2.1 ((s + z.1 : Nat) : Int) z.2.2.2.2)).Perm (keys (jgH b W m n t s T)) ∧ z.2.1 ≤ m ∧ z.2.1 ≤ n ∧
   runB m n k t S = ((runB m n (k - z.1) z.2.1 z.2.2.1).1, (runB m n (k - z.1) z.2.1 z.2.2.1).2.1, (runB m n (k - z.1) z.2.1 z.2.2.1).2.2 + z.1) ∧
   ∀ j, j ≤ (runB m n (k - z.1) z.2.1 z.2.2.1).2.2 → Ok K (runB m n j z.2.1 z.2.2.1).1, fun z => k - z.1⟩ (0, t, S, W, T) ⟨Nat.zero_le _, hD, hW, SameW.refl W, .refl _, htm, htn, rfl, hb⟩ cqq (HSub.refl _) (fun z hz => ?_)
 obtain ⟨i, t1, S1, W1, T1⟩ := z
 obtain ⟨hik, hD1, hW1, hS1, hk1, htm1, htn1, hrun, hok⟩ := hz
 dsimp only at hik hD1 hW1 hS1 hk1 htm1 htn1 hrun hok ⊢
 have hb1 : Ok K S1 := hok 0 (Nat.zero_le _)
 have hres : ∀ w', Kp (keys (jgH b W m n t s T)) w w' → (∀ p ∈ jgH b W1 m n t1 ((s + i : Nat) : Int) T1, w'.heap[p.1]? = some p.2) → JgR b W m n t s T t1 ((s + i : Nat) : Int) S1 w w' := fun w' h1 h2 => ⟨h1, W1, T1, hk1, h2, hW1, hS1⟩
 cases hst : stpB m n t1 S1 with
 | none =>
  have hle : (leastF S1 t1 m n).2.2 = false := Qcp hst
  repeat' first | apply jS | apply jO | refine Q1 ?_ | apply jB
  refine Qb pqq rfl eqq rfl (fun w _ hs => Qff K w b W1 m n t1 _ T1 S1 hW1 hD1 hs hm hn htm1 htn1 hK1 hK hb1) fun w v w' _ _ _ hR => ?_
  rw [hst] at hR
  subst hR
  have hrn : runB m n k t S = (S1, t1, i) := by rw [hrun, Q6v hle]; dsimp only; rw [Nat.zero_add]
  rw [hrn]
  dsimp only
  rw [hle]
  repeat' first | apply jS | apply jO | apply jN | apply jT | refine Q1 ?_ | refine Q0 ?_ | refine QT (h := ?_) | refine Qo (h := ?_) | refine Q3 ?_ | refine Qf fun _ => ?_ | refine Q3 ?_ | apply jV | apply jR | refine Q5 rfl ?_ | apply jB | refine Qt ?_
  exact Qd rfl (fun a w' st => ⟨hres w' st.kp (fun p hp => st.hs.blk p (by exact List.mem_cons_of_mem _ hp)), rfl⟩)
 | some r =>
  obtain ⟨S2, t2⟩ := r
  have hle : (leastF S1 t1 m n).2.2 = true := by
   cases hq : (leastF S1 t1 m n).2.2 with
   | true => rfl
   | false =>
    unfold stpB at hst
    rw [if_pos hq] at hst
    cases hst
  unfold jgH
  repeat' first | apply jS | apply jO | refine Q1 ?_ | apply jB
  refine Qk (A := [_]) (B := (W1.Nu ++ (tH T1.u ++ (W1.Nui ++ (tH T1.ui ++ (W1.Nd ++ (tH T1.d ++ (W1.Nv ++ (tH T1.v ++ (W1.Nvi ++ (tH T1.vi ++ []))))))))))) rfl pqq rfl eqq rfl (fun w _ hs => Qff K w b W1 m n t1 _ T1 S1 hW1 hD1 hs hm hn htm1 htn1 hK1 hK hb1) fun w v w' _ _ _ hR => ?_
  rw [hst] at hR
  obtain ⟨f, hf, first, cap, N, rfl, hN, hcl⟩ := hR
  refine ⟨N, hN, ?_⟩
  clear hN
  by_cases hlt : i < k
  ·obtain ⟨hrun2, hok2⟩ := We hlt hrun hok hst
   obtain ⟨hD2, htm2, htn2⟩ := WL hD1 hst
   unfold jgC
   repeat' first | apply jS | apply jO | apply jN | apply jT | refine Q1 ?_ | refine Q2 ?_ | refine Q0 ?_ | refine Q7 ?_ | refine Qn ?_ | refine QT (h := ?_) | refine Q6 ?_ | refine Qo (h := ?_) | refine Q3 ?_ | (refine Zu (h1 := ?_) (h2 := ?_) <;> intro hc <;> try (exfalso; omega)) | (refine Z0 (h1 := ?_) (h2 := ?_) <;> intro hc <;> try (exfalso; omega)) | refine Qf fun _ => ?_ | refine Q3 ?_ | apply jK | refine Q4 rfl ?_ | apply jB | apply jW
   all_goals first
    | (exfalso; omega)
    | skip
   rename_i b5 _
   refine Qd5 (A := (b5, .cells #[.func (.func f) first cap] 97) :: N) (N := jgH b W1 m n t1 ((s + i : Nat) : Int) T1) (B := []) (R := fun w _ w' => JgR b W1 m n t1 ((s + i : Nat) : Int) T1 t2 ((s + i : Nat) : Int) S2 w w') (by exact Qde (b5, _) (b, _) N _) pqq rfl eqq rfl rfl (fun w _ hs => ?_) (fun w1 v1 w2 _ _ _ hR => ?_)
   ·have h := hcl w ((HSub.skip (Zy (List.perm_middle.symm))).hsat hs)
    exact Z8 h fun v w' h => ⟨h.1, h⟩
   ·obtain ⟨_, W2, T2, hk2, hin2, hW2, hS2⟩ := hR
    refine ⟨jgH b W2 m n t2 ((s + i : Nat) : Int) T2, hk2, hin2, ?_⟩
    repeat' first | apply jN
    refine JX.part (F' := [(1, nv (k - i)), (0, .pointer (some ⟨b, 0, none⟩))]) (H' := jgH b W2 m n t2 ((s + i : Nat) : Int) T2) cqq (HSub.skip (Qh HSub.in0)) ?_
    refine QE ?_
    unfold jgH jgC
    repeat' first | apply jS | apply jO | apply jN | apply jT | refine Q1 ?_ | refine Q2 ?_ | refine Q0 ?_ | refine Q7 ?_ | refine Qe ?_ | refine ZF (h := ?_) | refine Q6 ?_ | refine QL (k := _) (h := ?_) | apply jW
    exact Qa (i + 1, t2, S2, W2, T2) ⟨hlt, hD2, hW2, hS1.trans hS2, (show (keys (jgH b W2 m n t2 ((s + (i + 1) : Nat) : Int) T2)).Perm _ from hk2).trans hk1, htm2, htn2, hrun2, hok2⟩ dgq cqq (HSub.refl _)
  ·obtain rfl : i = k := by omega
   have hrn : runB m n i t S = (S1, t1, i) := by rw [hrun, Nat.sub_self]; show (S1, t1, 0 + i) = _; rw [Nat.zero_add]
   rw [hrn]
   dsimp only
   rw [hle, Nat.sub_self]
   unfold jgC
   repeat' first | apply jS | apply jO | apply jN | apply jT | refine Q1 ?_ | refine Q0 ?_ | refine Ql ?_ | refine QT (h := ?_) | refine Qo (h := ?_) | refine Q3 ?_ | (refine Z0 (h1 := ?_) (h2 := ?_) <;> intro hc <;> try (exfalso; omega)) | refine Qf fun _ => ?_ | refine Q3 ?_ | apply jV | apply jR | refine Q5 rfl ?_ | refine Q4 rfl ?_ | refine Qt ?_ | refine Qy (h := ?_) | apply jB
   all_goals first
    | (exfalso; omega)
    | skip
   all_goals exact Qd rfl (fun a w' st => ⟨hres w' st.kp (fun p hp => st.hs.blk p ((show HSub (jgH b W1 m n t1 ((s + i : Nat) : Int) T1) _ by exact HSub.skip (HSub.at 0 rfl (Qh (M := N) (HSub.refl _)))).mem p hp)), rfl⟩)


set_option maxHeartbeats 4000000 in
theorem Y1 (w : World) (v : Value) (m : ZM) (hm : RtZ m) (hv : IsM w v m) :
  Calls Tryz.prog 46 #[v] w (Ret fun v w' => Kp [] w w' ∧ ∃ N ts, New (N ++ tH ts) w w' ∧ OwnT N v m.c ts ∧ ts.map (·.2.2) = rowsOf m) := by
 obtain ⟨E, rfl, hE⟩ := hv
 have hl := hm.len
 have hle := hm.le
 have hbr := hm.r
 have hbc := hm.c
 have hrc : m.r * m.c ≤ 40000 := by rw [← hl]; exact hle
 refine Q8 [] [] spq [] Tryz.func46 rfl mixed (by kernel_rfl) Tryz.ntmps46 Tryz.results46 rfl ⟨by simp, by simp⟩ spq ?_
 simp only [toS, textOps, toSOp, kindAt, kindOf, odAt, sopsAt, ordOf, zipF]
 have hRE := WZ.rd (c := ⟨Tryz.prog, 28, w, [], by simp⟩) hE rfl []
 rw [hl] at hRE
 clear hE
 repeat' first | apply jS | apply jO | apply jN | apply jT | refine Q1 ?_ | refine Q2 ?_ | refine Q0 ?_ | refine Q7 ?_ | refine QB (h := fun _ => ?_) | apply jB
 rename_i b1
 refine Qj (ι := Nat × Value × SHeap × List TR) ⟨fun z => [(7, nv z.1), (6, nv m.r), (3, z.2.1), (1, .pointer (some ⟨b1, 0, none⟩))],
  fun z => [(b1, .cells #[nv m.r, nv m.c, E] 28)] ++ (z.2.2.1 ++ (tH z.2.2.2 ++ [])),
  fun z => z.1 ≤ m.r ∧ OwnT z.2.2.1 z.2.1 m.c z.2.2.2 ∧ z.2.2.2.length = z.1 ∧ z.2.2.2.map (·.2.2) = (List.range z.1).map (rowI m), fun z => m.r - z.1⟩
  (0, .slice none 0 0, [], []) ⟨by omega, ⟨OwnRow.nil _ 1, fun t ht => by cases ht⟩, rfl, rfl⟩ cqq (HSub.at 0 rfl (HSub.nil _)) (fun z hz => ?_)
 obtain ⟨k, v3, N, ts⟩ := z
 obtain ⟨hkr, hT, hlen, hts⟩ := hz
 dsimp only at hkr hT hlen hts ⊢
 by_cases hlt : k < m.r
 ·have hk1 : (k + 1) * m.c ≤ m.r * m.c := Nat.mul_le_mul_right _ oq
  have hk2 : k * m.c ≤ m.r * m.c := Nat.mul_le_mul_right _ oq
  repeat' first | apply jS | apply jO | apply jN | apply jT | refine Q1 ?_ | refine Q2 ?_ | refine Q0 ?_ | refine Q7 ?_ | refine Qe ?_ | refine Z2 (h := ?_) | (refine Qi (h1 := ?_) (h2 := ?_) <;> intro hc <;> try (exfalso; omega)) | apply jK | refine Q5 rfl ?_ | apply jB
  refine Qj9 rfl rfl rfl hRE rfl rfl hk1 (fun v26 hv26 _ => ?_)
  skip
  refine Qk (A := [_]) (B := N ++ (tH ts ++ [])) rfl pqq rfl eqq rfl (fun w hk hs => Qec w _ m.c (rowI m k) (hv26.at hk hs (HSub.nil _)) oq) fun w v w' _ _ _ hR => ?_
  obtain ⟨N2, hN2, hO2⟩ := hR
  obtain ⟨A2, c2, rfl⟩ := hO2.form
  refine ⟨N2, hN2, ?_⟩
  repeat' first | refine Qw (h := fun _ => ?_) | fail
  rename_i b24
  have hone : OwnRow 26 1 [(b24, .cells #[.slice A2 m.c c2] 26)] (.slice (some ⟨b24, 0, none⟩) 1 1) 1 [.slice A2 m.c c2] := OwnRow.mk' (e := 26) (sz := 1) (n := 1) (b := b24) (cs := #[.slice A2 m.c c2]) rfl (by simp only [maxLen]; omega)
  refine YL (e := 26) (sz := 1) (bytes := 24) (zc := #[.slice none 0 0]) (A := (b24, .cells #[.slice A2 m.c c2] 26) :: (b1, .cells #[nv m.r, nv m.c, E] 28) :: N2) (N := N) (B := tH ts ++ []) (n := ts.length) (mm := 1) (xs := ts.map (·.2.1)) (news := [.slice A2 m.c c2]) rfl hT.outer hone.rd Q9 rfl pqq rfl rfl rfl rfl (fun u hu => by cases List.mem_singleton.1 hu; rfl) (by simp only [maxLen]; omega) oq (fun v4 N4 hO4 => ?_)
  have hT4 : OwnT N4 v4 m.c (ts ++ [(N2, .slice A2 m.c c2, rowI m k)]) := ⟨by simpa using hO4, fun t ht => by
   rcases List.mem_append.1 ht with ht | ht
   ·exact hT.rows t ht
   ·cases List.mem_singleton.1 ht; exact hO2⟩
  repeat' first | apply jO | apply jN | apply jT | refine Q1 ?_ | refine Q0 ?_ | refine Qe ?_ | apply jW
  refine Qa (k + 1, v4, N4, ts ++ [(N2, .slice A2 m.c c2, rowI m k)]) ⟨by dsimp only; omega, hT4, by simp [hlen], by dsimp only; rw [List.map_append, hts, List.range_succ, List.map_append]; rfl⟩ dgq cqq (HSub.skip (HSub.at 0 rfl ?_))
  have hp : (N2 ++ (N4 ++ tH ts)).Perm (N4 ++ (tH ts ++ N2)) := by rw [← List.append_assoc N4]; exact List.perm_append_comm
  exact ⟨[], by simpa [Q4j, Qix] using hp⟩
 ·repeat' first | apply jS | apply jO | apply jN | apply jT | refine Q1 ?_ | refine Q0 ?_ | (refine Qi (h1 := ?_) (h2 := ?_) <;> intro hc <;> try (exfalso; omega)) | apply jU | apply jE | apply jR | refine Q4 rfl ?_ | refine Qc ?_
  obtain rfl : k = m.r := by omega
  exact Qd rfl (fun a w' st => ⟨st.kp, N, ts, st.newOf rfl (by exact HSub.skip (by simpa using HSub.refl _)), hT, hts⟩)

theorem Wq {A B H : SHeap} (h : HSub (A ++ B) H) : HSub A H := HSub.in0.trans h
theorem Q55 {b m n : Nat} {t s : Int} {W : WV} {T : WT} (N : SHeap) : HSub (jgH b W m n t s T ++ N) ((b, .cells (jgC W m n t s) 84) :: (W.Nu ++ (tH T.u ++ (W.Nui ++ (tH T.ui ++ (W.Nd ++ (tH T.d ++ (W.Nv ++ (tH T.v ++ (W.Nvi ++ (tH T.vi ++ (N ++ [])))))))))))) := Zy (by
 unfold jgH
 simp only [List.append_nil, List.cons_append, List.append_assoc]
 exact .refl _)
theorem Qe6 (w : World) (b : Nat) (W : WV) (m n : Nat) (t s : Int) (T : WT) (hs : Hsat (jgH b W m n t s T) w) :
  Calls Tryz.prog 21 #[.pointer (some ⟨b, 0, none⟩)] w (Ret fun v w' => Kp [] w w' ∧ v = iv s) := by
 have hM := QC hs
 refine Q8 [] (keys (jgH b W m n t s T)) hM (jgH b W m n t s T) Tryz.func21 rfl mixed (by kernel_rfl) Tryz.ntmps21 Tryz.results21 rfl hs (fun p hp => List.mem_map.2 ⟨p, hp, rfl⟩) ?_
 simp only [toS, textOps, toSOp, kindAt, kindOf, odAt, sopsAt, ordOf, zipF]
 unfold jgH jgC
 repeat' first | apply jS | apply jO | apply jN | refine Q1 ?_ | refine Q0 ?_ | apply jT
 refine Q8f (by kernel_rfl) rfl rfl rfl rfl ?_
 repeat' first | apply jS | apply jO | apply jN | apply jT | refine Q1 ?_ | refine Q2 ?_ | refine Q0 ?_ | refine Q7 ?_ | refine Q6 ?_ | apply jK | apply jR | refine Q4 rfl ?_
 exact Qd rfl (fun a w' st => ⟨Z1 hs st.kp (fun p hp => st.hs.blk p (by exact hp)), rfl⟩)

set_option maxHeartbeats 4000000 in
theorem Q48 (K : Nat) (w : World) (b : Nat) (W : WV) (m n t : Nat) (s : Int) (T : WT) (S : Sm) (hW : IsBj W m n T S) (hs : Hsat (jgH b W m n t s T) w) (hm : m ≤ 200) (hn : n ≤ 200) (htm : t ≤ m) (htn : t ≤ n) (hK : K ≤ 90000000) (hb : okG K S.d = true) :
  Calls Tryz.prog 18 #[.pointer (some ⟨b, 0, none⟩)] w (Ret fun v w' => Kp [] w w' ∧ ∃ N E, v = .tuple #[E, nv t, .bool (!(leastF S t m n).2.2)] ∧ New N w w' ∧ OwnZ N E t ((List.range t).map fun k => gE S.d k k)) := by
 have hM := QC hs
 have hld := hW.d.len
 have hTd := hW.d.T
 have hVd : ∀ a, tv T.d a = tv T.d a := fun _ => rfl
 have hat := hW.d.at
 refine Q8 [⟨9, 2, [], []⟩] (keys (jgH b W m n t s T)) hM (jgH b W m n t s T) Tryz.func18 rfl mixed (by kernel_rfl) Tryz.ntmps18 Tryz.results18 rfl hs (fun p hp => List.mem_map.2 ⟨p, hp, rfl⟩) ?_
 simp only [toS, textOps, toSOp, kindAt, kindOf, odAt, sopsAt, ordOf, zipF]
 unfold jgH jgC
 repeat' first | apply jS | apply jO | apply jN | refine Q1 ?_ | refine Q0 ?_ | apply jT
 refine Q8f (by kernel_rfl) rfl rfl rfl rfl ?_
 repeat' first | apply jS | apply jO | apply jN | apply jT | refine Q1 ?_ | refine Q2 ?_ | refine Q7 ?_ | refine Q6 ?_ | apply jK | refine Q4 rfl ?_ | apply jB
 refine Qj (ι := Nat × SHeap × Value) ⟨fun z => [(14, nv z.1), (13, nv t), (2, z.2.2), (0, .pointer (some ⟨b, 0, none⟩))], fun z => (b, .cells (jgC W m n t s) 84) :: (W.Nu ++ (tH T.u ++ (W.Nui ++ (tH T.ui ++ (W.Nd ++ (tH T.d ++ (W.Nv ++ (tH T.v ++ (W.Nvi ++ (tH T.vi ++ (z.2.1 ++ []))))))))))),
  fun z => z.1 ≤ t ∧ OwnZ z.2.1 z.2.2 z.1 ((List.range z.1).map fun k => gE S.d k k), fun z => t - z.1⟩ (0, [], .slice none 0 0) ⟨Nat.zero_le _, OwnZ.nil⟩ cqq (HSub.refl _) (fun z hz => ?_)
 obtain ⟨k, N, v2⟩ := z
 obtain ⟨hk, hO⟩ := hz
 dsimp only at hk hO ⊢
 by_cases hlt : k < t
 ·have hk1 : k < m := by omega
  have hk2 : k < n := by omega
  unfold jgC
  repeat' first | apply jS | apply jO | apply jN | apply jT | refine Q1 ?_ | refine Q2 ?_ | refine Q0 ?_ | refine Q7 ?_ | refine QY (h := ?_) | refine Z3 (h := ?_) | refine Yb (h := ?_) | refine Y7 (h := ?_) | refine Q6 ?_ | (refine Qi (h1 := ?_) (h2 := ?_) <;> intro hc <;> try (exfalso; omega)) | apply jK | refine Q5 rfl ?_ | apply jB
  refine Wn (sz := 2) (vs := [Wv (tM T.d k k)]) (cl := [.bool (wz (tM T.d k k)).1, sv (wz (tM T.d k k)).2]) rfl rfl (by first | rfl | trivial | exact ⟨rfl, rfl⟩) rfl rfl (fun v hv => by
   cases List.mem_singleton.1 hv; rfl) rfl dq dq (fun b28 => ?_)
  have h1 := Q3o b28 (tM T.d k k)
  skip
  refine Zn (A := _ :: (b, .cells (jgC W m n t s) 84) :: (W.Nu ++ (tH T.u ++ (W.Nui ++ (tH T.ui ++ (W.Nd ++ (tH T.d ++ (W.Nv ++ (tH T.v ++ (W.Nvi ++ tH T.vi)))))))))) (N := N) (B := []) hO h1.rd Q9 (by simp only [List.cons_append, List.nil_append, List.append_assoc]; rfl) pqq rfl rfl rfl rfl oq (fun v' N' hO' => ?_)
  simp only [List.cons_append, List.nil_append, List.append_assoc]
  rw [hat, show (List.map (fun k => gE S.d k k) (List.range k)) ++ [gE S.d k k] = List.map (fun k => gE S.d k k) (List.range (k + 1)) by rw [List.range_succ, List.map_append]; rfl] at hO'
  repeat' first | apply jO | apply jN | apply jT | refine Q1 ?_ | refine Q0 ?_ | refine Qe ?_ | apply jW
  exact Qa (k + 1, N', v') ⟨by dsimp only; omega, hO'⟩ dgq cqq (HSub.skip (HSub.refl _))
 ·obtain rfl : k = t := by omega
  unfold jgC
  repeat' first | apply jS | apply jO | apply jN | apply jT | refine Q1 ?_ | (refine Qi (h1 := ?_) (h2 := ?_) <;> intro hc <;> try (exfalso; omega)) | apply jU | apply jE | refine Q4 rfl ?_ | refine Qc ?_
  refine Qb pqq rfl eqq rfl (fun w _ hs => Q7w K w b W m n k s T S hW (((Wq (Q55 N)).hsat hs)) hm hn htm htn hK hb) fun w v w' _ _ _ hR => ?_
  cases hfl : (leastF S k m n).2.2 with
  | true =>
   rw [show rwV (leastF S k m n) = nv (leastF S k m n).1 by unfold rwV; rw [hfl]; rfl, show clV (leastF S k m n) = nv (leastF S k m n).2.1 by unfold clV; rw [hfl]; rfl] at hR
   subst hR
   repeat' first | apply jS | apply jD | apply jN | apply jT | refine Q1 ?_ | refine Q2 ?_ | refine Q0 ?_ | refine Q7 ?_ | refine Q6 ?_ | refine Qo (h := ?_) | (refine Qi (h1 := ?_) (h2 := ?_) <;> intro hc <;> try (exfalso; omega)) | apply jR
   all_goals first
    | (exfalso; omega)
    | exact Yp [v2, nv k, .bool false] ⟨rfl, rfl, rfl, trivial⟩ (fun a w' st => ⟨Z1 hs st.kp (fun p hp => st.hs.blk p ((Wq (Q55 N)).mem p hp)), N, v2, rfl, newJ (H0 := jgH b W m n k s T) st rfl (Q55 N), hO⟩)
  | false =>
   rw [show rwV (leastF S k m n) = iv (-1) by unfold rwV; rw [hfl]; rfl, show clV (leastF S k m n) = iv (-1) by unfold clV; rw [hfl]; rfl] at hR
   subst hR
   repeat' first | apply jS | apply jD | apply jN | apply jT | refine Q1 ?_ | refine Q2 ?_ | refine Q0 ?_ | refine Q7 ?_ | refine Q6 ?_ | refine Qo (h := ?_) | (refine Qi (h1 := ?_) (h2 := ?_) <;> intro hc <;> try (exfalso; omega)) | apply jR
   all_goals first
    | (exfalso; omega)
    | exact Yp [v2, nv k, .bool true] ⟨rfl, rfl, rfl, trivial⟩ (fun a w' st => ⟨Z1 hs st.kp (fun p hp => st.hs.blk p ((Wq (Q55 N)).mem p hp)), N, v2, rfl, newJ (H0 := jgH b W m n k s T) st rfl (Q55 N), hO⟩)


theorem WM {m : ZM} (hm : RtZ m) : Rec m.r m.c (rowsOf m) := ⟨by simp [rowsOf], fun x hx => by
 unfold rowsOf at hx
 obtain ⟨i, hi, rfl⟩ := List.mem_map.1 hx
 exact Wi hm (List.mem_range.1 hi)⟩
theorem Qdf {x b4 b3 b1 Nu tu Ni ti Nd td Nx tx Nj tj Nn Nm : SHeap} :
  (x ++ (b4 ++ (b3 ++ (b1 ++ ((Nj ++ tj) ++ ((Nx ++ tx) ++ ((Nd ++ td) ++ ((Ni ++ ti) ++ ((Nu ++ tu) ++ (Nn ++ (Nm ++ []))))))))))).Perm
  ((x ++ (Nu ++ (tu ++ (Ni ++ (ti ++ (Nd ++ (td ++ (Nx ++ (tx ++ (Nj ++ (tj ++ []))))))))))) ++ (b4 ++ (b3 ++ (b1 ++ (Nn ++ Nm))))) := by
 classical
 rw [List.perm_iff_count]
 intro x
 simp only [List.count_append, List.count_nil]
 omega
set_option maxHeartbeats 16000000 in
theorem Qk1 (w : World) (v : Value) (a : ZM) (ha : RtZ a) (hv : IsM w v a) :
  Calls Tryz.prog 15 #[v] w (Ret fun v w' => Kp [] w w' ∧ ∃ b W T, v = .pointer (some ⟨b, 0, none⟩) ∧ New (jgH b W a.r a.c 0 0 T) w w' ∧ IsBj W a.r a.c T (startS a.r a.c (rowsOf a))) := by
 have hv0 := hv
 obtain ⟨E, rfl, hE⟩ := hv
 have hle := ha.le
 have hr := ha.r
 have hac := ha.c
 refine Q8 [⟨3, 1, [0, 1, 3, 4, 2, 5, 6, 7, 8, 9], []⟩, ⟨4, 1, [0, 1, 2, 3, 4, 6, 8, 10, 12, 5, 7, 9, 11, 13, 14, 15, 16], []⟩] [] spq [] Tryz.func15 rfl mixed (by kernel_rfl) Tryz.ntmps15 Tryz.results15 rfl ⟨by simp, by simp⟩ spq ?_
 simp only [toS, textOps, toSOp, kindAt, kindOf, odAt, sopsAt, ordOf, zipF]
 repeat' first | apply jS | apply jO | apply jN | refine Q0 ?_ | refine Qg ?_ | refine QB (h := fun _ => ?_) | apply jT
 rename_i b1
 refine Qb pqq rfl eqq rfl (fun w hk hs => Q07 w _ a.xm (hv0.mono hk).x (by show (a.e.map wz).length < _; rw [List.length_map]; omega)) fun w v w' _ _ _ hR => ?_
 obtain ⟨t, rfl, ht⟩ := hR
 obtain rfl : t = true := ht.2 ha.rx
 repeat' first | apply jS | apply jD | apply jN | apply jT | refine Q2 ?_ | refine Q7 ?_ | refine QT (h := ?_) | apply jK | refine Q4 rfl ?_
 refine Qk (A := [_]) (B := []) rfl pqq rfl eqq rfl (fun w hk hs => Qi9 a.r hr w) fun w v w' _ _ _ hR => ?_
 obtain ⟨Nm, hNm, Em, rfl, hOm⟩ := hR
 obtain ⟨Am, cm, rfl⟩ := hOm.form
 refine ⟨Nm, hNm, ?_⟩
 skip
 refine Qk (A := [_]) (B := Nm ++ []) rfl pqq rfl eqq rfl (fun w hk hs => Qi9 a.c hac w) fun w v w' _ _ _ hR => ?_
 obtain ⟨Nn, hNn, En, rfl, hOn⟩ := hR
 obtain ⟨An, cn, rfl⟩ := hOn.form
 refine ⟨Nn, hNn, ?_⟩
 repeat' first | refine Q3 ?_ | refine Q1k (k := _) (h := ?_) | refine Qf fun _ => ?_ | refine Q3 ?_ | apply jN
 rename_i b3 b4
 refine JX.part (F' := [(4, .pointer (some ⟨b4, 0, none⟩)), (3, .pointer (some ⟨b3, 0, none⟩)), (1, .pointer (some ⟨b1, 0, none⟩))])
  (H' := [(b4, .cells #[nv a.c, nv a.c, .slice An (oneZ a.c).e.length cn] 28), (b3, .cells #[nv a.r, nv a.r, .slice Am (oneZ a.r).e.length cm] 28), (b1, .cells #[nv a.r, nv a.c, E] 28)] ++ (Nn ++ (Nm ++ []))) cqq Qv ?_
 refine QE ?_
 repeat' first | apply jS | refine Q2 ?_ | refine Q7 ?_ | refine Qg ?_ | apply jD
 refine Qk (A := [_, _, _]) (B := Nn ++ (Nm ++ [])) rfl pqq rfl eqq rfl (fun w hk hs => Y1 w _ (oneZ a.r) (X5 hr hr) ⟨_, rfl, hOm.rd.at hk hs Q9⟩) fun w v w' _ _ _ hR => ?_
 obtain ⟨Nu, tu, hNu, hTu, hLu⟩ := hR
 obtain ⟨Au, cu, rfl⟩ := hTu.form
 refine ⟨Nu ++ tH tu, hNu, ?_⟩
 clear hNu
 skip
 refine Qk (A := [_, _, _]) (B := (Nu ++ tH tu) ++ (Nn ++ (Nm ++ []))) rfl pqq rfl eqq rfl (fun w hk hs => Y1 w _ (oneZ a.r) (X5 hr hr) ⟨_, rfl, hOm.rd.at hk hs Q9⟩) fun w v w' _ _ _ hR => ?_
 obtain ⟨Ni, ti, hNi, hTi, hLi⟩ := hR
 obtain ⟨Ai, ci, rfl⟩ := hTi.form
 refine ⟨Ni ++ tH ti, hNi, ?_⟩
 clear hNi
 skip
 refine Qk (A := [_, _, _]) (B := (Ni ++ tH ti) ++ ((Nu ++ tH tu) ++ (Nn ++ (Nm ++ [])))) rfl pqq rfl eqq rfl (fun w hk hs => Y1 w _ a ha (hv0.mono hk)) fun w v w' _ _ _ hR => ?_
 obtain ⟨Nd, td, hNd, hTd, hLd⟩ := hR
 obtain ⟨Ad, cd, rfl⟩ := hTd.form
 refine ⟨Nd ++ tH td, hNd, ?_⟩
 clear hNd
 skip
 refine Qk (A := [_, _, _]) (B := (Nd ++ tH td) ++ ((Ni ++ tH ti) ++ ((Nu ++ tH tu) ++ (Nn ++ (Nm ++ []))))) rfl pqq rfl eqq rfl (fun w hk hs => Y1 w _ (oneZ a.c) (X5 hac hac) ⟨_, rfl, hOn.rd.at hk hs Q9⟩) fun w v w' _ _ _ hR => ?_
 obtain ⟨Nx, tx, hNx, hTx, hLx⟩ := hR
 obtain ⟨Ax, cx, rfl⟩ := hTx.form
 refine ⟨Nx ++ tH tx, hNx, ?_⟩
 clear hNx
 skip
 refine Qk (A := [_, _, _]) (B := (Nx ++ tH tx) ++ ((Nd ++ tH td) ++ ((Ni ++ tH ti) ++ ((Nu ++ tH tu) ++ (Nn ++ (Nm ++ [])))))) rfl pqq rfl eqq rfl (fun w hk hs => Y1 w _ (oneZ a.c) (X5 hac hac) ⟨_, rfl, hOn.rd.at hk hs Q9⟩) fun w v w' _ _ _ hR => ?_
 obtain ⟨Nj, tj, hNj, hTj, hLj⟩ := hR
 obtain ⟨Aj, cj, rfl⟩ := hTj.form
 refine ⟨Nj ++ tH tj, hNj, ?_⟩
 clear hNj
 skip
 obtain ⟨W, hWd⟩ : ∃ W : WV, W = ⟨.slice Au tu.length cu, .slice Ai ti.length ci, .slice Ad td.length cd, .slice Ax tx.length cx, .slice Aj tj.length cj, Nu, Ni, Nd, Nx, Nj⟩ := ⟨_, rfl⟩
 obtain ⟨T, hTd'⟩ : ∃ T : WT, T = ⟨tu, ti, td, tx, tj⟩ := ⟨_, rfl⟩
 have hW : IsBj W a.r a.c T (startS a.r a.c (rowsOf a)) := by
  subst hWd hTd'
  have hln : ∀ {n : Nat} {g : Nat → List Int} {ts : List TR}, ts.map (·.2.2) = (List.range n).map g → ts.length = n := fun h => by simpa using congrArg List.length h
  refine ⟨⟨hTu, hln hLu, hLu.trans (Xr hr)⟩, ?_, ⟨hTd, hln hLd, hLd⟩, ?_, ⟨hTj, hln hLj, hLj.trans (Xr hac)⟩⟩
  ·show IsT Ni _ a.r a.r ti (trL a.r a.r (oneL a.r))
   rw [Q9b]
   exact ⟨hTi, hln hLi, hLi.trans (Xr hr)⟩
  ·show IsT Nx _ a.c a.c tx (trL a.c a.c (oneL a.c))
   rw [Q9b]
   exact ⟨hTx, hln hLx, hLx.trans (Xr hac)⟩
 refine Zv (l := [(0, nv a.r), (1, nv a.c), (2, .slice Au tu.length cu), (3, .slice Ai ti.length ci), (4, .slice Ad td.length cd), (5, .slice Ax tx.length cx), (6, .slice Aj tj.length cj)]) (cs := #[nv a.r, nv a.c, .slice Au tu.length cu, .slice Ai ti.length ci, .slice Ad td.length cd, .slice Ax tx.length cx, .slice Aj tj.length cj, iv 0, iv 0]) rfl rfl rfl (by kernel_rfl) ?_
 refine QB rfl rfl rfl rfl (fun b9 => ?_)
 repeat' first | apply jN | apply jT | refine Q0 ?_ | apply jR
 refine Qd rfl (fun a' w' st => ⟨st.kp, b9, W, T, rfl, st.newOf rfl ?_, hW⟩)
 subst hWd hTd'
 exact ⟨_, Qdf (x := [_]) (b4 := [_]) (b3 := [_]) (b1 := [_])⟩


theorem Qay {r c i j : Nat} {g : List (List Int)} (h : Rec r c g) (hi : i < r) (hj : j < c) : (gM r c g).at i j = gE g i j := by
 show enz c g.flatten i j = _
 rw [← Yu h]
 exact Q03 hi hj
theorem Qep {r c : Nat} {g : List (List Int)} (h : Rec r c g) : trZ (gM c r (trL r c g)) = gM r c g := by
 have e : (trZ (gM c r (trL r c g))).e = (gM r c g).e := by
  show tbz r c (tr (gM c r (trL r c g)).at) = g.flatten
  rw [← Yu h]
  refine Qm fun i j hi hj => ?_
  show (gM c r (trL r c g)).at j i = _
  rw [Qay (Zt r c g) hj hi, Xb hi hj]
 show ZM.mk r c (trZ (gM c r (trL r c g))).e = ZM.mk r c (gM r c g).e
 rw [e]

theorem Q5e (w : World) (v : Value) (r c : Nat) (g : List (List Int)) (hv : IsG w v r c g) (hg : Rec r c g) (hr : r ≤ 200) (hc : c ≤ 200) :
  Calls Tryz.prog 117 #[nv r, nv c, v] w (Ret fun u w' => Kp [] w w' ∧ GivesM (gM r c g) w u w') := by
 refine Q8 [] [] spq [] Tryz.func117 rfl mixed (by kernel_rfl) Tryz.ntmps117 Tryz.results117 rfl ⟨by simp, by simp⟩ spq ?_
 simp only [toS, textOps, toSOp, kindAt, kindOf, odAt, sopsAt, ordOf, zipF]
 repeat' first | apply jS | apply jO | apply jN | refine Q1 ?_ | refine Qf fun _ => ?_ | apply jT
 rename_i b6
 refine Qk (A := [_]) (B := []) rfl pqq rfl eqq rfl (fun w hk hs => Qeb w v r c g (hv.mono hk) hr hc) fun w v6 w' _ _ _ hR6 => ?_
 obtain ⟨N, hN, hO⟩ := hR6
 obtain ⟨A6, c6, rfl⟩ := hO.form
 refine ⟨N, hN, ?_⟩
 skip
 refine Zv (l := [(0, nv r), (1, nv c), (2, .slice A6 (r * c) c6)]) (cs := #[nv r, nv c, .slice A6 (r * c) c6]) rfl rfl rfl rfl ?_
 repeat' first | apply jN | apply jT | refine Q3 ?_ | refine Q3 ?_ | apply jR
 exact QG 0 rfl rfl rfl (fun a w' st => ⟨st.kp, N, st.newOf rfl Q9, OwnM.mk' hO⟩)

theorem Qae {b m n : Nat} {t s : Int} {W : WV} {T : WT} {x : Nat × Obj} {M1 M2 M3 M4 M5 M6 M7 : SHeap} : HSub (jgH b W m n t s T ++ (M1 ++ (M3 ++ (M4 ++ (M6 ++ M7))))) (x :: (b, .cells (jgC W m n t s) 84) :: (M7 ++ (M6 ++ (M5 ++ (M4 ++ (M3 ++ (M2 ++ (M1 ++ (W.Nu ++ (tH T.u ++ (W.Nui ++ (tH T.ui ++ (W.Nd ++ (tH T.d ++ (W.Nv ++ (tH T.v ++ (W.Nvi ++ (tH T.vi ++ [])))))))))))))))))) := by
 refine ⟨x :: (M5 ++ M2), ?_⟩
 unfold jgH
 classical
 rw [List.perm_iff_count]
 intro y
 simp only [List.count_append, List.count_cons, List.count_nil]
 omega
set_option maxHeartbeats 16000000 in
theorem Qe5 (w : World) (b : Nat) (W : WV) (m n : Nat) (t s : Int) (T : WT) (S : Sm) (hW : IsBj W m n T S) (hD : Dm m n S) (hs : Hsat (jgH b W m n t s T) w) (hm : m ≤ 200) (hn : n ≤ 200) :
  Calls Tryz.prog 52 #[.pointer (some ⟨b, 0, none⟩)] w (Ret fun v w' => Kp [] w w' ∧ GivesS m n S w v w') := by
 have hM := QC hs
 refine Q8 [⟨1, 1, [], []⟩, ⟨2, 1, [0, 1, 2, 3, 4, 5, 7, 8, 9, 10, 11, 12, 15, 16, 17, 18, 19, 20, 22, 23, 24, 25, 26, 27, 30, 31, 32, 33, 34, 35, 6, 13, 14, 21, 28, 29, 36, 37, 38], []⟩] (keys (jgH b W m n t s T)) hM (jgH b W m n t s T) Tryz.func52 rfl mixed (by kernel_rfl) Tryz.ntmps52 Tryz.results52 rfl hs (fun p hp => List.mem_map.2 ⟨p, hp, rfl⟩) ?_
 simp only [toS, textOps, toSOp, kindAt, kindOf, odAt, sopsAt, ordOf, zipF]
 unfold jgH jgC
 repeat' first | apply jS | apply jO | apply jD | apply jN | refine Q1 ?_ | refine Q2 ?_ | refine Q0 ?_ | refine Q7 ?_ | refine Q6 ?_ | refine Qf fun _ => ?_ | apply jT
 rename_i b2
 refine Qk (A := [_, _]) (B := (W.Nu ++ (tH T.u ++ (W.Nui ++ (tH T.ui ++ (W.Nd ++ (tH T.d ++ (W.Nv ++ (tH T.v ++ (W.Nvi ++ (tH T.vi ++ []))))))))))) rfl pqq rfl eqq rfl (fun w hk hs => Q5e w _ m m (S.u) (hW.u.g hk hs Q9 Q9) hW.u.rc hm hm) fun w v w' _ _ _ hR => ?_
 obtain ⟨M1, hM1, E1, rfl, hO1⟩ := hR
 obtain ⟨A1, c1, rfl⟩ := hO1.form
 refine ⟨M1, hM1, ?_⟩
 clear hM1
 skip
 refine Qk (A := [_, _]) (B := M1 ++ ((W.Nu ++ (tH T.u ++ (W.Nui ++ (tH T.ui ++ (W.Nd ++ (tH T.d ++ (W.Nv ++ (tH T.v ++ (W.Nvi ++ (tH T.vi ++ [])))))))))))) rfl pqq rfl eqq rfl (fun w hk hs => Q5e w _ m m (trL m m S.ui) (hW.ui.g hk hs Q9 Q9) hW.ui.rc hm hm) fun w v w' _ _ _ hR => ?_
 obtain ⟨M2, hM2, E2, rfl, hO2⟩ := hR
 obtain ⟨A2, c2, rfl⟩ := hO2.form
 refine ⟨M2, hM2, ?_⟩
 clear hM2
 skip
 refine Qk (A := [_, _]) (B := M2 ++ (M1 ++ ((W.Nu ++ (tH T.u ++ (W.Nui ++ (tH T.ui ++ (W.Nd ++ (tH T.d ++ (W.Nv ++ (tH T.v ++ (W.Nvi ++ (tH T.vi ++ []))))))))))))) rfl pqq rfl eqq rfl (fun w hk hs => X3 w _ (gM m m (trL m m S.ui)) (Xm (Zt _ _ _) hm hm) ⟨_, rfl, hO2.rd.at hk hs Q9⟩) fun w v w' _ _ _ hR => ?_
 obtain ⟨M3, hM3, E3, rfl, hO3⟩ := hR
 obtain ⟨A3, c3, rfl⟩ := hO3.form
 refine ⟨M3, hM3, ?_⟩
 clear hM3
 skip
 refine Qk (A := [_, _]) (B := M3 ++ (M2 ++ (M1 ++ ((W.Nu ++ (tH T.u ++ (W.Nui ++ (tH T.ui ++ (W.Nd ++ (tH T.d ++ (W.Nv ++ (tH T.v ++ (W.Nvi ++ (tH T.vi ++ [])))))))))))))) rfl pqq rfl eqq rfl (fun w hk hs => Q5e w _ m n (S.d) (hW.d.g hk hs Q9 Q9) hW.d.rc hm hn) fun w v w' _ _ _ hR => ?_
 obtain ⟨M4, hM4, E4, rfl, hO4⟩ := hR
 obtain ⟨A4, c4, rfl⟩ := hO4.form
 refine ⟨M4, hM4, ?_⟩
 clear hM4
 skip
 refine Qk (A := [_, _]) (B := M4 ++ (M3 ++ (M2 ++ (M1 ++ ((W.Nu ++ (tH T.u ++ (W.Nui ++ (tH T.ui ++ (W.Nd ++ (tH T.d ++ (W.Nv ++ (tH T.v ++ (W.Nvi ++ (tH T.vi ++ []))))))))))))))) rfl pqq rfl eqq rfl (fun w hk hs => Q5e w _ n n (trL n n S.v) (hW.v.g hk hs Q9 Q9) hW.v.rc hn hn) fun w v w' _ _ _ hR => ?_
 obtain ⟨M5, hM5, E5, rfl, hO5⟩ := hR
 obtain ⟨A5, c5, rfl⟩ := hO5.form
 refine ⟨M5, hM5, ?_⟩
 clear hM5
 skip
 refine Qk (A := [_, _]) (B := M5 ++ (M4 ++ (M3 ++ (M2 ++ (M1 ++ ((W.Nu ++ (tH T.u ++ (W.Nui ++ (tH T.ui ++ (W.Nd ++ (tH T.d ++ (W.Nv ++ (tH T.v ++ (W.Nvi ++ (tH T.vi ++ [])))))))))))))))) rfl pqq rfl eqq rfl (fun w hk hs => X3 w _ (gM n n (trL n n S.v)) (Xm (Zt _ _ _) hn hn) ⟨_, rfl, hO5.rd.at hk hs Q9⟩) fun w v w' _ _ _ hR => ?_
 obtain ⟨M6, hM6, E6, rfl, hO6⟩ := hR
 obtain ⟨A6, c6, rfl⟩ := hO6.form
 refine ⟨M6, hM6, ?_⟩
 clear hM6
 skip
 refine Qk (A := [_, _]) (B := M6 ++ (M5 ++ (M4 ++ (M3 ++ (M2 ++ (M1 ++ ((W.Nu ++ (tH T.u ++ (W.Nui ++ (tH T.ui ++ (W.Nd ++ (tH T.d ++ (W.Nv ++ (tH T.v ++ (W.Nvi ++ (tH T.vi ++ []))))))))))))))))) rfl pqq rfl eqq rfl (fun w hk hs => Q5e w _ n n (S.vi) (hW.vi.g hk hs Q9 Q9) hW.vi.rc hn hn) fun w v w' _ _ _ hR => ?_
 obtain ⟨M7, hM7, E7, rfl, hO7⟩ := hR
 obtain ⟨A7, c7, rfl⟩ := hO7.form
 refine ⟨M7, hM7, ?_⟩
 clear hM7
 skip
 rw [Qep hD.ui] at hO3 ⊢
 rw [Qep hD.v] at hO6 ⊢
 refine Zv (l := [(0, .agg #[nv m, nv m, (.slice A1 (gM m m S.u).e.length c1)]), (1, .agg #[nv m, nv m, (.slice A3 (gM m m S.ui).e.length c3)]), (2, .agg #[nv m, nv n, (.slice A4 (gM m n S.d).e.length c4)]), (3, .agg #[nv n, nv n, (.slice A6 (gM n n S.v).e.length c6)]), (4, .agg #[nv n, nv n, (.slice A7 (gM n n S.vi).e.length c7)])]) (cs := smC m n (.slice A1 (gM m m S.u).e.length c1) (.slice A3 (gM m m S.ui).e.length c3) (.slice A4 (gM m n S.d).e.length c4) (.slice A6 (gM n n S.v).e.length c6) (.slice A7 (gM n n S.vi).e.length c7)) rfl rfl rfl (by kernel_rfl) ?_
 repeat' first | apply jN | apply jT | refine Q3 ?_ | refine Q3 ?_ | apply jR
 exact QG 0 rfl rfl rfl (fun a w' st => ⟨Z1 hs st.kp (fun p hp => st.hs.blk p ((Wq (Qae (x := (b2, .cells (smC m n (.slice A1 (gM m m S.u).e.length c1) (.slice A3 (gM m m S.ui).e.length c3) (.slice A4 (gM m n S.d).e.length c4) (.slice A6 (gM n n S.v).e.length c6) (.slice A7 (gM n n S.vi).e.length c7)) 40)) (M5 := M5) (M2 := M2))).mem p hp)), M1, M3, M4, M6, M7, _, _, _, _, _, rfl, hD, newJ (H0 := jgH b W m n t s T) st rfl (by exact Qae), Q4w hD.u hO1, Q4w hD.ui hO3, Q4w hD.d hO4, Q4w hD.v hO6, Q4w hD.vi hO7⟩)

end Go.Proofs.YtbofgpenopcfaaaGreatDoor

namespace Go.Proofs.YtbofgpenopcfaaaGreatDoor
open Go Go.RowKit Go.Shelf
set_option linter.unusedSimpArgs false
set_option linter.unusedVariables false
set_option linter.unusedSectionVars false

def joinRen : Ren := ⟨fun i => if i = 156 then 78 else if i = 165 then 141 else if i = 166 then 142 else if i = 169 then 143 else if i = 240 then 170 else if i = 241 then 171 else if i = 276 then 195 else if i = 277 then 196 else i, fun i => if i = 0 then 0 else if i = 3 then 3 else if i = 4 then 4 else if i = 5 then 5 else if i = 9 then 9 else if i = 20 then 20 else if i = 31 then 65 else if i = 37 then 51 else if i = 70 then 168 else if i = 72 then 170 else if i = 75 then 172 else if i = 76 then 173 else if i = 80 then 60 else if i = 127 then 196 else if i = 164 then 224 else i, fun i => i⟩
theorem joinL : Lays.n156 Tryz.prog joinRen where
 mixed := mixed
 f156 := by kernel_rfl
 f165 := by kernel_rfl
 f166 := by kernel_rfl
 f169 := by kernel_rfl
 f240 := by kernel_rfl
 f241 := by kernel_rfl
 f276 := by kernel_rfl
 f277 := by kernel_rfl
 t0 := by kernel_rfl
 a0 := fun _ => by kernel_rfl
 z0 := fun _ => by kernel_rfl
 v0 := fun _ => by kernel_rfl
 t3 := by kernel_rfl
 a3 := fun _ => by kernel_rfl
 z3 := fun _ => by kernel_rfl
 v3 := fun _ => by kernel_rfl
 t4 := by kernel_rfl
 a4 := fun _ => by kernel_rfl
 z4 := fun _ => by kernel_rfl
 v4 := fun _ => by kernel_rfl
 t9 := by kernel_rfl
 a9 := fun _ => by kernel_rfl
 z9 := fun _ => by kernel_rfl
 v9 := fun _ => by kernel_rfl
 t20 := by kernel_rfl
 a20 := fun _ => by kernel_rfl
 z20 := fun _ => by kernel_rfl
 v20 := fun _ => by kernel_rfl
 t31 := by kernel_rfl
 a31 := fun _ => by kernel_rfl
 z31 := fun _ => by kernel_rfl
 v31 := fun _ => by kernel_rfl
 t37 := by kernel_rfl
 a37 := fun _ => by kernel_rfl
 z37 := fun _ => by kernel_rfl
 v37 := fun _ => by kernel_rfl
 t70 := by kernel_rfl
 a70 := fun _ => by kernel_rfl
 z70 := fun _ => by kernel_rfl
 v70 := fun _ => by kernel_rfl
 t72 := by kernel_rfl
 a72 := fun _ => by kernel_rfl
 z72 := fun _ => by kernel_rfl
 v72 := fun _ => by kernel_rfl
 t75 := by kernel_rfl
 a75 := fun _ => by kernel_rfl
 z75 := fun _ => by kernel_rfl
 v75 := fun _ => by kernel_rfl
 t76 := by kernel_rfl
 a76 := fun _ => by kernel_rfl
 z76 := fun _ => by kernel_rfl
 v76 := fun _ => by kernel_rfl
 t127 := by kernel_rfl
 a127 := fun _ => by kernel_rfl
 z127 := fun _ => by kernel_rfl
 v127 := fun _ => by kernel_rfl
 t164 := by kernel_rfl
 a164 := fun _ => by kernel_rfl
 z164 := fun _ => by kernel_rfl
 v164 := fun _ => by kernel_rfl

def itoaRen : Ren := ⟨fun i => if i = 129 then 207 else if i = 171 then 76 else if i = 243 then 139 else if i = 246 then 169 else if i = 283 then 191 else if i = 284 then 192 else if i = 285 then 193 else if i = 286 then 194 else if i = 317 then 206 else if i = 318 then 208 else if i = 319 then 209 else if i = 320 then 210 else if i = 337 then 214 else if i = 338 then 215 else i, fun i => if i = 0 then 0 else if i = 2 then 2 else if i = 3 then 3 else if i = 4 then 4 else if i = 5 then 5 else if i = 9 then 9 else if i = 20 then 20 else if i = 37 then 51 else if i = 46 then 179 else if i = 51 then 232 else if i = 53 then 126 else if i = 171 then 219 else if i = 173 then 222 else if i = 212 then 231 else if i = 213 then 233 else if i = 232 then 244 else if i = 233 then 245 else i, fun i => if i = 17 then 1 else if i = 18 then 4 else if i = 19 then 5 else i⟩
theorem itoaL : Lays.n171 Tryz.prog itoaRen where
 mixed := mixed
 f129 := by kernel_rfl
 f171 := by kernel_rfl
 f243 := by kernel_rfl
 f246 := by kernel_rfl
 f283 := by kernel_rfl
 f284 := by kernel_rfl
 f285 := by kernel_rfl
 f286 := by kernel_rfl
 f317 := by kernel_rfl
 f318 := by kernel_rfl
 f319 := by kernel_rfl
 f320 := by kernel_rfl
 f337 := by kernel_rfl
 f338 := by kernel_rfl
 t0 := by kernel_rfl
 a0 := fun _ => by kernel_rfl
 z0 := fun _ => by kernel_rfl
 v0 := fun _ => by kernel_rfl
 t2 := by kernel_rfl
 a2 := fun _ => by kernel_rfl
 z2 := fun _ => by kernel_rfl
 v2 := fun _ => by kernel_rfl
 t3 := by kernel_rfl
 a3 := fun _ => by kernel_rfl
 z3 := fun _ => by kernel_rfl
 v3 := fun _ => by kernel_rfl
 t4 := by kernel_rfl
 a4 := fun _ => by kernel_rfl
 z4 := fun _ => by kernel_rfl
 v4 := fun _ => by kernel_rfl
 t5 := by kernel_rfl
 a5 := fun _ => by kernel_rfl
 z5 := fun _ => by kernel_rfl
 v5 := fun _ => by kernel_rfl
 t9 := by kernel_rfl
 a9 := fun _ => by kernel_rfl
 z9 := fun _ => by kernel_rfl
 v9 := fun _ => by kernel_rfl
 t20 := by kernel_rfl
 a20 := fun _ => by kernel_rfl
 z20 := fun _ => by kernel_rfl
 v20 := fun _ => by kernel_rfl
 t37 := by kernel_rfl
 a37 := fun _ => by kernel_rfl
 z37 := fun _ => by kernel_rfl
 v37 := fun _ => by kernel_rfl
 t46 := by kernel_rfl
 a46 := fun _ => by kernel_rfl
 z46 := fun _ => by kernel_rfl
 v46 := fun _ => by kernel_rfl
 t51 := by kernel_rfl
 a51 := fun _ => by kernel_rfl
 z51 := fun _ => by kernel_rfl
 v51 := fun _ => by kernel_rfl
 t53 := by kernel_rfl
 a53 := fun _ => by kernel_rfl
 z53 := fun _ => by kernel_rfl
 v53 := fun _ => by kernel_rfl
 t171 := by kernel_rfl
 a171 := fun _ => by kernel_rfl
 z171 := fun _ => by kernel_rfl
 v171 := fun _ => by kernel_rfl
 t173 := by kernel_rfl
 a173 := fun _ => by kernel_rfl
 z173 := fun _ => by kernel_rfl
 v173 := fun _ => by kernel_rfl
 t212 := by kernel_rfl
 a212 := fun _ => by kernel_rfl
 z212 := fun _ => by kernel_rfl
 v212 := fun _ => by kernel_rfl
 t213 := by kernel_rfl
 a213 := fun _ => by kernel_rfl
 z213 := fun _ => by kernel_rfl
 t232 := by kernel_rfl
 a232 := fun _ => by kernel_rfl
 z232 := fun _ => by kernel_rfl
 v232 := fun _ => by kernel_rfl
 t233 := by kernel_rfl
 a233 := fun _ => by kernel_rfl
 z233 := fun _ => by kernel_rfl
 v233 := fun _ => by kernel_rfl
 g17 := by kernel_rfl
 g18 := by kernel_rfl
 g19 := by kernel_rfl

def splitRen : Ren := ⟨fun i => if i = 138 then 166 else if i = 143 then 167 else if i = 146 then 70 else if i = 195 then 186 else if i = 197 then 187 else if i = 217 then 202 else if i = 218 then 188 else if i = 219 then 189 else if i = 221 then 136 else if i = 224 then 204 else if i = 225 then 203 else if i = 260 then 201 else if i = 266 then 212 else if i = 267 then 205 else if i = 268 then 165 else if i = 314 then 213 else i, fun i => if i = 0 then 0 else if i = 3 then 3 else if i = 4 then 4 else if i = 5 then 5 else if i = 9 then 9 else if i = 21 then 21 else if i = 31 then 65 else if i = 46 then 179 else if i = 51 then 232 else if i = 105 then 215 else if i = 119 then 236 else if i = 138 then 238 else if i = 139 then 239 else if i = 146 then 240 else i, fun i => if i = 1 then 0 else if i = 3 then 2 else if i = 4 then 3 else i⟩
theorem splitL : Lays.n146 Tryz.prog splitRen where
 mixed := mixed
 f138 := by kernel_rfl
 f143 := by kernel_rfl
 f146 := by kernel_rfl
 f195 := by kernel_rfl
 f197 := by kernel_rfl
 f217 := by kernel_rfl
 f218 := by kernel_rfl
 f219 := by kernel_rfl
 f221 := by kernel_rfl
 f224 := by kernel_rfl
 f225 := by kernel_rfl
 f260 := by kernel_rfl
 f266 := by kernel_rfl
 f267 := by kernel_rfl
 f268 := by kernel_rfl
 f314 := by kernel_rfl
 t0 := by kernel_rfl
 a0 := fun _ => by kernel_rfl
 z0 := fun _ => by kernel_rfl
 v0 := fun _ => by kernel_rfl
 t3 := by kernel_rfl
 a3 := fun _ => by kernel_rfl
 z3 := fun _ => by kernel_rfl
 v3 := fun _ => by kernel_rfl
 t4 := by kernel_rfl
 a4 := fun _ => by kernel_rfl
 z4 := fun _ => by kernel_rfl
 v4 := fun _ => by kernel_rfl
 t5 := by kernel_rfl
 a5 := fun _ => by kernel_rfl
 z5 := fun _ => by kernel_rfl
 v5 := fun _ => by kernel_rfl
 t9 := by kernel_rfl
 a9 := fun _ => by kernel_rfl
 z9 := fun _ => by kernel_rfl
 v9 := fun _ => by kernel_rfl
 t21 := by kernel_rfl
 a21 := fun _ => by kernel_rfl
 z21 := fun _ => by kernel_rfl
 v21 := fun _ => by kernel_rfl
 t31 := by kernel_rfl
 a31 := fun _ => by kernel_rfl
 z31 := fun _ => by kernel_rfl
 v31 := fun _ => by kernel_rfl
 t46 := by kernel_rfl
 a46 := fun _ => by kernel_rfl
 z46 := fun _ => by kernel_rfl
 v46 := fun _ => by kernel_rfl
 t51 := by kernel_rfl
 a51 := fun _ => by kernel_rfl
 z51 := fun _ => by kernel_rfl
 v51 := fun _ => by kernel_rfl
 t105 := by kernel_rfl
 a105 := fun _ => by kernel_rfl
 z105 := fun _ => by kernel_rfl
 v105 := fun _ => by kernel_rfl
 t119 := by kernel_rfl
 a119 := fun _ => by kernel_rfl
 z119 := fun _ => by kernel_rfl
 t138 := by kernel_rfl
 a138 := fun _ => by kernel_rfl
 z138 := fun _ => by kernel_rfl
 v138 := fun _ => by kernel_rfl
 t139 := by kernel_rfl
 a139 := fun _ => by kernel_rfl
 z139 := fun _ => by kernel_rfl
 v139 := fun _ => by kernel_rfl
 t146 := by kernel_rfl
 a146 := fun _ => by kernel_rfl
 z146 := fun _ => by kernel_rfl
 v146 := fun _ => by kernel_rfl
 g1 := by kernel_rfl
 g3 := by kernel_rfl
 g4 := by kernel_rfl

theorem joinX : Builder.Extra Tryz.prog joinRen where
 sizeBuilder := by kernel_rfl
 liesBuilder := by kernel_rfl
 t5 := by kernel_rfl
 a5 := fun _ => by kernel_rfl
 z5 := fun _ => by kernel_rfl
 v5 := fun _ => by kernel_rfl
 infoByte := by kernel_rfl
 cellsByte := by kernel_rfl
 sizeByte := by kernel_rfl
 neB5 := by decide


theorem Qdr {w w' : World} (h : Below w.heap.size w w') : Kp [] w w' := ⟨h.1, h.2, h.3, h.4, fun k hk _ => h.5 k hk⟩
theorem Qht (u : Nat) : Lib.decDigits u = tx (u : Int) := by
 have key : ∀ u : Nat, 0 < u → Lib.decDigits u = (dec u).map UInt8.ofNat := by
  intro u
  induction u using Nat.strongRecOn with
  | ind u ih =>
   intro h0
   rw [Lib.decDigits, X2 h0, List.map_append]
   by_cases h : u < 10
   ·rw [dif_pos h, show u / 10 = 0 by omega, show u % 10 = u by omega]
    rfl
   ·rw [dif_neg h, ih (u / 10) oq oq]
    rfl
 unfold tx txt
 by_cases h : u = 0
 ·subst h
  rw [Lib.decDigits]
  rfl
 ·rw [key u oq, if_neg oq, if_neg oq, Int.natAbs_natCast, List.nil_append]
theorem Qic (w : World) (i : Nat) (hi : i < 100) :
  Calls Tryz.prog 76 #[nv i] w (Ret fun v w' => Kp [] w w' ∧ v = sv (tx (i : Int))) :=
 (Any.strconv_Itoa_small itoaL i hi w).mono fun e w' he => by
  obtain ⟨rfl, rfl⟩ := he
  exact ⟨Kp.refl _ _, by rw [Qht]⟩
theorem Qdt (l : List Int) : Lib.join (l.map tx) [32] = encT l := by
 cases l with
 | nil => rfl
 | cons x l =>
  rw [List.map_cons, Lib.join_cons]
  show _ = tx x ++ catT l
  congr 1
  induction l with
  | nil => rfl
  | cons y l ih =>
   show [32] ++ tx y ++ Lib.joinTail [32] (l.map tx) = 32 :: (tx y ++ catT l)
   rw [ih]
   rfl
theorem Qk6 (w : World) (v : Value) (n : Nat) (l : List Int) (hv : RdW w 1 v n (l.map fun x => sv (tx x))) (hn0 : 0 < n) (hn : n ≤ 1000000) (hlen : (encT l).length ≤ 281474976710656) :
  Calls Tryz.prog 78 #[v, .string ⟨#[32]⟩] w (Ret fun v w' => Kp [] w w' ∧ v = sv (encT l)) := by
 obtain ⟨hl, A, cap, rfl, hnc, h⟩ := hv
 obtain ⟨⟨b, o, rfl⟩, hc⟩ := h hn0
 have hl : l.length = n := by simpa using hl
 subst hl
 have hd : (l.map fun x => (⟨(tx x).toArray⟩ : ByteArray)).map (·.data.toList) = l.map tx := by
  rw [List.map_map]
  refine List.map_congr_left fun x _ => ?_
  rfl
 have hj : Lib.join ((l.map fun x => (⟨(tx x).toArray⟩ : ByteArray)).map (·.data.toList)) (⟨#[32]⟩ : ByteArray).data.toList = encT l := by
  rw [hd]
  exact Qdt l
 have hb : b < w.heap.size := by
  cases l with
  | nil => exact absurd hn0 spq
  | cons x l => exact ZQ (hc 0 _ rfl)
 have h1 := Any.strings_Join_48 joinL joinX b o cap (l.map fun x => (⟨(tx x).toArray⟩ : ByteArray)) ⟨#[32]⟩ w (fun j x hx => by
  rw [List.getElem?_map] at hx
  have h2 := hc j (.string x) (by
   rw [List.getElem?_map]
   cases hq : l[j]? with
   | none => rw [hq] at hx; cases hx
   | some y => rw [hq] at hx; cases hx; rfl)
  exact h2) hb (by rw [List.length_map]; omega) (by rw [List.length_map]; exact hnc) (by rw [hj]; exact hlen)
 rw [hj, List.length_map] at h1
 exact h1.mono fun e w' he => by
  obtain ⟨rfl, hb⟩ := he
  exact ⟨Qdr hb, rfl⟩

end Go.Proofs.YtbofgpenopcfaaaGreatDoor

namespace Go.Proofs.YtbofgpenopcfaaaGreatDoor
open Go Go.RowKit
set_option linter.unusedSimpArgs false
set_option linter.unusedVariables false
set_option linter.unusedSectionVars false

theorem Qi4 (w : World) (v : Value) (a : Int) (k : Nat) (hv : IsZ v a k) (hk : k ≤ 100000000) :
  Calls Tryz.prog 77 #[v] w (Ret fun v w' => Kp [] w w' ∧ v = sv (tx a)) := by
 obtain ⟨p, l, rfl, hl1, rfl⟩ := hv
 exact Qk2 w p l oq
section
variable {c : Cx} {Q : Exit → Act → World → Prop} {m : Mode} {F : SFrame} {H : SHeap} {r : List SOp} {g : Option (Option Tmp × Bool)} {ns : Bool} {d : Tmp} {ty t : TypeId} {x y : Operand}
theorem Qgm {len e j : Nat} {k : IntKind} {cs : Array Value} {u : Value} [TAr c.P t len e] [TSz c.P e 1] [T1 c.P e] (hd : dstOk c.n (some d) = true) (hg : guardF F g = some true) (hx : ev F x = some (.agg cs)) (hy : ev F y = some (.int k j)) (hj : j < len) (hu : cs[j]? = some u)
  (h : JO c Q m r ((d, u) :: F) H) : JO c Q m (⟨some d, .index t x y, ty, g, .mov, ns⟩ :: r) F H :=
 Z9 hd hg (fun a w fr => by
  have h1 : (0 : Int) ≤ j ∧ (j : Int) < len := by omega
  simp only [execOp, fr.ev hx, fr.ev hy, Instr.index, asIntOf, Sem.run_bind, Sem.run_pure, Result.andThen_ok, run_underlying (TAr.und (P := c.P) (t := t)), h1, and_self, if_true, TSz.size (e := e) (n := 1), Int.toNat_natCast, Nat.mul_one, part, T1.agg, hu]
  simp) h
end
def OwnX' (N : SHeap) (v : Value) (l : List Int) : Prop := OwnRow 9 1 N v l.length (l.map fun x => sv (tx x))
theorem OwnX'.nil : OwnX' [] (.slice none 0 0) [] := OwnRow.nil _ 1
theorem Qag (b : Nat) (u : Value) : OwnRow 9 1 [(b, .cells ⟨[u]⟩ 9)] (.slice (some ⟨b, 0, none⟩) 1 1) 1 [u] :=
 OwnRow.mk' (e := 9) (sz := 1) (n := 1) (b := b) (cs := ⟨[u]⟩) spq (by simp only [maxLen]; omega)
section
variable {c : Cx} {Q : Exit → Act → World → Prop} {m : Mode} {F : SFrame} {H : SHeap} {r : List SOp} {g : Option (Option Tmp × Bool)} {ns : Bool} {d : Tmp} {ty t : TypeId} {x y : Operand} {N : SHeap} {v : Value}
theorem Q4t {A B N2 : SHeap} {v2 : Value} {l : List Int} {z : Int} [TSl c.P t 9] [TE c.P 9 1 16 #[.string ⟨#[]⟩]] (hO : OwnX' N v l) (h2 : Rd c N2 1 v2 1 [sv (tx z)]) (hN2 : HSub N2 H) (hH : H = A ++ (N ++ B)) (hm : m.mayStore ns r) (hd : dstOk c.n (some d) = true) (hg : guardF F g = some true) (hx : ev F x = some v) (hy : ev F y = some v2)
  (hb : l.length + 1 ≤ 1000000000) (h : ∀ v' N', OwnX' N' v' (l ++ [z]) → JO c Q m.spent r ((d, v') :: F) (A ++ (N' ++ B))) :
  JO c Q m (⟨some d, .call ⟨.builtin .append, #[x, y], #[t, t]⟩, ty, g, .seq, ns⟩ :: r) F H :=
 YL (e := 9) (sz := 1) (bytes := 16) (zc := #[.string ⟨#[]⟩]) (n := l.length) (mm := 1) rfl hO h2 hN2 hH hm hd hg hx hy (fun w hw => by cases List.mem_singleton.1 hw; rfl) (by simp only [maxLen]; omega) oq (fun v' N' h' => h v' N' (by unfold OwnX'; simpa using h'))
end

theorem Q8j (A B C : SHeap) : (A ++ (B ++ C)).Perm (B ++ (A ++ C)) := by
 rw [← List.append_assoc, ← List.append_assoc]
 exact List.perm_append_comm.append_right _
set_option maxHeartbeats 16000000 in
theorem WB (K : Nat) (w : World) (b : Nat) (W : WV) (m n t s : Nat) (T : WT) (S : Sm) (hW : IsBj W m n T S) (hD : Dm m n S) (hs : Hsat (jgH b W m n t s T) w) (hm : m < 100) (hn : n < 100) (ht : t < 100) (hs0 : s < 100)
  (hK : 8 ≤ K) (hK2 : K ≤ 90000000) (hb : Ok K S) :
  Calls Tryz.prog 31 #[.pointer (some ⟨b, 0, none⟩)] w (Ret fun v w' => Kp [] w w' ∧ v = sv (encT (encZ m n t s S))) := by
 have hM := QC hs
 have e8 : (256 : Nat) ^ 8 = 18446744073709551616 := by decide
 have hel := Q11 hD t s
 have hbd := Q42 (m := m) (n := n) (t := t) (s := s) (K := K) hK (by rw [e8]; omega) (by rw [e8]; omega) (by rw [e8]; omega) (by rw [e8]; omega) hb
 refine Q8 [] (keys (jgH b W m n t s T)) hM (jgH b W m n t s T) Tryz.func31 rfl mixed (by kernel_rfl) Tryz.ntmps31 Tryz.results31 rfl hs (fun p hp => List.mem_map.2 ⟨p, hp, rfl⟩) ?_
 simp only [toS, textOps, toSOp, kindAt, kindOf, odAt, sopsAt, ordOf, zipF]
 unfold jgH jgC
 repeat' first | apply jS | apply jO | apply jN | refine Q1 ?_ | refine Q0 ?_ | apply jT
 refine Q8f (by kernel_rfl) rfl rfl rfl rfl ?_
 repeat' first | apply jS | apply jO | apply jD | apply jN | apply jT | refine Q1 ?_ | refine Q2 ?_ | refine Q0 ?_ | refine Q7 ?_ | refine Q6 ?_ | apply jK | refine Q4 rfl ?_
 refine Qd8 (l := [(0, nv m), (1, nv n), (2, nv t), (3, nv s)]) (cs := #[nv m, nv n, nv t, nv s]) rfl rfl rfl rfl ?_
 repeat' first | apply jN | apply jT | refine Q1 ?_ | apply jB
 obtain ⟨hd, hhd⟩ : ∃ hd : List Nat, hd = [m, n, t, s] := ⟨_, rfl⟩
 have hdl : hd.length = 4 := by rw [hhd]; rfl
 have hdb : ∀ q, q < 4 → hd.getD q 0 < 100 := fun q hq => by
  rcases (show q = 0 ∨ q = 1 ∨ q = 2 ∨ q = 3 by omega) with rfl | rfl | rfl | rfl <;> rw [hhd] <;> assumption
 have hdc : ∀ q, q < 4 → #[nv m, nv n, nv t, nv s][q]? = some (nv (hd.getD q 0)) := fun q hq => by
  rcases (show q = 0 ∨ q = 1 ∨ q = 2 ∨ q = 3 by omega) with rfl | rfl | rfl | rfl <;> rw [hhd] <;> rfl
 refine Qj (ι := Nat × Value × SHeap) ⟨fun z => [(30, nv z.1), (29, .agg #[nv m, nv n, nv t, nv s]), (3, z.2.1), (0, .pointer (some ⟨b, 0, none⟩))], fun z => z.2.2 ++ jgH b W m n t s T,
  fun z => z.1 ≤ 4 ∧ OwnX' z.2.2 z.2.1 ((hd.take z.1).map fun (x : Nat) => (x : Int)), fun z => 4 - z.1⟩ (0, .slice none 0 0, []) ⟨by omega, OwnX'.nil⟩ cqq (HSub.refl _) (fun z hz => ?_)
 obtain ⟨q, v3, N⟩ := z
 obtain ⟨hq, hO⟩ := hz
 dsimp only at hq hO ⊢
 by_cases hlt : q < 4
 ·have hq1 := hdb q hlt
  repeat' first | apply jS | apply jO | apply jN | apply jT | (refine Qi (h1 := ?_) (h2 := ?_) <;> intro hc <;> try (exfalso; omega)) | apply jK | refine Q5 rfl ?_ | apply jB
  refine Qgm rfl rfl rfl rfl hlt (hdc q hlt) ?_
  repeat' first | apply jO | apply jN | refine Q1 ?_ | refine Q0 ?_ | apply jT
  refine Qb pqq rfl eqq rfl (fun w _ _ => Qic w (hd.getD q 0) hq1) fun w v w' _ _ _ hR => ?_
  subst hR
  repeat' first | refine Qw (h := fun _ => ?_) | fail
  rename_i b36
  refine Q4t (A := [_]) (B := jgH b W m n t s T) hO (Qag b36 (sv (tx ((hd.getD q 0 : Nat) : Int)))).rd Q9 rfl pqq rfl rfl rfl rfl (by rw [List.length_map, List.length_take]; omega) (fun v' N' hO' => ?_)
  rw [show ((hd.take q).map fun (x : Nat) => (x : Int)) ++ [((hd.getD q 0 : Nat) : Int)] = ((hd.take (q + 1)).map fun (x : Nat) => (x : Int)) by
   rw [List.take_add_one, List.map_append, List.getD, List.getElem?_eq_getElem (show q < hd.length by omega)]; rfl] at hO'
  repeat' first | apply jO | apply jN | apply jT | refine Q1 ?_ | refine Q0 ?_ | refine Qe ?_ | apply jW
  exact Qa (q + 1, v', N') ⟨by dsimp only; omega, hO'⟩ dgq cqq (HSub.skip (HSub.refl _))
 ·obtain rfl : q = 4 := by omega
  repeat' first | apply jS | apply jO | apply jN | apply jT | refine Q1 ?_ | (refine Qi (h1 := ?_) (h2 := ?_) <;> intro hc <;> try (exfalso; omega)) | apply jU | apply jE | refine Q4 rfl ?_ | refine Qc ?_
  rw [show ((hd.take 4).map fun (x : Nat) => (x : Int)) = encA m n t s S 0 by rw [hhd]; rfl] at hO
  refine Qk (A := []) (B := N ++ jgH b W m n t s T) rfl pqq rfl eqq rfl (fun w _ hs => Qe5 w b W m n t s T S hW hD ((Qh (HSub.refl _)).hsat hs) oq oq) fun w v w' _ _ _ hR => ?_
  obtain ⟨N1, N2, N3, N4, N5, E1, E2, E3, E4, E5, rfl, _, hNew, hO1, hO2, hO3, hO4, hO5⟩ := hR
  refine ⟨N1 ++ (N2 ++ (N3 ++ (N4 ++ N5))), hNew, ?_⟩
  clear hNew
  obtain ⟨A1, c1, rfl⟩ := hO1.form
  obtain ⟨A2, c2, rfl⟩ := hO2.form
  obtain ⟨A3, c3, rfl⟩ := hO3.form
  obtain ⟨A4, c4, rfl⟩ := hO4.form
  obtain ⟨A5, c5, rfl⟩ := hO5.form
  repeat' first | apply jS | apply jO | apply jN | refine Q2 ?_ | refine Q3 ?_ | refine Qf fun _ => ?_ | refine Q3 ?_ | apply jT
  refine Qz 0 rfl rfl rfl rfl rfl rfl rfl rfl ?_
  repeat' first | refine Q2 ?_ | fail
  refine Qz 0 rfl rfl rfl rfl rfl rfl rfl rfl ?_
  repeat' first | refine Q2 ?_ | fail
  refine Qz 0 rfl rfl rfl rfl rfl rfl rfl rfl ?_
  repeat' first | refine Q2 ?_ | fail
  refine Qz 0 rfl rfl rfl rfl rfl rfl rfl rfl ?_
  repeat' first | refine Q2 ?_ | fail
  refine Qz 0 rfl rfl rfl rfl rfl rfl rfl rfl ?_
  skip
  refine Zm (l := [(0, .agg #[nv m, nv m, .slice A1 (m * m) c1]), (1, .agg #[nv m, nv m, .slice A2 (m * m) c2]), (2, .agg #[nv m, nv n, .slice A3 (m * n) c3]), (3, .agg #[nv n, nv n, .slice A4 (n * n) c4]), (4, .agg #[nv n, nv n, .slice A5 (n * n) c5])]) (cs := smC m n (.slice A1 (m * m) c1) (.slice A2 (m * m) c2) (.slice A3 (m * n) c3) (.slice A4 (n * n) c4) (.slice A5 (n * n) c5)) rfl rfl rfl rfl dq dq (by kernel_rfl) (fun b51 => ?_)
  repeat' first | apply jN | apply jT | refine Q1 ?_ | refine Zx (h := ?_) | apply jB
  obtain ⟨cs, hcs⟩ : ∃ cs, cs = smC m n (.slice A1 (m * m) c1) (.slice A2 (m * m) c2) (.slice A3 (m * n) c3) (.slice A4 (n * n) c4) (.slice A5 (n * n) c5) := ⟨_, rfl⟩
  obtain ⟨M, hMM⟩ : ∃ M : SHeap, M = N1 ++ (N2 ++ (N3 ++ (N4 ++ N5))) := ⟨_, rfl⟩
  have hmm : m * m ≤ 40000 := Nat.mul_le_mul (show m ≤ 200 by omega) (show m ≤ 200 by omega)
  have hmn : m * n ≤ 40000 := Nat.mul_le_mul (show m ≤ 200 by omega) (show n ≤ 200 by omega)
  have hnn : n * n ≤ 40000 := Nat.mul_le_mul (show n ≤ 200 by omega) (show n ≤ 200 by omega)
  have hk5 : ∀ k, k < 5 → ∃ (r c L cap : Nat) (A : Option Addr) (Nk : SHeap), cs[0 + k * 3]? = some (nv r) ∧ cs[0 + k * 3 + 1]? = some (nv c) ∧ cs[0 + k * 3 + 2]? = some (.slice A L cap) ∧ OwnZ Nk (.slice A L cap) L ((encP S).getD k []) ∧ HSub Nk M ∧ L ≤ 40000 := fun k hk => by
   rw [hcs, hMM]
   rcases (show k = 0 ∨ k = 1 ∨ k = 2 ∨ k = 3 ∨ k = 4 by omega) with rfl | rfl | rfl | rfl | rfl
   ·exact ⟨_, _, _, _, _, _, rfl, rfl, rfl, hO1, HSub.in0, hmm⟩
   ·exact ⟨_, _, _, _, _, _, rfl, rfl, rfl, hO2, Qh HSub.in0, hmm⟩
   ·exact ⟨_, _, _, _, _, _, rfl, rfl, rfl, hO3, Qh (Qh HSub.in0), hmn⟩
   ·exact ⟨_, _, _, _, _, _, rfl, rfl, rfl, hO4, Qh (Qh (Qh HSub.in0)), hnn⟩
   ·exact ⟨_, _, _, _, _, _, rfl, rfl, rfl, hO5, Qh (Qh (Qh (Qh (HSub.refl _)))), hnn⟩
  refine Qj (ι := Nat × Value × SHeap) ⟨fun z => [(53, nv z.1), (52, nv 5), (51, .slice (some ⟨b51, 0, none⟩) 5 5), (3, z.2.1), (0, .pointer (some ⟨b, 0, none⟩))], fun z => (b51, .cells cs 28) :: (z.2.2 ++ (M ++ jgH b W m n t s T)),
   fun z => z.1 ≤ 5 ∧ OwnX' z.2.2 z.2.1 (encA m n t s S z.1), fun z => 5 - z.1⟩ (0, v3, N) ⟨by omega, hO⟩ cqq (by rw [hcs, hMM]; exact HSub.at 0 rfl (HSub.skip (Zy (Q8j _ N _)))) (fun z hz => ?_)
  clear hO hO1 hO2 hO3 hO4 hO5 hcs hMM
  obtain ⟨k, v3, N⟩ := z
  obtain ⟨hk, hO⟩ := hz
  dsimp only at hk hO ⊢
  by_cases hlt : k < 5
  ·obtain ⟨r, c, L, cap, A, Nk, h1, h2, h3, hOk, hNk, hL⟩ := hk5 k hlt
   have hLl := hOk.len
   have hbk : ∀ x ∈ (encP S).getD k [], x.natAbs < 256 ^ K := fun x hx => hbd x (by
    rw [← Q12]
    unfold encA
    refine List.mem_append_right _ (List.mem_flatten.2 ⟨_, ?_, hx⟩)
    rw [show (encP S).take 5 = encP S from rfl]
    exact Ze (show k < (encP S).length from hlt))
   repeat' first | apply jS | apply jO | apply jN | apply jT | (refine Qi (h1 := ?_) (h2 := ?_) <;> intro hc <;> try (exfalso; omega)) | apply jK | refine Q5 rfl ?_ | apply jB
   refine Zk (o := 0) (j := k) rfl rfl rfl (fun _ => rfl) rfl hlt ?_
   skip
   refine Qz 0 rfl rfl rfl rfl rfl h1 h2 h3 ?_
   repeat' first | apply jS | apply jO | apply jN | apply jT | refine Q1 ?_ | refine Q2 ?_ | refine Q7 ?_ | refine ZH (h := ?_) | refine Q3 ?_ | refine Qf fun _ => ?_ | refine Q3 ?_ | apply jB
   have hAl : (encA m n t s S k).length + L ≤ 1000000 := by
    have h5 : (encA m n t s S (k + 1)).length ≤ (encZ m n t s S).length := by
     rw [← Q12, ← Wu m n t s S k hlt]
     rcases (show k = 0 ∨ k = 1 ∨ k = 2 ∨ k = 3 ∨ k = 4 by omega) with rfl | rfl | rfl | rfl | rfl <;> simp [encA, encP] <;> omega
    rw [← Wu m n t s S k hlt, List.length_append] at h5
    omega
   refine Qj (ι := Nat × Value × SHeap) ⟨fun z => [(60, nv z.1), (59, nv L), (58, .slice A L cap), (53, nv k), (52, nv 5), (51, .slice (some ⟨b51, 0, none⟩) 5 5), (3, z.2.1), (0, .pointer (some ⟨b, 0, none⟩))], fun z => (b51, .cells cs 28) :: (z.2.2 ++ (M ++ jgH b W m n t s T)),
    fun z => z.1 ≤ L ∧ OwnX' z.2.2 z.2.1 (encA m n t s S k ++ ((encP S).getD k []).take z.1), fun z => L - z.1⟩ (0, v3, N) ⟨by omega, by rw [List.take_zero, List.append_nil]; exact hO⟩ cqq (HSub.skip (HSub.refl _)) (fun z hz => ?_)
   clear hO
   obtain ⟨c1, v3, N⟩ := z
   obtain ⟨hc1, hO⟩ := hz
   dsimp only at hc1 hO ⊢
   by_cases hlt2 : c1 < L
   ·repeat' first | apply jS | apply jO | apply jN | apply jT | refine QV (h := ?_) | (refine Qi (h1 := ?_) (h2 := ?_) <;> intro hc <;> try (exfalso; omega)) | apply jK | refine Q5 rfl ?_ | apply jB
    refine Yq rfl rfl rfl rfl hOk.rd (hNk.trans (HSub.skip (Qh HSub.in0))) hlt2 ?_
    repeat' first | apply jO | apply jN | refine Q1 ?_ | refine Qg ?_ | refine Q3 ?_ | refine Qf fun _ => ?_ | refine Q3 ?_ | apply jT
    refine Qb pqq rfl eqq rfl (fun w _ _ => Qi4 w _ (((encP S).getD k []).getD c1 0) K (Qq (hbk _ (Ze oq))) oq) fun w v w' _ _ _ hR => ?_
    subst hR
    repeat' first | refine Qw (h := fun _ => ?_) | fail
    rename_i b10 b67
    refine Q4t (A := [_, _, _]) (B := M ++ jgH b W m n t s T) hO (Qag b67 (sv (tx (((encP S).getD k []).getD c1 0)))).rd Q9 rfl pqq rfl rfl rfl rfl (by rw [List.length_append, List.length_take]; omega) (fun v' N' hO' => ?_)
    rw [List.append_assoc, ← Q67 oq] at hO'
    repeat' first | apply jO | apply jN | apply jT | refine Q1 ?_ | refine Q0 ?_ | refine Qe ?_ | apply jW
    exact Qa (c1 + 1, v', N') ⟨by dsimp only; omega, hO'⟩ dgq cqq (HSub.skip (HSub.skip (HSub.refl _)))
   ·obtain rfl : c1 = L := by omega
    rw [List.take_of_length_le oq, Wu m n t s S k hlt] at hO
    repeat' first | apply jS | apply jO | apply jN | apply jT | refine Q1 ?_ | refine Qe ?_ | (refine Qi (h1 := ?_) (h2 := ?_) <;> intro hc <;> try (exfalso; omega)) | apply jU | apply jE | refine Q4 rfl ?_ | apply jW | refine Qc ?_
    exact Qa (k + 1, v3, N) ⟨by dsimp only; omega, hO⟩ dgq cqq (HSub.refl _)
  ·obtain rfl : k = 5 := by omega
   rw [Q12] at hO
   repeat' first | apply jS | apply jO | apply jN | apply jT | refine Q1 ?_ | (refine Qi (h1 := ?_) (h2 := ?_) <;> intro hc <;> try (exfalso; omega)) | apply jU | apply jE | refine Q4 rfl ?_ | refine Qc ?_
   refine Qb pqq rfl eqq rfl (fun w hk hs => Qk6 w v3 _ (encZ m n t s S) ((OwnRow.rd hO).at hk hs Q9) (by rw [hel]; omega) (by rw [hel]; omega) (Nat.le_trans (Q43 (K := K) _ hbd) ?_)) fun w v w' _ _ _ hR => ?_
   ·rw [hel]
    exact Nat.le_trans (Nat.mul_le_mul (show _ ≤ 200004 by omega) (show 3 * K + 2 ≤ 270000002 by omega)) dq
   subst hR
   repeat' first | apply jN | apply jT | refine Q0 ?_ | apply jR
   exact Qd rfl (fun a w' st => ⟨Z1 hs st.kp (fun p hp => st.hs.blk p (by exact List.mem_cons_of_mem _ (List.mem_append_right _ (List.mem_append_right _ hp)))), rfl⟩)


set_option maxHeartbeats 4000000 in
theorem Qfh (K L : Nat) (w : World) (v u : Value) (a b : ZM) (ha : RtZ a) (hb : RtZ b) (hK : K + L ≤ 90000000) (hx : BdZ K a) (hy : BdZ L b) (hv : IsM w v a) (hu : IsM w u b) (hr : a.c = b.r) :
  Calls Tryz.prog 74 #[v, u] w (Ret fun v w' => Kp [] w w' ∧ IsB (mulZ a b = oneZ a.r) v) := by
 have hmR : RtZ (mulZ a b) := X5 ha.r hb.c
 have hoR : RtZ (oneZ a.r) := X5 ha.r ha.r
 have hv0 := hv
 have hu0 := hu
 obtain ⟨E, rfl, hE⟩ := hv
 obtain ⟨E', rfl, hE'⟩ := hu
 refine Q8 [⟨2, 1, [], []⟩] [] spq [] Tryz.func74 rfl mixed (by kernel_rfl) Tryz.ntmps74 Tryz.results74 rfl ⟨by simp, by simp⟩ spq ?_
 simp only [toS, textOps, toSOp, kindAt, kindOf, odAt, sopsAt, ordOf, zipF]
 repeat' first | apply jS | apply jO | apply jN | refine Q0 ?_ | refine Qg ?_ | refine QB (h := fun _ => ?_) | apply jT
 rename_i b2 b3
 refine Qk (A := [_, _]) (B := []) rfl pqq rfl eqq rfl (fun w hk _ => Qk5 K L w _ _ a b ha hb hr hK hx hy (hv0.mono hk) (hu0.mono hk)) fun w v w' _ _ _ hR => ?_
 obtain ⟨N, u1, rfl, hN, E1, rfl, hO⟩ := hR
 obtain ⟨A1, c1, rfl⟩ := hO.form
 refine ⟨N, hN, ?_⟩
 repeat' first | apply jS | apply jD | apply jN | refine Q1 ?_ | refine Q2 ?_ | refine Q0 ?_ | refine Q7 ?_ | refine Qg ?_ | refine Qo (h := ?_) | refine Q3 ?_ | refine Qf fun _ => ?_ | refine Q3 ?_ | apply jT
 rename_i b4
 refine Qk (A := [_, _, _]) (B := N ++ []) rfl pqq rfl eqq rfl (fun w hk _ => Qi9 a.r ha.r w) fun w v w' _ _ _ hR => ?_
 obtain ⟨N2, hN2, E2, rfl, hO2⟩ := hR
 obtain ⟨A2, c2, rfl⟩ := hO2.form
 refine ⟨N2, hN2, ?_⟩
 skip
 refine Qb pqq rfl eqq rfl (fun w hk hs => Qid w _ _ (mulZ a b) (oneZ a.r) hmR hoR ⟨_, rfl, hO.rd.at hk hs Q9⟩ ⟨_, rfl, hO2.rd.at hk hs Q9⟩) fun w v w' _ _ _ hR => ?_
 obtain ⟨y, rfl, hy⟩ := hR
 repeat' first | apply jN | apply jT | refine Q0 ?_ | refine Ql ?_ | apply jR
 exact Qd rfl (fun a' w' st => ⟨st.kp, y, rfl, hy⟩)

def sndAt (S : Sm) (t i k : Nat) : Bool := decide (remZ (gE S.d i k) (gE S.d t t) = 0) && (decide (decide (i = t) = decide (k = t)) || decide (gE S.d i k = 0))
def sndRow (S : Sm) (t n i : Nat) : Bool := (List.range' t (n - t)).all (sndAt S t i)
def sndT (S : Sm) (m n t : Nat) : Bool := decide (0 < gE S.d t t) && (List.range' t (m - t)).all (sndRow S t n)
def sndF (m n : Nat) (t s : Int) (S : Sm) : Bool := decide (0 ≤ t ∧ t ≤ (min m n : Nat) ∧ 0 ≤ s ∧ s ≤ 1099511627776) && (List.range' 0 (t.toNat - 0)).all (sndT S m n)

set_option maxHeartbeats 16000000 in
theorem Qe4 (K : Nat) (w : World) (b : Nat) (W : WV) (m n : Nat) (t s : Int) (T : WT) (S : Sm) (hW : IsBj W m n T S) (hs : Hsat (jgH b W m n t s T) w) (hm : m ≤ 200) (hn : n ≤ 200) (ht : t.natAbs < 1099511627776) (hs0 : s.natAbs < 1099511627776) (hK : K ≤ 21000000) (hb : okG K S.d = true) :
  Calls Tryz.prog 75 #[.pointer (some ⟨b, 0, none⟩)] w (Ret fun v w' => Kp [] w w' ∧ v = .bool (sndF m n t s S)) := by
 have hM := QC hs
 have hld := hW.d.len
 have hTd := hW.d.T
 have hVd : ∀ a, tv T.d a = tv T.d a := fun _ => rfl
 have hat := hW.d.at
 have hbd := XE hW.d hb
 have hres : ∀ w', Kp (keys (jgH b W m n t s T)) w w' → (∀ p ∈ jgH b W m n t s T, w'.heap[p.1]? = some p.2) → Kp [] w w' := fun w' h1 h2 => Z1 hs h1 h2
 have hmin : (if (n : Int) < (m : Int) then (n : Int) else (m : Int)) = ((min m n : Nat) : Int) := by split <;> omega
 refine Q8 [] (keys (jgH b W m n t s T)) hM (jgH b W m n t s T) Tryz.func75 rfl mixed (by kernel_rfl) Tryz.ntmps75 Tryz.results75 rfl hs (fun p hp => List.mem_map.2 ⟨p, hp, rfl⟩) ?_
 simp only [toS, textOps, toSOp, kindAt, kindOf, odAt, sopsAt, ordOf, zipF]
 by_cases hr : 0 ≤ t ∧ t ≤ (min m n : Nat) ∧ 0 ≤ s ∧ s ≤ 1099511627776
 ·obtain ⟨hr1, hr2, hr3, hr4⟩ := hr
  obtain ⟨tn, rfl⟩ := Int.eq_ofNat_of_zero_le hr1
  have hsf : sndF m n tn s S = (List.range' 0 (tn - 0)).all (sndT S m n) := by
   unfold sndF
   rw [decide_eq_true ⟨hr1, hr2, hr3, hr4⟩, Bool.true_and]
   rfl
  rw [hsf]
  have htm : tn ≤ m := by omega
  have htn : tn ≤ n := by omega
  unfold jgH jgC
  repeat' first | apply jS | apply jO | apply jD | apply jN | apply jT | refine Q1 ?_ | refine Q2 ?_ | refine Q0 ?_ | refine Q7 ?_ | refine Q8e (h := ?_) | refine Qn ?_ | refine Q6 ?_ | (refine Qi (h1 := ?_) (h2 := ?_) <;> intro hc <;> try (exfalso; omega)) | (refine QM (h1 := ?_) (h2 := ?_) <;> intro hc <;> try (exfalso; omega)) | apply jK | refine Q4 rfl ?_ | apply jB
  all_goals first
   | (exfalso; omega)
   | (exfalso; simp only [hmin] at *; omega)
   | skip
  refine Qj (ι := Nat) ⟨fun z => [(50, nv z), (49, nv tn), (0, .pointer (some ⟨b, 0, none⟩))], fun _ => jgH b W m n tn s T,
   fun z => z ≤ tn ∧ (List.range' 0 (tn - 0)).all (sndT S m n) = (List.range' z (tn - z)).all (sndT S m n), fun z => tn - z⟩ 0 ⟨by omega, rfl⟩ cqq (HSub.refl _) (fun z hz => ?_)
  obtain ⟨hz, hal⟩ := hz
  dsimp only at hz hal ⊢
  by_cases hlt : z < tn
  ·have hzm : z < m := by omega
   have hzn : z < n := by omega
   rw [QH hlt, List.all_cons] at hal
   unfold jgH jgC
   repeat' first | apply jS | apply jO | apply jN | apply jT | refine Q1 ?_ | refine Q2 ?_ | refine Q0 ?_ | refine Q7 ?_ | refine Qg ?_ | refine QY (h := ?_) | refine Z3 (h := ?_) | refine Yb (h := ?_) | refine Y7 (h := ?_) | refine Q6 ?_ | refine Q3 ?_ | (refine Qi (h1 := ?_) (h2 := ?_) <;> intro hc <;> try (exfalso; omega)) | refine Qf fun _ => ?_ | refine Q3 ?_ | apply jK | refine Q5 rfl ?_ | apply jB
   rename_i b4
   refine Qb pqq rfl eqq rfl (fun w _ _ => Qbu w _ (tM T.d z z) K (Qq (hbd z z)) oq) fun w v w' _ _ _ hR => ?_
   rw [hat] at hR
   subst hR
   by_cases hpv : 0 < gE S.d z z
   ·have hsg : (gE S.d z z).sign = 1 := Int.sign_eq_one_of_pos hpv
    rw [hsg]
    have hpe : sndT S m n z = (List.range' z (m - z)).all (sndRow S z n) := by unfold sndT; rw [decide_eq_true hpv, Bool.true_and]
    rw [hpe] at hal
    repeat' first | apply jS | apply jO | apply jN | apply jT | refine Q1 ?_ | refine Q0 ?_ | (refine XR (h1 := ?_) (h2 := ?_) <;> intro hc <;> try (exfalso; omega)) | apply jK | refine Q4 rfl ?_ | apply jB
    all_goals first
     | (exfalso; omega)
     | skip
    refine Qj (ι := Nat) ⟨fun i => [(5, nv i), (3, nv z), (4, .pointer (some ⟨b4, 0, none⟩)), (50, nv z), (49, nv tn), (0, .pointer (some ⟨b, 0, none⟩))], fun _ => (b4, .cells #[.bool (decide (gE S.d z z < 0)), sv (magU (gE S.d z z).natAbs)] 75) :: jgH b W m n tn s T,
     fun i => z ≤ i ∧ i ≤ m ∧ (List.range' 0 (tn - 0)).all (sndT S m n) = ((List.range' i (m - i)).all (sndRow S z n) && (List.range' (z + 1) (tn - (z + 1))).all (sndT S m n)), fun i => m - i⟩ z ⟨by omega, by omega, hal⟩ cqq (by rw [← hat z z]; exact HSub.refl _) (fun i hi => ?_)
    clear hal
    obtain ⟨hzi, him, hal⟩ := hi
    dsimp only at hzi him hal ⊢
    by_cases hlti : i < m
    ·rw [QH hlti, List.all_cons] at hal
     unfold jgH jgC
     repeat' first | apply jS | apply jO | apply jN | apply jT | refine Q1 ?_ | refine Q2 ?_ | refine Q0 ?_ | refine Q7 ?_ | refine Q6 ?_ | (refine Qi (h1 := ?_) (h2 := ?_) <;> intro hc <;> try (exfalso; omega)) | apply jK | refine Q5 rfl ?_ | apply jB
     refine Qj (ι := Nat) ⟨fun k => [(6, nv k), (5, nv i), (3, nv z), (4, .pointer (some ⟨b4, 0, none⟩)), (50, nv z), (49, nv tn), (0, .pointer (some ⟨b, 0, none⟩))], fun _ => (b4, .cells #[.bool (decide (gE S.d z z < 0)), sv (magU (gE S.d z z).natAbs)] 75) :: jgH b W m n tn s T,
      fun k => z ≤ k ∧ k ≤ n ∧ (List.range' 0 (tn - 0)).all (sndT S m n) = ((List.range' k (n - k)).all (sndAt S z i) && (List.range' (i + 1) (m - (i + 1))).all (sndRow S z n) && (List.range' (z + 1) (tn - (z + 1))).all (sndT S m n)), fun k => n - k⟩ z ⟨by omega, by omega, hal⟩ cqq (HSub.refl _) (fun k hk => ?_)
     clear hal
     obtain ⟨hzk, hkn, hal⟩ := hk
     dsimp only at hzk hkn hal ⊢
     by_cases hltk : k < n
     ·rw [QH hltk, List.all_cons] at hal
      unfold jgH jgC
      repeat' first | apply jS | apply jO | apply jN | apply jT | refine Q1 ?_ | refine Q2 ?_ | refine Q7 ?_ | refine Qg ?_ | refine QY (h := ?_) | refine Z3 (h := ?_) | refine Yb (h := ?_) | refine Y7 (h := ?_) | refine Q6 ?_ | refine Q3 ?_ | (refine Qi (h1 := ?_) (h2 := ?_) <;> intro hc <;> try (exfalso; omega)) | refine Qf fun _ => ?_ | refine Q3 ?_ | apply jK | refine Q5 rfl ?_ | apply jB
      rename_i b7
      have hxk : tM T.d i k = gE S.d i k := hat i k
      rw [hxk]
      refine Qb pqq rfl eqq rfl (fun w _ _ => Qk4 w _ _ (gE S.d i k) (gE S.d z z) K (Qq (QW hb _ _)) (Qq (QW hb _ _)) oq) fun w v w' _ _ _ hR => ?_
      rw [if_neg (show gE S.d z z ≠ 0 by omega)] at hR
      subst hR
      repeat' first | apply jS | apply jO | apply jN | refine Q1 ?_ | refine Q2 ?_ | refine Q0 ?_ | refine Q7 ?_ | refine Qo (h := ?_) | refine Q3 ?_ | refine Yg (h := ?_) | refine Qf fun _ => ?_ | refine Q3 ?_ | apply jT
      rename_i b8 b9
      have hrz : remZ (gE S.d i k) (gE S.d z z) = gE S.d i k % gE S.d z z := by unfold remZ; rw [if_neg oq]
      have hsa : sndAt S z i k = (decide (gE S.d i k % gE S.d z z = 0) && (decide (decide (i = z) = decide (k = z)) || decide (gE S.d i k = 0))) := by unfold sndAt; rw [hrz]
      rw [hsa] at hal
      have hmg : ∀ x : Int, decide (magU x.natAbs ≠ []) = decide (x ≠ 0) := fun x => decide_eq_decide.2 (not_congr (magU_nil.trans Int.natAbs_eq_zero))
      rw [hmg]
      by_cases h0 : gE S.d i k % gE S.d z z = 0
      ·rw [decide_eq_true h0, Bool.true_and] at hal
       rw [decide_eq_false (not_not_intro h0)]
       repeat' first | apply jO | apply jN | apply jT | refine Q1 ?_ | refine Q2 ?_ | refine Q0 ?_ | refine Q7 ?_ | refine Qe ?_ | refine Ql ?_ | refine Qn ?_ | refine Yg (h := ?_) | (refine Z0 (h1 := ?_) (h2 := ?_) <;> intro hc <;> try (exfalso; omega)) | refine Qa2 (h := ?_) | refine XQ (h := ?_) | apply jK | refine Q4 rfl ?_ | refine Qy (h := ?_) | apply jW
       ·have he : decide (i = z) = decide (k = z) := by rw [decide_eq_true (show (i = z) by omega), decide_eq_true (show (k = z) by omega)]
        rw [decide_eq_true he, Bool.true_or, Bool.true_and] at hal
        exact Qa (k + 1) ⟨by first | omega | (dsimp only; omega), by first | omega | (dsimp only; omega), hal⟩ dgp cqq (by exact HSub.skip (HSub.skip (HSub.skip (HSub.refl _))))
       ·have he : ¬ (decide (i = z) = decide (k = z)) := by rw [decide_eq_true (show (i = z) by omega), decide_eq_false (show ¬ (k = z) by omega)]; decide
        rw [decide_eq_false he, Bool.false_or] at hal
        rw [hmg]
        by_cases hx0 : gE S.d i k = 0
        ·rw [decide_eq_true hx0, Bool.true_and] at hal
         rw [decide_eq_false (not_not_intro hx0)]
         repeat' first | apply jO | apply jN | apply jT | refine Q1 ?_ | refine Q0 ?_ | refine Qe ?_ | apply jK | refine Q4 rfl ?_ | apply jW
         exact Qa (k + 1) ⟨by first | omega | (dsimp only; omega), by first | omega | (dsimp only; omega), hal⟩ dgp cqq (by exact HSub.skip (HSub.skip (HSub.skip (HSub.refl _))))
        ·rw [decide_eq_false hx0, Bool.false_and, Bool.false_and] at hal
         rw [hal, decide_eq_true hx0]
         repeat' first | apply jS | apply jO | apply jN | apply jT | refine Q0 ?_ | apply jV | apply jR | refine Q5 rfl ?_ | refine Qt ?_
         exact Qd rfl (fun a w' st => ⟨hres w' st.kp (fun p hp => st.hs.blk p (by exact List.mem_cons_of_mem _ (List.mem_cons_of_mem _ (List.mem_cons_of_mem _ (List.mem_cons_of_mem _ hp))))), rfl⟩)
       ·have he : ¬ (decide (i = z) = decide (k = z)) := by rw [decide_eq_false (show ¬ (i = z) by omega), decide_eq_true (show (k = z) by omega)]; decide
        rw [decide_eq_false he, Bool.false_or] at hal
        rw [hmg]
        by_cases hx0 : gE S.d i k = 0
        ·rw [decide_eq_true hx0, Bool.true_and] at hal
         rw [decide_eq_false (not_not_intro hx0)]
         repeat' first | apply jO | apply jN | apply jT | refine Q1 ?_ | refine Q0 ?_ | refine Qe ?_ | apply jK | refine Q4 rfl ?_ | apply jW
         exact Qa (k + 1) ⟨by first | omega | (dsimp only; omega), by first | omega | (dsimp only; omega), hal⟩ dgp cqq (by exact HSub.skip (HSub.skip (HSub.skip (HSub.refl _))))
        ·rw [decide_eq_false hx0, Bool.false_and, Bool.false_and] at hal
         rw [hal, decide_eq_true hx0]
         repeat' first | apply jS | apply jO | apply jN | apply jT | refine Q0 ?_ | apply jV | apply jR | refine Q5 rfl ?_ | refine Qt ?_
         exact Qd rfl (fun a w' st => ⟨hres w' st.kp (fun p hp => st.hs.blk p (by exact List.mem_cons_of_mem _ (List.mem_cons_of_mem _ (List.mem_cons_of_mem _ (List.mem_cons_of_mem _ hp))))), rfl⟩)
       ·have he : decide (i = z) = decide (k = z) := by rw [decide_eq_false (show ¬ (i = z) by omega), decide_eq_false (show ¬ (k = z) by omega)]
        rw [decide_eq_true he, Bool.true_or, Bool.true_and] at hal
        exact Qa (k + 1) ⟨by first | omega | (dsimp only; omega), by first | omega | (dsimp only; omega), hal⟩ dgp cqq (by exact HSub.skip (HSub.skip (HSub.skip (HSub.refl _))))
      ·rw [decide_eq_false h0, Bool.false_and, Bool.false_and, Bool.false_and] at hal
       rw [hal, decide_eq_true h0]
       repeat' first | apply jS | apply jO | apply jN | apply jT | refine Q0 ?_ | refine Ql ?_ | apply jV | refine Q5 rfl ?_ | refine Qt ?_ | refine Qy (h := ?_) | apply jR
       exact Qd rfl (fun a w' st => ⟨hres w' st.kp (fun p hp => st.hs.blk p (by exact List.mem_cons_of_mem _ (List.mem_cons_of_mem _ (List.mem_cons_of_mem _ (List.mem_cons_of_mem _ hp))))), rfl⟩)
     ·rw [show n - k = 0 by omega] at hal
      have hal : (List.range' 0 (tn - 0)).all (sndT S m n) = ((List.range' (i + 1) (m - (i + 1))).all (sndRow S z n) && (List.range' (z + 1) (tn - (z + 1))).all (sndT S m n)) := by
       rw [hal]
       rfl
      unfold jgH jgC
      repeat' first | apply jS | apply jO | apply jN | apply jT | refine Q1 ?_ | refine Q2 ?_ | refine Q0 ?_ | refine Q7 ?_ | refine Qe ?_ | refine Q6 ?_ | (refine Qi (h1 := ?_) (h2 := ?_) <;> intro hc <;> try (exfalso; omega)) | apply jU | apply jE | refine Q4 rfl ?_ | apply jW | refine Qc ?_
      exact Qa (i + 1) ⟨by first | omega | (dsimp only; omega), by first | omega | (dsimp only; omega), hal⟩ dgp cqq (HSub.refl _)
    ·rw [show m - i = 0 by omega] at hal
     have hal : (List.range' 0 (tn - 0)).all (sndT S m n) = (List.range' (z + 1) (tn - (z + 1))).all (sndT S m n) := by
      rw [hal]
      rfl
     unfold jgH jgC
     repeat' first | apply jS | apply jO | apply jN | apply jT | refine Q1 ?_ | refine Q2 ?_ | refine Q7 ?_ | refine Qe ?_ | refine Q6 ?_ | (refine Qi (h1 := ?_) (h2 := ?_) <;> intro hc <;> try (exfalso; omega)) | apply jU | apply jE | refine Q4 rfl ?_ | apply jW | refine Qc ?_
     exact Qa (z + 1) ⟨by first | omega | (dsimp only; omega), hal⟩ dgp cqq (HSub.skip (HSub.refl _))
   ·have hsg : ¬ 0 < (gE S.d z z).sign := fun h => hpv (Int.sign_pos_iff.1 h)
    have hpe : sndT S m n z = false := by unfold sndT; rw [decide_eq_false hpv, Bool.false_and]
    rw [hpe, Bool.false_and] at hal
    rw [hal]
    repeat' first | apply jS | apply jO | apply jN | apply jT | refine Q0 ?_ | (refine XR (h1 := ?_) (h2 := ?_) <;> intro hc <;> try (exfalso; omega)) | apply jV | apply jR | refine Q5 rfl ?_ | refine Qt ?_
    all_goals first
     | (exfalso; omega)
     | skip
    exact Qd rfl (fun a w' st => ⟨hres w' st.kp (fun p hp => st.hs.blk p (by exact List.mem_cons_of_mem _ hp)), rfl⟩)
  ·rw [show tn - z = 0 by omega] at hal
   have hal : (List.range' 0 (tn - 0)).all (sndT S m n) = true := hal
   rw [hal]
   unfold jgH jgC
   repeat' first | apply jS | apply jO | apply jN | apply jT | refine Q0 ?_ | (refine Qi (h1 := ?_) (h2 := ?_) <;> intro hc <;> try (exfalso; omega)) | apply jU | apply jE | apply jR | refine Q4 rfl ?_ | refine Qc ?_
   all_goals first
    | (exfalso; omega)
    | skip
   exact Qd rfl (fun a w' st => ⟨hres w' st.kp (fun p hp => st.hs.blk p hp), rfl⟩)
 ·have hsf : sndF m n t s S = false := by
   unfold sndF
   rw [decide_eq_false hr, Bool.false_and]
  rw [hsf]
  unfold jgH jgC
  repeat' first | apply jS | apply jO | apply jD | apply jN | apply jT | refine Q1 ?_ | refine Q2 ?_ | refine Q0 ?_ | refine Q7 ?_ | refine Q8e (h := ?_) | refine Ql ?_ | refine Qn ?_ | refine Q6 ?_ | (refine Qi (h1 := ?_) (h2 := ?_) <;> intro hc <;> try (exfalso; omega)) | (refine QM (h1 := ?_) (h2 := ?_) <;> intro hc <;> try (exfalso; omega)) | apply jV | refine Q5 rfl ?_ | refine Qy (h := ?_) | apply jR
  all_goals first
   | (exfalso; omega)
   | (exfalso; simp only [hmin] at *; omega)
   | exact Qd rfl (fun a w' st => ⟨hres w' st.kp (fun p hp => st.hs.blk p hp), rfl⟩)

end Go.Proofs.YtbofgpenopcfaaaGreatDoor

namespace Go.Proofs.YtbofgpenopcfaaaGreatDoor
open Go Go.RowKit Go.Shelf
set_option linter.unusedSimpArgs false
set_option linter.unusedVariables false
set_option linter.unusedSectionVars false

theorem Qak {n : Nat} (h : n < 256) : (UInt8.ofNat n).toNat = n := by
 rw [UInt8.toNat_ofNat']
 exact Nat.mod_eq_of_lt h
theorem Qhs (V : Nat) : pnum ((dec V).map UInt8.ofNat) = V ∧ ∀ c ∈ (dec V).map UInt8.ofNat, digit c = true := by
 induction V using Nat.strongRecOn with
 | ind V ih =>
  by_cases h0 : V = 0
  ·subst h0; exact ⟨rfl, fun _ h => absurd h List.not_mem_nil⟩
  ·obtain ⟨h1, h2⟩ := ih (V / 10) oq
   rw [X2 (Nat.pos_of_ne_zero h0), List.map_append]
   have hn := Qak (n := 48 + V % 10) oq
   show pnum (List.map UInt8.ofNat (dec (V / 10)) ++ [UInt8.ofNat (48 + V % 10)]) = V ∧ _
   refine ⟨by rw [Q1s, h1, hn]; omega, fun c hc => ?_⟩
   rcases List.mem_append.1 hc with h | h
   ·exact h2 c h
   ·rw [List.mem_singleton.1 h]; exact (Xn _).2 (by rw [hn]; omega)
theorem Qjy {V : Nat} (h : V ≠ 0) : dec V ≠ [] := by
 rw [X2 (Nat.pos_of_ne_zero h)]
 simp
theorem Qgt (a : Int) : PRes (tx a) = .tuple #[Wv a, .bool true] := by
 by_cases h0 : a = 0
 ·subst h0; rfl
 ·have hz : a.natAbs ≠ 0 := by omega
  obtain ⟨h1, h2⟩ := Qhs a.natAbs
  have h3 : (dec a.natAbs).map UInt8.ofNat ≠ [] := fun h => Qjy hz (List.map_eq_nil_iff.1 h)
  unfold tx txt
  rw [if_neg h0, List.map_append]
  generalize (dec a.natAbs).map UInt8.ofNat = t at h1 h2 h3
  by_cases hn : a < 0
  ·rw [if_pos hn]
   show (if t.all digit then Value.tuple #[Wv (sgn true (pnum t)), .bool (decide (t ≠ []))] else .tuple #[Wv 0, .bool false]) = _
   rw [if_pos (List.all_eq_true.2 h2), h1, decide_eq_true h3]
   have : sgn true a.natAbs = a := by simp only [sgn, if_true]; omega
   rw [this]
  ·rw [if_neg hn, List.map_nil, List.nil_append]
   cases t with
   | nil => exact absurd rfl h3
   | cons c t =>
    have hc := (Xn c).1 (h2 c (List.mem_cons_self ..))
    have h45 : (c == 45) = false := by
     simp only [beq_eq_false_iff_ne]
     intro e
     subst e
     exact absurd hc.1 dq
    unfold PRes
    simp only [minus, body, h45, Bool.false_eq_true, if_false]
    rw [if_pos (List.all_eq_true.2 h2), h1]
    have : sgn false a.natAbs = a := by simp [sgn]; omega
    rw [this]
    rfl
theorem Q5s (a : Int) : ∀ c ∈ tx a, (32 == c) = false := by
 intro c hc
 unfold tx txt at hc
 have key : ∀ n : Nat, n < 256 → n ≠ 32 → ((32 : UInt8) == UInt8.ofNat n) = false := fun n hn h => by
  rw [beq_eq_false_iff_ne]
  intro e
  have := congrArg UInt8.toNat e
  rw [Qak hn] at this
  exact h this.symm
 obtain ⟨n, hn, rfl⟩ := List.mem_map.1 hc
 by_cases h0 : a = 0
 ·rw [if_pos h0] at hn
  rw [List.mem_singleton.1 hn]
  exact key 48 dq dq
 ·rw [if_neg h0] at hn
  rcases List.mem_append.1 hn with h1 | h1
  ·by_cases hneg : a < 0
   ·rw [if_pos hneg] at h1
    rw [List.mem_singleton.1 h1]
    exact key 45 dq dq
   ·rw [if_neg hneg] at h1; exact absurd h1 List.not_mem_nil
  ·have := Qba _ _ n h1
   exact key n oq oq
theorem idx32 (r : List UInt8) : ∀ l : List UInt8, (∀ c ∈ l, (32 == c) = false) → Lib.index (l ++ 32 :: r) [32] = l.length
 | [], _ => by
  show (if ([32] : List UInt8).isPrefixOf (32 :: r) then (0 : Int) else _) = _
  rw [if_pos (by simp [List.isPrefixOf])]
  rfl
 | c :: l, h => by
  have ih := idx32 r l fun x hx => h x (List.mem_cons_of_mem _ hx)
  have hc := h c (List.mem_cons_self ..)
  show (if ([32] : List UInt8).isPrefixOf (c :: (l ++ 32 :: r)) then (0 : Int) else if Lib.index (l ++ 32 :: r) [32] == -1 then -1 else Lib.index (l ++ 32 :: r) [32] + 1) = _
  rw [if_neg (by simp [List.isPrefixOf, hc]), ih, if_neg spq, List.length_cons]
  omega
theorem idx32n : ∀ l : List UInt8, (∀ c ∈ l, (32 == c) = false) → Lib.index l [32] = -1
 | [], _ => rfl
 | c :: l, h => by
  have ih := idx32n l fun x hx => h x (List.mem_cons_of_mem _ hx)
  have hc := h c (List.mem_cons_self ..)
  show (if ([32] : List UInt8).isPrefixOf (c :: l) then (0 : Int) else if Lib.index l [32] == -1 then -1 else Lib.index l [32] + 1) = _
  rw [if_neg (by simp [List.isPrefixOf, hc]), ih]
  rfl
theorem Qbc : ∀ (l : List Int) (x : Int), Lib.count (encT (x :: l)) [32] = l.length
 | [], x => by
  show Lib.count (tx x ++ []) [32] = 0
  rw [List.append_nil]
  exact Lib.count_miss (idx32n _ (Q5s x))
 | y :: l, x => by
  have e : encT (x :: y :: l) = tx x ++ 32 :: encT (y :: l) := rfl
  rw [e, Lib.count_hit spq (idx32 (encT (y :: l)) (tx x) (Q5s x))]
  have hd : (tx x ++ 32 :: encT (y :: l)).drop ((tx x).length + ([32] : List UInt8).length) = encT (y :: l) := by
   rw [List.drop_append]
   simp
  rw [hd, Qbc l y, List.length_cons]
  omega
theorem Q9l : ∀ (l : List Int) (x : Int), Lib.splitK [32] 0 l.length (encT (x :: l)) = (x :: l).map tx
 | [], x => by
  show [tx x ++ []] = [tx x]
  rw [List.append_nil]
 | y :: l, x => by
  have e : encT (x :: y :: l) = tx x ++ 32 :: encT (y :: l) := rfl
  have hi := idx32 (encT (y :: l)) (tx x) (Q5s x)
  rw [e, List.length_cons]
  unfold Lib.splitK
  rw [hi, if_neg spq]
  have hd : (tx x ++ 32 :: encT (y :: l)).drop (((tx x).length : Int).toNat + ([32] : List UInt8).length) = encT (y :: l) := by
   rw [Int.toNat_natCast, List.drop_append]
   simp
  rw [hd, Q9l l y, Int.toNat_natCast, Nat.add_zero, List.take_left]
  rfl

def MaxL (w : World) : Prop := ∃ m, w.cell? ⟨0, 0, none⟩ = some (.int .i64 m)
theorem MaxL.mono {w w' : World} (h : MaxL w) (hk : Kp [] w w') : MaxL w' := by
 obtain ⟨m, h⟩ := h
 refine ⟨m, ?_⟩
 have hb := hk.block _ (ZQ h) spq
 unfold World.cell? at h ⊢
 rw [hb]
 exact h
theorem Q9k : (Tryz.prog.info? (splitRen.t 9)).map (fun i => (i.zero, i.size, i.bytes)) = some (some (.string ByteArray.empty), 1, 16) := by kernel_rfl
theorem Qi6 (w : World) (x : Int) (l : List Int) (hlen : (encT (x :: l)).length < 4294967281) (hn : l.length ≤ 1000000) (hm : MaxL w) :
  Calls Tryz.prog 70 #[sv (encT (x :: l)), .string ⟨#[32]⟩] w (Ret fun v w' => Kp [] w w' ∧ ∃ N, New N w w' ∧ OwnX' N v (x :: l)) := by
 obtain ⟨m, hm⟩ := hm
 have h := Any.strings_Split splitL Q9k ⟨(encT (x :: l)).toArray⟩ ⟨#[32]⟩ m w (by show (encT (x :: l)).toArray.size < _; simpa using hlen) hm dq
 have hc : Lib.countB ⟨(encT (x :: l)).toArray⟩ ⟨#[32]⟩ = l.length := Qbc l x
 have hsp : (Lib.splitB ⟨#[32]⟩ 0 l.length ⟨(encT (x :: l)).toArray⟩).map Value.string = (x :: l).map fun y => sv (tx y) := by
  have h1 := Lib.splitB_data ⟨#[32]⟩ 0 l.length ⟨(encT (x :: l)).toArray⟩
  have h2 : Lib.splitK (⟨#[32]⟩ : ByteArray).data.toList 0 l.length (⟨(encT (x :: l)).toArray⟩ : ByteArray).data.toList = (x :: l).map tx := Q9l l x
  rw [h2] at h1
  have h3 := congrArg (List.map sv) h1
  rw [List.map_map, List.map_map] at h3
  refine Eq.trans ?_ h3
  refine List.map_congr_left fun b _ => ?_
  show Value.string b = sv b.data.toList
  unfold sv
  rfl
 rw [hc, hsp] at h
 refine h.mono fun e w' he => ?_
 obtain ⟨rfl, rfl⟩ := he
 refine ⟨Kp.alloc [] _ _, _, New.one (Nat.le_refl _) (heap_alloc_new w _), ?_⟩
 have ho := OwnRow.mk' (e := 9) (sz := 1) (n := l.length + 1) (b := w.heap.size) (cs := ((x :: l).map fun y => sv (tx y)).toArray) spq (by simp only [maxLen]; omega)
 exact ho

end Go.Proofs.YtbofgpenopcfaaaGreatDoor

namespace Go.Proofs.YtbofgpenopcfaaaGreatDoor
open Go Go.RowKit
set_option linter.unusedSimpArgs false
set_option linter.unusedVariables false
set_option linter.unusedSectionVars false

structure SubA (b o n cap : Nat) (A : Option Addr) : Prop where
 adr : 0 < n → A = some ⟨b, o * 2, none⟩
 cap : n ≤ cap
theorem SubA.rd {c : Cx} {N : SHeap} {b L capL o n cap : Nat} {A : Option Addr} {xs : List Int} (h : SubA b o n cap A) (hv : RdZ c N (.slice (some ⟨b, 0, none⟩) L capL) L xs) (ho : o + n ≤ L) : RdZ c N (.slice A n cap) n ((xs.drop o).take n) := by
 unfold RdZ RdX at hv ⊢
 rw [List.map_take, List.map_drop, ← W8, ← W9]
 obtain ⟨hl, A0, c0, he, hnc, hc⟩ := hv
 refine ⟨by rw [List.length_take, List.length_drop, hl]; have := Nat.mul_le_mul_right 2 ho; omega, A, cap, rfl, h.cap, fun h0 => ?_⟩
 have hA := h.adr h0
 subst hA
 obtain ⟨_, hc⟩ := hc oq
 refine ⟨⟨b, o * 2, rfl⟩, fun w hw j u hu => ?_⟩
 rw [List.getElem?_take] at hu
 split at hu
 ·rw [List.getElem?_drop] at hu
  have := hc w hw _ u hu
  simpa using this
 ·cases hu

set_option maxHeartbeats 4000000 in
theorem Q28 (w : World) (b4 bl o n cap r k : Nat) (A : Option Addr) (hA : SubA bl o n cap A) (hs : Hsat [(b4, .cells #[.slice A n cap] 26)] w) (hr : r ≤ 200) (hk : k ≤ 200) (hrk : r * k ≤ n) :
  Calls Tryz.prog 73 #[nv r, nv k, .pointer (some ⟨b4, 0, none⟩)] w (Ret fun v w' => Kp (keys [(b4, .cells #[.slice A n cap] 26)]) w w' ∧ ∃ A1 c1 A2 c2, v = .agg #[nv r, nv k, .slice A1 (r * k) c1] ∧ SubA bl o (r * k) c1 A1 ∧ SubA bl (o + r * k) (n - r * k) c2 A2 ∧ w'.heap[b4]? = some (.cells #[.slice A2 (n - r * k) c2] 26)) := by
 have hM := QC hs
 have hrk2 : r * k ≤ 40000 := Nat.mul_le_mul hr hk
 refine Q8 [] (keys [(b4, .cells #[.slice A n cap] 26)]) hM [(b4, .cells #[.slice A n cap] 26)] Tryz.func73 rfl mixed (by kernel_rfl) Tryz.ntmps73 Tryz.results73 rfl hs (fun p hp => List.mem_map.2 ⟨p, hp, rfl⟩) ?_
 simp only [toS, textOps, toSOp, kindAt, kindOf, odAt, sopsAt, ordOf, zipF]
 repeat' first | apply jS | apply jO | apply jN | refine Q1 ?_ | refine Q7 ?_ | refine Z2 (h := ?_) | refine Qf fun _ => ?_ | apply jT
 refine XP (b := bl) (o := o * 2) (l := 0) (h' := r * k) rfl rfl rfl hA.adr rfl rfl (.inr ⟨rfl, rfl⟩) rfl rfl (.inl rfl) oq hrk hA.cap (fun A1 hA1 => ?_)
 refine Zv (l := [(0, nv r), (1, nv k), (2, .slice A1 (r * k - 0) (cap - 0))]) (cs := #[nv r, nv k, .slice A1 (r * k - 0) (cap - 0)]) rfl rfl rfl rfl ?_
 repeat' first | apply jS | apply jO | apply jN | refine Q1 ?_ | refine Q7 ?_ | refine Z2 (h := ?_) | refine Q3 ?_ | refine Qf fun _ => ?_ | refine Q3 ?_ | apply jT
 refine XP (b := bl) (o := o * 2) (l := r * k) (h' := n) rfl rfl rfl hA.adr rfl rfl (.inl rfl) rfl rfl (.inr ⟨rfl, rfl⟩) hrk oq hA.cap (fun A2 hA2 => ?_)
 repeat' first | apply jS | apply jO | apply jN | apply jT | refine Qg ?_ | refine Q3 ?_ | refine Q3 ?_ | refine QL (k := _) (h := ?_) | apply jR
 exact QG 1 rfl rfl rfl (fun a w' st => ⟨st.kp, A1, cap - 0, A2, cap - r * k, rfl, ⟨fun h => by have := hA1 h; simpa using this, by have := hA.cap; omega⟩, ⟨fun h => by have := hA2 oq; rw [this, Nat.add_mul], by have := hA.cap; omega⟩,
  st.hs.blk (b4, .cells #[.slice A2 (n - r * k) (cap - r * k)] 26) (by exact List.mem_cons_of_mem _ (List.mem_cons_of_mem _ (List.mem_cons_self ..)))⟩)


def IRes (a : Int) : Value := if -9223372036854775808 ≤ a ∧ a < 9223372036854775808 then .tuple #[iv a, .bool true] else .tuple #[iv 0, .bool false]

theorem Qdw {p : Bool} {n : Nat} (h : 18446744073709551616 ≤ n) : IRes (sgn p n) = .tuple #[iv 0, .bool false] := by
 unfold IRes
 rw [if_neg]
 cases p <;> simp [sgn] <;> omega
theorem Qdv {n : Nat} (h : n ≤ 9223372036854775808) : IRes (sgn true n) = .tuple #[iv (-(n : Int)), .bool true] := by
 unfold IRes
 rw [if_pos]
 ·rfl
 ·simp only [sgn, if_true]; omega
theorem Q7k {p : Bool} {n : Nat} (h : 9223372036854775808 ≤ n) (hp : p = true → 9223372036854775808 < n) : IRes (sgn p n) = .tuple #[iv 0, .bool false] := by
 unfold IRes
 rw [if_neg]
 cases p
 ·simp [sgn]; omega
 ·have := hp rfl
  simp [sgn]; omega
theorem Qdu {n : Nat} (h : n < 9223372036854775808) : IRes (sgn false n) = .tuple #[nv n, .bool true] := by
 unfold IRes
 rw [if_pos]
 ·rfl
 ·simp only [sgn]; simp; omega

set_option maxHeartbeats 8000000 in
theorem Qe9 (w : World) (v : Value) (a : Int) (k : Nat) (hv : IsZ v a k) (hk : k ≤ 100000000) :
  Calls Tryz.prog 72 #[v] w (Ret fun r w' => Kp [] w w' ∧ r = IRes a) := by
 obtain ⟨p, l, rfl, hl1, rfl⟩ := hv
 refine Q8 [] [] spq [] Tryz.func72 rfl mixed (by kernel_rfl) Tryz.ntmps72 Tryz.results72 rfl ⟨by simp, by simp⟩ spq ?_
 simp only [toS, textOps, toSOp, kindAt, kindOf, odAt, sopsAt, ordOf, zipF]
 repeat' first | apply jS | apply jO | apply jN | refine Q0 ?_ | refine Qg ?_ | refine QB (h := fun _ => ?_) | apply jT
 rename_i b1
 refine Qk (A := [_]) rfl trivial rfl rfl rfl (fun w hk hs => Q2g w p l oq) fun w v w' _ _ _ hR => ?_
 obtain ⟨N1, zs, hN1, hO, hz, hval⟩ := hR
 refine ⟨N1, hN1, ?_⟩
 have hzl := ZW hz hval hl1
 rw [← hval]
 by_cases h4 : 2 < zs.length
 ·have hge := Q4h (b := W32) dq hz.nrm (fun e => by subst e; simp at h4)
  have h2 : W32 ^ 2 ≤ W32 ^ (zs.length - 1) := Nat.pow_le_pow_right dq oq
  rw [Qdw (Nat.le_trans (show 18446744073709551616 ≤ W32 ^ 2 by decide) (Nat.le_trans h2 hge))]
  repeat' first | apply jS | apply jO | apply jN | apply jT | refine Q1 ?_ | refine Q0 ?_ | refine QD (h := ?_) | (refine QM (h1 := ?_) (h2 := ?_) <;> intro hc <;> try (exfalso; omega)) | apply jV | apply jR | refine Q5 rfl ?_
  exact Zp rfl rfl (fun a w' st => ⟨st.kp, rfl⟩)
 ·have hV : val W32 zs < 18446744073709551616 := by
   have h1 := ZN (b := W32) hz.lt
   have h2 : W32 ^ zs.length ≤ W32 ^ 2 := Nat.pow_le_pow_right dq oq
   exact Nat.lt_of_lt_of_le h1 (Nat.le_trans h2 dq)
  repeat' first | apply jS | apply jO | apply jN | apply jT | refine Q1 ?_ | refine Q0 ?_ | refine QD (h := ?_) | (refine QM (h1 := ?_) (h2 := ?_) <;> intro hc <;> try (exfalso; omega)) | apply jK | refine Q4 rfl ?_ | apply jB
  refine Qj (ι := Nat) ⟨fun z => [(15, nv z), (14, nv zs.length), (13, v), (5, uv (val W32 (zs.take z))), (4, v), (1, .pointer (some ⟨b1, 0, none⟩))], fun _ => (b1, .cells #[.bool p, sv l] 75) :: (N1 ++ []), fun z => z ≤ zs.length, fun z => zs.length - z⟩ 0 (Nat.zero_le _) cqq Qv (fun i hi => ?_)
  dsimp only at hi ⊢
  by_cases hin : i < zs.length
  ·have hxi : zs.getD i 0 < 4294967296 := Qp (b := W32) dq hz.lt i
   have hvt := Qu (b := W32) zs i
   have hi01 : i = 0 ∨ i = 1 := by omega
   rcases hi01 with rfl | rfl
   ·repeat' first | apply jS | apply jO | apply jN | apply jT | refine Q1 ?_ | refine Q0 ?_ | refine Z2 (i := 32) (h := ?_) | refine QQ (h := ?_) | refine ZP (h := ?_) | refine Q1m (h := ?_) | (refine Qi (h1 := ?_) (h2 := ?_) <;> intro hc <;> try (exfalso; omega)) | apply jK | refine Q5 rfl ?_ | apply jB
    refine Q8c (val W32 (zs.take (0 + 1))) rfl rfl rfl rfl ⟨by rw [List.take_zero]; decide, Nat.mod_lt _ dq⟩ (by rw [hvt, List.take_zero, show val W32 [] = 0 from rfl, Nat.zero_or, Nat.zero_add]; show zs.getD 0 0 * 1 % 18446744073709551616 = 1 * zs.getD 0 0; omega) ?_
    repeat' first | apply jO | apply jN | apply jT | refine Q1 ?_ | refine Q0 ?_ | refine Qe ?_ | apply jW
    exact Qa 1 (by show 1 ≤ zs.length; omega) (by show zs.length - 1 < zs.length - 0; omega) cqq Qv
   ·have h0 : val W32 (zs.take 1) < 4294967296 := by
     have h1 := ZN (b := W32) (l := zs.take 1) fun x hx => hz.lt x (List.mem_of_mem_take hx)
     have h2 : W32 ^ (zs.take 1).length ≤ W32 ^ 1 := Nat.pow_le_pow_right dq (by simp; omega)
     exact Nat.lt_of_lt_of_le h1 (Nat.le_trans h2 dq)
    repeat' first | apply jS | apply jO | apply jN | apply jT | refine Q1 ?_ | refine Q0 ?_ | refine Z2 (i := 32) (h := ?_) | refine Q1n (h := ?_) | refine QQ (h := ?_) | refine ZP (h := ?_) | (refine Qi (h1 := ?_) (h2 := ?_) <;> intro hc <;> try (exfalso; omega)) | apply jK | refine Q5 rfl ?_ | apply jB
    refine Q8c (val W32 (zs.take (1 + 1))) rfl rfl rfl rfl oq ?_ ?_
    ·have h1 := Nat.two_pow_add_eq_or_of_lt (i := 32) h0 (zs.getD 1 0)
     rw [hvt, Nat.or_comm, Nat.mul_comm (zs.getD 1 0) 4294967296, Nat.add_comm]
     exact h1.symm
    repeat' first | apply jO | apply jN | apply jT | refine Q1 ?_ | refine Q0 ?_ | refine Qe ?_ | apply jW
    exact Qa 2 (by show 2 ≤ zs.length; omega) (by show zs.length - 2 < zs.length - 1; omega) cqq Qv
  ·rw [show zs.take i = zs from List.take_of_length_le oq]
   generalize val W32 zs = V at hV ⊢
   cases p with
   | true =>
    by_cases h63 : V ≤ 9223372036854775808
    ·rw [Qdv h63]
     repeat' first | apply jS | apply jO | apply jN | apply jT | refine Q1 ?_ | refine Q2 ?_ | refine Q0 ?_ | refine Q7 ?_ | refine Ql ?_ | (refine Qi (h1 := ?_) (h2 := ?_) <;> intro hc <;> try (exfalso; omega)) | (refine XR (h1 := ?_) (h2 := ?_) <;> intro hc <;> try (exfalso; omega)) | apply jU | apply jE | refine Q5 rfl ?_ | refine Q4 rfl ?_ | apply jB | refine Qc ?_
     refine Qa1 rfl rfl rfl oq ?_
     refine XS (k' := .i64) (-((V : Nat) : Int)) rfl rfl rfl (by rw [IntKind.wrap_i64]; omega) ?_
     repeat' first | apply jN | apply jT | refine Q0 ?_ | apply jV | apply jR | refine Qt ?_
     exact Zp rfl rfl (fun a w' st => ⟨st.kp, rfl⟩)
    ·rw [Q7k oq (fun _ => by omega)]
     repeat' first | apply jS | apply jO | apply jN | apply jT | refine Q1 ?_ | refine Q2 ?_ | refine Q0 ?_ | refine Q7 ?_ | refine Ql ?_ | (refine Qi (h1 := ?_) (h2 := ?_) <;> intro hc <;> try (exfalso; omega)) | (refine XR (h1 := ?_) (h2 := ?_) <;> intro hc <;> try (exfalso; omega)) | (refine Zu (h1 := ?_) (h2 := ?_) <;> intro hc <;> try (exfalso; omega)) | apply jU | apply jV | apply jE | apply jR | refine Q5 rfl ?_ | refine Q4 rfl ?_ | apply jB | refine Qt ?_ | refine Qc ?_
     exact Zp rfl rfl (fun a w' st => ⟨st.kp, rfl⟩)
   | false =>
    by_cases h63 : 9223372036854775808 ≤ V
    ·rw [Q7k h63 (fun h => by cases h)]
     repeat' first | apply jS | apply jO | apply jN | apply jT | refine Q1 ?_ | refine Q2 ?_ | refine Q0 ?_ | refine Q7 ?_ | refine Qn ?_ | (refine Qi (h1 := ?_) (h2 := ?_) <;> intro hc <;> try (exfalso; omega)) | (refine Zu (h1 := ?_) (h2 := ?_) <;> intro hc <;> try (exfalso; omega)) | apply jU | apply jV | apply jE | apply jR | refine Q5 rfl ?_ | refine Q4 rfl ?_ | refine Qt ?_ | refine Qc ?_ | refine Qy (h := ?_) | apply jB
     exact Zp rfl rfl (fun a w' st => ⟨st.kp, rfl⟩)
    ·rw [Qdu oq]
     repeat' first | apply jS | apply jO | apply jN | apply jT | refine Q1 ?_ | refine Q2 ?_ | refine Q0 ?_ | refine Q7 ?_ | refine Qn ?_ | refine YU (h := ?_) | (refine Qi (h1 := ?_) (h2 := ?_) <;> intro hc <;> try (exfalso; omega)) | (refine Zu (h1 := ?_) (h2 := ?_) <;> intro hc <;> try (exfalso; omega)) | apply jU | apply jK | apply jE | apply jR | refine Q4 rfl ?_ | apply jB | refine Qc ?_ | refine Qy (h := ?_) | apply jW
     exact Zp rfl rfl (fun a w' st => ⟨st.kp, rfl⟩)

end Go.Proofs.YtbofgpenopcfaaaGreatDoor

