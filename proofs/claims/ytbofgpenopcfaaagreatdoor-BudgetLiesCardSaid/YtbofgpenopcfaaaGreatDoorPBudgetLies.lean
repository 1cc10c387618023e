import Derived.Test.YtbofgpenopcfaaaGreatDoorMn
import Derived.Test.YtbofgpenopcfaaaGreatDoorTie
import Derived.Test.YtbofgpenopcfaaaGreatDoorCards
import Derived.Shelf.Lay
import Derived.Lay
import Derived.LaidOnce
import Derived.SevenTiedAt
import Derived.Deep.DeepHandedRow
/- The law BudgetLies. ROWZ ROWT SMITH -/
namespace Go.Proofs.YtbofgpenopcfaaaGreatDoor
open Go Go.RowKit
set_option linter.unusedSimpArgs false
set_option linter.unusedVariables false
set_option linter.unusedSectionVars false

section
variable {ι : Type} {p : ι → Prop} {c : Cx} {Q : Exit → Act → World → Prop} {s t : SCode} {F : SFrame} {H : SHeap} {F' : ι → SFrame} {H' : ι → SHeap}
/-- Two roads that meet. -/
theorem Qil (p : ι → Prop) (F' : ι → SFrame) (H' : ι → SHeap) (h1 : JC c (Exit.then (fun a w => ∃ i, p i ∧ St c (F' i) (H' i) a w) Q) s F H) (h2 : ∀ i, p i → JC c Q t (F' i) (H' i)) : JC c Q (.seq s t) F H :=
 JC.seq ⟨fun a w st => wp_of_toS.wp_mono' (fun e a w h => by
  cases e with
  | normal => obtain ⟨i, hi, st⟩ := h; exact (h2 i hi).h a w st
  | _ => exact h) (h1.h a w st)⟩
theorem Q85 (i : ι) (hp : p i) (hf : cov F (F' i)) (hh : HSub (H' i) H) : JX c (Exit.then (fun a w => ∃ i, p i ∧ St c (F' i) (H' i) a w) Q) .normal F H := ⟨fun _ _ st => ⟨i, hp, st.part hf hh⟩⟩
end

set_option maxHeartbeats 32000000 in
theorem Q5j (w : World) (hmax : MaxL w) (v0 : Value) (R0 C0 : Nat) (L0 : List Int) (q q0 q1 q2 q3 : Nat) (hv0 : IsS w v0 R0 C0 L0) (hq : q < 256) (h0 : q0 < 256) (h1 : q1 < 256) (h2 : q2 < 256) (h3 : q3 < 256) :
  Calls Tryz.prog 11 #[v0, .int .u8 (q : Int), .agg #[.int .u8 (q0 : Int), .int .u8 (q1 : Int), .int .u8 (q2 : Int), .int .u8 (q3 : Int)]] w (Ret fun v w' => Kp [] w w' ∧ v = .bool true) := by
 have hmax0 := hmax
 have hs0 := hv0
 obtain ⟨_, _, _, E0, rfl, _⟩ := hv0
 have hr6 : R0 % 6 < 6 := Nat.mod_lt _ dq
 have hc6 : C0 % 6 < 6 := Nat.mod_lt _ dq
 have hq4 : q % 30 < 30 := Nat.mod_lt _ dq
 refine Q06 [7, 8] [⟨4, 1, [0, 1, 2, 3, 4, 5, 6, 7, 8, 9, 10, 11, 12, 13, 14, 16, 17, 18, 15, 19, 20, 21], [(20, .seq)]⟩, ⟨6, 1, [], []⟩, ⟨7, 2, [], []⟩, ⟨8, 3, [], []⟩] [] spq [] Tryz.func11 rfl mixed (by kernel_rfl) Tryz.ntmps11 Tryz.results11 rfl ⟨by simp, by simp⟩ spq ?_
 simp only [toR, inR, cond_true, cond_false, Nat.reduceBEq, toS, textOps, toSOp, kindAt, kindOf, odAt, sopsAt, ordOf, zipF]
 repeat' first | apply jS | apply jO | refine Q0 ?_ | refine QB (h := fun _ => ?_) | apply jN
 rename_i bs0 bq
 refine QE ?_
 repeat' first | apply jS | apply jO
 refine Qb trivial rfl rfl rfl (fun w hk _ => Q8t w (hmax0.mono hk)) fun w v w' _ _ _ hR => ?_
 subst hR
 repeat' first | refine Q0 ?_ | apply jN
 refine JX.part (F' := [(7, .bool true), (5, .pointer (some ⟨bq, 0, none⟩)), (3, .pointer (some ⟨bs0, 0, none⟩)), (1, .int .u8 (q : Int))]) (H' := [(bq, .cells #[.int .u8 (q0 : Int), .int .u8 (q1 : Int), .int .u8 (q2 : Int), .int .u8 (q3 : Int)] 69), (bs0, .cells #[.int .u8 (R0 : Int), .int .u8 (C0 : Int), E0] 24)] ++ []) cqq Qv ?_
 refine QE ?_
 repeat' first | apply jS | refine Qg ?_ | apply jO
 refine Qk (A := [_, _]) (B := []) rfl pqq rfl eqq rfl (fun w hk hs => Qbt w _ R0 C0 L0 (hs0.mono hk)) fun w v w' _ _ _ hR => ?_
 obtain ⟨ma, hma⟩ : ∃ m, m = szZ L0 (R0 % 6) (C0 % 6) := ⟨_, rfl⟩
 have rta : RtZ ma := by rw [hma]; exact Qfl _ oq oq
 have her : ma.r < 6 := by rw [hma]; exact hr6
 have hec : ma.c < 6 := by rw [hma]; exact hc6
 have hbd : ∀ i j, i < ma.r → j < ma.c → (gE (rowsOf ma) i j).natAbs < 256 ^ 1 := by
  rw [hma]
  exact fun i j hi hj => Qcn L0 i j hi hj oq oq
 have hrec := WM rta
 have hD0 := Q6p hrec
 have hOk := Qcq (k := 29) dq hrec hbd Qjo Qjp
 obtain ⟨L, hL⟩ : ∃ L, L = 250000 := ⟨_, rfl⟩
 rw [← hL] at hOk
 rw [← hma] at hR
 clear hma hr6 hc6
 obtain ⟨Na, hNa, Ea, rfl, hOa⟩ := hR
 obtain ⟨Aa, ca, rfl⟩ := hOa.form
 refine ⟨Na, hNa, ?_⟩
 skip
 refine Qk (A := [_, _]) (B := Na ++ []) rfl pqq rfl eqq rfl (fun w hk hs => Qia w _ ma (rowsOf ma) rta ⟨_, rfl, hOa.rd.at hk hs Q9⟩ (Qcw rta)) fun w v w' _ _ _ hR => ?_
 obtain ⟨b', J0, rfl, hN, hJ0⟩ := hR
 refine ⟨_, hN, ?_⟩
 clear hN hNa
 repeat' first | refine Q0 ?_ | apply jN
 refine JX.part (F' := [(8, .pointer (some ⟨b', 0, none⟩)), (7, .bool true), (5, .pointer (some ⟨bq, 0, none⟩)), (1, .int .u8 (q : Int))]) (H' := [(bq, .cells #[.int .u8 (q0 : Int), .int .u8 (q1 : Int), .int .u8 (q2 : Int), .int .u8 (q3 : Int)] 69)] ++ (jbH b' J0 ma.r ma.c (0 : Nat) (0 : Nat) ++ [])) cqq Qv ?_
 refine QE ?_
 clear hOa
 generalize startS ma.r ma.c (rowsOf ma) = S0 at *
 generalize ma.r = m0 at *
 generalize ma.c = n0 at *
 obtain ⟨S1, t1, k1, hrun⟩ : ∃ S1 t1 k1, runB m0 n0 (q % 30) 0 S0 = (S1, t1, k1) := ⟨_, _, _, rfl⟩
 obtain ⟨hD1, htm, htn⟩ := Qew (q % 30) 0 S0 hD0 (Nat.zero_le _) (Nat.zero_le _)
 have hk1 := Q5y (m := m0) (n := n0) (q % 30) 0 S0
 have hOk1 := hOk (q % 30) oq
 have hOkr : ∀ j, j ≤ (runB m0 n0 (q % 30) 0 S0).2.2 → Ok L (runB m0 n0 j 0 S0).1 := fun j hj => hOk j oq
 rw [hrun] at hD1 htm htn hk1 hOk1
 dsimp only at hD1 htm htn hk1 hOk1
 repeat' first | apply jS | refine Q1 ?_ | apply jO
 refine Q2r (i := q) 30 rfl rfl rfl rfl oq ?_
 repeat' first | refine YU (h := ?_) | fail
 refine YV (A := [_]) (N := jbH b' J0 m0 n0 (0 : Nat) (0 : Nat)) (B := []) (R := fun w v w' => JbR b' J0 m0 n0 (0 : Nat) (0 : Nat) (t1 : Nat) (k1 : Nat) S1 w w' ∧ v = iv (if (leastF S1 t1 m0 n0).2.2 = true then 60 else 0)) rfl pqq rfl eqq rfl (fun w _ hs => by
  have h := Qi7 L w b' J0 m0 n0 0 0 (q % 30) S0 hJ0 hD0 (HSub.hsat (HSub.skip HSub.in0) hs) oq oq oq oq (by first | decide | omega) oq hOkr
  rw [hrun, Nat.zero_add] at h
  exact Z8 h fun v w' h => ⟨h.1.1, h⟩) (fun w1 v1 w2 _ _ _ hR => ?_)
 obtain ⟨⟨_, J1, hk, hin, hJ1, _⟩, rfl⟩ := hR
 refine ⟨jbH b' J1 m0 n0 (t1 : Nat) (k1 : Nat), by rw [hk], hin, ?_⟩
 clear hk hin hJ0
 generalize (if (leastF S1 t1 m0 n0).2.2 = true then (60 : Int) else 0) = e
 repeat' first | apply jN
 have hk5 : q0 % 5 < 5 := Nat.mod_lt _ dq
 obtain ⟨kk, hkk⟩ : ∃ kk, kk = q0 % 5 := ⟨_, rfl⟩
 rw [← hkk] at hk5
 have hcell := Qg1 J1 m0 n0 (t1 : Nat) (k1 : Nat) hk5
 have hown := Qj2 hJ1 hk5
 have hle := Qko (k := kk) her hec
 obtain ⟨A, B, hAB, hAB'⟩ := Qkn J1 hk5
 refine JX.part (F' := [(8, .pointer (some ⟨b', 0, none⟩)), (7, .bool true), (5, .pointer (some ⟨bq, 0, none⟩))]) (H' := (bq, .cells #[.int .u8 (q0 : Int), .int .u8 (q1 : Int), .int .u8 (q2 : Int), .int .u8 (q3 : Int)] 69) :: (b', .cells (jbC J1 m0 n0 (t1 : Nat) (k1 : Nat)) 72) :: (A ++ ((J1.sl kk).N ++ B))) cqq (by rw [Qaw, hAB, List.append_nil]; exact HSub.refl _) ?_
 refine QE ?_
 repeat' first | apply jS | refine Q1 ?_ | refine Q2 ?_ | refine Q6 ?_ | apply jD
 refine ZB (j := 0) rfl rfl rfl rfl oq ?_
 repeat' first | refine Q7 ?_ | fail
 refine Q2r (i := q0) 5 rfl rfl rfl rfl oq ?_
 rw [← hkk]
 repeat' first | refine Qw (h := fun _ => ?_) | fail
 rename_i b2
 refine Zk (o := 0) (j := kk) rfl eqq rfl (fun _ => rfl) rfl hk5 ?_
 skip
 refine Qgk 0 (v := .pointer (some ⟨b', 3 * kk, none⟩)) pqq rfl eqq rfl rfl (by rcases five hk5 with rfl | rfl | rfl | rfl | rfl <;> rfl) ?_
 repeat' first | refine Q0 ?_ | apply jN
 refine JX.part (F' := [(9, .pointer (some ⟨b', 3 * kk, none⟩)), (8, .pointer (some ⟨b', 0, none⟩)), (7, .bool true), (5, .pointer (some ⟨bq, 0, none⟩))]) (H' := (bq, .cells #[.int .u8 (q0 : Int), .int .u8 (q1 : Int), .int .u8 (q2 : Int), .int .u8 (q3 : Int)] 69) :: (b', .cells (jbC J1 m0 n0 (t1 : Nat) (k1 : Nat)) 72) :: (A ++ ((J1.sl kk).N ++ B))) cqq (HSub.skip (HSub.refl _)) ?_
 refine QE ?_
 refine Qil (ι := JV × Sm) (fun z => IsJ z.1 m0 n0 z.2 ∧ Dm m0 n0 z.2 ∧ Ok (L + 1) z.2) (fun z => [(8, .pointer (some ⟨b', 0, none⟩)), (7, .bool true), (5, .pointer (some ⟨bq, 0, none⟩))]) (fun z => [(bq, .cells #[.int .u8 (q0 : Int), .int .u8 (q1 : Int), .int .u8 (q2 : Int), .int .u8 (q3 : Int)] 69)] ++ (jbH b' z.1 m0 n0 (t1 : Nat) (k1 : Nat) ++ [])) ?_ (fun z hz => ?_)
 ·repeat' first | apply jS | refine Q1 ?_ | refine Q2 ?_ | refine Q6 ?_ | apply jO
  refine Q4p 1 rfl rfl rfl rfl rfl hcell ?_
  repeat' first | refine ZH (h := ?_) | (refine QM (h1 := ?_) (h2 := ?_) <;> intro hc <;> try (exfalso; omega)) | apply jN
  ·refine QE ?_
   repeat' first | apply jS | apply jD | refine Q5 rfl ?_
   have hat : q1 % (slR m0 n0 kk * slC m0 n0 kk) < slR m0 n0 kk * slC m0 n0 kk := Nat.mod_lt _ oq
   refine ZB (j := 1) rfl rfl rfl rfl oq ?_
   repeat' first | refine Q1 ?_ | refine Q2 ?_ | refine Q7 ?_ | refine Q6 ?_ | refine YU (h := ?_) | fail
   refine Q4p 1 rfl rfl rfl rfl rfl hcell ?_
   repeat' first | refine Q0 ?_ | refine ZH (h := ?_) | refine Xe (h := ?_) | apply jN
   refine JX.part (F' := [(10, nv (q1 % (slR m0 n0 kk * slC m0 n0 kk))), (9, .pointer (some ⟨b', 3 * kk, none⟩)), (8, .pointer (some ⟨b', 0, none⟩)), (7, .bool true), (5, .pointer (some ⟨bq, 0, none⟩))]) (H' := (bq, .cells #[.int .u8 (q0 : Int), .int .u8 (q1 : Int), .int .u8 (q2 : Int), .int .u8 (q3 : Int)] 69) :: (b', .cells (jbC J1 m0 n0 (t1 : Nat) (k1 : Nat)) 72) :: (A ++ ((J1.sl kk).N ++ B))) cqq (HSub.refl _) ?_
   refine QE ?_
   refine X4 ((bq, .cells #[.int .u8 (q0 : Int), .int .u8 (q1 : Int), .int .u8 (q2 : Int), .int .u8 (q3 : Int)] 69) :: (b', .cells (jbC J1 m0 n0 (t1 : Nat) (k1 : Nat)) 72) :: (A ++ ((J1.sl kk).N ++ B))) (HSub.refl _) [] (fun i op => kindAt [] i op) 2 [0, 1, 2, 3, 4, 5, 6, 7, 8, 9, 10, 11, 12, 13, 14, 15, 16, 17, 18, 19, 20] mixed (by kernel_rfl) (by kernel_rfl) ?_
   repeat' first | refine Q1 ?_ | refine Q2 ?_ | refine Q6 ?_ | fail
   refine Q4p 1 rfl rfl rfl rfl rfl hcell ?_
   repeat' first | refine Q1 ?_ | refine Q2 ?_ | refine Q6 ?_ | fail
   refine Q4p 1 rfl rfl rfl rfl rfl hcell ?_
   repeat' first | refine Q1 ?_ | refine QV (h := ?_) | refine Yq (h := ?_) | fail
   have hq5 : q2 % 5 < 5 := Nat.mod_lt _ dq
   obtain ⟨x, hx⟩ : ∃ x, x = (tbz (slR m0 n0 kk) (slC m0 n0 kk) (gE (S1.sl kk))).getD (q1 % (slR m0 n0 kk * slC m0 n0 kk)) 0 := ⟨_, rfl⟩
   obtain ⟨hi, hj, he⟩ := W6 hat
   generalize q1 % (slR m0 n0 kk * slC m0 n0 kk) = pl at *
   have hxe : x = gE (S1.sl kk) (pl / slC m0 n0 kk) (pl % slC m0 n0 kk) := by rw [hx]; unfold tbz; rw [Q0p hat]
   have hxb : x.natAbs < 256 ^ L := by rw [hxe]; exact QW (Qj4 hOk1 hk5) _ _
   rw [← hx]
   refine ZB (j := 2) rfl rfl rfl rfl oq ?_
   repeat' first | refine Q7 ?_ | fail
   refine Q2r (i := q2) 5 rfl rfl rfl rfl oq ?_
   repeat' first | refine Ym (h := ?_) | refine YU (h := ?_) | fail
   refine Qb pqq rfl eqq rfl (fun w _ _ => YF w (((q2 % 5 : Nat) : Int) - 2) oq oq) fun w v w' _ _ _ hR => ?_
   subst hR
   obtain ⟨δ, hδ⟩ : ∃ δ, δ = ((q2 % 5 : Nat) : Int) - 2 := ⟨_, rfl⟩
   rw [← hδ]
   have hδb : δ.natAbs < 256 ^ 1 := by omega
   skip
   refine Qb pqq rfl eqq rfl (fun w _ _ => Q5k w _ _ x δ L (Qq hxb) (Qq (QI hδb (by first | decide | omega))) (by first | decide | omega)) fun w v w' _ _ _ hR => ?_
   subst hR
   repeat' first | refine QV (h := ?_) | fail
   refine XO (A := (bq, .cells #[.int .u8 (q0 : Int), .int .u8 (q1 : Int), .int .u8 (q2 : Int), .int .u8 (q3 : Int)] 69) :: (b', .cells (jbC J1 m0 n0 (t1 : Nat) (k1 : Nat)) 72) :: A) (B := B) (u := x + δ) hown rfl (by first | rfl | trivial | exact ⟨rfl, rfl⟩) pqq rfl rfl hat (fun N' hO' => ?_)
   rw [he, Yl hj] at hO'
   repeat' first | apply jN
   have hbF : ∀ a b, a < slR m0 n0 kk → b < slC m0 n0 kk → (if a = pl / slC m0 n0 kk ∧ b = pl % slC m0 n0 kk then x + δ else gE (S1.sl kk) a b).natAbs < 256 ^ (L + 1) := fun a b _ _ => by
    split
    ·have h1 := Int.natAbs_add_le x δ
     have h3 := QI hδb (show 1 ≤ L by omega)
     rw [Nat.pow_succ]
     clear hxe; generalize 256 ^ L = Z at hxb h3 ⊢
     omega
    ·exact QI (QW (Qj4 hOk1 hk5) _ _) (by first | decide | omega)
   obtain ⟨J2, S2, hJ2, hD2, hOk2, hcs, htl⟩ : ∃ J2 S2, IsJ J2 m0 n0 S2 ∧ Dm m0 n0 S2 ∧ Ok (L + 1) S2 ∧ (∀ t s, jbC J2 m0 n0 t s = jbC J1 m0 n0 t s) ∧ J2.tl = A ++ (N' ++ B) :=
    ⟨_, _, (Qj5 hJ1 hk5 hO').1, Qkp hD1 _ hk5, Qj3 hOk1 (by omega) hbF hk5, (Qj5 hJ1 hk5 hO').2, hAB' _⟩
   exact Q85 (J2, S2) ⟨hJ2, hD2, hOk2⟩ cqq (by
    show HSub ([(bq, .cells #[.int .u8 (q0 : Int), .int .u8 (q1 : Int), .int .u8 (q2 : Int), .int .u8 (q3 : Int)] 69)] ++ (jbH b' J2 m0 n0 (t1 : Nat) (k1 : Nat) ++ [])) _
    rw [Qaw, hcs, htl, List.append_nil]
    exact HSub.refl _)
  ·refine QE ?_
   repeat' first | apply jK | refine Q4 rfl ?_
   exact Q85 (J1, S1) ⟨hJ1, hD1, ⟨ZZ hOk1.u oq, ZZ hOk1.ui oq, ZZ hOk1.d oq, ZZ hOk1.v oq, ZZ hOk1.vi oq⟩⟩ cqq (by rw [Qaw, hAB, List.append_nil]; exact HSub.refl _)
 ·obtain ⟨J2, S2⟩ := z
  obtain ⟨hJ2, hD2, hOk2⟩ := hz
  dsimp only at hJ2 hD2 hOk2 ⊢
  have hq6 : q3 % 3 < 3 := Nat.mod_lt _ dq
  refine JC.part (F' := [(8, .pointer (some ⟨b', 0, none⟩)), (7, .bool true), (5, .pointer (some ⟨bq, 0, none⟩))]) (H' := (bq, .cells #[.int .u8 (q0 : Int), .int .u8 (q1 : Int), .int .u8 (q2 : Int), .int .u8 (q3 : Int)] 69) :: (b', .cells #[nv m0, nv m0, .slice J2.u.A (m0 * m0) J2.u.c, nv m0, nv m0, .slice J2.ui.A (m0 * m0) J2.ui.c, nv m0, nv n0, .slice J2.d.A (m0 * n0) J2.d.c, nv n0, nv n0, .slice J2.v.A (n0 * n0) J2.v.c, nv n0, nv n0, .slice J2.vi.A (n0 * n0) J2.vi.c, nv t1, nv k1] 72) :: (J2.tl ++ [])) cqq (HSub.refl _) ?_
  repeat' first | apply jS
  refine X4 ((bq, .cells #[.int .u8 (q0 : Int), .int .u8 (q1 : Int), .int .u8 (q2 : Int), .int .u8 (q3 : Int)] 69) :: (b', .cells #[nv m0, nv m0, .slice J2.u.A (m0 * m0) J2.u.c, nv m0, nv m0, .slice J2.ui.A (m0 * m0) J2.ui.c, nv m0, nv n0, .slice J2.d.A (m0 * n0) J2.d.c, nv n0, nv n0, .slice J2.v.A (n0 * n0) J2.v.c, nv n0, nv n0, .slice J2.vi.A (n0 * n0) J2.vi.c, nv t1, nv k1] 72) :: (J2.tl ++ [])) (HSub.refl _) [] (fun i op => kindAt [] i op) 3 [0, 1, 2, 3, 4, 5, 6, 7, 8, 9, 10, 11, 12] mixed (by kernel_rfl) (by kernel_rfl) ?_
  repeat' first | refine Q1 ?_ | refine Q2 ?_ | refine Q7 ?_ | refine Q6 ?_ | fail
  refine ZB (j := 3) rfl rfl rfl rfl oq ?_
  repeat' first | refine Q7 ?_ | fail
  refine Q2r (i := q3) 3 rfl rfl rfl rfl oq ?_
  repeat' first | refine Q2 ?_ | refine Q60 (h := ?_) | refine Ym (h := ?_) | refine Q6 ?_ | refine YU (h := ?_) | refine QL (k := _) (h := ?_) | apply jN
  obtain ⟨t', ht'⟩ : ∃ t' : Int, t' = (t1 : Int) + (((q3 % 3 : Nat) : Int) - 1) := ⟨_, rfl⟩
  rw [← ht']
  refine JX.part (F' := [(8, .pointer (some ⟨b', 0, none⟩)), (7, .bool true)]) (H' := jbH b' J2 m0 n0 t' (k1 : Nat) ++ []) cqq (HSub.skip (HSub.refl _)) ?_
  have htb : t'.natAbs < 100 := by omega
  clear ht' hJ1 hOk1 hbd hOk hOkr hD0 hrun hAB hAB' hcell hown
  refine QE ?_
  repeat' first | apply jS | refine Q1 ?_ | apply jO
  refine Qb pqq rfl eqq rfl (fun w _ hs => Q36 (L + 1) w b' J2 m0 n0 t' (k1 : Nat) S2 hJ2 hD2 (HSub.hsat HSub.in0 hs) oq oq oq oq (by first | decide | omega) (by first | decide | omega) hOk2) fun w v w' _ _ _ hR => ?_
  subst hR
  repeat' first | refine Q0 ?_ | apply jN
  refine JX.part (F' := [(11, sv (encT (encZ m0 n0 t' (k1 : Nat) S2))), (8, .pointer (some ⟨b', 0, none⟩)), (7, .bool true)]) (H' := jbH b' J2 m0 n0 t' (k1 : Nat) ++ []) cqq (HSub.refl _) ?_
  refine QE ?_
  repeat' first | apply jS | refine Q1 ?_ | apply jO
  have hlen := Qdq hD2 her hec htb (show (k1 : Int).natAbs < 100 by omega) (by first | decide | omega) (by first | decide | omega) hOk2
  refine Qk (A := []) (B := jbH b' J2 m0 n0 t' (k1 : Nat) ++ []) rfl pqq rfl eqq rfl (fun w hk hs => Q6b (L + 1) w m0 n0 t' (k1 : Nat) S2 hD2 oq oq htb oq (by first | decide | omega) (by first | decide | omega) hOk2 (hmax0.mono hk) hlen) fun w v w' _ _ _ hR => ?_
  rcases hR with ⟨hop, b2, W2, T2, rfl, hN, hW2⟩ | ⟨hop, rfl⟩
  ·refine ⟨_, hN, ?_⟩
   clear hN
   repeat' first | refine Q1 ?_ | refine Q0 ?_ | refine Qo (h := ?_) | apply jN
   have hsn := hop.2.2
   have hrg : 0 ≤ t' ∧ t' ≤ (min m0 n0 : Nat) := by
    unfold sndF at hsn
    have h := of_decide_eq_true (Bool.and_eq_true_iff.1 hsn).1
    exact ⟨h.1, h.2.1⟩
   obtain ⟨hr1, hr2⟩ := hrg
   obtain ⟨tn, rfl⟩ := Int.eq_ofNat_of_zero_le hr1
   refine JX.part (F' := [(13, iv 0), (12, .pointer (some ⟨b2, 0, none⟩)), (8, .pointer (some ⟨b', 0, none⟩)), (7, .bool true)]) (H' := jbH b' J2 m0 n0 (tn : Nat) (k1 : Nat) ++ (jgH b2 W2 m0 n0 (tn : Nat) (k1 : Nat) T2 ++ [])) cqq (Zy (by rw [List.append_nil, List.append_nil, List.nil_append]; exact List.perm_append_comm)) ?_
   refine QE ?_
   repeat' first | apply jS | refine Q1 ?_ | apply jO
   refine Qb pqq rfl eqq rfl (fun w _ hs => Q5g (L + 1) w b' J2 m0 n0 (tn : Nat) (k1 : Nat) S2 hJ2 hD2 (HSub.hsat HSub.in0 hs) oq oq oq oq (by first | decide | omega) hOk2) fun w v w' _ _ _ hR => ?_
   obtain rfl := Qha hR hop
   repeat' first | refine Q0 ?_ | apply jN
   refine JX.part (F' := [(14, .bool true), (13, iv 0), (12, .pointer (some ⟨b2, 0, none⟩)), (8, .pointer (some ⟨b', 0, none⟩)), (7, .bool true)]) (H' := jbH b' J2 m0 n0 (tn : Nat) (k1 : Nat) ++ (jgH b2 W2 m0 n0 (tn : Nat) (k1 : Nat) T2 ++ [])) cqq (HSub.refl _) ?_
   refine QE ?_
   repeat' first | apply jS | refine Q1 ?_ | refine Ql ?_ | (refine Z0 (h1 := ?_) (h2 := ?_) <;> intro hc <;> try (exfalso; omega)) | refine Q1r (h := ?_) | apply jO
   refine Qgd (by kernel_rfl) rfl rfl rfl rfl ?_
   repeat' first | refine Q1 ?_ | refine Ql ?_ | refine QT (h := ?_) | (refine Z0 (h1 := ?_) (h2 := ?_) <;> intro hc <;> try (exfalso; omega)) | refine Q1r (h := ?_) | refine Qy (h := ?_) | fail
   refine Qb pqq rfl eqq rfl (fun w _ hs => Qe7 (L + 1) w b2 b' W2 T2 J2 m0 n0 tn k1 S2 hW2 hJ2 hD2 hs oq oq oq oq oq (by first | decide | omega) (by first | decide | omega) hOk2) fun w v w' _ _ _ hR => ?_
   subst hR
   repeat' first | refine Q0 ?_ | refine Ql ?_ | refine Qn ?_ | apply jN
   refine JX.part (F' := [(6, .bool true)]) (H' := []) cqq (HSub.nil _) ?_
   refine QE ?_
   repeat' first | apply jR
   exact Qd rfl (fun a w' st => ⟨st.kp, rfl⟩)
  ·refine ⟨[], New.nil _ _, ?_⟩
   repeat' first | refine Q1 ?_ | refine Q0 ?_ | refine Qo (h := ?_) | apply jN
   refine JX.part (F' := [(13, iv 11), (12, .pointer none), (8, .pointer (some ⟨b', 0, none⟩)), (7, .bool true)]) (H' := jbH b' J2 m0 n0 t' (k1 : Nat) ++ []) cqq (HSub.refl _) ?_
   refine QE ?_
   repeat' first | apply jS | refine Q1 ?_ | apply jO
   refine Qb pqq rfl eqq rfl (fun w _ hs => Q5g (L + 1) w b' J2 m0 n0 t' (k1 : Nat) S2 hJ2 hD2 (HSub.hsat HSub.in0 hs) oq oq oq oq (by first | decide | omega) hOk2) fun w v w' _ _ _ hR => ?_
   obtain ⟨y, rfl, hy⟩ := hR
   obtain rfl : y = false := Bool.eq_false_iff.2 fun h => hop (hy.1 h)
   repeat' first | refine Q0 ?_ | apply jN
   refine JX.part (F' := [(14, .bool false), (13, iv 11), (12, .pointer none), (8, .pointer (some ⟨b', 0, none⟩)), (7, .bool true)]) (H' := []) cqq (HSub.nil _) ?_
   refine QE ?_
   repeat' first | apply jS | refine Q1 ?_ | refine Ql ?_ | (refine Z0 (h1 := ?_) (h2 := ?_) <;> intro hc <;> try (exfalso; omega)) | refine Q1r (h := ?_) | apply jO
   refine Qgd (by kernel_rfl) rfl rfl rfl rfl ?_
   repeat' first | refine Q1 ?_ | refine Q0 ?_ | refine Ql ?_ | refine Qn ?_ | refine QT (h := ?_) | (refine Z0 (h1 := ?_) (h2 := ?_) <;> intro hc <;> try (exfalso; omega)) | refine Q1r (h := ?_) | refine Qy (h := ?_) | apply jN
   refine JX.part (F' := [(6, .bool true)]) (H' := []) cqq (HSub.nil _) ?_
   refine QE ?_
   repeat' first | apply jR
   exact Qd rfl (fun a w' st => ⟨st.kp, rfl⟩)
end Go.Proofs.YtbofgpenopcfaaaGreatDoor

/-
 LawBudgetLies: for every input the call of 'cocycle/cocyclelaw26.BudgetLies' returns true, and every argument reads afterwards as it read before. Conditions: none. The card.
-/
namespace Go.Proofs.YtbofgpenopcfaaaGreatDoor.budgetLies
open Go Go.RowKit Go.ChangeShapes Go.WideShapes Go.ChangeAt
set_option linter.unusedSimpArgs false
set_option linter.unusedVariables false
set_option linter.unusedSectionVars false

theorem reads (os : Os) {H : Type} (enc : TypeId × Value → H) : ∃ places, DataW.whole enc Tryz.prog ((World.laidAll Tryz.prog os Rows.budgetLiesRow.laid).forCall (fun _ _ => 0) ⟨#[], #[.agg #[.int .u8 0, .int .u8 0, .slice none 0 0], .int .u8 0, .agg #[.int .u8 0, .int .u8 0, .int .u8 0, .int .u8 0]], []⟩).memory Tryz.f11.params.toList Rows.budgetLiesSpec.vars false (#[.agg #[.int .u8 0, .int .u8 0, .slice none 0 0], .int .u8 0, .agg #[.int .u8 0, .int .u8 0, .int .u8 0, .int .u8 0]] : Array Value).toList 8 = some ([.agg [.lit (.int .u8 0), .lit (.int .u8 0), .nil], .lit (.int .u8 0), .agg [.lit (.int .u8 0), .lit (.int .u8 0), .lit (.int .u8 0), .lit (.int .u8 0)]], [], places) :=
 ⟨[], by kernel_rfl⟩
theorem okW (os : Os) : Input.okWideB Tryz.checked.prog ((World.laidAll Tryz.prog os Rows.budgetLiesRow.laid).forCall (fun _ _ => 0) ⟨#[], #[.agg #[.int .u8 0, .int .u8 0, .slice none 0 0], .int .u8 0, .agg #[.int .u8 0, .int .u8 0, .int .u8 0, .int .u8 0]], []⟩) 11 ⟨#[], #[.agg #[.int .u8 0, .int .u8 0, .slice none 0 0], .int .u8 0, .agg #[.int .u8 0, .int .u8 0, .int .u8 0, .int .u8 0]], []⟩ = true := by kernel_rfl
set_option maxRecDepth 100000 in
theorem lifted (os : Os) (started : os.Started) (H : Type) (enc : TypeId × Value → H) (F : Stop.Interp) :
  ReturnsInHanded {} Tryz.checked os 11 .any ((OpenSpec.ofChange Rows.budgetLiesSpec).preRow enc Tryz.prog Tryz.f11 Rows.budgetLiesRow.domain false Rows.budgetLiesRow.laid) (((OpenSpec.ofChange Rows.budgetLiesSpec).at F).post enc Tryz.prog Tryz.f11 false true false false) := by
 obtain ⟨places, hx⟩ := reads os enc
 refine returnsInHanded_of_row (C := Tryz.checked) (s := OpenSpec.ofChange Rows.budgetLiesSpec) own started (by kernel_rfl) Tryz.func11
  ⟨World.laidAll Tryz.prog os Rows.budgetLiesRow.laid, fun _ _ => 0, ⟨#[], #[.agg #[.int .u8 0, .int .u8 0, .slice none 0 0], .int .u8 0, .agg #[.int .u8 0, .int .u8 0, .int .u8 0, .int .u8 0]], []⟩, World.laidAll_os _ _ _, World.shaped_of_ZipB (by kernel_rfl) (by kernel_rfl), (Input.okWide_of_okWideB (base := 0) (okW os)).1, (Input.okWide_of_okWideB (okW os)).2,
   OpenSpec.preRow_of_cond 8 hx (by kernel_rfl) (fun k hk => by cases hk) (by kernel_rfl) (by rw [MakeChecks.laidMetH_plain _ _ _ (by kernel_rfl)]; exact laidMet_laidAll _ (by kernel_rfl) (by kernel_rfl)), by
   simp only [Assume.holds]
   exact ⟨by simp, by simp, fun _ => Modest.zero, by simp, by simp⟩⟩ ?_
 intro W base args ds gs before hval0 hW _ hcond hwt0 hL hsh _
 have hval : ∀ (j : Nat) t v, Tryz.f11.params[j]? = some t → args[j]? = some v → Value.okWide Tryz.prog W .any base t v := hval0
 have hW' := hW
 obtain ⟨p, q, hA0, hV, rfl, hfz, hnd⟩ := hW
 have hA : DataW.TrodAll enc Tryz.prog W 0 (fun _ => true) true Tryz.f11.params.toList args.toList ds p := hA0
 have hwt : (DataW.weightsEach Tryz.prog (Tryz.f11.params.toList ++ Rows.budgetLiesSpec.plain.varTypes Tryz.prog) (ds ++ gs)).all (· ≤ reachBytes) = true := hwt0
 have hwt1 := fun n hn => of_decide_eq_true (List.all_eq_true.1 hwt n hn)
 rw [Tryz.params11] at hA hval hwt1
 obtain ⟨v0, vs0, d0, ds0, p0, q0, hargs, rfl, rfl, h0, r0⟩ := trodAll_cons hA
 obtain ⟨v1, vs1, d1, ds1, p1, q1, rfl, rfl, rfl, h1, r1⟩ := trodAll_cons r0
 obtain ⟨v2, vs2, d2, ds2, p2, q2, rfl, rfl, rfl, h2, r2⟩ := trodAll_cons r1
 obtain ⟨rfl, rfl, rfl⟩ := trodAll_nil r2
 obtain rfl : args = #[v0, v1, v2] := by cases args; simp_all
 obtain ⟨rfl, rfl⟩ := trodVars_none hV
 have k0 := h0
 have lt0 : ∀ x ∈ p0, x.block < W.heap.size := by obtain ⟨m, hm⟩ := k0; exact DataW.trod_lt m _ _ _ hm
 obtain ⟨R0, C0, L0, s0⟩ := Q8l (hval 0 24 v0 rfl rfl) h0
 have k1 := h1
 have lt1 : ∀ x ∈ p1, x.block < W.heap.size := by obtain ⟨m, hm⟩ := k1; exact DataW.trod_lt m _ _ _ hm
 obtain ⟨q1, rfl, s1⟩ := Qgv (hval 1 5 v1 rfl rfl) h1
 have k2 := h2
 have lt2 : ∀ x ∈ p2, x.block < W.heap.size := by obtain ⟨m, hm⟩ := k2; exact DataW.trod_lt m _ _ _ hm
 obtain ⟨x2, y2, z2, u2, rfl, s2, t2, w2, j2⟩ := Qai (hval 2 69 v2 rfl rfl) h2
 clear hA0 hval0
 refine (Q5j W (Qh3 hsh) v0 R0 C0 L0 q1 x2 y2 z2 u2 s0 s1 s2 t2 w2 j2).mono fun e W' he => ?_
 cases e with
 | panicked _ => exact he.elim
 | outgrown => exact he.elim
 | returned u =>
  obtain ⟨hk, rfl⟩ := he
  have bel : Below W.heap.size W W' := ⟨hk.os, hk.tape, hk.output, hk.size, fun k hk2 => hk.block k hk2 spq⟩
  exact ⟨_, rfl, _, _, _, [], _, [], hW', trodAll_mk1 (shut_bool Tryz.underlying4 _), (trodAll_cons_mk (Below.trod laidOut (by kernel_rfl) (of_decide_eq_true (by kernel_rfl)) k0 bel lt0) (trodAll_cons_mk (Below.trod laidOut (by kernel_rfl) (of_decide_eq_true (by kernel_rfl)) k1 bel lt1) (trodAll_cons_mk (Below.trod laidOut (by kernel_rfl) (of_decide_eq_true (by kernel_rfl)) k2 bel lt2) trodAll_mk0))), rfl, bel.frame _, fun h => by cases h⟩

theorem holds : Rows.BudgetLiesSaid :=
 OpenClaim.holds_of_cond 11 Tryz.f11 rfl rfl rfl rfl rfl rfl rfl ⟨rfl, rfl, rfl, rfl, rfl⟩ rfl rfl rfl rfl rfl (by kernel_rfl) Tryz.func11 (by kernel_rfl)
  (of_decide_eq_true (by kernel_rfl)) (by unfold Func.isWrapper; first | (rw [if_pos (by decide +kernel)]; kernel_rfl) | (rw [if_neg (by decide +kernel)]; exact ⟨rfl, rfl⟩))
  (fun os started H enc _ F => by rw [OpenClaim.pre_eq_preRow]; exact lifted os started H enc F)

theorem proved : Rows.BudgetLiesCardSaid :=
 Claim7.holds_tied_plain_at .later [] [.data, .data, .data, .data, .pinned] true (true, "4eee24e68e9da2f3535c5523be67926112959e5e11c21b25d64df063dc7a57d9") false holds (fun _ h => by cases h) (by kernel_rfl) (fun _ h => by cases h) budgetLies_row_tie rfl ⟨rfl, rfl⟩ (by kernel_rfl) rfl
  (fun f fn hf hfn => by
   obtain rfl : f = 11 := Option.some.inj ((show Tryz.prog.funcNamed "cocycle/cocyclelaw26.BudgetLies" = some 11 by kernel_rfl).symm.trans hf) |>.symm
   obtain rfl : fn = Tryz.f11 := (Option.some.inj (Tryz.func11.symm.trans hfn)).symm
   exact ⟨by kernel_rfl, fun j t ht => by
    rw [Tryz.params11] at ht
    have hm : t ∈ [24, 5, 69] := by simpa using Array.mem_of_getElem? ht
    have hall : ([24, 5, 69].all fun u => !Tryz.prog.wantsStandIn u) = true := by kernel_rfl
    exact (show Tryz.prog.wantsStandIn t = false by simpa using List.all_eq_true.1 hall t hm)⟩)
  (by kernel_rfl)

end Go.Proofs.YtbofgpenopcfaaaGreatDoor.budgetLies

