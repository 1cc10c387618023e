import Derived.Test.YtljmapfihjkafaaGreatDoorMk
import Derived.Test.YtljmapfihjkafaaGreatDoorMl
import Derived.Test.YtljmapfihjkafaaGreatDoorMg
import Derived.Test.YtljmapfihjkafaaGreatDoorMh
import Derived.Test.YtljmapfihjkafaaGreatDoorMf
import Derived.Test.YtljmapfihjkafaaGreatDoorMj
import Derived.Test.YtljmapfihjkafaaGreatDoorRows
import Derived.WalkKit
import Derived.ProofKit
import Derived.OpenShut
import Derived.ShutString
import Derived.ChangeOld
import Derived.Below
import Derived.Lib.SmallJoins
import Derived.SizedLaws
namespace Go.Proofs.YtljmapfihjkafaaGreatDoor
open Go Go.RowKit
set_option linter.unusedSimpArgs false
set_option linter.unusedVariables false
set_option linter.unusedSectionVars false

set_option maxHeartbeats 2000000 in
theorem Qh4 (K fc f : Nat) (w : World) (v : Value) (a : ZM) (S' : Sm) (ha : RtZ a) (hv : IsM w v a) (hK : K + 1 ≤ 8000000) (hb : BdZ (K + 1) a)
  (hf : Xu (K + 1) fc f a.r a.c (min a.r a.c) 0 (Yd a.r a.c (ZH a)) = some S') :
  Calls Tryz.prog 15 #[v] w (Ret fun v w' => Kp [] w w' ∧ Q1u (Qdl (gM a.c a.c S'.v) 0 (facP S'.d (min a.r a.c)).length a.c (a.c - (facP S'.d (min a.r a.c)).length)) w v w') := by
 have hv0 := hv
 have hr := ha.r
 have hac := ha.c
 have hfl := Q5y S'.d (min a.r a.c)
 obtain ⟨E, rfl, hE⟩ := hv
 refine Q9 [⟨3, 1, [0, 3, 1, 2, 4, 5, 6, 7], []⟩] [] spq [] Tryz.func15 rfl mixed (by kernel_rfl) Tryz.ntmps15 Tryz.results15 rfl ⟨by simp, by simp⟩ spq ?_
 simp only [toS, Qd, Qt, Qj, Qm, odAt, Qg, Qw, zipF]
 repeat' first | apply jS | apply jO | apply jN | refine Q6 ?_ | refine Qa fun _ => ?_ | refine Qx fun _ => ?_ | apply jT
 refine Q5 trivial rfl rfl rfl (fun w hk _ => ZD w _ a.xm (hv0.mono hk).x (by show (a.e.map wz).length < _; rw [List.length_map]; have := ha.le; omega)) fun w v w' _ _ _ hR => ?_
 obtain ⟨b', rfl, hb'⟩ := hR
 obtain rfl := hb'.2 ha.rx
 repeat' first | apply jS | apply jD | apply jN | apply jT | refine Q6 ?_ | refine QB ?_ | apply jK | refine Q7 rfl ?_
 refine Qe (A := [_, _]) (B := []) rfl pqq rfl eqq rfl (fun w hk hs => Qau K fc f w _ a S' ha (hv0.mono hk) oq hb hf) fun w v w' _ _ _ hR => ?_
 obtain ⟨N1, N2, N3, N4, N5, E1, E2, E3, E4, E5, rfl, hD, hN, hO1, hO2, hO3, hO4, hO5⟩ := hR
 obtain ⟨A1', c1', rfl⟩ := hO1.form
 obtain ⟨A2', c2', rfl⟩ := hO2.form
 obtain ⟨A3', c3', rfl⟩ := hO3.form
 obtain ⟨A4', c4', rfl⟩ := hO4.form
 obtain ⟨A5', c5', rfl⟩ := hO5.form
 refine ⟨_, hN, ?_⟩
 unfold smC
 refine Q9v Tryz.underlying74 rfl (show TN Tryz.prog 26 3 from inferInstance) rfl rfl rfl (us := #[nv a.c, nv a.c, .slice A4' (a.c * a.c) c4']) (by show (9 + 3 ≤ (15 : Nat)); decide) rfl ?_
 skip
 refine Q5 pqq rfl eqq rfl (fun w hk hs => Qif K fc f w _ a S' ha (hv0.mono hk) oq hb hf) fun w v w' _ _ _ hR => ?_
 subst hR
 have hVr : RtZ (gM a.c a.c S'.v) := Q16 hD.v hac hac
 have hO4z : OwnZ N4 (.slice A4' (a.c * a.c) c4') (gM a.c a.c S'.v).e.length (gM a.c a.c S'.v).e := by rw [show (gM a.c a.c S'.v).e.length = a.c * a.c from Xb hD.v]; exact hO4
 generalize hrk : (facP S'.d (min a.r a.c)).length = rk at hfl ⊢
 clear hO1 hO2 hO3 hO4 hO5 hf
 repeat' first | apply jS | apply jO | apply jN | refine Q1 ?_ | refine Q3 ?_ | refine Q0 ?_ | refine Qb ?_ | refine Q6 ?_ | refine XQ (h := ?_) | refine ZC (k := _) (h := ?_) | refine Qa fun _ => ?_ | apply jT
 rename_i b3
 refine Qe (A := [_, _, _]) (B := N1 ++ (N2 ++ (N3 ++ (N4 ++ N5))) ++ []) rfl pqq rfl eqq rfl (fun w hk hs => Qml w _ (gM a.c a.c S'.v) 0 rk a.c (a.c - rk) hVr (by show 0 + a.c ≤ a.c; omega) (by show rk + (a.c - rk) ≤ a.c; omega) ⟨_, rfl, hO4z.rd.at hk hs (HSub.skip (HSub.skip (HSub.skip (by simp only [List.append_nil]; first | exact Qu (Qu (Qu QE)) | exact Qu (Qu (Qu (Qu QE)))))))⟩) fun w v w' _ _ _ hR => ?_
 obtain ⟨N6, V6, rfl, hN6, hO6⟩ := hR
 obtain ⟨E6, rfl, hO6⟩ := hO6
 obtain ⟨A6, c6, rfl⟩ := hO6.form
 refine ⟨N6, hN6, ?_⟩
 repeat' first | apply jS | apply jO | apply jN | apply jT | refine Q1 ?_ | refine Q0 ?_ | refine Q6 ?_ | refine Qr (h := ?_) | refine Q2 ?_ | refine Qa fun _ => ?_ | refine Q2 ?_ | apply jR
 exact QL 2 rfl rfl rfl (fun a' w' st => ⟨st.kp, N6, st.newOf rfl (HSub.skip (HSub.skip (HSub.skip (HSub.skip QE)))), _, rfl, hO6⟩)


set_option maxHeartbeats 4000000 in
theorem Qar (K fc f L i : Nat) (w : World) (v u : Value) (a : ZM) (bs : List Int) (S' : Sm) (ha : RtZ a) (hv : IsM w v a) (hu : WZ w u a.r bs) (hK : K + 1 + K + 1 + L + 2 ≤ 8000000) (hb : BdZ (K + 1) a) (hL : BdL L bs)
  (hf : Xu (K + 1) fc f a.r a.c (min a.r a.c) 0 (Yd a.r a.c (ZH a)) = some S') (hw : Xj (gM a.r a.c S'.d) (appL (gM a.r a.r S'.u) bs) = some i) (hi : i < a.r) :
  Calls Tryz.prog 38 #[v, u] w (Ret fun v w' => Kp [] w w' ∧ ∃ N E, New N w w' ∧ v = .tuple #[E, Wv (diaR (gM a.r a.c S'.d) i), .bool true] ∧ OwnZ N E a.r (rowI (gM a.r a.r S'.u) i)) := by
 have hv0 := hv
 have hr := ha.r
 have hac := ha.c
 have hbS := Wd hf (Xa ha hb)
 obtain ⟨E, rfl, hE⟩ := hv
 obtain ⟨A0, c0, rfl⟩ := hE.form
 obtain ⟨A1, c1, rfl⟩ := hu.form
 refine Q9 [⟨8, 2, [0, 1, 2, 3, 4, 5, 6, 7, 8, 9, 10, 11, 13, 12, 14, 15, 16], []⟩] [] spq [] Tryz.func38 rfl mixed (by kernel_rfl) Tryz.ntmps38 Tryz.results38 rfl ⟨by simp, by simp⟩ spq ?_
 simp only [toS, Qd, Qt, Qj, Qm, odAt, Qg, Qw, zipF]
 repeat' first | apply jS | apply jO | apply jN | refine Q1 ?_ | refine Q0 ?_ | refine Q6 ?_ | refine Qa fun _ => ?_ | refine Qx fun _ => ?_ | apply jT
 rename_i b2 b5
 refine Qe (A := [_, _]) (B := []) rfl pqq rfl eqq rfl (fun w hk hs => Qib K fc f L w _ _ a bs S' ha (hv0.mono hk) (hu.mono hk) oq hb hL hf) fun w v w' _ _ _ hR => ?_
 obtain ⟨N1, N2, N3, N4, N5, N6, E1, E2, E3, E4, E5, E6, rfl, hD, hN, hO1, hO3, hO4, hO6, ⟨A2', c2', rfl⟩, ⟨A5', c5', rfl⟩⟩ := hR
 obtain ⟨A1', c1', rfl⟩ := hO1.form
 obtain ⟨A3', c3', rfl⟩ := hO3.form
 obtain ⟨A4', c4', rfl⟩ := hO4.form
 obtain ⟨A6', c6', rfl⟩ := hO6.form
 refine ⟨_, hN, ?_⟩
 have hUr : RtZ (gM a.r a.r S'.u) := Q16 hD.u hr hr
 have hDr : RtZ (gM a.r a.c S'.d) := Q16 hD.d hr hac
 have hVr : RtZ (gM a.c a.c S'.v) := Q16 hD.v hac hac
 have hUb : BdZ (K + 1) (gM a.r a.r S'.u) := Q0g hD.u hbS.u hr hr
 have hDb : BdZ (K + 1) (gM a.r a.c S'.d) := Q0g hD.d hbS.d hr hac
 have hVb : BdZ (K + 1) (gM a.c a.c S'.v) := Q0g hD.v hbS.v hac hac
 have hcb : BdL (K + 1 + L + 1) (appL (gM a.r a.r S'.u) bs) := Q3y hUr hUb hL
 obtain ⟨cs, hcs⟩ : ∃ cs, cs = appL (gM a.r a.r S'.u) bs := ⟨_, rfl⟩
 rw [← hcs] at hw hO6 hcb
 unfold eqC
 repeat' first | apply jS | apply jO | apply jN | apply jT | refine Q1 ?_ | refine Q0 ?_ | refine Q6 ?_ | refine QB ?_ | refine Qr (h := ?_) | refine Q2 ?_ | refine Qa fun _ => ?_ | refine Q2 ?_ | apply jK | refine Q7 rfl ?_
 rename_i b7
 refine Q5 pqq rfl eqq rfl (fun w hk hs => Qep (K + 1 + L + 1) w _ _ _ _ _ _ (gM a.r a.c S'.d) a.r a.c cs hDr rfl rfl (hO3.rd.at hk hs (by simp only [List.cons_append, List.nil_append, List.append_assoc, List.append_nil, List.set_cons_zero]; exact HSub.skip (HSub.skip (HSub.skip (Qu (Qu (Qu QE))))))) (hO6.rd.at hk hs (by simp only [List.cons_append, List.nil_append, List.append_assoc, List.append_nil, List.set_cons_zero]; exact HSub.skip (HSub.skip (HSub.skip (QE))))) oq (fun i => Zj (hDb i) oq) hcb) fun w v w' _ _ _ hR => ?_
 unfold Q2j at hR
 rw [hw] at hR
 subst hR
 repeat' first | apply jS | apply jO | apply jN | apply jT | refine Q1 ?_ | refine Q3 ?_ | refine Q0 ?_ | refine QB ?_ | refine Qr (h := ?_) | refine Q2 ?_ | refine Qa fun _ => ?_ | refine Q2 ?_ | apply jK | refine Q7 rfl ?_
 rename_i b10
 refine XY 1 rfl eqq rfl rfl rfl rfl rfl rfl ?_
 have hi1 : i * a.r ≤ 40000 := Nat.mul_le_mul (show i ≤ 200 by omega) hr
 have hi2 : (i + 1) * a.r ≤ 40200 := by rw [Nat.add_mul]; omega
 repeat' first | apply jS | apply jN | refine Q2 ?_ | refine Qa fun _ => ?_ | refine Q2 ?_ | apply jT
 rename_i b12
 refine Z0 [(b12, .cells #[nv a.r, nv a.r, .slice A1' (a.r * a.r) c1'] 26 (0, 0)), (b10, .cells #[.bool (wz (diaR (gM a.r a.c S'.d) i)).1, sv (wz (diaR (gM a.r a.c S'.d) i)).2] 35 (0, 0))] Qy ?_
 repeat' first | refine Q1 ?_ | refine Q3 ?_ | refine Qb ?_ | refine Ql ?_ | refine Zt (h := ?_) | fail
 have hz := Q2i (c := a.r) hi
 refine Qd3 rfl rfl rfl hO1.rd rfl rfl hz (fun v3 hv3 _ => ?_)
 repeat' first | refine Q6 ?_ | fail
 refine Qe (A := [_, _, _, _, _]) (B := N6 ++ (N1 ++ (N2 ++ (N3 ++ (N4 ++ N5)))) ++ []) rfl pqq rfl eqq rfl (fun w hk hs => Qav w _ a.r _ (hv3.at hk hs (by simp only [List.cons_append, List.nil_append, List.append_assoc, List.append_nil, List.set_cons_zero, List.set_cons_succ]; exact HSub.skip (HSub.skip (HSub.skip (HSub.skip (HSub.skip (Qu QE))))))) oq) fun w v w' _ _ _ hR => ?_
 obtain ⟨N7, hN7, hO7⟩ := hR
 obtain ⟨A7, c7, rfl⟩ := hO7.form
 refine ⟨N7, hN7, ?_⟩
 repeat' first | apply jN | apply jT | refine Q0 ?_ | refine Q2 ?_ | refine Q2 ?_ | apply jR
 refine Y5 [.slice A7 a.r c7, .agg #[.bool (wz (diaR (gM a.r a.c S'.d) i)).1, sv (wz (diaR (gM a.r a.c S'.d) i)).2], .bool true] (JR.tmp rfl (Zl 3 rfl rfl rfl (JR.tmp rfl JR.nil))) (fun a' w' st => ⟨st.kp, N7, _, st.newOf rfl (HSub.skip (HSub.skip (HSub.skip (HSub.skip (HSub.skip QE))))), rfl, hO7⟩)

end Go.Proofs.YtljmapfihjkafaaGreatDoor

namespace Go.Proofs.YtljmapfihjkafaaGreatDoor
open Go
set_option linter.unusedSimpArgs false
set_option linter.unusedVariables false
set_option linter.unusedSectionVars false

def SolL (n : Nat) (A M : Mi) : Prop := ∀ i, i < n → ∀ j, j < n → M i j = smI n fun t => M i (n + t) * A t j
theorem SolL.addr {n : Nat} {A M : Mi} {r s : Nat} {t : Int} (h : SolL n A M) (hr : r < n) (hs : s < n) : SolL n A (QG M r fun j => M r j + t * M s j) := fun i hi j hj => by
 by_cases he : i = r
 ·subst he
  rw [setRow_self, Z1 (g := fun u => M i (n + u) * A u j + t * (M s (n + u) * A u j)) (fun u _ => by rw [setRow_self]; grind), Q0y, Q01, ← h i hi j hj, ← h s hs j hj]
 ·rw [QJ he, Z1 (g := fun u => M i (n + u) * A u j) (fun u _ => by rw [QJ he]), ← h i hi j hj]
theorem SolL.swp {n : Nat} {A M : Mi} {r s : Nat} (h : SolL n A M) (hr : r < n) (hs : s < n) : SolL n A (swp M r s) := fun i hi j hj => by
 by_cases h1 : i = r
 ·subst h1
  rw [Z1 (g := fun u => M s (n + u) * A u j) (fun u _ => by rw [Proofs.YtljmapfihjkafaaGreatDoor.swp, if_pos rfl]), ← h s hs j hj, Proofs.YtljmapfihjkafaaGreatDoor.swp, if_pos rfl]
 ·by_cases h2 : i = s
  ·subst h2
   rw [Z1 (g := fun u => M r (n + u) * A u j) (fun u _ => by rw [Proofs.YtljmapfihjkafaaGreatDoor.swp, if_neg h1, if_pos rfl]), ← h r hr j hj, Proofs.YtljmapfihjkafaaGreatDoor.swp, if_neg h1, if_pos rfl]
  ·rw [Z1 (g := fun u => M i (n + u) * A u j) (fun u _ => by rw [Proofs.YtljmapfihjkafaaGreatDoor.swp, if_neg h1, if_neg h2]), ← h i hi j hj, Proofs.YtljmapfihjkafaaGreatDoor.swp, if_neg h1, if_neg h2]
theorem SolL.red {n : Nat} {A M M' : Mi} (hr : Red n M M') (h : SolL n A M) : SolL n A M' := by
 induction hr with
 | refl => exact h
 | add r s t hr hs hn _ ih => exact ih (h.addr hr hs)
 | swap r s hr hs hn _ ih => exact ih (h.swp hr hs)
theorem Red.detA {n : Nat} {M M' : Mi} (hr : Red n M M') : (det n M').natAbs = (det n M).natAbs := by
 induction hr with
 | refl => rfl
 | add r s t hr hs hn _ ih => rw [ih, Q0j t hr hs hn]
 | swap r s hr hs hn _ ih => rw [ih, We hr hs hn, Int.natAbs_neg]
theorem Qk5 {n k : Nat} {M : Mi} (hk : k < n) (hu : ∀ j, j < k → ∀ i, i < n → M i j = if i = j then 1 else 0) (hz : ∀ i, k < i → i < n → M i k = 0) : ∃ x, det n M = M k k * x := by
 refine ⟨det n (QG (tr M) k (unit k)), ?_⟩
 rw [← Qi1 (A := M)]
 conv => lhs; rw [← ZG (tr M) k]
 rw [Q7h hk, Xg (k := k) hk (fun i hi hne => ?_)]
 ·rfl
 ·rcases Nat.lt_or_ge i k with h | h
  ·rw [Z7 (B := QG (QG (tr M) i (unit i)) k (unit i)) (fun a ha b hb => ?_), XO (r := i) (s := k) hi hk oq (fun j => by rw [setRow_self, QJ hne, setRow_self]), Int.mul_zero]
   by_cases h1 : a = k
   ·subst h1; rw [setRow_self, setRow_self]
   ·rw [QJ h1, QJ h1]
    by_cases h2 : a = i
    ·subst h2
     rw [setRow_self]
     show M b a = unit a b
     rw [hu a h b hb]
     unfold unit
     by_cases h3 : b = a
     ·rw [if_pos h3, if_pos h3.symm]
     ·rw [if_neg h3, if_neg (Ne.symm h3)]
    ·rw [QJ h2]
  ·show M i k * _ = 0
   rw [hz i oq hi, Int.zero_mul]

structure Stg (n : Nat) (A : Mi) (k : Nat) (M : Mi) : Prop where
 sol : SolL n A M
 dt : (det n M).natAbs = 1
 un : ∀ j, j < k → ∀ i, i < n → M i j = if i = j then 1 else 0
structure Mid (n : Nat) (A : Mi) (k : Nat) (M : Mi) (i : Nat) : Prop where
 stg : Stg n A k M
 low : ∀ a, k < a → a < n → M a k = 0
 top : ∀ a, a < i → a < k → M a k = 0
 piv : M k k = 1
theorem Qmz {n : Nat} {A M : Mi} (h : Stg n A n M) {i j : Nat} (hi : i < n) (hj : j < n) : (smI n fun t => M i (n + t) * A t j) = if i = j then 1 else 0 := by rw [← h.sol i hi j hj, h.un j hj i hi]
theorem Stg.red {n k : Nat} {A M M' : Mi} (h : Stg n A k M) (hk : k < n) (hr : Red n M M') (ht : ∀ a, a < k → ∀ b, M' a b = M a b) (hz : ∀ b, (∀ a, k ≤ a → a < n → M a b = 0) → ∀ a, k ≤ a → a < n → M' a b = 0) (hl : ∀ a, k < a → a < n → M' a k = 0) :
  Stg n A k M' ∧ (M' k k).natAbs = 1 := by
 have hs : Stg n A k M' := ⟨h.sol.red hr, by rw [hr.detA]; exact h.dt, fun j hj i hi => by
  rcases Nat.lt_or_ge i k with hik | hik
  ·rw [ht i hik, h.un j hj i hi]
  ·rw [if_neg oq]
   exact hz j (fun a h1 h2 => by rw [h.un j hj a h2, if_neg oq]) i hik hi⟩
 obtain ⟨x, hx⟩ := Qk5 hk hs.un hl
 have h1 := hs.dt
 rw [hx, Int.natAbs_mul] at h1
 exact ⟨hs, Nat.dvd_one.1 ⟨_, h1.symm⟩⟩
theorem Qn0 {n k : Nat} {A M : Mi} (h : Mid n A k M k) : Stg n A (k + 1) M := ⟨h.stg.sol, h.stg.dt, fun j hj i hi => by
 by_cases he : j = k
 ·subst he
  split
  ·rename_i h1; subst h1; exact h.piv
  ·rcases Nat.lt_or_ge i j with h2 | h2
   ·exact h.top i h2 h2
   ·exact h.low i oq hi
 ·exact h.stg.un j oq i hi⟩

end Go.Proofs.YtljmapfihjkafaaGreatDoor

namespace Go.Proofs.YtljmapfihjkafaaGreatDoor
open Go Go.RowKit
set_option linter.unusedSimpArgs false
set_option linter.unusedVariables false
set_option linter.unusedSectionVars false

structure InvP (n : Nat) (A : Mi) (e u : Nat → Nat) (k : Nat) (M : Mi) : Prop where
 stg : Stg n A k M
 lo : ∀ a b, k ≤ a → a < n → (M a b).natAbs ≤ e k
 up : ∀ a b, a < k → (M a b).natAbs ≤ u k
structure MidP (n : Nat) (A : Mi) (e u : Nat → Nat) (k i : Nat) (M : Mi) : Prop where
 mid : Mid n A k M i
 lo : ∀ a b, k ≤ a → a < n → (M a b).natAbs ≤ e (k + 1)
 up : ∀ a b, i ≤ a → a < k → (M a b).natAbs ≤ u k
 up1 : ∀ a b, a < i → a < k → (M a b).natAbs ≤ u k * (1 + e (k + 1))
section
variable {c : Cx} {Q : Exit → Act → World → Prop} {m : Mode} {F : SFrame} {H : SHeap} {r : List SOp} {g : Option (Option Tmp × Bool)} {ns : Bool} {d : Tmp} {ty t t' : TypeId} {x y : Operand}
end


set_option maxHeartbeats 4000000 in
theorem Qex (w : World) (v u : Value) (m n : ZM) (hm : RtZ m) (hn : RtZ n) (hr : m.r = n.r) (hcc : m.c + n.c ≤ 200) (hv : IsM w v m) (hu : IsM w u n) :
  Calls Tryz.prog 27 #[v, u] w (Ret fun v w' => Kp [] w w' ∧ Q42 (Q8n m n) true w v w') := by
 have hvX := hv.x
 have huX := hu.x
 obtain ⟨E, rfl, hE⟩ := hv
 obtain ⟨E', rfl, hE'⟩ := hu
 have hle := hm.le
 have hle' := hn.le
 have hmr := hm.r
 have hmc := hm.c
 have hnc := hn.c
 rw [hm.len] at hE
 rw [hn.len] at hE'
 refine Q9 [⟨9, 2, [], []⟩, ⟨10, 2, [], []⟩] [] spq [] Tryz.func27 rfl mixed (by kernel_rfl) Tryz.ntmps27 Tryz.results27 rfl ⟨by simp, by simp⟩ spq ?_
 simp only [toS, Qd, Qt, Qj, Qm, odAt, Qg, Qw, zipF]
 have hR := WZ.rd (c := ⟨Tryz.prog, 83, w, [], by simp⟩) hE rfl []
 have hR' := WZ.rd (c := ⟨Tryz.prog, 83, w, [], by simp⟩) hE' rfl []
 repeat' first | apply jS | apply jO | apply jN | refine Q0 ?_ | refine Q6 ?_ | refine Qa fun _ => ?_ | refine Qx fun _ => ?_ | apply jT
 rename_i b2 b3 b4
 refine Q5 trivial rfl rfl rfl (fun w hk _ => Zp w _ m.xm (hvX.mono hk) (by simp [ZM.xm]; omega)) fun w v w' _ _ _ hc0 => ?_
 obtain ⟨b', rfl, hb⟩ := hc0
 obtain rfl := hb.2 hm.rx
 repeat' first | apply jS | apply jO | apply jN | refine Q0 ?_ | refine Q6 ?_ | apply jT
 refine Q5 trivial rfl rfl rfl (fun w hk _ => Zp w _ n.xm (huX.mono hk) (by simp [ZM.xm]; omega)) fun w v w' _ _ _ hc0 => ?_
 obtain ⟨b', rfl, hb'⟩ := hc0
 obtain rfl := hb'.2 hn.rx
 repeat' first | apply jS | apply jO | apply jN | apply jT | refine Q1 ?_ | refine Q3 ?_ | refine Q0 ?_ | refine Qb ?_ | refine Q5o (h := ?_) | refine Z6 (h := ?_) | refine Qp ?_ | refine QB ?_ | refine Q2 ?_ | (refine Z9 (h1 := ?_) (h2 := ?_) <;> intro hc <;> try (exfalso; omega)) | (refine Z2 (h1 := ?_) (h2 := ?_) <;> intro hc <;> try (exfalso; omega)) | refine Qa fun _ => ?_ | refine Q2 ?_ | apply jK | refine Q7 rfl ?_ | apply jB
 all_goals first
  | (exfalso; omega)
  | skip
 rename_i b8
 refine Qn (ι := Nat × Nat × SHeap × Value) ⟨fun z => [(9, nv z.1), (2, .pointer (some ⟨b2, 0, none⟩)), (3, .pointer (some ⟨b3, 0, none⟩)), (4, .pointer (some ⟨b4, 0, none⟩)), (8, .pointer (some ⟨b8, 0, none⟩))],
  fun z => [(b8, .cells #[nv m.r, nv (m.c + n.c), z.2.2.2] 26), (b4, .cells #[iv 0, iv 0, .slice none 0 0] 26), (b3, .cells #[nv n.r, nv n.c, E'] 26), (b2, .cells #[nv m.r, nv m.c, E] 26)] ++ (z.2.2.1 ++ []),
  fun z => z.1 ≤ m.r ∧ z.2.1 = z.1 * (m.c + n.c) ∧ OwnZ z.2.2.1 z.2.2.2 z.2.1 (Q78 m n (List.range z.1)), fun z => m.r - z.1⟩ (0, 0, [], .slice none 0 0) ⟨by omega, by simp, OwnZ.nil⟩ cqq QA (fun z hz => ?_)
 obtain ⟨i, k, N, v8⟩ := z
 obtain ⟨hi, hk, hO⟩ := hz
 dsimp only at hi hk hO ⊢
 obtain ⟨A8, c8, rfl⟩ := hO.form
 by_cases hlt : i < m.r
 ·have hrow1 := Q2i (c := m.c) hlt
  have hrow2 := Q2i (c := n.c) (show i < n.r by omega)
  have hk2 : k ≤ 40000 := by rw [hk]; exact Nat.mul_le_mul (show i ≤ 200 by omega) hcc
  have e1 : (i + 1) * m.c - i * m.c = m.c := by rw [Nat.add_mul, Nat.one_mul]; omega
  have e2 : (i + 1) * n.c - i * n.c = n.c := by rw [Nat.add_mul, Nat.one_mul]; omega
  have q1 : i * m.c ≤ 40000 := Nat.mul_le_mul (show i ≤ 200 by omega) hmc
  have q2 : (i + 1) * m.c ≤ 40000 := Nat.mul_le_mul (show i + 1 ≤ 200 by omega) hmc
  have q3 : i * n.c ≤ 40000 := Nat.mul_le_mul (show i ≤ 200 by omega) hnc
  have q4 : (i + 1) * n.c ≤ 40000 := Nat.mul_le_mul (show i + 1 ≤ 200 by omega) hnc
  repeat' first | apply jS | apply jO | apply jN | apply jT | refine Q1 ?_ | refine Q3 ?_ | refine Qb ?_ | (refine Qq (h1 := ?_) (h2 := ?_) <;> intro hc <;> try (exfalso; omega)) | apply jK | refine Q8 rfl ?_ | apply jB
  refine Z0 [(b8, .cells #[nv m.r, nv (m.c + n.c), .slice A8 k c8] 26), (b2, .cells #[nv m.r, nv m.c, E] 26)] Qy ?_
  repeat' first | refine Q1 ?_ | refine Q3 ?_ | refine Qb ?_ | refine Ql ?_ | refine Zt (h := ?_) | fail
  refine Q5i (l := i * m.c) (h' := (i + 1) * m.c) rfl rfl rfl hR rfl rfl (.inl rfl) rfl rfl (.inl rfl) (Nat.mul_le_mul_right _ (Nat.le_succ i)) hrow1 (fun v3 hv3 _ => ?_)
  rw [e1] at hv3
  skip
  refine Wa (A := [_, _, _, _]) (B := []) hO hv3 (HSub.nil _) rfl Qy rfl rfl rfl rfl oq (fun v4 N4 hO4 => ?_)
  obtain ⟨A4, c4, rfl⟩ := hO4.form
  repeat' first | apply jN | refine Q3 ?_ | refine Zi (k := _) (h := ?_) | apply jT
  refine Z0 [(b8, .cells #[nv m.r, nv (m.c + n.c), .slice A4 (k + m.c) c4] 26), (b3, .cells #[nv n.r, nv n.c, E'] 26)] Qy ?_
  repeat' first | refine Q1 ?_ | refine Q3 ?_ | refine Qb ?_ | refine Ql ?_ | refine Zt (h := ?_) | fail
  refine Q5i (l := i * n.c) (h' := (i + 1) * n.c) rfl rfl rfl hR' rfl rfl (.inl rfl) rfl rfl (.inl rfl) (Nat.mul_le_mul_right _ (Nat.le_succ i)) (by rw [← hr] at hrow2 ⊢; exact hrow2) (fun v5 hv5 _ => ?_)
  rw [e2] at hv5
  skip
  refine Wa (A := [_, _, _, _]) (B := []) hO4 hv5 (HSub.nil _) rfl Qy rfl rfl rfl rfl oq (fun v6 N6 hO6 => ?_)
  obtain ⟨A6, c6, rfl⟩ := hO6.form
  repeat' first | apply jO | apply jN | apply jT | refine Q1 ?_ | refine Q3 ?_ | refine Q0 ?_ | refine Ql ?_ | refine Zi (k := _) (h := ?_) | apply jW
  have hO7 : OwnZ N6 (.slice A6 (k + m.c + n.c) c6) (k + m.c + n.c) (Q78 m n (List.range (i + 1))) := by
   rw [List.range_succ, Qbi]
   exact hO6
  exact Qc (i + 1, k + m.c + n.c, N6, _) ⟨by dsimp only; omega, by dsimp only; rw [hk, Nat.add_mul, Nat.one_mul, Nat.add_assoc], hO7⟩ dgq cqq (HSub.refl _)
 ·repeat' first | apply jS | apply jO | apply jN | apply jT | refine Q1 ?_ | refine Q3 ?_ | refine Q0 ?_ | refine Qb ?_ | refine Q6 ?_ | refine Q2 ?_ | (refine Qq (h1 := ?_) (h2 := ?_) <;> intro hc <;> try (exfalso; omega)) | refine Q2 ?_ | apply jU | apply jE | apply jR | refine Q7 rfl ?_ | refine Qf ?_
  obtain rfl : i = m.r := by omega
  rw [Qe1 hm hn hr] at hO
  exact Yk 1 rfl rfl rfl rfl (fun a w' st => ⟨st.kp, N, _, rfl, st.newOf rfl Q4, OwnM.mk' hO⟩)


set_option maxHeartbeats 2000000 in
theorem Qf5 (K f1 f2 : Nat) (w : World) (v u : Value) (a : ZM) (bs : List Int) (S1 S2 : Sm) (ha : RtZ a) (hac : a.c + 1 ≤ 200) (hv : IsM w v a) (hu : WZ w u a.r bs) (hK : K + 1 ≤ 8000000) (hb : BdZ (K + 1) a) (hL : BdL (K + 1) bs) (hj : RtZ (Q8n a (colZ bs))) (hjb : BdZ (K + 1) (Q8n a (colZ bs))) (hF : BdL (K + 1) (facP S1.d (min a.r a.c))) (hF2 : BdL (K + 1) (facP S2.d (min a.r (a.c + 1))))
  (h1 : Q0h (K + 1) f1 a.r a.c (min a.r a.c) 0 (Yd a.r a.c (ZH a)) = some S1)
  (h2 : Q0h (K + 1) f2 a.r (a.c + 1) (min a.r (a.c + 1)) 0 (Yd a.r (a.c + 1) (ZH (Q8n a (colZ bs)))) = some S2) (hn1 : (facP S1.d (min a.r a.c)).length ≤ 200) (hn2 : (facP S2.d (min a.r (a.c + 1))).length ≤ 200) :
  Calls Tryz.prog 28 #[v, u] w (Ret fun v w' => Kp [] w w' ∧ IsB (facP S1.d (min a.r a.c) = facP S2.d (min a.r (a.c + 1))) v) := by
 have hv0 := hv
 have hr := ha.r
 have hbl : bs.length = a.r := by simpa using hu.len
 obtain ⟨E, rfl, hE⟩ := hv
 obtain ⟨A1, c1, rfl⟩ := hu.form
 refine Q9 [⟨1, 2, [], []⟩, ⟨2, 1, [0, 2, 1, 3, 4, 5], []⟩] [] spq [] Tryz.func28 rfl mixed (by kernel_rfl) Tryz.ntmps28 Tryz.results28 rfl ⟨by simp, by simp⟩ spq ?_
 simp only [toS, Qd, Qt, Qj, Qm, odAt, Qg, Qw, zipF]
 repeat' first | apply jS | apply jO | apply jD | apply jN | refine Q1 ?_ | refine Q0 ?_ | refine Q6 ?_ | refine Qx fun _ => ?_ | apply jT
 rename_i b2
 refine Qe (A := [_]) (B := []) rfl pqq rfl eqq rfl (fun w hk hs => Qf9 (K + 1) w _ a.r bs (hu.mono hk) hr oq hL) fun w v w' _ _ _ hR => ?_
 obtain ⟨N1, hN1, E1, rfl, hO1⟩ := hR
 refine ⟨N1, hN1, ?_⟩
 skip
 refine Qe (A := [_]) (B := N1 ++ []) rfl pqq rfl eqq rfl (fun w hk hs => Qex w _ _ a (colZ bs) ha (Q8v oq) hbl.symm hac (hv0.mono hk) ⟨_, rfl, hO1.rd.at hk hs Q4⟩) fun w v w' _ _ _ hR => ?_
 obtain ⟨N2, V2, rfl, hN2, hO2⟩ := hR
 obtain ⟨E2, rfl, hO2⟩ := hO2
 obtain ⟨A2, c2, rfl⟩ := hO2.form
 refine ⟨N2, hN2, ?_⟩
 repeat' first | apply jS | apply jD | apply jN | refine Q1 ?_ | refine Q0 ?_ | refine Q6 ?_ | refine Qr (h := ?_) | refine Q2 ?_ | refine Qa fun _ => ?_ | refine Q2 ?_ | apply jT
 refine Qe (A := [_, _]) (B := N2 ++ (N1 ++ [])) rfl pqq rfl eqq rfl (fun w hk hs => Q53 K f1 w _ a S1 ha (hv0.mono hk) oq hb h1) fun w v w' _ _ _ hR => ?_
 obtain ⟨N3, hN3, hO3⟩ := hR
 obtain ⟨A3, c3, rfl⟩ := hO3.form
 refine ⟨N3, hN3, ?_⟩
 skip
 refine Qe (A := [_, _]) (B := N3 ++ (N2 ++ (N1 ++ []))) rfl pqq rfl eqq rfl (fun w hk hs => Q53 K f2 w _ (Q8n a (colZ bs)) S2 hj ⟨_, rfl, hO2.rd.at hk hs Q4⟩ oq hjb h2) fun w v w' _ _ _ hR => ?_
 obtain ⟨N4, hN4, hO4⟩ := hR
 obtain ⟨A4, c4, rfl⟩ := hO4.form
 refine ⟨N4, hN4, ?_⟩
 skip
 refine Q5 pqq rfl eqq rfl (fun w hk hs => Qat (K + 1) w _ _ _ _ (hO3.rd.at hk hs Q4) (hO4.rd.at hk hs Q4) oq (Nat.le_trans hn2 dq) oq hF hF2) fun w v w' _ _ _ hR => ?_
 obtain ⟨b', rfl, hb'⟩ := hR
 repeat' first | apply jN | apply jT | refine Q0 ?_ | apply jR
 exact Qk rfl (fun a w' st => ⟨st.kp, b', rfl, hb'⟩)


theorem WI.lit {w : World} {b n : Nat} {vs : List Value} (xs : List Int) (hb : w.heap[b]? = some (.cells ⟨vs⟩ 3)) (hv : vs = xs.map iv) (hn : xs.length = n) : WI w (.slice (some ⟨b, 0, none⟩) n n) n xs := by
 subst hv
 refine ⟨by simp [hn], _, _, rfl, Nat.le_refl _, fun _ => ⟨⟨b, 0, rfl⟩, fun j u hu => ?_⟩⟩
 simp only [vAt, Nat.zero_add]
 exact QK hb (by simpa using hu)
theorem IsRows.lit {w : World} {b n : Nat} {ss : List Value} (xss : List (List Int)) (hb : w.heap[b]? = some (.cells ⟨ss⟩ 48)) (hl : ss.length = n) (hx : xss.length = n) (h : ∀ i, i < n → WI w (ss.getD i (iv 0)) (xss.getD i []).length (xss.getD i [])) : IsRows w (.slice (some ⟨b, 0, none⟩) n n) xss := by
 subst hx
 refine ⟨ss, ⟨by omega, _, _, rfl, Nat.le_refl _, fun _ => ⟨⟨b, 0, rfl⟩, fun j u hu => ?_⟩⟩, h⟩
 simp only [vAt, Nat.zero_add]
 exact QK hb (by simpa using hu)
theorem Q41 {w : World} {b : Nat} {s : Value} (xs : List Int) (hb : w.heap[b]? = some (.cells ⟨[s]⟩ 48)) (h : WI w s xs.length xs) : IsRows w (.slice (some ⟨b, 0, none⟩) 1 1) [xs] :=
 IsRows.lit [xs] hb rfl rfl fun i hi => by
  obtain rfl : i = 0 := by omega
  exact h
theorem WL {w : World} {b : Nat} {s s' : Value} (xs xs' : List Int) (hb : w.heap[b]? = some (.cells ⟨[s, s']⟩ 48)) (h : WI w s xs.length xs) (h' : WI w s' xs'.length xs') : IsRows w (.slice (some ⟨b, 0, none⟩) 2 2) [xs, xs'] :=
 IsRows.lit [xs, xs'] hb rfl rfl fun i hi => by
  rcases (show i = 0 ∨ i = 1 by omega) with rfl | rfl
  ·exact h
  ·exact h'
theorem Q3h {xss : List (List Int)} (h : ∀ l ∈ xss, ∀ x ∈ l, I64 x) : ∀ i j, I64 ((xss.getD i []).getD j 0) := fun i j => by
 have h0 : I64 0 := ⟨by decide, by decide⟩
 rw [List.getD]
 cases hj : (xss.getD i [])[j]? with
 | none => exact h0
 | some x =>
  have hx := List.mem_of_getElem? hj
  rw [List.getD] at hx
  cases hi : xss[i]? with
  | none => rw [hi] at hx; cases hx
  | some l => rw [hi] at hx; exact h l (List.mem_of_getElem? hi) x hx
instance (n : Int) : Decidable (I64 n) := by unfold I64; infer_instance
theorem Z4 {K : Nat} {l : List Int} (h : ∀ x ∈ l, x.natAbs < 256 ^ K) : BdL K l := fun i => by
 rw [List.getD]
 cases hi : l[i]? with
 | none => exact Nat.pow_pos dq
 | some x => exact h x (List.mem_of_getElem? hi)
theorem Qmg {xs : List Int} (h : ∀ x ∈ xs, I64 x) (i : Nat) : I64 (xs.getD i 0) := by
 rw [List.getD]
 cases hi : xs[i]? with
 | none => exact ⟨by decide, by decide⟩
 | some x => exact h x (List.mem_of_getElem? hi)

theorem s_Of {X : List (List Int)} {r c : Nat} {e : List Int} (he : ofZ X = ⟨r, c, e⟩) (hl : e.length = r * c) (w : World) (v : Value) (hv : IsRows w v X) (hr : X.length ≤ 200) (hcc : ofC X X.length ≤ 200) (hI : ∀ i j, I64 ((X.getD i []).getD j 0)) :
  Calls Tryz.prog 45 #[v] w (Ret fun v w' => Kp [] w w' ∧ ∃ N A k, New N w w' ∧ v = .agg #[nv r, nv c, .slice A (r * c) k] ∧ OwnZ N (.slice A (r * c) k) (r * c) e) := by
 refine (Qew w v X hv hr hcc hI).mono fun x w' h => ?_
 cases x with
 | panicked _ => exact h.elim
 | outgrown => exact h.elim
 | returned v =>
  obtain ⟨hk, N, hN, E, rfl, hO⟩ := h
  rw [he] at hO ⊢
  have hO : OwnZ N E e.length e := hO
  rw [hl] at hO
  obtain ⟨A, k, rfl⟩ := hO.form
  exact ⟨hk, N, A, k, hN, rfl, hO⟩
theorem s_M {w : World} {A : Option Addr} {r c k : Nat} {e : List Int} (hl : e.length = r * c) (h : WZ w (.slice A (r * c) k) (r * c) e) : IsM w (.agg #[nv r, nv c, .slice A (r * c) k]) ⟨r, c, e⟩ := ⟨_, rfl, by show WZ w _ e.length e; rw [hl]; exact h⟩
theorem s_rt {r c : Nat} {e : List Int} (h : r ≤ 200 ∧ c ≤ 200 ∧ e.length = r * c) : RtZ ⟨r, c, e⟩ := ⟨h.1, h.2.1, h.2.2⟩

def k0S : Sm := ⟨[[1]], [[1]], [[1, 0, 0]], [[1, -2, -3], [0, 1, 0], [0, 0, 1]], [[1, 2, 3], [0, 1, 0], [0, 0, 1]]⟩
theorem Qg0 (w : World) (A : Option Addr) (k : Nat) (h : WZ w (.slice A (1 * 3) k) (1 * 3) [1, 2, 3]) :
  Calls Tryz.prog 15 #[.agg #[nv 1, nv 3, .slice A (1 * 3) k]] w (Ret fun v w' => Kp [] w w' ∧ ∃ N A k, New N w w' ∧ v = .agg #[nv 3, nv 2, .slice A (3 * 2) k] ∧ OwnZ N (.slice A (3 * 2) k) (3 * 2) [-2, -3, 1, 0, 0, 1]) := by
 refine (Qh4 0 9 9 w _ ⟨1, 3, [1, 2, 3]⟩ k0S (s_rt dq) (s_M rfl h) dq (Z4 dq) (by kernel_rfl)).mono fun x w' h => ?_
 cases x with
 | panicked _ => exact h.elim
 | outgrown => exact h.elim
 | returned v =>
  rw [show Qdl (gM 3 3 k0S.v) 0 (facP k0S.d (min 1 3)).length 3 (3 - (facP k0S.d (min 1 3)).length) = ⟨3, 2, [-2, -3, 1, 0, 0, 1]⟩ from by kernel_rfl] at h
  obtain ⟨hk, N, hN, E, rfl, hO⟩ := h
  have hO : OwnZ N E 6 [-2, -3, 1, 0, 0, 1] := hO
  obtain ⟨A, k, rfl⟩ := hO.form
  exact ⟨hk, N, A, k, hN, rfl, hO⟩

def kzS : Sm := ⟨[[0, 1, 0], [0, 0, 1], [1, 2, 3]], [[-2, -3, 1], [1, 0, 0], [0, 1, 0]], [[1, 0], [0, 1], [0, 0]], [[1, 0], [0, 1]], [[1, 0], [0, 1]]⟩
theorem Q44 {P : Prop} {v : Value} (h : IsB P v) (hp : P) : v = .bool true := by
 obtain ⟨b, rfl, hb⟩ := h
 rw [hb.2 hp]
theorem Q79 {P : Prop} {v : Value} (h : IsB P v) (hp : ¬ P) : v = .bool false := by
 obtain ⟨b, rfl, hb⟩ := h
 cases b with
 | true => exact absurd (hb.1 rfl) hp
 | false => rfl
theorem Q77 {a b : ZM} (h1 : a.r ≤ 200) (h2 : a.c + b.c ≤ 200) : RtZ (Q8n a b) := Xi h1 h2
def kS1 : Sm := ⟨[[0, 1, 0], [0, 0, 1], [1, 2, 3]], [[-2, -3, 1], [1, 0, 0], [0, 1, 0]], [[1, 0, 0], [0, 1, 0], [0, 0, 0]], [[1, 0, 1], [0, 1, 0], [0, 0, 1]], [[1, 0, -1], [0, 1, 0], [0, 0, 1]]⟩
theorem Qj2 (w : World) (A : Option Addr) (k : Nat) (u : Value) (h : WZ w (.slice A (3 * 2) k) (3 * 2) [-2, -3, 1, 0, 0, 1]) (hu : WZ w u 3 [2, -1, 0]) :
  Calls Tryz.prog 28 #[.agg #[nv 3, nv 2, .slice A (3 * 2) k], u] w (Ret fun v w' => Kp [] w w' ∧ v = .bool true) := by
 refine (Qf5 0 9 9 w _ u ⟨3, 2, [-2, -3, 1, 0, 0, 1]⟩ [2, -1, 0] kzS kS1 (s_rt dq) dq (s_M rfl h) hu dq (Z4 dq) (Z4 dq) (Q77 dq dq) (Z4 dq) (Z4 dq) (Z4 dq) (by kernel_rfl) (by kernel_rfl) dq dq).mono fun x w' h => ?_
 cases x with
 | panicked _ => exact h.elim
 | outgrown => exact h.elim
 | returned v =>
  exact ⟨h.1, Q44 h.2 (by kernel_rfl)⟩
def kS2 : Sm := ⟨[[0, 1, 0], [0, 0, 1], [1, 2, 3]], [[-2, -3, 1], [1, 0, 0], [0, 1, 0]], [[1, 0, 0], [0, 1, 0], [0, 0, 0]], [[1, 0, 0], [0, 1, 1], [0, 0, 1]], [[1, 0, 0], [0, 1, -1], [0, 0, 1]]⟩
theorem Qj1 (w : World) (A : Option Addr) (k : Nat) (u : Value) (h : WZ w (.slice A (3 * 2) k) (3 * 2) [-2, -3, 1, 0, 0, 1]) (hu : WZ w u 3 [3, 0, -1]) :
  Calls Tryz.prog 28 #[.agg #[nv 3, nv 2, .slice A (3 * 2) k], u] w (Ret fun v w' => Kp [] w w' ∧ v = .bool true) := by
 refine (Qf5 0 9 9 w _ u ⟨3, 2, [-2, -3, 1, 0, 0, 1]⟩ [3, 0, -1] kzS kS2 (s_rt dq) dq (s_M rfl h) hu dq (Z4 dq) (Z4 dq) (Q77 dq dq) (Z4 dq) (Z4 dq) (Z4 dq) (by kernel_rfl) (by kernel_rfl) dq dq).mono fun x w' h => ?_
 cases x with
 | panicked _ => exact h.elim
 | outgrown => exact h.elim
 | returned v =>
  exact ⟨h.1, Q44 h.2 (by kernel_rfl)⟩
def a2S : Sm := ⟨[[1]], [[1]], [[2, 0]], [[1, -2], [0, 1]], [[1, 2], [0, 1]]⟩
def a3S : Sm := ⟨[[1, 0], [-1, 1]], [[1, 0], [1, 1]], [[1, 0], [0, 0]], [[1, 0], [0, 1]], [[1, 0], [0, 1]]⟩
def i2S : Sm := ⟨[[1, 0], [0, 1]], [[1, 0], [0, 1]], [[1, 0], [0, 1]], [[1, 0], [0, 1]], [[1, 0], [0, 1]]⟩
def q1S : Sm := ⟨[[1, 1], [3, 4]], [[4, -1], [-3, 1]], [[1, 0], [0, 6]], [[2, -3], [-1, 2]], [[2, 3], [1, 2]]⟩
def q2S : Sm := ⟨[[1, 0], [-2, 1]], [[1, 0], [2, 1]], [[2], [0]], [[1]], [[1]]⟩
theorem Qj0 (w : World) (A : Option Addr) (k : Nat) (u : Value) (h : WZ w (.slice A (1 * 2) k) (1 * 2) [2, 4]) (hu : WZ w u 1 [6]) :
  Calls Tryz.prog 37 #[.agg #[nv 1, nv 2, .slice A (1 * 2) k], u] w (Ret fun v w' => Kp [] w w' ∧ ∃ N A c, New N w w' ∧ v = .tuple #[.slice A 2 c, .bool true] ∧ OwnZ N (.slice A 2 c) 2 [3, 0]) := by
 refine (Qf4 0 9 9 1 w _ u ⟨1, 2, [2, 4]⟩ [6] a2S (s_rt dq) (s_M rfl h) hu dq (Z4 dq) (Z4 dq) (by kernel_rfl) (by kernel_rfl)).mono fun x w' h => ?_
 cases x with
 | panicked _ => exact h.elim
 | outgrown => exact h.elim
 | returned v =>
  obtain ⟨hk, N, E, hN, rfl, hO⟩ := h
  rw [show solV a2S 1 2 [6] = [3, 0] from by kernel_rfl] at hO
  obtain ⟨A, c, rfl⟩ := hO.form
  exact ⟨hk, N, A, c, hN, rfl, hO⟩
theorem Qll (w : World) (A : Option Addr) (k : Nat) (u : Value) (h : WZ w (.slice A (1 * 2) k) (1 * 2) [2, 4]) (hu : WZ w u 1 [5]) :
  Calls Tryz.prog 38 #[.agg #[nv 1, nv 2, .slice A (1 * 2) k], u] w (Ret fun v w' => Kp [] w w' ∧ ∃ N A c, New N w w' ∧ v = .tuple #[.slice A 1 c, Wv 2, .bool true] ∧ OwnZ N (.slice A 1 c) 1 [1]) := by
 refine (Qar 0 9 9 1 0 w _ u ⟨1, 2, [2, 4]⟩ [5] a2S (s_rt dq) (s_M rfl h) hu dq (Z4 dq) (Z4 dq) (by kernel_rfl) (by kernel_rfl) dq).mono fun x w' h => ?_
 cases x with
 | panicked _ => exact h.elim
 | outgrown => exact h.elim
 | returned v =>
  obtain ⟨hk, N, E, hN, rfl, hO⟩ := h
  have hO : OwnZ N E 1 (rowI (gM 1 1 a2S.u) 0) := hO
  rw [show rowI (gM 1 1 a2S.u) 0 = [1] from by kernel_rfl] at hO
  obtain ⟨A, c, rfl⟩ := hO.form
  refine ⟨hk, N, A, c, hN, ?_, hO⟩
  rw [show diaR (gM 1 2 a2S.d) 0 = 2 from by kernel_rfl]
theorem Qlk (w : World) (A : Option Addr) (k : Nat) (u : Value) (h : WZ w (.slice A (2 * 2) k) (2 * 2) [1, 0, 1, 0]) (hu : WZ w u 2 [1, 2]) :
  Calls Tryz.prog 38 #[.agg #[nv 2, nv 2, .slice A (2 * 2) k], u] w (Ret fun v w' => Kp [] w w' ∧ ∃ N A c, New N w w' ∧ v = .tuple #[.slice A 2 c, Wv 0, .bool true] ∧ OwnZ N (.slice A 2 c) 2 [-1, 1]) := by
 refine (Qar 0 9 9 1 1 w _ u ⟨2, 2, [1, 0, 1, 0]⟩ [1, 2] a3S (s_rt dq) (s_M rfl h) hu dq (Z4 dq) (Z4 dq) (by kernel_rfl) (by kernel_rfl) dq).mono fun x w' h => ?_
 cases x with
 | panicked _ => exact h.elim
 | outgrown => exact h.elim
 | returned v =>
  obtain ⟨hk, N, E, hN, rfl, hO⟩ := h
  have hO : OwnZ N E 2 (rowI (gM 2 2 a3S.u) 1) := hO
  rw [show rowI (gM 2 2 a3S.u) 1 = [-1, 1] from by kernel_rfl] at hO
  obtain ⟨A, c, rfl⟩ := hO.form
  refine ⟨hk, N, A, c, hN, ?_, hO⟩
  rw [show diaR (gM 2 2 a3S.d) 1 = 0 from by kernel_rfl]
theorem Qj5 (w : World) (A A' : Option Addr) (k k' : Nat) (h : WZ w (.slice A (2 * 2) k) (2 * 2) [1, 0, 0, 1]) (h' : WZ w (.slice A' (2 * 2) k') (2 * 2) [2, 0, 0, 3]) :
  Calls Tryz.prog 23 #[.agg #[nv 2, nv 2, .slice A (2 * 2) k], .agg #[nv 2, nv 2, .slice A' (2 * 2) k']] w (Ret fun v w' => Kp [] w w' ∧ ∃ N A c Ag cg, New N w w' ∧ OwnZ N (.slice A 1 c) 1 [6] ∧ v = .tuple #[.slice A 1 c, nv 0, .agg #[nv 2, nv 1, .slice Ag (2 * 1) cg], .bool true]) := by
 refine (Qig 0 9 9 1 0 9 9 w _ _ ⟨2, 2, [1, 0, 0, 1]⟩ ⟨2, 2, [2, 0, 0, 3]⟩ i2S q1S (s_rt dq) (s_rt dq) rfl (s_M rfl h) (s_M rfl h') dq dq (Z4 dq) (Z4 dq) (by kernel_rfl) (by kernel_rfl) (fun j hj => by
  have hj : j < 2 := hj
  rcases (show j = 0 ∨ j = 1 by omega) with rfl | rfl
  ·exact (show Xj (gM 2 2 i2S.d) (appL (gM 2 2 i2S.u) (colL ⟨2, 2, [2, 0, 0, 3]⟩ 0)) = none from by kernel_rfl)
  ·exact (show Xj (gM 2 2 i2S.d) (appL (gM 2 2 i2S.u) (colL ⟨2, 2, [2, 0, 0, 3]⟩ 1)) = none from by kernel_rfl)) (Z4 dq) (by kernel_rfl)).mono fun x w' h => ?_
 cases x with
 | panicked _ => exact h.elim
 | outgrown => exact h.elim
 | returned v =>
  obtain ⟨hk, N, A, c, Ag, cg, hN, hO, rfl⟩ := h
  have e1 : torL (gM 2 2 q1S.d) (List.range 2) = [6] := by kernel_rfl
  have e2 : freN (gM 2 2 q1S.d) (List.range 2) = 0 := by kernel_rfl
  have e3 : (colQ (gM 2 2 q1S.d) (List.range 2)).length = 1 := by kernel_rfl
  have hO : OwnZ N (.slice A (torL (gM 2 2 q1S.d) (List.range 2)).length c) (torL (gM 2 2 q1S.d) (List.range 2)).length (torL (gM 2 2 q1S.d) (List.range 2)) := hO
  rw [e1] at hO
  refine ⟨hk, N, A, c, Ag, cg, hN, hO, ?_⟩
  show Value.tuple #[.slice A (torL (gM 2 2 q1S.d) (List.range 2)).length c, nv (freN (gM 2 2 q1S.d) (List.range 2)), .agg #[nv 2, nv (colQ (gM 2 2 q1S.d) (List.range 2)).length, .slice Ag (2 * (colQ (gM 2 2 q1S.d) (List.range 2)).length) cg], .bool true] = _
  rw [e1, e2, e3]
  rfl
theorem Qj4 (w : World) (A A' : Option Addr) (k k' : Nat) (h : WZ w (.slice A (2 * 2) k) (2 * 2) [1, 0, 0, 1]) (h' : WZ w (.slice A' (2 * 1) k') (2 * 1) [2, 4]) :
  Calls Tryz.prog 23 #[.agg #[nv 2, nv 2, .slice A (2 * 2) k], .agg #[nv 2, nv 1, .slice A' (2 * 1) k']] w (Ret fun v w' => Kp [] w w' ∧ ∃ N A c Ag cg, New N w w' ∧ OwnZ N (.slice A 1 c) 1 [2] ∧ v = .tuple #[.slice A 1 c, nv 1, .agg #[nv 2, nv 2, .slice Ag (2 * 2) cg], .bool true]) := by
 refine (Qig 0 9 9 1 0 9 9 w _ _ ⟨2, 2, [1, 0, 0, 1]⟩ ⟨2, 1, [2, 4]⟩ i2S q2S (s_rt dq) (s_rt dq) rfl (s_M rfl h) (s_M rfl h') dq dq (Z4 dq) (Z4 dq) (by kernel_rfl) (by kernel_rfl) (fun j hj => by
  have hj : j < 1 := hj
  obtain rfl : j = 0 := by omega
  exact (show Xj (gM 2 2 i2S.d) (appL (gM 2 2 i2S.u) (colL ⟨2, 1, [2, 4]⟩ 0)) = none from by kernel_rfl)) (Z4 dq) (by kernel_rfl)).mono fun x w' h => ?_
 cases x with
 | panicked _ => exact h.elim
 | outgrown => exact h.elim
 | returned v =>
  obtain ⟨hk, N, A, c, Ag, cg, hN, hO, rfl⟩ := h
  have e1 : torL (gM 2 1 q2S.d) (List.range 2) = [2] := by kernel_rfl
  have e2 : freN (gM 2 1 q2S.d) (List.range 2) = 1 := by kernel_rfl
  have e3 : (colQ (gM 2 1 q2S.d) (List.range 2)).length = 2 := by kernel_rfl
  have hO : OwnZ N (.slice A (torL (gM 2 1 q2S.d) (List.range 2)).length c) (torL (gM 2 1 q2S.d) (List.range 2)).length (torL (gM 2 1 q2S.d) (List.range 2)) := hO
  rw [e1] at hO
  refine ⟨hk, N, A, c, Ag, cg, hN, hO, ?_⟩
  show Value.tuple #[.slice A (torL (gM 2 1 q2S.d) (List.range 2)).length c, nv (freN (gM 2 1 q2S.d) (List.range 2)), .agg #[nv 2, nv (colQ (gM 2 1 q2S.d) (List.range 2)).length, .slice Ag (2 * (colQ (gM 2 1 q2S.d) (List.range 2)).length) cg], .bool true] = _
  rw [e1, e2, e3]
  rfl


theorem Qlj (w : World) (A : Option Addr) (k : Nat) (u z : Value) (h : WZ w (.slice A (1 * 2) k) (1 * 2) [2, 4]) (hu : WZ w u 2 [3, 0]) (hz : WZ w z 1 [6]) :
  Calls Tryz.prog 41 #[.agg #[nv 1, nv 2, .slice A (1 * 2) k], u, z] w (Ret fun v w' => Kp [] w w' ∧ v = .bool true) := by
 refine (Qi8 1 1 w _ u z ⟨1, 2, [2, 4]⟩ [3, 0] [6] (s_rt dq) (s_M rfl h) hu hz dq dq dq (Z4 dq) (Z4 dq) (Z4 dq)).mono fun x w' h => ?_
 cases x with
 | panicked _ => exact h.elim
 | outgrown => exact h.elim
 | returned v => exact ⟨h.1, Q44 h.2 ((Q86 rfl).2 (by kernel_rfl))⟩
theorem Qiz (w : World) (A : Option Addr) (k : Nat) (u z : Value) (h : WZ w (.slice A (1 * 2) k) (1 * 2) [2, 4]) (hu : WZ w u 1 [5]) (hz : WZ w z 1 [1]) :
  Calls Tryz.prog 42 #[.agg #[nv 1, nv 2, .slice A (1 * 2) k], u, z, Wv 2] w (Ret fun v w' => Kp [] w w' ∧ v = .bool true) := by
 refine (Q7p 1 1 w _ u z _ ⟨1, 2, [2, 4]⟩ [5] [1] 2 (s_rt dq) (s_M rfl h) hu hz (Qh dq) dq dq dq (Z4 dq) (Z4 dq) (Z4 dq)).mono fun x w' h => ?_
 cases x with
 | panicked _ => exact h.elim
 | outgrown => exact h.elim
 | returned v =>
  refine ⟨h.1, Q44 h.2 ⟨rfl, rfl, by decide, fun j hj => ?_, by decide⟩⟩
  have hj : j < 2 := hj
  rcases (show j = 0 ∨ j = 1 by omega) with rfl | rfl <;> decide
theorem Qiy (w : World) (A : Option Addr) (k : Nat) (u z : Value) (h : WZ w (.slice A (2 * 2) k) (2 * 2) [1, 0, 1, 0]) (hu : WZ w u 2 [1, 2]) (hz : WZ w z 2 [-1, 1]) :
  Calls Tryz.prog 42 #[.agg #[nv 2, nv 2, .slice A (2 * 2) k], u, z, Wv 0] w (Ret fun v w' => Kp [] w w' ∧ v = .bool true) := by
 refine (Q7p 1 1 w _ u z _ ⟨2, 2, [1, 0, 1, 0]⟩ [1, 2] [-1, 1] 0 (s_rt dq) (s_M rfl h) hu hz (Qh dq) dq dq dq (Z4 dq) (Z4 dq) (Z4 dq)).mono fun x w' h => ?_
 cases x with
 | panicked _ => exact h.elim
 | outgrown => exact h.elim
 | returned v =>
  refine ⟨h.1, Q44 h.2 ⟨rfl, rfl, by decide, fun j hj => ?_, by decide⟩⟩
  have hj : j < 2 := hj
  rcases (show j = 0 ∨ j = 1 by omega) with rfl | rfl <;> decide
theorem Qcv (w : World) (v u : Value) (t : Int) (ht : t.natAbs < 256) (h : WZ w v 1 [t]) (hu : WZ w u 1 [t]) :
  Calls Tryz.prog 25 #[v, u] w (Ret fun v w' => Kp [] w w' ∧ v = .bool true) := by
 refine (Qat 1 w v u [t] [t] h hu (Nat.le_of_ble_eq_true rfl) (Nat.le_of_ble_eq_true rfl) dq (Z4 (by simpa using ht)) (Z4 (by simpa using ht))).mono fun x w' h => ?_
 cases x with
 | panicked _ => exact h.elim
 | outgrown => exact h.elim
 | returned v => exact ⟨h.1, Q44 h.2 rfl⟩

theorem Qj3 (w : World) (A : Option Addr) (k : Nat) (h : WZ w (.slice A (3 * 2) k) (3 * 2) [-2, -3, 1, 0, 0, 1]) :
  Calls Tryz.prog 26 #[.agg #[nv 3, nv 2, .slice A (3 * 2) k]] w (Ret fun v w' => Kp [] w w' ∧ v = .bool true) := by
 refine (Zp w _ (ZM.xm ⟨3, 2, [-2, -3, 1, 0, 0, 1]⟩) (s_M (e := [-2, -3, 1, 0, 0, 1]) rfl h).x (by show (List.map wz [-2, -3, 1, 0, 0, 1]).length < _; rw [List.length_map]; exact of_decide_eq_true rfl)).mono fun x w' h => ?_
 cases x with
 | panicked _ => exact h.elim
 | outgrown => exact h.elim
 | returned v => exact ⟨h.1, Q44 h.2 (s_rt (r := 3) (c := 2) (e := [-2, -3, 1, 0, 0, 1]) dq).rx⟩
theorem XV {w : World} {b n : Nat} {vs : List Value} (xs : List Int) (hb : w.heap[b]? = some (.cells ⟨vs⟩ 3)) (hv : vs = xs.map iv) (hn : xs.length = n) (hl : n ≤ 2000000) (hI : ∀ x ∈ xs, I64 x) : Calls Tryz.prog 44 #[.slice (some ⟨b, 0, none⟩) n n] w (Ret fun v w' => Kp [] w w' ∧ ∃ N, New N w w' ∧ OwnZ N v n xs) :=
 Q3t w _ n xs (WI.lit xs hb hv hn) hl (Qmg hI)

theorem Qlm (w : World) : Calls Tryz.prog 35 #[iv 2] w (Ret fun v w' => Kp [] w w' ∧ ∃ N A k, New N w w' ∧ v = .agg #[nv 2, nv 2, .slice A (2 * 2) k] ∧ OwnZ N (.slice A (2 * 2) k) (2 * 2) [1, 0, 0, 1]) := by
 refine (Q65 2 dq w).mono fun x w' h => ?_
 cases x with
 | panicked _ => exact h.elim
 | outgrown => exact h.elim
 | returned v =>
  obtain ⟨hk, N, hN, E, rfl, hO⟩ := h
  have hO : OwnZ N E 4 [1, 0, 0, 1] := hO
  obtain ⟨A, k, rfl⟩ := hO.form
  exact ⟨hk, N, A, k, hN, rfl, hO⟩

set_option maxHeartbeats 16000000 in
theorem Q3p (w : World) : Calls Tryz.prog 13 #[] w (Ret fun v w' => Kp [] w w' ∧ v = .bool true) := by
 refine Q9 [⟨5, 2, [], []⟩, ⟨6, 3, [], []⟩, ⟨8, 3, [], []⟩, ⟨9, 0, [0, 1, 2, 3, 4, 5, 6, 7, 8, 9, 10, 11, 12, 13, 14, 15, 18, 19, 16, 17, 20, 21, 22, 23, 24, 25, 26, 27, 28, 31, 32, 29, 30, 33, 34, 35], []⟩] [] spq [] Tryz.func13 rfl mixed (by kernel_rfl) Tryz.ntmps13 Tryz.results13 rfl ⟨by simp, by simp⟩ spq ?_
 simp only [toS, Qd, Qt, Qj, Qm, odAt, Qg, Qw, zipF]
 repeat' first | apply jS | apply jO | apply jN | refine Q0 ?_ | refine QD (h := fun _ => ?_) | apply jT
 refine Qe (A := [_, _]) (B := []) rfl pqq rfl eqq rfl (fun w hk hs => s_Of (X := [[1, 2, 3]]) (r := 1) (c := 3) (e := [1, 2, 3]) (by kernel_rfl) rfl w _ (Q41 _ (ZU hs 0 rfl) (WI.lit [1, 2, 3] (ZU hs 1 rfl) rfl rfl)) dq dq (Q3h dq)) fun w v w' _ _ _ hR => ?_
 obtain ⟨N1, A1, k1, hN1, rfl, hO1⟩ := hR
 refine ⟨N1, hN1, ?_⟩
 skip
 refine Qe (A := [_, _]) (B := N1 ++ []) rfl pqq rfl eqq rfl (fun w hk hs => Qg0 w _ _ (hO1.rd.at hk hs Q4)) fun w v w' _ _ _ hR => ?_
 obtain ⟨N2, A2, k2, hN2, rfl, hO2⟩ := hR
 refine ⟨N2, hN2, ?_⟩
 repeat' first | refine Q2 ?_ | refine Qa fun _ => ?_ | refine Q2 ?_ | apply jN
 rename_i b1
 refine JX.part (F' := [(1, .pointer (some ⟨b1, 0, none⟩))]) (H' := [(b1, .cells #[nv 3, nv 2, .slice A2 (3 * 2) k2] 26)] ++ (N2 ++ [])) cqq QA ?_
 refine Qs ?_
 repeat' first | apply jS | refine Q1 ?_ | refine Q3 ?_ | refine Qb ?_ | refine Q6 ?_ | refine Qp ?_ | (refine Z2 (h1 := ?_) (h2 := ?_) <;> intro hc <;> try (exfalso; omega)) | apply jD
 refine Q5 pqq rfl eqq rfl (fun w hk hs => Qj3 w _ _ (hO2.rd.at hk hs Q4)) fun w v w' _ _ _ hR => ?_
 subst hR
 repeat' first | refine Q1 ?_ | refine Q6 ?_ | refine Qp ?_ | refine QB ?_ | refine QD (h := fun _ => ?_) | fail
 refine Qe (A := [_, _]) (B := N2 ++ []) rfl pqq rfl eqq rfl (fun w hk hs => XV [2, -1, 0] (ZU hs 0 rfl) rfl rfl dq dq) fun w v w' _ _ _ hR => ?_
 obtain ⟨N3, hN3, hO3⟩ := hR
 obtain ⟨A3, k3, rfl⟩ := hO3.form
 refine ⟨N3, hN3, ?_⟩
 skip
 refine Q5 pqq rfl eqq rfl (fun w hk hs => Qj2 w _ _ _ (hO2.rd.at hk hs Q4) (hO3.rd.at hk hs Q4)) fun w v w' _ _ _ hR => ?_
 subst hR
 repeat' first | refine Q1 ?_ | refine Q6 ?_ | refine Qp ?_ | refine QB ?_ | refine QD (h := fun _ => ?_) | fail
 refine Qe (A := [_, _, _]) (B := N3 ++ (N2 ++ [])) rfl pqq rfl eqq rfl (fun w hk hs => XV [3, 0, -1] (ZU hs 0 rfl) rfl rfl dq dq) fun w v w' _ _ _ hR => ?_
 obtain ⟨N4, hN4, hO4⟩ := hR
 obtain ⟨A4, k4, rfl⟩ := hO4.form
 refine ⟨N4, hN4, ?_⟩
 skip
 refine Q5 pqq rfl eqq rfl (fun w hk hs => Qj1 w _ _ _ (hO2.rd.at hk hs Q4) (hO4.rd.at hk hs Q4)) fun w v w' _ _ _ hR => ?_
 subst hR
 repeat' first | refine Qp ?_ | refine QB ?_ | apply jN
 refine JX.part (F' := [(50, .bool false)]) (H' := []) cqq (HSub.nil _) ?_
 refine Qs ?_
 repeat' first | apply jS | apply jO | apply jT | refine QD (h := fun _ => ?_) | apply jK | refine Q7 rfl ?_
 refine Qe (A := [_, _]) (B := []) rfl pqq rfl eqq rfl (fun w hk hs => s_Of (X := [[2, 4]]) (r := 1) (c := 2) (e := [2, 4]) (by kernel_rfl) rfl w _ (Q41 _ (ZU hs 0 rfl) (WI.lit [2, 4] (ZU hs 1 rfl) rfl rfl)) dq dq (Q3h dq)) fun w v w' _ _ _ hR => ?_
 obtain ⟨Na, Aa, ka, hNa, rfl, hOa⟩ := hR
 refine ⟨Na, hNa, ?_⟩
 repeat' first | refine Q2 ?_ | refine Qa fun _ => ?_ | refine Q2 ?_ | apply jN
 rename_i ba
 refine JX.part (F' := [(2, .pointer (some ⟨ba, 0, none⟩))]) (H' := [(ba, .cells #[nv 1, nv 2, .slice Aa (1 * 2) ka] 26)] ++ (Na ++ [])) cqq QA ?_
 refine Qs ?_
 repeat' first | apply jS | refine Q6 ?_ | refine QD (h := fun _ => ?_) | apply jD
 refine Qe (A := [_, _]) (B := Na ++ []) rfl pqq rfl eqq rfl (fun w hk hs => XV [6] (ZU hs 0 rfl) rfl rfl dq dq) fun w v w' _ _ _ hR => ?_
 obtain ⟨N3, hN3, hO3⟩ := hR
 obtain ⟨A3, k3, rfl⟩ := hO3.form
 refine ⟨N3, hN3, ?_⟩
 skip
 refine Qe (A := [_, _]) (B := N3 ++ (Na ++ [])) rfl pqq rfl eqq rfl (fun w hk hs => Qj0 w _ _ _ (hOa.rd.at hk hs Q4) (hO3.rd.at hk hs Q4)) fun w v w' _ _ _ hR => ?_
 obtain ⟨Nx, Ax, kx, hNx, rfl, hOx⟩ := hR
 refine ⟨Nx, hNx, ?_⟩
 repeat' first | refine Q1 ?_ | refine Q0 ?_ | refine Qr (h := ?_) | apply jN
 refine JX.part (F' := [(4, .bool true), (3, .slice Ax 2 kx), (2, .pointer (some ⟨ba, 0, none⟩))]) (H' := [(ba, .cells #[nv 1, nv 2, .slice Aa (1 * 2) ka] 26)] ++ (Nx ++ (Na ++ []))) cqq (HSub.skip (HSub.at 0 rfl (by
  show HSub (Nx ++ (Na ++ [])) (Nx ++ (N3 ++ (Na ++ [])))
  exact Ym (Qu (HSub.refl _))))) ?_
 refine Qs ?_
 repeat' first | apply jS | refine Q6 ?_ | refine QD (h := fun _ => ?_) | apply jD
 refine Qe (A := [_, _]) (B := Nx ++ (Na ++ [])) rfl pqq rfl eqq rfl (fun w hk hs => XV [5] (ZU hs 0 rfl) rfl rfl dq dq) fun w v w' _ _ _ hR => ?_
 obtain ⟨N3, hN3, hO3⟩ := hR
 obtain ⟨A3, k3, rfl⟩ := hO3.form
 refine ⟨N3, hN3, ?_⟩
 skip
 refine Qe (A := [_, _]) (B := N3 ++ (Nx ++ (Na ++ []))) rfl pqq rfl eqq rfl (fun w hk hs => Qll w _ _ _ (hOa.rd.at hk hs Q4) (hO3.rd.at hk hs Q4)) fun w v w' _ _ _ hR => ?_
 obtain ⟨Ny, Ay, ky, hNy, rfl, hOy⟩ := hR
 refine ⟨Ny, hNy, ?_⟩
 repeat' first | refine Q1 ?_ | refine Q0 ?_ | refine Qr (h := ?_) | refine Q2 ?_ | refine Qa fun _ => ?_ | refine Q2 ?_ | apply jN
 rename_i bm
 refine JX.part (F' := [(7, .bool true), (6, .pointer (some ⟨bm, 0, none⟩)), (5, .slice Ay 1 ky), (4, .bool true), (3, .slice Ax 2 kx), (2, .pointer (some ⟨ba, 0, none⟩))]) (H' := [(bm, .cells #[.bool (decide ((2 : Int) < 0)), sv (magU (Int.natAbs 2))] 35), (ba, .cells #[nv 1, nv 2, .slice Aa (1 * 2) ka] 26)] ++ (Ny ++ (Nx ++ (Na ++ [])))) cqq (HSub.at 0 rfl (HSub.skip (HSub.at 0 rfl (by
  show HSub (Ny ++ (Nx ++ (Na ++ []))) (Ny ++ (N3 ++ (Nx ++ (Na ++ []))))
  exact Ym (Qu (HSub.refl _)))))) ?_
 refine Qs ?_
 repeat' first | apply jS | refine QD (h := fun _ => ?_) | apply jO
 refine Qe (A := [_, _, _, _, _]) (B := Ny ++ (Nx ++ (Na ++ []))) rfl pqq rfl eqq rfl (fun w hk hs => s_Of (X := [[1, 0], [1, 0]]) (r := 2) (c := 2) (e := [1, 0, 1, 0]) (by kernel_rfl) rfl w _ (WL _ _ (ZU hs 0 rfl) (WI.lit [1, 0] (ZU hs 2 rfl) rfl rfl) (WI.lit [1, 0] (ZU hs 1 rfl) rfl rfl)) dq dq (Q3h dq)) fun w v w' _ _ _ hR => ?_
 obtain ⟨Nb, Ab, kb, hNb, rfl, hOb⟩ := hR
 refine ⟨Nb, hNb, ?_⟩
 repeat' first | refine Q2 ?_ | refine Qa fun _ => ?_ | refine Q2 ?_ | apply jN
 rename_i bb
 refine JX.part (F' := [(8, .pointer (some ⟨bb, 0, none⟩)), (7, .bool true), (6, .pointer (some ⟨bm, 0, none⟩)), (5, .slice Ay 1 ky), (4, .bool true), (3, .slice Ax 2 kx), (2, .pointer (some ⟨ba, 0, none⟩))]) (H' := [(bb, .cells #[nv 2, nv 2, .slice Ab (2 * 2) kb] 26), (bm, .cells #[.bool (decide ((2 : Int) < 0)), sv (magU (Int.natAbs 2))] 35), (ba, .cells #[nv 1, nv 2, .slice Aa (1 * 2) ka] 26)] ++ (Nb ++ (Ny ++ (Nx ++ (Na ++ []))))) cqq (HSub.at 0 rfl (HSub.skip (HSub.skip (HSub.skip (HSub.refl _))))) ?_
 refine Qs ?_
 repeat' first | apply jS | refine Q6 ?_ | refine QD (h := fun _ => ?_) | apply jD
 refine Qe (A := [_, _, _, _]) (B := Nb ++ (Ny ++ (Nx ++ (Na ++ [])))) rfl pqq rfl eqq rfl (fun w hk hs => XV [1, 2] (ZU hs 0 rfl) rfl rfl dq dq) fun w v w' _ _ _ hR => ?_
 obtain ⟨N3, hN3, hO3⟩ := hR
 obtain ⟨A3, k3, rfl⟩ := hO3.form
 refine ⟨N3, hN3, ?_⟩
 skip
 refine Qe (A := [_, _, _, _]) (B := N3 ++ (Nb ++ (Ny ++ (Nx ++ (Na ++ []))))) rfl pqq rfl eqq rfl (fun w hk hs => Qlk w _ _ _ (hOb.rd.at hk hs Q4) (hO3.rd.at hk hs Q4)) fun w v w' _ _ _ hR => ?_
 obtain ⟨Nz, Az, kz, hNz, rfl, hOz⟩ := hR
 refine ⟨Nz, hNz, ?_⟩
 repeat' first | refine Q1 ?_ | refine Q0 ?_ | refine Qr (h := ?_) | refine Q2 ?_ | refine Qa fun _ => ?_ | refine Q2 ?_ | apply jN
 rename_i bn
 refine JX.part (F' := [(11, .bool true), (10, .pointer (some ⟨bn, 0, none⟩)), (9, .slice Az 2 kz), (8, .pointer (some ⟨bb, 0, none⟩)), (7, .bool true), (6, .pointer (some ⟨bm, 0, none⟩)), (5, .slice Ay 1 ky), (4, .bool true), (3, .slice Ax 2 kx), (2, .pointer (some ⟨ba, 0, none⟩))]) (H' := [(bn, .cells #[.bool (decide ((0 : Int) < 0)), sv (magU (Int.natAbs 0))] 35), (bb, .cells #[nv 2, nv 2, .slice Ab (2 * 2) kb] 26), (bm, .cells #[.bool (decide ((2 : Int) < 0)), sv (magU (Int.natAbs 2))] 35), (ba, .cells #[nv 1, nv 2, .slice Aa (1 * 2) ka] 26)] ++ (Nz ++ (Nb ++ (Ny ++ (Nx ++ (Na ++ [])))))) cqq (HSub.at 0 rfl (HSub.skip (HSub.at 0 rfl (HSub.at 0 rfl (HSub.at 0 rfl (by
  show HSub (Nz ++ (Nb ++ (Ny ++ (Nx ++ (Na ++ []))))) (Nz ++ (N3 ++ (Nb ++ (Ny ++ (Nx ++ (Na ++ []))))))
  exact Ym (Qu (HSub.refl _)))))))) ?_
 refine Qs ?_
 repeat' first | apply jS | refine Q1 ?_ | refine Q6 ?_ | refine QB ?_ | refine QD (h := fun _ => ?_) | apply jD
 refine Qe (A := [_, _, _, _, _]) (B := Nz ++ (Nb ++ (Ny ++ (Nx ++ (Na ++ []))))) rfl pqq rfl eqq rfl (fun w hk hs => XV [6] (ZU hs 0 rfl) rfl rfl dq dq) fun w v w' _ _ _ hR => ?_
 obtain ⟨M1, hM1, hOM1⟩ := hR
 obtain ⟨AM1, kM1, rfl⟩ := hOM1.form
 refine ⟨M1, hM1, ?_⟩
 skip
 refine Q5 pqq rfl eqq rfl (fun w hk hs => Qlj w _ _ _ _ (hOa.rd.at hk hs Q4) (hOx.rd.at hk hs Q4) (hOM1.rd.at hk hs Q4)) fun w v w' _ _ _ hR => ?_
 subst hR
 repeat' first | refine Q1 ?_ | refine Q6 ?_ | refine Qp ?_ | refine QB ?_ | refine QD (h := fun _ => ?_) | fail
 refine Qe (A := [_, _, _, _, _, _]) (B := M1 ++ (Nz ++ (Nb ++ (Ny ++ (Nx ++ (Na ++ [])))))) rfl pqq rfl eqq rfl (fun w hk hs => XV [5] (ZU hs 0 rfl) rfl rfl dq dq) fun w v w' _ _ _ hR => ?_
 obtain ⟨M2, hM2, hOM2⟩ := hR
 obtain ⟨AM2, kM2, rfl⟩ := hOM2.form
 refine ⟨M2, hM2, ?_⟩
 skip
 refine Q5 pqq rfl eqq rfl (fun w hk hs => Qiz w _ _ _ _ (hOa.rd.at hk hs Q4) (hOM2.rd.at hk hs Q4) (hOy.rd.at hk hs Q4)) fun w v w' _ _ _ hR => ?_
 subst hR
 repeat' first | refine Q1 ?_ | refine Q6 ?_ | refine Qp ?_ | refine QB ?_ | refine QD (h := fun _ => ?_) | fail
 refine Qe (A := [_, _, _, _, _, _, _]) (B := M2 ++ (M1 ++ (Nz ++ (Nb ++ (Ny ++ (Nx ++ (Na ++ []))))))) rfl pqq rfl eqq rfl (fun w hk hs => XV [1, 2] (ZU hs 0 rfl) rfl rfl dq dq) fun w v w' _ _ _ hR => ?_
 obtain ⟨M3, hM3, hOM3⟩ := hR
 obtain ⟨AM3, kM3, rfl⟩ := hOM3.form
 refine ⟨M3, hM3, ?_⟩
 skip
 refine Q5 pqq rfl eqq rfl (fun w hk hs => Qiy w _ _ _ _ (hOb.rd.at hk hs Q4) (hOM3.rd.at hk hs Q4) (hOz.rd.at hk hs Q4)) fun w v w' _ _ _ hR => ?_
 subst hR
 repeat' first | refine Qp ?_ | refine QB ?_ | apply jN
 refine JX.part (F' := [(116, .bool false)]) (H' := []) cqq (HSub.nil _) ?_
 refine Qs ?_
 repeat' first | apply jS | apply jO | apply jT | apply jK | refine Q7 rfl ?_
 refine Qe (A := []) (B := []) rfl pqq rfl eqq rfl (fun w hk hs => Qlm w) fun w v w' _ _ _ hR => ?_
 obtain ⟨No, Ao, ko, hNo, rfl, hOo⟩ := hR
 refine ⟨No, hNo, ?_⟩
 repeat' first | refine QD (h := fun _ => ?_) | fail
 refine Qe (A := [_, _, _]) (B := No ++ []) rfl pqq rfl eqq rfl (fun w hk hs => s_Of (X := [[2, 0], [0, 3]]) (r := 2) (c := 2) (e := [2, 0, 0, 3]) (by kernel_rfl) rfl w _ (WL _ _ (ZU hs 0 rfl) (WI.lit [2, 0] (ZU hs 2 rfl) rfl rfl) (WI.lit [0, 3] (ZU hs 1 rfl) rfl rfl)) dq dq (Q3h dq)) fun w v w' _ _ _ hR => ?_
 obtain ⟨Np, Ap, kp, hNp, rfl, hOp⟩ := hR
 refine ⟨Np, hNp, ?_⟩
 skip
 refine Qe (A := [_, _, _]) (B := Np ++ (No ++ [])) rfl pqq rfl eqq rfl (fun w hk hs => Qj5 w _ _ _ _ (hOo.rd.at hk hs Q4) (hOp.rd.at hk hs Q4)) fun w v w' _ _ _ hR => ?_
 obtain ⟨Nt, At, kt, Ag, kg, hNt, hOt, rfl⟩ := hR
 refine ⟨Nt, hNt, ?_⟩
 repeat' first | refine Q1 ?_ | refine Q0 ?_ | refine Qr (h := ?_) | refine Q2 ?_ | refine Qa fun _ => ?_ | refine Q2 ?_ | apply jN
 rename_i bg
 refine JX.part (F' := [(15, .bool true), (13, nv 0), (12, .slice At 1 kt), (14, .pointer (some ⟨bg, 0, none⟩)), (116, .bool false)]) (H' := [(bg, .cells #[nv 2, nv 1, .slice Ag (2 * 1) kg] 26)] ++ (Nt ++ [])) cqq QA ?_
 refine Qs ?_
 repeat' first | apply jS | apply jO
 refine Qe (A := [_]) (B := Nt ++ []) rfl pqq rfl eqq rfl (fun w hk hs => Qlm w) fun w v w' _ _ _ hR => ?_
 obtain ⟨No, Ao, ko, hNo, rfl, hOo⟩ := hR
 refine ⟨No, hNo, ?_⟩
 repeat' first | refine QD (h := fun _ => ?_) | fail
 refine Qe (A := [_, _, _, _]) (B := No ++ (Nt ++ [])) rfl pqq rfl eqq rfl (fun w hk hs => s_Of (X := [[2], [4]]) (r := 2) (c := 1) (e := [2, 4]) (by kernel_rfl) rfl w _ (WL _ _ (ZU hs 0 rfl) (WI.lit [2] (ZU hs 2 rfl) rfl rfl) (WI.lit [4] (ZU hs 1 rfl) rfl rfl)) dq dq (Q3h dq)) fun w v w' _ _ _ hR => ?_
 obtain ⟨Np, Ap, kp, hNp, rfl, hOp⟩ := hR
 refine ⟨Np, hNp, ?_⟩
 skip
 refine Qe (A := [_, _, _, _]) (B := Np ++ (No ++ (Nt ++ []))) rfl pqq rfl eqq rfl (fun w hk hs => Qj4 w _ _ _ _ (hOo.rd.at hk hs Q4) (hOp.rd.at hk hs Q4)) fun w v w' _ _ _ hR => ?_
 obtain ⟨Nu, Au, ku, Ah, kh, hNu, hOu, rfl⟩ := hR
 refine ⟨Nu, hNu, ?_⟩
 repeat' first | refine Q1 ?_ | refine Q0 ?_ | refine Qr (h := ?_) | refine Q2 ?_ | refine Qa fun _ => ?_ | refine Q2 ?_ | apply jN
 rename_i bh
 refine JX.part (F' := [(17, nv 1), (16, .slice Au 1 ku), (15, .bool true), (13, nv 0), (12, .slice At 1 kt), (14, .pointer (some ⟨bg, 0, none⟩)), (116, .bool false)]) (H' := [(bg, .cells #[nv 2, nv 1, .slice Ag (2 * 1) kg] 26)] ++ (Nu ++ (Nt ++ []))) cqq (HSub.at 4 rfl (by
  show HSub (Nu ++ (Nt ++ [])) _
  simp only [List.cons_append, List.nil_append]
  exact HSub.skip (HSub.skip (HSub.skip (HSub.skip (Ym (Qu (Qu (HSub.refl _))))))))) ?_
 refine Qs ?_
 repeat' first | apply jS | refine Q1 ?_ | refine QD (h := fun _ => ?_) | apply jO
 refine Qe (A := [_, _]) (B := Nu ++ (Nt ++ [])) rfl pqq rfl eqq rfl (fun w hk hs => XV [6] (ZU hs 0 rfl) rfl rfl dq dq) fun w v w' _ _ _ hR => ?_
 obtain ⟨M1, hM1, hOM1⟩ := hR
 obtain ⟨AM1, kM1, rfl⟩ := hOM1.form
 refine ⟨M1, hM1, ?_⟩
 skip
 refine Q5 pqq rfl eqq rfl (fun w hk hs => Qcv w _ _ 6 dq (hOt.rd.at hk hs Q4) (hOM1.rd.at hk hs Q4)) fun w v w' _ _ _ hR => ?_
 subst hR
 repeat' first | refine Q1 ?_ | refine Q3 ?_ | refine Qb ?_ | refine Qo ?_ | (refine QV (h1 := ?_) (h2 := ?_) <;> intro hc <;> try (exfalso; omega)) | refine QD (h := fun _ => ?_) | fail
 refine Qe (A := [_, _, _]) (B := M1 ++ (Nu ++ (Nt ++ []))) rfl pqq rfl eqq rfl (fun w hk hs => XV [2] (ZU hs 0 rfl) rfl rfl dq dq) fun w v w' _ _ _ hR => ?_
 obtain ⟨M2, hM2, hOM2⟩ := hR
 obtain ⟨AM2, kM2, rfl⟩ := hOM2.form
 refine ⟨M2, hM2, ?_⟩
 skip
 refine Q5 pqq rfl eqq rfl (fun w hk hs => Qcv w _ _ 2 dq (hOu.rd.at hk hs Q4) (hOM2.rd.at hk hs Q4)) fun w v w' _ _ _ hR => ?_
 subst hR
 repeat' first | refine Q1 ?_ | refine Q0 ?_ | refine Qo ?_ | (refine QV (h1 := ?_) (h2 := ?_) <;> intro hc <;> try (exfalso; omega)) | apply jN
 refine Qs ?_
 repeat' first | apply jR
 exact Qk rfl (fun a w' st => ⟨st.kp, rfl⟩)


theorem Qch {d : Int} : ∀ {n : Nat} {f : Nat → Int}, (∀ i, i < n → d ∣ f i) → d ∣ smI n f
 | 0, _, _ => Int.dvd_zero d
 | n + 1, f, h => by
  rw [smI]
  exact Int.dvd_add (Qch fun i hi => h i oq) (h n oq)
theorem Q0v {m : ZM} {xs b y : List Int} {d : Int} (hs : SolP m xs b) (hr : RefP m b y d) : False := by
 refine hr.2.2.2.2 ?_
 have h1 : dotS y b m.r = smI m.r fun i => smI m.c fun j => y.getD i 0 * (m.at i j * xs.getD j 0) := Z1 fun i hi => by
  rw [← hs.2.2 i hi]
  exact (Q01 _).symm
 have h2 : (smI m.c fun j => smI m.r fun i => y.getD i 0 * (m.at i j * xs.getD j 0)) = smI m.c fun j => colS m y j m.r * xs.getD j 0 := Z1 fun j hj => by
  unfold colS
  rw [← Q9k]
  exact Z1 fun i _ => by rw [Int.mul_assoc]
 rw [h1, Q9i, h2]
 exact Qch fun j hj => Int.dvd_mul_of_dvd_left (hr.2.2.2.1 j hj)
theorem Xd {m : ZM} {xs : List Int} (h : xs.length = m.c) : SolP m xs (appL m xs) := (Q86 h).2 rfl

end Go.Proofs.YtljmapfihjkafaaGreatDoor

namespace Go.Proofs.YtljmapfihjkafaaGreatDoor
open Go Go.RowKit Go.ChangeShapes Go.WideShapes Go.ChangeAt
set_option linter.unusedSimpArgs false
set_option linter.unusedVariables false
set_option linter.unusedSectionVars false

theorem own : ownKnob Tryz.prog.godebug = none := by kernel_rfl
theorem XJ : laidOutB Tryz.prog = true := by kernel_rfl

theorem Qag {n : Int} (h : (Lit.int .i64 n).wf = true) : I64 n := by
 have hmin : IntKind.i64.min = -9223372036854775808 := by decide
 have hmax : IntKind.i64.max = 9223372036854775807 := by decide
 simp only [Lit.wf, Bool.and_eq_true, decide_eq_true_eq, hmin, hmax] at h
 unfold I64
 omega
theorem Qgu {l : List Int} (h : ∀ n ∈ l, I64 n) (i : Nat) : I64 (l.getD i 0) := by
 rw [List.getD]
 cases hi : l[i]? with
 | none => exact ⟨by decide, by decide⟩
 | some x => exact h x (List.mem_of_getElem? hi)


def IsL (w : World) (v : Value) (L : List Int) : Prop := (∀ i, I64 (L.getD i 0)) ∧ WI w v L.length L ∧ L.length < 9223372036854775808
theorem IsL.mono {w w' : World} {v : Value} {L : List Int} (h : IsL w v L) (hk : Kp [] w w') : IsL w' v L := ⟨h.1, h.2.1.mono hk, h.2.2⟩

theorem ZO {H : Type} {enc : TypeId × Value → H} {w : World} {held : Bool} {v : Value} {n base : Nat} {sp : Nat → Bool} {y : DataW H × List MemPlace}
  (hf : DataW.trod enc Tryz.prog w base sp held n 48 [v] = some y) : ∃ L, IsL w v L := by
 rcases open_ints Tryz.underlying48 Tryz.underlying3 (by kernel_rfl) hf with ⟨hcs, _⟩ | ⟨x, l, c, zs, hcs, _, hl, hm, hz, _, hcell, hwz⟩
 ·simp only [List.cons.injEq, and_true] at hcs
  subst hcs
  exact ⟨[], fun i => ⟨by simp, by simp⟩, ⟨rfl, none, 0, rfl, Nat.le_refl _, fun h => absurd h (Nat.lt_irrefl _)⟩, by simp⟩
 ·simp only [List.cons.injEq, and_true] at hcs
  subst hcs
  unfold maxLen at hm
  have hlz : l ≤ zs.length := by rw [hz]; split <;> omega
  have hz2 : zs.length ≤ c := by rw [hz]; split <;> omega
  have hlen : (zs.take l).length = l := by simp; omega
  refine ⟨zs.take l, Qgu fun n hn => Qag (hwz n (List.mem_of_mem_take hn)), ?_, by omega⟩
  rw [hlen]
  refine ⟨by simp; omega, some x, c, rfl, hl, fun h0 => ?_⟩
  obtain ⟨b, o, sp⟩ := x
  have hsp : sp = none := by
   have := hcell 0 oq
   cases sp with
   | none => rfl
   | some s =>
    simp only [Addr.add, if_true, World.cell?] at this
    split at this <;> simp at this
  subst hsp
  refine ⟨⟨b, o, rfl⟩, fun j u hu => ?_⟩
  simp only [vAt]
  rw [List.getElem?_map, List.getElem?_take] at hu
  split at hu
  ·rename_i hj
   have hjz : j < zs.length := by omega
   rw [YX (d := 0) hjz] at hu
   cases hu
   rw [← Zg]
   exact hcell j hjz
  ·cases hu

set_option maxRecDepth 100000 in
theorem Qdp {H : Type} {enc : TypeId × Value → H} {w : World} {r : Reach} {b0 : Nat} {held : Bool} {v : Value} {d : DataW H} {ps : List MemPlace} (hv : Value.okWide Tryz.prog w r b0 48 v)
  (h : DataW.Trod enc Tryz.prog w 0 (fun _ => true) held 48 v d ps) : ∃ L, IsL w v L := by
 obtain ⟨a1, len, cap, rfl⟩ := okWide_slice Tryz.underlying48 hv
 obtain ⟨fuel, hf⟩ := h
 exact ZO (show DataW.trod enc Tryz.prog w 0 (fun _ => true) held fuel 48 [.slice a1 len cap] = some _ from hf)

theorem Q89 {H : Type} {enc : TypeId × Value → H} {P : Program} {w : World} {base : Nat} {sp : Nat → Bool} {held : Bool} {fuel sz : Nat} {t e : TypeId} {cs : List Value} {y : DataW H × List MemPlace} (ht : P.underlying t = some (.slice e)) (hc : P.cellsOf e = sz) (h0 : 0 < sz)
  (h : DataW.trod enc P w base sp held fuel t cs = some y) : cs = [.slice none 0 0] ∨ ∃ (A : Option Addr) (len cap : Nat) (f : Nat → List Value), cs = [.slice A len cap] ∧ len < 9223372036854775808 ∧ (∀ i, i < len → (f i).length = sz ∧ ∃ n z, DataW.trod enc P w base sp held n e (f i) = some z) ∧
   RdW w sz (.slice A len cap) len ((List.range len).flatMap f) := by
 rcases DataW.trod_slice ht h with ⟨h1, _⟩ | ⟨a, len, cap, elems, rest, n, _, rfl, _, hb, hl, hm, hlen, hel, _, _⟩
 ·exact .inl h1
 right
 have hs0 : 0 < len → a.spot = none := fun hp => by
  have h1 := hel 0 hp
  rw [List.getElem?_eq_getElem oq, Option.bind_eq_some_iff, hc] at h1
  obtain ⟨l, hl1, hl2⟩ := h1
  obtain ⟨_, h3, h4⟩ := World.cells?_some hl1
  have h5 := h4 0 oq
  rw [List.getElem?_eq_getElem oq] at h5
  obtain ⟨b, o, s⟩ := a
  cases s with
  | none => rfl
  | some s =>
   simp only [Addr.add, World.cell?, Nat.zero_mul, if_true] at h5
   split at h5 <;> simp at h5
 have each : ∀ i, i < len → ∃ l : List Value, l.length = sz ∧ (∃ z, DataW.trod enc P w base sp held n e l = some z) ∧ ∀ j, j < sz → w.cell? (a.add (i * sz + j)) = l[j]? := fun i hi => by
  have h1 := hel i hi
  rw [List.getElem?_eq_getElem oq, Option.bind_eq_some_iff, hc] at h1
  obtain ⟨l, hl1, hl2⟩ := h1
  obtain ⟨_, h3, h4⟩ := World.cells?_some hl1
  refine ⟨l, h3, ⟨_, hl2⟩, fun j hj => ?_⟩
  rw [← h4 j hj]
  congr 1
  obtain ⟨b, o, s⟩ := a
  obtain rfl : s = none := hs0 oq
  rw [Zg, Zg, Zg, Nat.add_assoc]
 have : ∃ f : Nat → List Value, ∀ i, i < len → (f i).length = sz ∧ (∃ z, DataW.trod enc P w base sp held n e (f i) = some z) ∧ ∀ j, j < sz → w.cell? (a.add (i * sz + j)) = (f i)[j]? := by
  refine ⟨fun i => if hi : i < len then (each i hi).choose else [], fun i hi => ?_⟩
  simp only [dif_pos hi]
  exact (each i hi).choose_spec
 obtain ⟨f, hf⟩ := this
 unfold maxLen at hm
 have hfl : ∀ k, k ≤ len → ((List.range k).flatMap f).length = k * sz ∧ ∀ i, i < k → ∀ j, j < sz → ((List.range k).flatMap f)[i * sz + j]? = (f i)[j]? := fun k => by
  induction k with
  | zero => intro _; exact ⟨by simp, fun i hi => absurd hi (Nat.not_lt_zero _)⟩
  | succ k ih =>
   intro hk
   obtain ⟨h1, h2⟩ := ih oq
   have h3 := (hf k oq).1
   rw [List.range_succ, List.flatMap_append]
   refine ⟨by simp [h1, h3, Nat.add_mul], fun i hi j hj => ?_⟩
   by_cases hik : i < k
   ·have : i * sz + j < k * sz := by
     have := Nat.mul_le_mul_right sz (show i + 1 ≤ k by omega)
     rw [Nat.add_mul, Nat.one_mul] at this
     omega
    rw [List.getElem?_append_left oq]
    exact h2 i hik j hj
   ·obtain rfl : i = k := by omega
    rw [List.getElem?_append_right oq, h1, Nat.add_sub_cancel_left]
    simp
 refine ⟨some a, len, cap, f, rfl, by omega, fun i hi => ⟨(hf i hi).1, _, (hf i hi).2.1⟩, (hfl len (Nat.le_refl _)).1, some a, cap, rfl, hl, fun hp => ?_⟩
 obtain ⟨b, o, s⟩ := a
 have hs : s = none := hs0 hp
 subst hs
 refine ⟨⟨b, o, rfl⟩, fun j u hu => ?_⟩
 have hj : j < len * sz := by
  have := (List.getElem?_eq_some_iff.1 hu).1
  rw [(hfl len (Nat.le_refl _)).1] at this
  exact this
 have hi2 : j / sz < len := (Nat.div_lt_iff_lt_mul h0).2 hj
 have hm2 := Nat.mod_lt j h0
 have hdm : j / sz * sz + j % sz = j := by rw [Nat.mul_comm]; exact Nat.div_add_mod j sz
 have h3 := (hf _ hi2).2.2 _ hm2
 rw [← (hfl len (Nat.le_refl _)).2 _ hi2 _ hm2, hdm, Zg] at h3
 simp only [vAt]
 rw [h3, hu]

def IsLL (w : World) (v : Value) (X : List (List Int)) : Prop := X.length < 9223372036854775808 ∧ ∃ ss : List Value, RdW w 1 v X.length ss ∧ ∀ i, i < X.length → IsL w (ss.getD i (iv 0)) (X.getD i [])
theorem IsLL.mono {w w' : World} {v : Value} {X : List (List Int)} (h : IsLL w v X) (hk : Kp [] w w') : IsLL w' v X := by
 obtain ⟨h0, ss, h1, h2⟩ := h
 exact ⟨h0, ss, h1.mono hk, fun i hi => (h2 i hi).mono hk⟩
theorem Q6z {f : Nat → List Value} : ∀ {n : Nat}, (∀ i, i < n → (f i).length = 1) → (List.range n).flatMap f = (List.range n).map fun i => (f i).getD 0 (iv 0)
 | 0, _ => rfl
 | n + 1, h => by
  rw [List.range_succ, List.flatMap_append, List.map_append, Q6z fun i hi => h i oq]
  have := h n oq
  congr 1
  simp only [List.flatMap_singleton, List.map_singleton]
  match hf : f n, this with
  | [a], _ => rfl

set_option maxRecDepth 100000 in
theorem Q13 {H : Type} {enc : TypeId × Value → H} {w : World} {r : Reach} {b0 : Nat} {held : Bool} {v : Value} {d : DataW H} {ps : List MemPlace} (hv : Value.okWide Tryz.prog w r b0 22 v)
  (h : DataW.Trod enc Tryz.prog w 0 (fun _ => true) held 22 v d ps) : ∃ X, IsLL w v X := by
 obtain ⟨a1, len, cap, rfl⟩ := okWide_slice Tryz.underlying22 hv
 obtain ⟨fuel, hf⟩ := h
 have hc : Tryz.prog.cellsOf 48 = 1 := by kernel_rfl
 rcases Q89 (cs := [.slice a1 len cap]) Tryz.underlying22 hc oq (show DataW.trod enc Tryz.prog w 0 (fun _ => true) held fuel 22 [.slice a1 len cap] = some _ from hf) with hcs | ⟨A, l, c, f, hcs, hl, hall, hR⟩
 ·simp only [List.cons.injEq, and_true, Value.slice.injEq] at hcs
  obtain ⟨rfl, rfl, rfl⟩ := hcs
  exact ⟨[], by simp, [], ⟨rfl, none, 0, rfl, Nat.le_refl _, fun h => absurd h (Nat.lt_irrefl _)⟩, fun i hi => absurd hi (Nat.not_lt_zero _)⟩
 ·simp only [List.cons.injEq, and_true, Value.slice.injEq] at hcs
  obtain ⟨rfl, rfl, rfl⟩ := hcs
  rw [Q6z fun i hi => (hall i hi).1] at hR
  have each : ∀ i, i < len → ∃ L, IsL w ((f i).getD 0 (iv 0)) L := fun i hi => by
   obtain ⟨h1, n, z, h2⟩ := hall i hi
   match hfi : f i, h1 with
   | [a], _ =>
    rw [hfi] at h2
    exact ZO h2
  have : ∃ g : Nat → List Int, ∀ i, i < len → IsL w ((f i).getD 0 (iv 0)) (g i) := ⟨fun i => if hi : i < len then (each i hi).choose else [], fun i hi => by simp only [dif_pos hi]; exact (each i hi).choose_spec⟩
  obtain ⟨g, hg⟩ := this
  refine ⟨(List.range len).map g, by simpa using hl, _, by simpa using hR, fun i hi => ?_⟩
  have hi : i < len := by simpa using hi
  have := hg i hi
  simpa [List.getD, List.getElem?_map, List.getElem?_range hi] using this

theorem cells2i : Tryz.prog.cellsOf 69 = 2 := by kernel_rfl
theorem cells1i : Tryz.prog.cellsOf 3 = 1 := by kernel_rfl
theorem Q5q {P : Program} {w : World} {r : Reach} {base : Nat} {t : TypeId} {v : Value} {n : Nat} {e : TypeId} (ht : P.underlying t = some (.array n e)) (h : Value.okWide P w r base t v) : ∃ cs, v = .agg cs ∧ cs.size = P.cellsOf t := by
 unfold Value.okWide at h
 rw [ht] at h
 cases v <;> simp at h
 exact ⟨_, rfl, h.1⟩
set_option maxRecDepth 100000 in
theorem Qdo {H : Type} {enc : TypeId × Value → H} {w : World} {r : Reach} {b0 : Nat} {held : Bool} {v : Value} {d : DataW H} {ps : List MemPlace} (hv : Value.okWide Tryz.prog w r b0 69 v)
  (h : DataW.Trod enc Tryz.prog w 0 (fun _ => true) held 69 v d ps) : ∃ q0 q1 : Int, v = .agg #[iv q0, iv q1] ∧ I64 q0 ∧ I64 q1 := by
 obtain ⟨cs, rfl, hsz⟩ := Q5q Tryz.underlying69 hv
 rw [cells2i] at hsz
 obtain ⟨l⟩ := cs
 obtain ⟨c0, c1, rfl⟩ : ∃ c0 c1, l = [c0, c1] := by
  match l, hsz with
  | [a, b], _ => exact ⟨a, b, rfl⟩
 obtain ⟨fuel, hf⟩ := h
 obtain ⟨xs, m, _, _, _, hx, hall⟩ := DataW.trod_array Tryz.underlying69 hf
 have a0 := hall 0 oq
 have a1 := hall 1 oq
 rw [cells1i] at a0 a1
 rw [List.getElem?_eq_getElem oq] at a0 a1
 obtain ⟨n0, e0, _, w0⟩ := DataW.trod_int Tryz.underlying3 (show DataW.trod enc Tryz.prog w 0 (fun _ => true) held m 3 [c0] = some _ from a0)
 obtain ⟨n1, e1, _, w1⟩ := DataW.trod_int Tryz.underlying3 (show DataW.trod enc Tryz.prog w 0 (fun _ => true) held m 3 [c1] = some _ from a1)
 simp only [List.cons.injEq, and_true] at e0 e1
 subst e0 e1
 exact ⟨n0, n1, rfl, Qag w0, Qag w1⟩


theorem cells3l : Tryz.prog.cellsOf 66 = 3 := by kernel_rfl
theorem cells1l : Tryz.prog.cellsOf 48 = 1 := by kernel_rfl
theorem Q0b {P : Program} {w : World} {r : Reach} {base : Nat} {t : TypeId} {v : Value} {n : Nat} {e : TypeId} (ht : P.underlying t = some (.array n e)) (h : Value.okWide P w r base t v) : ∃ cs, v = .agg cs ∧ cs.size = P.cellsOf t := by
 unfold Value.okWide at h
 rw [ht] at h
 cases v <;> simp at h
 exact ⟨_, rfl, h.1⟩
set_option maxRecDepth 100000 in
theorem Qbg {H : Type} {enc : TypeId × Value → H} {w : World} {r : Reach} {b0 : Nat} {held : Bool} {v : Value} {d : DataW H} {ps : List MemPlace} (hv : Value.okWide Tryz.prog w r b0 66 v)
  (h : DataW.Trod enc Tryz.prog w 0 (fun _ => true) held 66 v d ps) : ∃ v0 v1 v2 L0 L1 L2, v = .agg #[v0, v1, v2] ∧ IsL w v0 L0 ∧ IsL w v1 L1 ∧ IsL w v2 L2 := by
 obtain ⟨cs, rfl, hsz⟩ := Q0b Tryz.underlying66 hv
 rw [cells3l] at hsz
 obtain ⟨l⟩ := cs
 obtain ⟨c0, c1, c2, rfl⟩ : ∃ c0 c1 c2, l = [c0, c1, c2] := by
  match l, hsz with
  | [x0, x1, x2], _ => exact ⟨x0, x1, x2, rfl⟩
 obtain ⟨fuel, hf⟩ := h
 obtain ⟨xs, m, _, _, _, hx, hall⟩ := DataW.trod_array Tryz.underlying66 hf
 have a0 := hall 0 oq
 have a1 := hall 1 oq
 have a2 := hall 2 oq
 rw [cells1l] at a0 a1 a2
 rw [List.getElem?_eq_getElem oq] at a0 a1 a2
 obtain ⟨L0, h0⟩ := ZO (show DataW.trod enc Tryz.prog w 0 (fun _ => true) held m 48 [c0] = some _ from a0)
 obtain ⟨L1, h1⟩ := ZO (show DataW.trod enc Tryz.prog w 0 (fun _ => true) held m 48 [c1] = some _ from a1)
 obtain ⟨L2, h2⟩ := ZO (show DataW.trod enc Tryz.prog w 0 (fun _ => true) held m 48 [c2] = some _ from a2)
 exact ⟨c0, c1, c2, L0, L1, L2, rfl, h0, h1, h2⟩


theorem Qh6 {H : Type} (d : DataW H) : 1 ≤ Rows.uptoBulk d := by
 cases d with
 | lit l => cases l <;> simp [Rows.uptoBulk]
 | nil => simp [Rows.uptoBulk]
 | ptr d => simp [Rows.uptoBulk]
 | slice elems spare => simp [Rows.uptoBulk]
 | agg parts => simp [Rows.uptoBulk]
 | iface t d => simp [Rows.uptoBulk]
 | map entries => simp [Rows.uptoBulk]
 | held h => simp [Rows.uptoBulk]
theorem Qh7 {H : Type} (l : List (DataW H)) : l.length ≤ Rows.uptoBulkAll l := by
 induction l with
 | nil => simp [Rows.uptoBulkAll]
 | cons x r ih => have := Qh6 x; simp only [Rows.uptoBulkAll, List.length_cons]; omega
theorem Qfd {H : Type} {d : DataW H} {l : List (DataW H)} (h : d ∈ l) : Rows.uptoBulk d ≤ Rows.uptoBulkAll l := by
 induction l with
 | nil => cases h
 | cons x r ih =>
  simp only [Rows.uptoBulkAll]
  cases List.mem_cons.1 h with
  | inl e => subst e; omega
  | inr e => have := ih e; omega
theorem Q0n {H : Type} {enc : TypeId × Value → H} {w : World} {held : Bool} {v : Value} {L : List Int} {n base : Nat} {sp : Nat → Bool} {y : DataW H × List MemPlace}
  (hf : DataW.trod enc Tryz.prog w base sp held n 48 [v] = some y) (hL : IsL w v L) : L.length ≤ Rows.uptoBulk y.1 := by
 obtain ⟨A, c, rfl⟩ := hL.2.1.form
 rcases DataW.trod_slice Tryz.underlying48 hf with ⟨h1, h2⟩ | ⟨a, len, cap, elems, rest, m, _, h1, h2, _, _, _, hlen, _⟩
 ·simp only [List.cons.injEq, and_true, Value.slice.injEq] at h1
  omega
 ·simp only [List.cons.injEq, and_true, Value.slice.injEq] at h1
  subst h2
  have := Qh7 (elems.map (·.1))
  simp only [Rows.uptoBulk]
  rw [List.length_map] at this
  omega
theorem Qgr {H : Type} {enc : TypeId × Value → H} {w : World} {held : Bool} {v : Value} {d : DataW H} {ps : List MemPlace} {L : List Int}
  (h : DataW.Trod enc Tryz.prog w 0 (fun _ => true) held 48 v d ps) (hL : IsL w v L) : L.length ≤ Rows.uptoBulk d := by
 obtain ⟨fuel, hf⟩ := h
 obtain ⟨A, c, rfl⟩ := hL.2.1.form
 exact Q0n (show DataW.trod enc Tryz.prog w 0 (fun _ => true) held fuel 48 [.slice A L.length c] = some _ from hf) hL
set_option maxRecDepth 100000 in
theorem Q8h {H : Type} {enc : TypeId × Value → H} {w : World} {r : Reach} {b0 : Nat} {held : Bool} {v : Value} {d : DataW H} {ps : List MemPlace} (hv : Value.okWide Tryz.prog w r b0 66 v)
  (h : DataW.Trod enc Tryz.prog w 0 (fun _ => true) held 66 v d ps) : ∃ v0 v1 v2 L0 L1 L2, v = .agg #[v0, v1, v2] ∧ (IsL w v0 L0 ∧ L0.length ≤ Rows.uptoBulk d) ∧ (IsL w v1 L1 ∧ L1.length ≤ Rows.uptoBulk d) ∧ IsL w v2 L2 ∧ L2.length ≤ Rows.uptoBulk d := by
 obtain ⟨cs, rfl, hsz⟩ := Q0b Tryz.underlying66 hv
 rw [cells3l] at hsz
 obtain ⟨l⟩ := cs
 obtain ⟨c0, c1, c2, rfl⟩ : ∃ c0 c1 c2, l = [c0, c1, c2] := by
  match l, hsz with
  | [x0, x1, x2], _ => exact ⟨x0, x1, x2, rfl⟩
 obtain ⟨fuel, hf⟩ := h
 obtain ⟨xs, m, _, hd, _, hx, hall⟩ := DataW.trod_array Tryz.underlying66 hf
 have hd1 : d = .agg (xs.map (·.1)) := congrArg Prod.fst hd
 have hle : ∀ i (hi : i < xs.length), Rows.uptoBulk (xs[i].1) ≤ Rows.uptoBulk d := fun i hi => by
  rw [hd1]
  have := Qfd (List.mem_map.2 ⟨xs[i], List.getElem_mem hi, rfl⟩ : xs[i].1 ∈ xs.map (·.1))
  simp only [Rows.uptoBulk]
  omega
 have a0 := hall 0 oq
 have a1 := hall 1 oq
 have a2 := hall 2 oq
 rw [cells1l] at a0 a1 a2
 rw [List.getElem?_eq_getElem oq] at a0 a1 a2
 have a0 := show DataW.trod enc Tryz.prog w 0 (fun _ => true) held m 48 [c0] = some _ from a0
 have a1 := show DataW.trod enc Tryz.prog w 0 (fun _ => true) held m 48 [c1] = some _ from a1
 have a2 := show DataW.trod enc Tryz.prog w 0 (fun _ => true) held m 48 [c2] = some _ from a2
 obtain ⟨L0, h0⟩ := ZO a0
 obtain ⟨L1, h1⟩ := ZO a1
 obtain ⟨L2, h2⟩ := ZO a2
 exact ⟨c0, c1, c2, L0, L1, L2, rfl, ⟨h0, Nat.le_trans (Q0n a0 h0) (hle 0 oq)⟩, ⟨h1, Nat.le_trans (Q0n a1 h1) (hle 1 oq)⟩, h2, Nat.le_trans (Q0n a2 h2) (hle 2 oq)⟩

end Go.Proofs.YtljmapfihjkafaaGreatDoor

namespace Go.Proofs.YtljmapfihjkafaaGreatDoor
open Go Go.RowKit
set_option linter.unusedSimpArgs false
set_option linter.unusedVariables false
set_option linter.unusedSectionVars false

theorem IsLL.rows {w : World} {v : Value} {X : List (List Int)} (h : IsLL w v X) : IsRows w v X := by
 obtain ⟨_, ss, h1, h2⟩ := h
 exact ⟨ss, h1, fun i hi => (h2 i hi).2.1⟩
theorem IsLL.lens {w : World} {v : Value} {X : List (List Int)} (h : IsLL w v X) : X.length < 9223372036854775808 ∧ ∀ i, i < X.length → (X.getD i []).length < 9223372036854775808 := by
 obtain ⟨h0, ss, h1, h2⟩ := h
 exact ⟨h0, fun i hi => (h2 i hi).2.2⟩
theorem Qiu (X : List (List Int)) (f : Int) : RtZ (ofZ (smX X f)) := Xi (by rw [Q0w]; omega) (Nat.le_trans (Qa6 _ (Qcg X f) _) oq)
theorem Qiv (X : List (List Int)) (f : Int) : BdZ 1 (ofZ (smX X f)) := BdZ.of fun i j _ _ => Nat.lt_of_le_of_lt (Qhp X f i j) dq
theorem sm_r (X : List (List Int)) (f : Int) : (ofZ (smX X f)).r ≤ 5 := by show (smX X f).length ≤ 5; rw [Q0w]; omega
theorem sm_c (X : List (List Int)) (f : Int) : (ofZ (smX X f)).c ≤ 5 := Qa6 _ (Qcg X f) _
theorem Wc (L : List Int) (n s k : Nat) {K : Nat} (h : s < 256 ^ K) : BdL K (WD L n s k) := fun i => by
 unfold WD
 rw [List.getD, List.getElem?_map]
 by_cases hi : i < k
 ·rw [List.getElem?_range hi]
  exact Nat.lt_of_le_of_lt (Qad L n s i) h
 ·rw [List.getElem?_eq_none (by simpa using hi)]
  exact Nat.pow_pos dq
theorem Qi0 {x : Int} (h : (Lit.int .i64 x).wf = true) : -9223372036854775808 ≤ x ∧ x < 9223372036854775808 := Qag h
theorem IsL.bd8 {w : World} {v : Value} {L : List Int} (h : IsL w v L) : BdL 8 L := fun i => by
 have := h.1 i
 unfold I64 at this
 omega
theorem Qe2 {P : Prop} {p q : Bool} (h : IsB P (.bool p)) (h' : IsB P (.bool q)) : p = q := by
 obtain ⟨a, ha, hp⟩ := h
 obtain ⟨b, hb, hq⟩ := h'
 cases ha; cases hb
 cases p <;> cases q
 ·rfl
 ·exact absurd (hp.2 (hq.1 rfl)) dq
 ·exact absurd (hq.2 (hp.1 rfl)) dq
 ·rfl


def eqC0 : Array Value := #[iv 0, iv 0, .slice none 0 0, iv 0, iv 0, .slice none 0 0, iv 0, iv 0, .slice none 0 0, iv 0, iv 0, .slice none 0 0, iv 0, iv 0, .slice none 0 0, .slice none 0 0]

set_option maxHeartbeats 1000000 in
theorem Qey (w : World) (v u : Value) (a : XM) (n : Nat) (xs : List WR) (h : ¬ (RX a ∧ a.R = n)) (hl : a.E.length < 1000000000) (hn : n ≤ 2000000) (hv : IsX w v a) (hu : WX w u n xs) :
  Calls Tryz.prog 71 #[v, u] w (Ret fun v w' => Kp [] w w' ∧ v = .tuple #[.agg eqC0, .bool false]) := by
 have hv0 := hv
 obtain ⟨E, rfl, hE⟩ := hv
 obtain ⟨A1, c1, rfl⟩ := hu.form
 unfold eqC0
 refine Q9 [⟨4, 2, [], []⟩] [] spq [] Tryz.func71 rfl mixed (by kernel_rfl) Tryz.ntmps71 Tryz.results71 rfl ⟨by simp, by simp⟩ spq ?_
 simp only [toS, Qd, Qt, Qj, Qm, odAt, Qg, Qw, zipF]
 repeat' first | apply jS | apply jO | apply jN | refine Q0 ?_ | refine Q6 ?_ | refine Qa fun _ => ?_ | refine Qx fun _ => ?_ | apply jT
 rename_i b2 b4
 refine Q5 trivial rfl rfl rfl (fun w hk _ => ZD w _ a (hv0.mono hk) oq) fun w v w' _ _ _ hR => ?_
 obtain ⟨b', rfl, hb'⟩ := hR
 cases b' with
 | false =>
  repeat' first | apply jS | apply jO | apply jN | apply jT | refine Q1 ?_ | refine Q0 ?_ | refine Qo ?_ | refine QB ?_ | refine Q2 ?_ | refine YK (h := ?_) | refine Q2 ?_ | apply jV | refine Q8 rfl ?_ | refine QM (h := ?_) | apply jR
  exact Yk 0 rfl rfl rfl rfl (fun a' w' st => ⟨st.kp, rfl⟩)
 | true =>
  have hne : ¬ a.R = (n : Int) := fun e => h ⟨hb'.1 rfl, e⟩
  repeat' first | apply jS | apply jO | apply jN | apply jT | refine Q1 ?_ | refine Q3 ?_ | refine Q0 ?_ | refine Qb ?_ | refine Q1h (h := ?_) | refine Qp ?_ | refine QB ?_ | refine Q2 ?_ | (refine Z2 (h1 := ?_) (h2 := ?_) <;> intro hc <;> try (exfalso; omega)) | refine YK (h := ?_) | refine Q2 ?_ | apply jV | apply jR | refine Q8 rfl ?_
  all_goals first
   | (exfalso; omega)
   | skip
  exact Yk 0 rfl rfl rfl rfl (fun a' w' st => ⟨st.kp, rfl⟩)

set_option maxHeartbeats 1000000 in
theorem Q68 (w : World) (v u : Value) (a : XM) (n : Nat) (xs : List WR) (h : ¬ (RX a ∧ a.R = n)) (hl : a.E.length < 1000000000) (hn : n ≤ 2000000) (hv : IsX w v a) (hu : WX w u n xs) :
  Calls Tryz.prog 37 #[v, u] w (Ret fun v w' => Kp [] w w' ∧ v = .tuple #[.slice none 0 0, .bool false]) := by
 have hv0 := hv
 obtain ⟨E, rfl, hE⟩ := hv
 obtain ⟨A1, c1, rfl⟩ := hu.form
 refine Q9 [⟨12, 2, [], []⟩] [] spq [] Tryz.func37 rfl mixed (by kernel_rfl) Tryz.ntmps37 Tryz.results37 rfl ⟨by simp, by simp⟩ spq ?_
 simp only [toS, Qd, Qt, Qj, Qm, odAt, Qg, Qw, zipF]
 repeat' first | apply jS | apply jO | apply jN | refine Q1 ?_ | refine Q0 ?_ | refine Q6 ?_ | refine Qx fun _ => ?_ | apply jT
 refine Q5 pqq rfl eqq rfl (fun w hk hs => Qey w _ _ a n xs h hl hn (hv0.mono hk) (hu.mono hk)) fun w v w' _ _ _ hR => ?_
 unfold eqC0 at hR
 subst hR
 repeat' first | apply jS | apply jO | apply jN | apply jT | refine Q1 ?_ | refine Q0 ?_ | refine QB ?_ | refine Qr (h := ?_) | refine Q2 ?_ | refine Qa fun _ => ?_ | refine Q2 ?_ | apply jV | apply jR | refine Q8 rfl ?_
 exact Yl rfl rfl (fun a' w' st => ⟨st.kp, rfl⟩)

set_option maxHeartbeats 1000000 in
theorem Q3u (w : World) (v u : Value) (a : XM) (n : Nat) (xs : List WR) (h : ¬ (RX a ∧ a.R = n)) (hl : a.E.length < 1000000000) (hn : n ≤ 2000000) (hv : IsX w v a) (hu : WX w u n xs) :
  Calls Tryz.prog 38 #[v, u] w (Ret fun v w' => Kp [] w w' ∧ v = .tuple #[.slice none 0 0, Wv 0, .bool false]) := by
 have hv0 := hv
 obtain ⟨E, rfl, hE⟩ := hv
 obtain ⟨A1, c1, rfl⟩ := hu.form
 refine Q9 [⟨8, 2, [0, 1, 2, 3, 4, 5, 6, 7, 8, 9, 10, 11, 13, 12, 14, 15, 16], []⟩] [] spq [] Tryz.func38 rfl mixed (by kernel_rfl) Tryz.ntmps38 Tryz.results38 rfl ⟨by simp, by simp⟩ spq ?_
 simp only [toS, Qd, Qt, Qj, Qm, odAt, Qg, Qw, zipF]
 repeat' first | apply jS | apply jO | apply jN | refine Q1 ?_ | refine Q0 ?_ | refine Q6 ?_ | refine Qa fun _ => ?_ | refine Qx fun _ => ?_ | apply jT
 refine Q5 pqq rfl eqq rfl (fun w hk hs => Qey w _ _ a n xs h hl hn (hv0.mono hk) (hu.mono hk)) fun w v w' _ _ _ hR => ?_
 unfold eqC0 at hR
 subst hR
 repeat' first | apply jS | apply jO | apply jN | apply jT | refine Q1 ?_ | refine Q0 ?_ | refine QB ?_ | refine Qr (h := ?_) | refine Q2 ?_ | refine Qa fun _ => ?_ | refine YK (h := ?_) | refine Q2 ?_ | apply jV | apply jR | refine Q8 rfl ?_
 refine Y5 [.slice none 0 0, .agg #[.bool false, .string ⟨#[]⟩], .bool false] (JR.tmp rfl (Zl 1 rfl rfl rfl (JR.tmp rfl JR.nil))) (fun a' w' st => ⟨st.kp, ?_⟩)
 rw [Wz0]
 rfl


set_option maxHeartbeats 1000000 in
theorem Qf7 (w : World) (v : Value) (a : XM) (h : ¬ RX a) (hl : a.E.length < 1000000000) (hv : IsX w v a) :
  Calls Tryz.prog 15 #[v] w (Ret fun v w' => Kp [] w w' ∧ v = Qbt) := by
 have hv0 := hv
 obtain ⟨E, rfl, hE⟩ := hv
 refine Q9 [⟨3, 1, [0, 3, 1, 2, 4, 5, 6, 7], []⟩] [] spq [] Tryz.func15 rfl mixed (by kernel_rfl) Tryz.ntmps15 Tryz.results15 rfl ⟨by simp, by simp⟩ spq ?_
 simp only [toS, Qd, Qt, Qj, Qm, odAt, Qg, Qw, zipF]
 repeat' first | apply jS | apply jO | apply jN | refine Q6 ?_ | refine Qa fun _ => ?_ | refine Qx fun _ => ?_ | apply jT
 refine Q5 trivial rfl rfl rfl (fun w hk _ => ZD w _ a (hv0.mono hk) oq) fun w v w' _ _ _ hR => ?_
 obtain ⟨b', rfl, hb'⟩ := hR
 cases b' with
 | true => exact absurd (hb'.1 rfl) h
 | false =>
  repeat' first | apply jS | apply jO | apply jN | apply jT | refine QB ?_ | refine Q2 ?_ | refine YK (h := ?_) | refine Q2 ?_ | apply jV | apply jR | refine Q8 rfl ?_
  exact QL 0 rfl rfl rfl (fun a' w' st => ⟨st.kp, rfl⟩)

set_option maxHeartbeats 2000000 in
theorem Qkm (L : Nat) (w : World) (v u z : Value) (a : XM) (n : Nat) (xs : List Int) (h : ¬ RX a) (hl : a.E.length < 1000000000) (hv : IsX w v a) (hu : WZ w u n xs) (hn : n ≤ 2000000) (hL : L ≤ 8000000) (hy : BdL L xs) (hz : ∃ A c k, z = .slice A k c) :
  Calls Tryz.prog 39 #[v, u, z] w (Ret fun v w' => Kp [] w w' ∧ v = .bool false) := by
 have hv0 := hv
 obtain ⟨E, rfl, hE⟩ := hv
 obtain ⟨A1, c1, rfl⟩ := hu.form
 obtain ⟨A2, c2, k2, rfl⟩ := hz
 refine Q9 [⟨1, 2, [], []⟩] [] spq [] Tryz.func39 rfl mixed (by kernel_rfl) Tryz.ntmps39 Tryz.results39 rfl ⟨by simp, by simp⟩ spq ?_
 simp only [toS, Qd, Qt, Qj, Qm, odAt, Qg, Qw, zipF]
 repeat' first | apply jS | apply jO | apply jD | apply jN | refine Q1 ?_ | refine Q0 ?_ | refine Q6 ?_ | refine Qx fun _ => ?_ | apply jT
 rename_i b3
 refine Qe (A := [_]) (B := []) rfl pqq rfl eqq rfl (fun w hk hs => Q8y L w _ n xs (hu.mono hk) hn oq hy) fun w v w' _ _ _ hR => ?_
 obtain ⟨N1, hN1, hO1⟩ := hR
 obtain ⟨A3, c3, rfl⟩ := hO1.form
 refine ⟨N1, hN1, ?_⟩
 skip
 refine Q5 pqq rfl eqq rfl (fun w hk hs => Qax w _ _ a n (xs.map wz) (fun hh => h hh.1) hl hn (hv0.mono hk) (hO1.rd.at hk hs Q4)) fun w v w' _ _ _ hR => ?_
 subst hR
 repeat' first | apply jS | apply jO | apply jN | apply jT | refine Q1 ?_ | refine Q0 ?_ | refine Qp ?_ | refine Qr (h := ?_) | refine QM (h := ?_) | apply jR
 exact Qk rfl (fun a w' st => ⟨st.kp, rfl⟩)


set_option maxHeartbeats 2000000 in
theorem Qkn (w : World) (v u z t : Value) (a : XM) (h : ¬ RX a) (hl : a.E.length < 1000000000) (hv : IsX w v a) (hu : ∃ A k c, u = .slice A k c) (hz : ∃ A k c, z = .slice A k c) (ht : ∃ p l, t = wv p l) :
  Calls Tryz.prog 43 #[v, u, z, t] w (Ret fun v w' => Kp [] w w' ∧ v = .bool false) := by
 have hv0 := hv
 obtain ⟨E, rfl, hE⟩ := hv
 obtain ⟨A1, k1, c1, rfl⟩ := hu
 obtain ⟨A2, k2, c2, rfl⟩ := hz
 obtain ⟨p, l, rfl⟩ := ht
 refine Q9 [⟨10, 1, [], []⟩] [] spq [] Tryz.func43 rfl mixed (by kernel_rfl) Tryz.ntmps43 Tryz.results43 rfl ⟨by simp, by simp⟩ spq ?_
 simp only [toS, Qd, Qt, Qj, Qm, odAt, Qg, Qw, zipF]
 repeat' first | apply jS | apply jO | apply jN | refine Q0 ?_ | refine Q6 ?_ | refine Qx fun _ => ?_ | refine Qdc (h := fun _ => ?_) | apply jT
 refine Q5 trivial rfl rfl rfl (fun w hk _ => ZD w _ a (hv0.mono hk) oq) fun w v w' _ _ _ hR => ?_
 obtain ⟨b', rfl, hb'⟩ := hR
 cases b' with
 | true => exact absurd (hb'.1 rfl) h
 | false =>
  repeat' first | apply jS | apply jO | apply jN | apply jT | refine Q1 ?_ | refine Q0 ?_ | refine Qo ?_ | refine QB ?_ | apply jV | refine Q8 rfl ?_ | refine QM (h := ?_) | apply jR
  exact Qk rfl (fun a w' st => ⟨st.kp, rfl⟩)


set_option maxHeartbeats 2000000 in
theorem Qf6 (w : World) (v u : Value) (a b : XM) (h : ¬ (RX a ∧ RX b)) (hl : a.E.length < 1000000000) (hl2 : b.E.length < 1000000000) (hv : IsX w v a) (hu : IsX w u b) :
  Calls Tryz.prog 23 #[v, u] w (Ret fun v w' => Kp [] w w' ∧ v = .tuple #[.slice none 0 0, iv 0, Qbt, .bool false]) := by
 have hv0 := hv
 have hu0 := hu
 obtain ⟨E, rfl, hE⟩ := hv
 obtain ⟨E2, rfl, hE2⟩ := hu
 refine Q9 [⟨1, 0, [0, 1, 2, 3, 4, 5, 6, 7, 8, 9, 10, 11, 12, 13, 14, 15, 16, 18, 19, 17, 20, 21], []⟩, ⟨24, 2, [], []⟩, ⟨27, 2, [], []⟩] [] spq [] Tryz.func23 rfl mixed (by kernel_rfl) Tryz.ntmps23 Tryz.results23 rfl ⟨by simp, by simp⟩ spq ?_
 simp only [toS, Qd, Qt, Qj, Qm, odAt, Qg, Qw, zipF]
 repeat' first | apply jS | apply jO | apply jD | apply jN | refine Q0 ?_ | refine Q6 ?_ | refine Qa fun _ => ?_ | refine Qx fun _ => ?_ | apply jT
 refine Q5 trivial rfl rfl rfl (fun w hk _ => ZD w _ a (hv0.mono hk) oq) fun w v w' _ _ _ hR => ?_
 obtain ⟨b', rfl, hb'⟩ := hR
 cases b' with
 | false =>
  repeat' first | apply jS | apply jO | apply jN | apply jT | refine Q1 ?_ | refine Q0 ?_ | refine Qo ?_ | refine QB ?_ | refine Q2 ?_ | refine YK (h := ?_) | refine Q2 ?_ | refine Zi (k := _) (h := ?_) | apply jV | refine Q8 rfl ?_ | refine QM (h := ?_) | apply jR
  exact Y5 [.slice none 0 0, iv 0, .agg #[iv 0, iv 0, .slice none 0 0], .bool false] (Yu 2 rfl rfl rfl (Yu 1 rfl rfl rfl (Zl 0 rfl rfl rfl (JR.tmp rfl JR.nil)))) (fun a' w' st => ⟨st.kp, rfl⟩)
 | true =>
  repeat' first | refine Q1 ?_ | refine Q6 ?_ | refine QB ?_ | fail
  refine Q5 trivial rfl rfl rfl (fun w hk _ => ZD w _ b (hu0.mono hk) oq) fun w v w' _ _ _ hR => ?_
  obtain ⟨b'', rfl, hb''⟩ := hR
  cases b'' with
  | true => exact absurd ⟨hb'.1 rfl, hb''.1 rfl⟩ h
  | false =>
   repeat' first | apply jS | apply jO | apply jN | apply jT | refine Q1 ?_ | refine Q0 ?_ | refine Qo ?_ | refine Qp ?_ | refine QB ?_ | refine Q2 ?_ | refine YK (h := ?_) | refine Q2 ?_ | refine Zi (k := _) (h := ?_) | apply jV | refine Q8 rfl ?_ | refine QM (h := ?_) | apply jR
   exact Y5 [.slice none 0 0, iv 0, .agg #[iv 0, iv 0, .slice none 0 0], .bool false] (Yu 2 rfl rfl rfl (Yu 1 rfl rfl rfl (Zl 0 rfl rfl rfl (JR.tmp rfl JR.nil)))) (fun a' w' st => ⟨st.kp, rfl⟩)

end Go.Proofs.YtljmapfihjkafaaGreatDoor

