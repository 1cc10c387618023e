import Derived.Test.YtdehklhdjbkneaaDoorMe
import Derived.Test.YtdehklhdjbkneaaDoorMi
import Derived.Test.YtdehklhdjbkneaaDoorTie
import Derived.Test.YtdehklhdjbkneaaDoorCards
import Derived.Shelf.Lay
import Derived.Lay
import Derived.LaidOnce
import Derived.SevenTiedAt
/- Arrays put together. -/
namespace Go.Proofs.YtdehklhdjbkneaaDoor
open Go Go.RowKit
set_option linter.unusedSimpArgs false
set_option linter.unusedVariables false
set_option linter.unusedSectionVars false

theorem run_buildA {P : Program} {t e : TypeId} {n s : Nat} {zc cs : Array Value} {parts : Array (Nat × Value)} [hA : TAr P t n e] [hS : TSz P e s] [hZ : TZ0 P t zc] (hc : Instr.fill (fun i => some (i * s, s)) zc parts.toList = some cs) (w : World) :
    (Instr.build t parts).run P w = .ok (.agg cs) w := by
  obtain ⟨z, hz, rfl⟩ := hZ
  have h2 : (zeroValue t).run P w = .ok z w := by
    unfold zeroValue typeInfo
    cases hi : P.info? t with
    | none => rw [hi] at hz; cases hz
    | some i => rw [hi] at hz; simp only [Option.bind_some] at hz; simp [hi, hz]
  simp only [Instr.build, Sem.run_bind, h2, Result.andThen_ok, run_underlying hA.und, hS.size, hc, Sem.run_pure]

/-- An array put together of its elements. -/
theorem r_buildA {c : Cx} {Q : Exit → Act → World → Prop} {m : Mode} {F : SFrame} {H : SHeap} {r : List SOp} {g : Option (Option Tmp × Bool)} {ns : Bool} {d : Tmp} {ty t e : TypeId} {n s : Nat} {zc cs : Array Value} {parts : Array (Nat × Operand)} {l : List (Nat × Value)} [TAr c.P t n e] [TSz c.P e s] [TZ0 c.P t zc] (hd : dstOk c.n (some d) = true) (hg : guardF F g = some true)
    (hp : evParts F parts.toList = some l) (hc : Instr.fill (fun i => some (i * s, s)) zc l = some cs) (h : JO c Q m r ((d, (.agg cs)) :: F) H) : JO c Q m (⟨some d, .build t parts, ty, g, .mov, ns⟩ :: r) F H :=
  r_mov hd hg (fun a w fr => by
    have h1 : (parts.map fun (i, x) => (i, a.eval x)).toList = l := by rw [Array.toList_map]; exact evParts_map fr hp
    simp only [execOp, Sem.run_bind, run_buildA (P := c.P) (t := t) (cs := cs) (parts := parts.map fun (i, x) => (i, a.eval x)) (by rw [h1]; exact hc), Result.andThen_ok, Sem.run_pure]) h

theorem RdY.form {c : Cx} {N : SHeap} {v : Value} {n : Nat} {xs : List Nat} (h : RdY c N v n xs) : ∃ A cap, v = .slice A n cap := by
  obtain ⟨_, A, cap, rfl, _⟩ := h
  exact ⟨_, _, rfl⟩

end Go.Proofs.YtdehklhdjbkneaaDoor

/- Divisors agree with the reference model. Written by genW12.py. -/
namespace Go.Proofs.YtdehklhdjbkneaaDoor
open Go Go.RowKit
set_option linter.unusedSimpArgs false
set_option linter.unusedVariables false
set_option linter.unusedSectionVars false

structure GSz (a b g x y : Int) (k : Nat) : Prop where
  lin : x * a + y * b = g
  g0 : 0 ≤ g
  gs : g.natAbs < 256 ^ (k + 1)
  xs : x.natAbs < 256 ^ (k + 1)
  ys : y.natAbs < 256 ^ (2 * k + 4)
  da : g ∣ a
  db : g ∣ b
theorem GcdP.sz {a b g x y : Int} {k : Nat} (h : GcdP a b g x y) (ha : a.natAbs < 256 ^ k) (hb : b.natAbs < 256 ^ k) : GSz a b g x y k := by
  have hpk : 0 < 256 ^ k := Nat.pow_pos (by decide)
  have hp1 : 256 ^ (k + 1) = 256 ^ k * 256 := Nat.pow_succ ..
  have da : g ∣ a := by rw [h.e]; exact Int.gcd_dvd_left ..
  have db : g ∣ b := by rw [h.e]; exact Int.gcd_dvd_right ..
  have hg0 : 0 ≤ g := by rw [h.e]; omega
  by_cases hb0 : b = 0
  · obtain ⟨hx, hy⟩ := h.z hb0
    have h1 : a.sign * a = a.natAbs := by
      rcases Int.lt_trichotomy a 0 with h | h | h
      · rw [Int.sign_eq_neg_one_of_neg h]; omega
      · subst h; rfl
      · rw [Int.sign_eq_one_of_pos h]; omega
    have hg : g = a.natAbs := by rw [h.e, hb0, Int.gcd_zero_right]
    have hx1 : x.natAbs ≤ 1 := by rw [hx]; rcases Int.lt_trichotomy a 0 with h | h | h <;> simp [Int.sign_eq_neg_one_of_neg, Int.sign_eq_one_of_pos, h]
    refine ⟨?_, hg0, by omega, by omega, by rw [hy]; exact Nat.pow_pos (by decide), da, db⟩
    rw [hx, hy, Int.zero_mul, Int.add_zero, hg]
    exact h1
  · obtain ⟨h1, h2, h3⟩ := h.n hb0
    have hgp : 0 < g := by
      have h4 : 0 < Int.gcd a b := Int.gcd_pos_of_ne_zero_right _ hb0
      have := h.e
      omega
    have hgb : g.natAbs ≤ b.natAbs := Nat.le_of_dvd (by omega) (Int.natAbs_dvd_natAbs.2 db)
    have hxb : x.natAbs ≤ b.natAbs := by
      have h5 : x * 1 ≤ x * g := Int.mul_le_mul_of_nonneg_left (by omega) h1
      omega
    refine ⟨h3, hg0, by omega, by omega, ?_, da, db⟩
    have h6 : (y * b).natAbs ≤ g.natAbs + (x * a).natAbs := by omega
    have h7 : y.natAbs ≤ (y * b).natAbs := by rw [Int.natAbs_mul]; exact Nat.le_mul_of_pos_right _ (by omega)
    have h8 : (x * a).natAbs < 256 ^ (k + 1 + k) := mul_lt (show x.natAbs < 256 ^ (k + 1) by omega) ha
    have h9 : 256 ^ (2 * k + 4) = 256 ^ (k + 1 + k) * 16777216 := by rw [show 2 * k + 4 = k + 1 + k + 3 by omega, Nat.pow_add]
    have h10 : 256 ^ k ≤ 256 ^ (k + 1 + k) := Nat.pow_le_pow_right (by decide) (by omega)
    omega
theorem two_cells {cs : Array Value} {a b : Value} {o : Nat} (h0 : cs[o]? = some a) (h1 : cs[o + 1]? = some b) : ∀ j, j < 2 → cs[o + j]? = (#[a, b] : Array Value)[j]?
  | 0, _ => h0
  | 1, _ => h1
theorem quo_zero {a g : Int} (h : g ∣ a) : ∃ Q o, (if g = 0 then Value.tuple #[Wv 0, Wv 0, .bool false] else .tuple #[Wv (a / g), Wv (a % g), .bool true]) = .tuple #[Wv Q, Wv 0, .bool o] := by
  by_cases h0 : g = 0
  · exact ⟨0, false, by rw [if_pos h0]⟩
  · exact ⟨a / g, true, by rw [if_neg h0, Int.emod_eq_zero_of_dvd h]⟩

set_option maxHeartbeats 16000000 in
theorem c_WideDivisors (w : World) (v0 v1 v2 : Value) (h0 : IsNum w v0) (h1 : IsNum w v1) (h2 : IsNum w v2) :
    Calls Tryd.prog 5 #[v0, v1, v2] w (Ret fun v w' => Kp [] w w' ∧ v = .bool true) := by
  obtain ⟨x0, x1, x2, rfl⟩ := h0.form
  obtain ⟨y0, y1, y2, rfl⟩ := h1.form
  obtain ⟨neg, vb, zi, n, xs, rfl, hW, hx, hn⟩ := h2
  obtain ⟨Az, cz, rfl⟩ := hW.form
  have hlx := hW.len
  obtain ⟨kk, hk, hk8, hmin⟩ : ∃ k : Nat, k ≤ n ∧ k ≤ 8 ∧ (if (8 : Int) < (n : Int) then (8 : Int) else (n : Int)) = (k : Int) := by
    by_cases h : 8 < n
    · exact ⟨8, by omega, by omega, by rw [if_pos (by omega)]; rfl⟩
    · exact ⟨n, by omega, by omega, by rw [if_neg (by omega)]⟩
  refine calls_of_S [⟨4, 1, [0, 2, 5, 7, 9, 11, 1, 3, 4, 6, 8, 10, 12, 13, 14, 15, 16], []⟩, ⟨14, 0, [0, 1, 2, 3, 4, 5, 6, 7, 8, 9, 10, 11, 12, 13, 14, 15, 16, 17, 18, 19, 20, 21, 22, 23, 24, 25, 26, 27, 28, 29, 30, 32, 33, 36, 31, 34, 35, 37, 38], []⟩] [] (by simp) [] Tryd.func5 rfl mixed (by kernel_rfl) Tryd.ntmps5 Tryd.results5 rfl ⟨by simp, by simp⟩ (by simp) ?_
  simp only [toS, textOps, toSOp, kindAt, kindOf, odAt, sopsAt, ordOf, zipF]
  (repeat' (first | refine JC.seq ?_ | refine JC.ops ?_ | refine JO.nil ?_ | refine JX.thenN ?_ | (apply r_assign; exact rfl; exact rfl; exact rfl) | (apply r_boxA; exact rfl; exact rfl; exact rfl; exact rfl; intro _)))
  rename_i b3 b4 b5
  refine r_call0 (by first | trivial | exact ⟨rfl, rfl⟩) rfl rfl rfl (fun w hk hs => c_sanity w) fun w v w' _ _ _ hR => ?_
  subst hR
  (repeat' (first | refine JC.seq ?_ | refine JC.ops ?_ | refine JO.nil ?_ | refine JX.thenN ?_ | (apply r_fieldAddr; exact rfl; exact rfl; exact rfl) | (apply r_assign; exact rfl; exact rfl; exact rfl) | (apply r_load; exact rfl; exact rfl; exact rfl; exact rfl; (first | exact at0 | exact at1 | exact at2 | exact at3 | exact at4 | exact at5 | exact at6 | exact at7 | exact at8 | exact at9); exact rfl) | (apply r_len; exact rfl; exact rfl; exact rfl) | (apply r_min; exact rfl; exact rfl; exact rfl; exact rfl)))
  rw [hmin]
  refine r_sliceY (l := 0) (h' := kk) rfl rfl rfl (WY.rd hW rfl []) rfl rfl (.inr ⟨rfl, rfl⟩) rfl rfl (.inl rfl) (by omega) hk (fun v' hRd _ => ?_)
  rw [List.drop_zero, Nat.sub_zero] at hRd
  obtain ⟨A2, c2, rfl⟩ := hRd.form
  (repeat' (first | refine JC.seq ?_ | refine JC.ops ?_ | refine JO.nil ?_ | refine JX.thenN ?_ | (apply r_fieldAddr; exact rfl; exact rfl; exact rfl) | (apply r_loadN; exact rfl; exact rfl; exact rfl; exact rfl; (first | exact at0 | exact at1 | exact at2 | exact at3 | exact at4 | exact at5 | exact at6 | exact at7 | exact at8 | exact at9); exact rfl) | (apply r_store; exact rfl; (first | exact trivial | exact ⟨rfl, rfl⟩); exact rfl; exact rfl; (first | exact at0 | exact at1 | exact at2 | exact at3 | exact at4 | exact at5 | exact at6 | exact at7 | exact at8 | exact at9); exact rfl; exact rfl; (first | exact Nat.le_of_ble_eq_true rfl | (simp; done) | omega))))
  refine r_call0 (by first | trivial | exact ⟨rfl, rfl⟩) rfl rfl rfl (fun w hk hs => c_NumWide w neg _ zi kk (xs.take kk) (hRd.at hk hs (by (repeat' first | exact HSub.nil _ | exact HSub.hd | exact HSub.in0 | exact HSub.refl _ | refine HSub.skip ?_ | refine HSub.skipN ?_))) (fun u hu => hx u (List.mem_of_mem_take hu)) (by omega)) fun w v w' _ _ _ hR => ?_
  obtain ⟨c, pc, lc, rfl, hlc, hnc⟩ := hR
  have Zc : IsZ (wv pc lc) c 40 := ⟨pc, lc, rfl, hlc, hnc⟩
  (repeat' (first | refine JC.seq ?_ | refine JC.opsD ?_ | refine JO.nil ?_ | refine JX.thenN ?_ | (apply r_loadN; exact rfl; exact rfl; exact rfl; exact rfl; (first | exact at0 | exact at1 | exact at2 | exact at3 | exact at4 | exact at5 | exact at6 | exact at7 | exact at8 | exact at9); exact rfl) | (apply r_storeN; exact rfl; (first | exact trivial | exact ⟨rfl, rfl⟩); exact rfl; exact rfl; (first | exact at0 | exact at1 | exact at2 | exact at3 | exact at4 | exact at5 | exact at6 | exact at7 | exact at8 | exact at9); exact rfl; exact rfl; exact rfl) | (apply r_allocZ; exact rfl; exact rfl; exact rfl; intro _) | (apply r_storeN; exact rfl; (first | exact trivial | exact ⟨rfl, rfl⟩); exact rfl; exact rfl; (first | exact at0 | exact at1 | exact at2 | exact at3 | exact at4 | exact at5 | exact at6 | exact at7 | exact at8 | exact at9); exact rfl; exact rfl; exact rfl)))
  refine r_call0 (by first | trivial | exact ⟨rfl, rfl⟩) rfl rfl rfl (fun w hk hs => c_Num w _ (h0.mono hk)) fun w v w' _ _ _ hR => ?_
  obtain ⟨a, pa, la, rfl, hla, hna⟩ := hR
  have Za : IsZ (wv pa la) a 40 := ⟨pa, la, rfl, hla, hna⟩
  skip
  refine r_call0 (by first | trivial | exact ⟨rfl, rfl⟩) rfl rfl rfl (fun w hk hs => c_Num w _ (h1.mono hk)) fun w v w' _ _ _ hR => ?_
  obtain ⟨b, pb, lb, rfl, hlb, hnb⟩ := hR
  have Zb : IsZ (wv pb lb) b 40 := ⟨pb, lb, rfl, hlb, hnb⟩
  skip
  refine r_buildA (l := [(0, wv pa la), (1, wv pb lb)]) (cs := #[.bool pa, sv la, .bool pb, sv lb]) rfl rfl rfl rfl ?_
  skip
  refine r_call0 (by first | trivial | exact ⟨rfl, rfl⟩) rfl rfl rfl (fun w hk hs => c_Num w _ (h0.mono hk)) fun w v w' _ _ _ hR => ?_
  obtain ⟨d, pd, ld, rfl, hld, hnd⟩ := hR
  have Zd : IsZ (wv pd ld) d 40 := ⟨pd, ld, rfl, hld, hnd⟩
  skip
  refine r_call0 (by first | trivial | exact ⟨rfl, rfl⟩) rfl rfl rfl (fun w hk hs => c_Mul w _ _ d c 100 (Zd.mono (by decide)) (Zc.mono (by decide)) (by decide)) fun w v w' _ _ _ hR => ?_
  subst hR
  skip
  refine r_call0 (by first | trivial | exact ⟨rfl, rfl⟩) rfl rfl rfl (fun w hk hs => c_Num w _ (h1.mono hk)) fun w v w' _ _ _ hR => ?_
  obtain ⟨e, pe, le, rfl, hle, hne⟩ := hR
  have Ze : IsZ (wv pe le) e 40 := ⟨pe, le, rfl, hle, hne⟩
  skip
  refine r_call0 (by first | trivial | exact ⟨rfl, rfl⟩) rfl rfl rfl (fun w hk hs => c_Mul w _ _ e c 100 (Ze.mono (by decide)) (Zc.mono (by decide)) (by decide)) fun w v w' _ _ _ hR => ?_
  subst hR
  skip
  have zA := Za.mono (show 40 ≤ 80 by decide)
  have zB := Zb.mono (show 40 ≤ 80 by decide)
  have zD : IsZ (wv (decide (d * c < 0)) (magU (d * c).natAbs)) (d * c) 80 := (Zd.mul Zc).mono (show 40 + 40 ≤ 80 by decide)
  have zE : IsZ (wv (decide (e * c < 0)) (magU (e * c).natAbs)) (e * c) 80 := (Ze.mul Zc).mono (show 40 + 40 ≤ 80 by decide)
  refine r_buildA (l := [(0, Wv (d * c)), (1, Wv (e * c))]) (cs := #[.bool (decide (d * c < 0)), sv (magU (d * c).natAbs), .bool (decide (e * c < 0)), sv (magU (e * c).natAbs)]) rfl rfl rfl rfl ?_
  generalize d * c = D at zD ⊢
  generalize e * c = E at zE ⊢
  generalize decide (D < 0) = pD at zD ⊢
  generalize decide (E < 0) = pE at zE ⊢
  generalize magU D.natAbs = lD at zD ⊢
  generalize magU E.natAbs = lE at zE ⊢
  refine r_buildA (l := [(0, .agg #[.bool pa, sv la, .bool pb, sv lb]), (1, .agg #[.bool pD, sv lD, .bool pE, sv lE])]) (cs := #[.bool pa, sv la, .bool pb, sv lb, .bool pD, sv lD, .bool pE, sv lE]) rfl rfl rfl rfl ?_
  (repeat' (first | refine JC.seq ?_ | refine JC.ops ?_ | refine JO.nil ?_ | refine JX.thenN ?_ | (apply r_assign; exact rfl; exact rfl; exact rfl) | (apply r_storeN; exact rfl; (first | exact trivial | exact ⟨rfl, rfl⟩); exact rfl; exact rfl; (first | exact at0 | exact at1 | exact at2 | exact at3 | exact at4 | exact at5 | exact at6 | exact at7 | exact at8 | exact at9); exact rfl; exact rfl; exact rfl) | (apply r_allocZ; exact rfl; exact rfl; exact rfl; intro _) | (apply r_storeN; exact rfl; (first | exact trivial | exact ⟨rfl, rfl⟩); exact rfl; exact rfl; (first | exact at0 | exact at1 | exact at2 | exact at3 | exact at4 | exact at5 | exact at6 | exact at7 | exact at8 | exact at9); exact rfl; exact rfl; exact rfl) | refine JC.block ?_))
  rename_i b9
  refine JC.loopH (ι := Nat) ⟨fun z => [(10, nv z), (9, .pointer (some ⟨b9, 0, none⟩)), (7, .bool true)], fun _ => [(b9, .cells #[.bool pa, sv la, .bool pb, sv lb, .bool pD, sv lD, .bool pE, sv lE] 34 (0, 0))], fun z => z ≤ 2, fun z => 2 - z⟩ 0 (Nat.zero_le _) (by repeat first | exact trivial | refine ⟨rfl, ?_⟩) (by (repeat' first | exact HSub.refl _ | exact HSub.nil _ | refine HSub.at 0 rfl ?_ | refine HSub.at 1 rfl ?_ | refine HSub.at 2 rfl ?_ | refine HSub.at 3 rfl ?_ | refine HSub.at 4 rfl ?_ | refine HSub.at 5 rfl ?_ | refine HSub.at 6 rfl ?_ | refine HSub.at 7 rfl ?_ | refine HSub.at 8 rfl ?_ | refine HSub.at 9 rfl ?_ | refine HSub.at 10 rfl ?_ | refine HSub.at 11 rfl ?_ | refine HSub.at 12 rfl ?_ | refine HSub.at 13 rfl ?_ | refine HSub.at 14 rfl ?_ | refine HSub.at 15 rfl ?_ | refine HSub.at 16 rfl ?_ | refine HSub.at 17 rfl ?_ | refine HSub.at 18 rfl ?_ | refine HSub.at 19 rfl ?_ | refine HSub.segH ?_ | refine HSub.skip ?_ | refine HSub.skipN ?_)) (fun i hi => ?_)
  dsimp only at hi ⊢
  have hi3 : i = 0 ∨ i = 1 ∨ i = 2 := by omega
  rcases hi3 with rfl | rfl | rfl
  · (repeat' (first | refine JC.seq ?_ | refine JC.ops ?_ | refine JO.nil ?_ | refine JX.thenN ?_ | (apply r_move; exact rfl; exact rfl; exact rfl) | (apply r_lss; exact rfl; exact rfl; exact rfl; exact rfl; all_goals intro hc; all_goals try (exfalso; omega)) | (apply r_idxArr; exact rfl; exact rfl; exact rfl; exact rfl; omega) | refine JC.skip ?_ | refine JC.condT rfl ?_ | refine JC.block ?_))
    refine r_idxArr (j := 0) rfl rfl rfl rfl (by decide) ?_
    refine r_loadM 0 (vs := #[.bool pa, sv la]) rfl rfl rfl rfl rfl rfl (two_cells rfl rfl) ?_
    (repeat' (first | refine JC.seq ?_ | refine JC.ops ?_ | refine JO.nil ?_ | refine JX.thenN ?_ | (apply r_move; exact rfl; exact rfl; exact rfl) | (apply r_storeN; exact rfl; (first | exact trivial | exact ⟨rfl, rfl⟩); exact rfl; exact rfl; (first | exact at0 | exact at1 | exact at2 | exact at3 | exact at4 | exact at5 | exact at6 | exact at7 | exact at8 | exact at9); exact rfl; exact rfl; exact rfl) | (apply r_idxArr; exact rfl; exact rfl; exact rfl; exact rfl; omega) | (apply r_allocZ; exact rfl; exact rfl; exact rfl; intro _) | (apply r_storeN; exact rfl; (first | exact trivial | exact ⟨rfl, rfl⟩); exact rfl; exact rfl; (first | exact at0 | exact at1 | exact at2 | exact at3 | exact at4 | exact at5 | exact at6 | exact at7 | exact at8 | exact at9); exact rfl; exact rfl; exact rfl)))
    rename_i b11
    refine r_idxArr (j := 1) rfl rfl rfl rfl (by decide) ?_
    refine r_loadM 1 (vs := #[.bool pb, sv lb]) rfl rfl rfl rfl rfl rfl (two_cells rfl rfl) ?_
    (repeat' (first | refine JC.seq ?_ | refine JC.ops ?_ | refine JO.nil ?_ | refine JX.thenN ?_ | (apply r_loadN; exact rfl; exact rfl; exact rfl; exact rfl; (first | exact at0 | exact at1 | exact at2 | exact at3 | exact at4 | exact at5 | exact at6 | exact at7 | exact at8 | exact at9); exact rfl) | (apply r_storeN; exact rfl; (first | exact trivial | exact ⟨rfl, rfl⟩); exact rfl; exact rfl; (first | exact at0 | exact at1 | exact at2 | exact at3 | exact at4 | exact at5 | exact at6 | exact at7 | exact at8 | exact at9); exact rfl; exact rfl; exact rfl) | (apply r_allocZ; exact rfl; exact rfl; exact rfl; intro _) | (apply r_storeN; exact rfl; (first | exact trivial | exact ⟨rfl, rfl⟩); exact rfl; exact rfl; (first | exact at0 | exact at1 | exact at2 | exact at3 | exact at4 | exact at5 | exact at6 | exact at7 | exact at8 | exact at9); exact rfl; exact rfl; exact rfl)))
    rename_i b12
    refine r_call0 (by first | trivial | exact ⟨rfl, rfl⟩) rfl rfl rfl (fun w hk hs => c_Gcd w _ _ a b 80 zA zB (by decide)) fun w v w' _ _ _ hR => ?_
    obtain ⟨g, x, y, rfl, hG⟩ := hR
    have hS := hG.sz zA.lt zB.lt
    have zG : IsZ (Wv g) g 300 := (IsZ.can hS.gs).mono (by decide)
    have zX : IsZ (Wv x) x 200 := (IsZ.can hS.xs).mono (by decide)
    have zY : IsZ (Wv y) y 200 := (IsZ.can hS.ys).mono (by decide)
    (repeat' (first | refine JC.seq ?_ | refine JC.ops ?_ | refine JO.nil ?_ | refine JX.thenN ?_ | (apply r_move; exact rfl; exact rfl; exact rfl) | (apply r_loadN; exact rfl; exact rfl; exact rfl; exact rfl; (first | exact at0 | exact at1 | exact at2 | exact at3 | exact at4 | exact at5 | exact at6 | exact at7 | exact at8 | exact at9); exact rfl) | (apply r_extract; exact rfl; exact rfl; exact rfl; exact rfl) | (apply r_storeN; exact rfl; (first | exact trivial | exact ⟨rfl, rfl⟩); exact rfl; exact rfl; (first | exact at0 | exact at1 | exact at2 | exact at3 | exact at4 | exact at5 | exact at6 | exact at7 | exact at8 | exact at9); exact rfl; exact rfl; exact rfl) | (apply r_allocZ; exact rfl; exact rfl; exact rfl; intro _) | (apply r_storeN; exact rfl; (first | exact trivial | exact ⟨rfl, rfl⟩); exact rfl; exact rfl; (first | exact at0 | exact at1 | exact at2 | exact at3 | exact at4 | exact at5 | exact at6 | exact at7 | exact at8 | exact at9); exact rfl; exact rfl; exact rfl)))
    rename_i b13 b14 b15
    refine r_call0 (by first | trivial | exact ⟨rfl, rfl⟩) rfl rfl rfl (fun w hk hs => c_GcdR w _ _ a b 80 zA zB (by decide)) fun w v w' _ _ _ hR => ?_
    obtain ⟨g', x', y', rfl, hG'⟩ := hR
    obtain ⟨rfl, rfl, rfl⟩ := hG'.unique hG
    (repeat' (first | refine JC.seq ?_ | refine JC.ops ?_ | refine JO.nil ?_ | refine JX.thenN ?_ | (apply r_move; exact rfl; exact rfl; exact rfl) | (apply r_loadN; exact rfl; exact rfl; exact rfl; exact rfl; (first | exact at0 | exact at1 | exact at2 | exact at3 | exact at4 | exact at5 | exact at6 | exact at7 | exact at8 | exact at9); exact rfl) | (apply r_extract; exact rfl; exact rfl; exact rfl; exact rfl) | (apply r_storeN; exact rfl; (first | exact trivial | exact ⟨rfl, rfl⟩); exact rfl; exact rfl; (first | exact at0 | exact at1 | exact at2 | exact at3 | exact at4 | exact at5 | exact at6 | exact at7 | exact at8 | exact at9); exact rfl; exact rfl; exact rfl) | (apply r_allocZ; exact rfl; exact rfl; exact rfl; intro _) | (apply r_storeN; exact rfl; (first | exact trivial | exact ⟨rfl, rfl⟩); exact rfl; exact rfl; (first | exact at0 | exact at1 | exact at2 | exact at3 | exact at4 | exact at5 | exact at6 | exact at7 | exact at8 | exact at9); exact rfl; exact rfl; exact rfl)))
    rename_i b16 b17 b18
    obtain ⟨Q1, o1, hQ1⟩ := quo_zero hS.da
    obtain ⟨Q2, o2, hQ2⟩ := quo_zero hS.db
    refine r_call0 (by first | trivial | exact ⟨rfl, rfl⟩) rfl rfl rfl (fun w hk hs => c_Quo w _ _ a g' 300 (zA.mono (by decide)) zG (by decide)) fun w v w' _ _ _ hR => ?_
    rw [hQ1] at hR
    subst hR
    (repeat' (first | refine JC.seq ?_ | refine JC.ops ?_ | refine JO.nil ?_ | refine JX.thenN ?_ | (apply r_move; exact rfl; exact rfl; exact rfl) | (apply r_assign; exact rfl; exact rfl; exact rfl) | (apply r_loadN; exact rfl; exact rfl; exact rfl; exact rfl; (first | exact at0 | exact at1 | exact at2 | exact at3 | exact at4 | exact at5 | exact at6 | exact at7 | exact at8 | exact at9); exact rfl) | (apply r_extract; exact rfl; exact rfl; exact rfl; exact rfl) | (apply r_storeN; exact rfl; (first | exact trivial | exact ⟨rfl, rfl⟩); exact rfl; exact rfl; (first | exact at0 | exact at1 | exact at2 | exact at3 | exact at4 | exact at5 | exact at6 | exact at7 | exact at8 | exact at9); exact rfl; exact rfl; exact rfl) | (apply r_allocZ; exact rfl; exact rfl; exact rfl; intro _) | (apply r_storeN; exact rfl; (first | exact trivial | exact ⟨rfl, rfl⟩); exact rfl; exact rfl; (first | exact at0 | exact at1 | exact at2 | exact at3 | exact at4 | exact at5 | exact at6 | exact at7 | exact at8 | exact at9); exact rfl; exact rfl; exact rfl)))
    rename_i b19 b20
    refine r_call0 (by first | trivial | exact ⟨rfl, rfl⟩) rfl rfl rfl (fun w hk hs => c_Quo w _ _ b g' 300 (zB.mono (by decide)) zG (by decide)) fun w v w' _ _ _ hR => ?_
    rw [hQ2] at hR
    subst hR
    (repeat' (first | refine JC.seq ?_ | refine JO.nil ?_ | refine JX.thenN ?_ | (apply r_move; exact rfl; exact rfl; exact rfl) | (apply r_assign; exact rfl; exact rfl; exact rfl) | (apply r_extract; exact rfl; exact rfl; exact rfl; exact rfl) | (apply r_storeN; exact rfl; (first | exact trivial | exact ⟨rfl, rfl⟩); exact rfl; exact rfl; (first | exact at0 | exact at1 | exact at2 | exact at3 | exact at4 | exact at5 | exact at6 | exact at7 | exact at8 | exact at9); exact rfl; exact rfl; exact rfl) | (apply r_allocZ; exact rfl; exact rfl; exact rfl; intro _) | (apply r_storeN; exact rfl; (first | exact trivial | exact ⟨rfl, rfl⟩); exact rfl; exact rfl; (first | exact at0 | exact at1 | exact at2 | exact at3 | exact at4 | exact at5 | exact at6 | exact at7 | exact at8 | exact at9); exact rfl; exact rfl; exact rfl)))
    rename_i b22 b23
    refine JC.opsDs [(b11, .cells #[.bool pa, sv la] 27 (0, 0)), (b12, .cells #[.bool pb, sv lb] 27 (0, 0)), (b13, .cells (wc g') 27 (0, 0)), (b14, .cells (wc x') 27 (0, 0)), (b15, .cells (wc y') 27 (0, 0)), (b16, .cells (wc g') 27 (0, 0)), (b17, .cells (wc x') 27 (0, 0)), (b18, .cells (wc y') 27 (0, 0)), (b20, .cells (wc 0) 27 (0, 0)), (b23, .cells (wc 0) 27 (0, 0))] (by (repeat' first | exact HSub.refl _ | exact HSub.nil _ | refine HSub.at 0 rfl ?_ | refine HSub.at 1 rfl ?_ | refine HSub.at 2 rfl ?_ | refine HSub.at 3 rfl ?_ | refine HSub.at 4 rfl ?_ | refine HSub.at 5 rfl ?_ | refine HSub.at 6 rfl ?_ | refine HSub.at 7 rfl ?_ | refine HSub.at 8 rfl ?_ | refine HSub.at 9 rfl ?_ | refine HSub.at 10 rfl ?_ | refine HSub.at 11 rfl ?_ | refine HSub.at 12 rfl ?_ | refine HSub.at 13 rfl ?_ | refine HSub.at 14 rfl ?_ | refine HSub.at 15 rfl ?_ | refine HSub.at 16 rfl ?_ | refine HSub.at 17 rfl ?_ | refine HSub.at 18 rfl ?_ | refine HSub.at 19 rfl ?_ | refine HSub.segH ?_ | refine HSub.skip ?_ | refine HSub.skipN ?_)) ?_
    (repeat' (first | (apply r_move; exact rfl; exact rfl; exact rfl) | (apply r_loadN; exact rfl; exact rfl; exact rfl; exact rfl; (first | exact at0 | exact at1 | exact at2 | exact at3 | exact at4 | exact at5 | exact at6 | exact at7 | exact at8 | exact at9); exact rfl) | (apply r_pickF; exact rfl; exact rfl; exact rfl; exact rfl) | (apply r_neWF; exact rfl; exact rfl; exact rfl; exact rfl; (first | exact rfl | assumption))))
    have hsg : 0 ≤ g'.sign := Int.sign_nonneg_iff.2 hS.g0
    have hlin := hS.lin
    have z1 : IsZ (Wv (x' * a)) (x' * a) 399 := (zX.mul zA).mono (by decide)
    have z2 : IsZ (Wv (y' * b)) (y' * b) 399 := (zY.mul zB).mono (by decide)
    refine r_call0 (by first | trivial | exact ⟨rfl, rfl⟩) rfl rfl rfl (fun w hk hs => c_Sign w _ g' 300 zG (by decide)) fun w v w' _ _ _ hR => ?_
    generalize g'.sign = sg at hsg hR
    subst hR
    (repeat' (first | (apply r_move; exact rfl; exact rfl; exact rfl) | (apply r_loadN; exact rfl; exact rfl; exact rfl; exact rfl; (first | exact at0 | exact at1 | exact at2 | exact at3 | exact at4 | exact at5 | exact at6 | exact at7 | exact at8 | exact at9); exact rfl) | (apply r_pickF; exact rfl; exact rfl; exact rfl; exact rfl) | (apply r_lss; exact rfl; exact rfl; exact rfl; exact rfl; all_goals intro hc; all_goals try (exfalso; omega)) | (apply r_buildL; exact rfl; exact rfl; exact rfl; exact rfl; exact rfl)))
    refine r_neWF (a := 0) (b := 0) rfl (by first | rfl | exact ⟨rfl, rfl⟩) rfl rfl rfl ?_
    (repeat' (first | (apply r_move; exact rfl; exact rfl; exact rfl) | (apply r_loadN; exact rfl; exact rfl; exact rfl; exact rfl; (first | exact at0 | exact at1 | exact at2 | exact at3 | exact at4 | exact at5 | exact at6 | exact at7 | exact at8 | exact at9); exact rfl) | (apply r_pickF; exact rfl; exact rfl; exact rfl; exact rfl) | (apply r_buildL; exact rfl; exact rfl; exact rfl; exact rfl; exact rfl)))
    refine r_neWF (a := 0) (b := 0) rfl (by first | rfl | exact ⟨rfl, rfl⟩) rfl rfl rfl ?_
    (repeat' (first | (apply r_move; exact rfl; exact rfl; exact rfl) | (apply r_loadN; exact rfl; exact rfl; exact rfl; exact rfl; (first | exact at0 | exact at1 | exact at2 | exact at3 | exact at4 | exact at5 | exact at6 | exact at7 | exact at8 | exact at9); exact rfl) | (apply r_pickF; exact rfl; exact rfl; exact rfl; exact rfl)))
    refine r_call0 (by first | trivial | exact ⟨rfl, rfl⟩) rfl rfl rfl (fun w hk hs => c_Mul w _ _ x' a 200 zX (zA.mono (by decide)) (by decide)) fun w v w' _ _ _ hR => ?_
    subst hR
    skip
    refine r_call0 (by first | trivial | exact ⟨rfl, rfl⟩) rfl rfl rfl (fun w hk hs => c_Mul w _ _ y' b 200 zY (zB.mono (by decide)) (by decide)) fun w v w' _ _ _ hR => ?_
    subst hR
    skip
    refine r_call0 (by first | trivial | exact ⟨rfl, rfl⟩) rfl rfl rfl (fun w hk hs => c_Add w _ _ (x' * a) (y' * b) 399 z1 z2 (by decide)) fun w v w' _ _ _ hR => ?_
    subst hR
    (repeat' (first | refine JC.ops ?_ | refine JO.nil ?_ | refine JX.thenN ?_ | (apply r_move; exact rfl; exact rfl; exact rfl) | (apply r_assign; exact rfl; exact rfl; exact rfl) | (apply r_add1; exact rfl; exact rfl; exact rfl; exact rfl; omega) | (apply r_pickF; exact rfl; exact rfl; exact rfl; exact rfl) | (apply r_neWF; exact rfl; exact rfl; exact rfl; exact rfl; (first | exact rfl | assumption)) | refine JC.skip ?_ | refine JC.condF rfl ?_ | refine JX.blockN ?_))
    exact JX.roundH 1 (by show 1 ≤ 2; decide) (by show 2 - 1 < 2 - 0; decide) (by repeat first | exact trivial | refine ⟨rfl, ?_⟩) (by (repeat' first | exact HSub.refl _ | exact HSub.nil _ | refine HSub.at 0 rfl ?_ | refine HSub.at 1 rfl ?_ | refine HSub.at 2 rfl ?_ | refine HSub.at 3 rfl ?_ | refine HSub.at 4 rfl ?_ | refine HSub.at 5 rfl ?_ | refine HSub.at 6 rfl ?_ | refine HSub.at 7 rfl ?_ | refine HSub.at 8 rfl ?_ | refine HSub.at 9 rfl ?_ | refine HSub.at 10 rfl ?_ | refine HSub.at 11 rfl ?_ | refine HSub.at 12 rfl ?_ | refine HSub.at 13 rfl ?_ | refine HSub.at 14 rfl ?_ | refine HSub.at 15 rfl ?_ | refine HSub.at 16 rfl ?_ | refine HSub.at 17 rfl ?_ | refine HSub.at 18 rfl ?_ | refine HSub.at 19 rfl ?_ | refine HSub.segH ?_ | refine HSub.skip ?_ | refine HSub.skipN ?_))
  · (repeat' (first | refine JC.seq ?_ | refine JC.ops ?_ | refine JO.nil ?_ | refine JX.thenN ?_ | (apply r_move; exact rfl; exact rfl; exact rfl) | (apply r_lss; exact rfl; exact rfl; exact rfl; exact rfl; all_goals intro hc; all_goals try (exfalso; omega)) | (apply r_idxArr; exact rfl; exact rfl; exact rfl; exact rfl; omega) | refine JC.skip ?_ | refine JC.condT rfl ?_ | refine JC.block ?_))
    refine r_idxArr (j := 0) rfl rfl rfl rfl (by decide) ?_
    refine r_loadM 0 (vs := #[.bool pD, sv lD]) rfl rfl rfl rfl rfl rfl (two_cells rfl rfl) ?_
    (repeat' (first | refine JC.seq ?_ | refine JC.ops ?_ | refine JO.nil ?_ | refine JX.thenN ?_ | (apply r_move; exact rfl; exact rfl; exact rfl) | (apply r_storeN; exact rfl; (first | exact trivial | exact ⟨rfl, rfl⟩); exact rfl; exact rfl; (first | exact at0 | exact at1 | exact at2 | exact at3 | exact at4 | exact at5 | exact at6 | exact at7 | exact at8 | exact at9); exact rfl; exact rfl; exact rfl) | (apply r_idxArr; exact rfl; exact rfl; exact rfl; exact rfl; omega) | (apply r_allocZ; exact rfl; exact rfl; exact rfl; intro _) | (apply r_storeN; exact rfl; (first | exact trivial | exact ⟨rfl, rfl⟩); exact rfl; exact rfl; (first | exact at0 | exact at1 | exact at2 | exact at3 | exact at4 | exact at5 | exact at6 | exact at7 | exact at8 | exact at9); exact rfl; exact rfl; exact rfl)))
    rename_i b11
    refine r_idxArr (j := 1) rfl rfl rfl rfl (by decide) ?_
    refine r_loadM 1 (vs := #[.bool pE, sv lE]) rfl rfl rfl rfl rfl rfl (two_cells rfl rfl) ?_
    (repeat' (first | refine JC.seq ?_ | refine JC.ops ?_ | refine JO.nil ?_ | refine JX.thenN ?_ | (apply r_loadN; exact rfl; exact rfl; exact rfl; exact rfl; (first | exact at0 | exact at1 | exact at2 | exact at3 | exact at4 | exact at5 | exact at6 | exact at7 | exact at8 | exact at9); exact rfl) | (apply r_storeN; exact rfl; (first | exact trivial | exact ⟨rfl, rfl⟩); exact rfl; exact rfl; (first | exact at0 | exact at1 | exact at2 | exact at3 | exact at4 | exact at5 | exact at6 | exact at7 | exact at8 | exact at9); exact rfl; exact rfl; exact rfl) | (apply r_allocZ; exact rfl; exact rfl; exact rfl; intro _) | (apply r_storeN; exact rfl; (first | exact trivial | exact ⟨rfl, rfl⟩); exact rfl; exact rfl; (first | exact at0 | exact at1 | exact at2 | exact at3 | exact at4 | exact at5 | exact at6 | exact at7 | exact at8 | exact at9); exact rfl; exact rfl; exact rfl)))
    rename_i b12
    refine r_call0 (by first | trivial | exact ⟨rfl, rfl⟩) rfl rfl rfl (fun w hk hs => c_Gcd w _ _ D E 80 zD zE (by decide)) fun w v w' _ _ _ hR => ?_
    obtain ⟨g, x, y, rfl, hG⟩ := hR
    have hS := hG.sz zD.lt zE.lt
    have zG : IsZ (Wv g) g 300 := (IsZ.can hS.gs).mono (by decide)
    have zX : IsZ (Wv x) x 200 := (IsZ.can hS.xs).mono (by decide)
    have zY : IsZ (Wv y) y 200 := (IsZ.can hS.ys).mono (by decide)
    (repeat' (first | refine JC.seq ?_ | refine JC.ops ?_ | refine JO.nil ?_ | refine JX.thenN ?_ | (apply r_move; exact rfl; exact rfl; exact rfl) | (apply r_loadN; exact rfl; exact rfl; exact rfl; exact rfl; (first | exact at0 | exact at1 | exact at2 | exact at3 | exact at4 | exact at5 | exact at6 | exact at7 | exact at8 | exact at9); exact rfl) | (apply r_extract; exact rfl; exact rfl; exact rfl; exact rfl) | (apply r_storeN; exact rfl; (first | exact trivial | exact ⟨rfl, rfl⟩); exact rfl; exact rfl; (first | exact at0 | exact at1 | exact at2 | exact at3 | exact at4 | exact at5 | exact at6 | exact at7 | exact at8 | exact at9); exact rfl; exact rfl; exact rfl) | (apply r_allocZ; exact rfl; exact rfl; exact rfl; intro _) | (apply r_storeN; exact rfl; (first | exact trivial | exact ⟨rfl, rfl⟩); exact rfl; exact rfl; (first | exact at0 | exact at1 | exact at2 | exact at3 | exact at4 | exact at5 | exact at6 | exact at7 | exact at8 | exact at9); exact rfl; exact rfl; exact rfl)))
    rename_i b13 b14 b15
    refine r_call0 (by first | trivial | exact ⟨rfl, rfl⟩) rfl rfl rfl (fun w hk hs => c_GcdR w _ _ D E 80 zD zE (by decide)) fun w v w' _ _ _ hR => ?_
    obtain ⟨g', x', y', rfl, hG'⟩ := hR
    obtain ⟨rfl, rfl, rfl⟩ := hG'.unique hG
    (repeat' (first | refine JC.seq ?_ | refine JC.ops ?_ | refine JO.nil ?_ | refine JX.thenN ?_ | (apply r_move; exact rfl; exact rfl; exact rfl) | (apply r_loadN; exact rfl; exact rfl; exact rfl; exact rfl; (first | exact at0 | exact at1 | exact at2 | exact at3 | exact at4 | exact at5 | exact at6 | exact at7 | exact at8 | exact at9); exact rfl) | (apply r_extract; exact rfl; exact rfl; exact rfl; exact rfl) | (apply r_storeN; exact rfl; (first | exact trivial | exact ⟨rfl, rfl⟩); exact rfl; exact rfl; (first | exact at0 | exact at1 | exact at2 | exact at3 | exact at4 | exact at5 | exact at6 | exact at7 | exact at8 | exact at9); exact rfl; exact rfl; exact rfl) | (apply r_allocZ; exact rfl; exact rfl; exact rfl; intro _) | (apply r_storeN; exact rfl; (first | exact trivial | exact ⟨rfl, rfl⟩); exact rfl; exact rfl; (first | exact at0 | exact at1 | exact at2 | exact at3 | exact at4 | exact at5 | exact at6 | exact at7 | exact at8 | exact at9); exact rfl; exact rfl; exact rfl)))
    rename_i b16 b17 b18
    obtain ⟨Q1, o1, hQ1⟩ := quo_zero hS.da
    obtain ⟨Q2, o2, hQ2⟩ := quo_zero hS.db
    refine r_call0 (by first | trivial | exact ⟨rfl, rfl⟩) rfl rfl rfl (fun w hk hs => c_Quo w _ _ D g' 300 (zD.mono (by decide)) zG (by decide)) fun w v w' _ _ _ hR => ?_
    rw [hQ1] at hR
    subst hR
    (repeat' (first | refine JC.seq ?_ | refine JC.ops ?_ | refine JO.nil ?_ | refine JX.thenN ?_ | (apply r_move; exact rfl; exact rfl; exact rfl) | (apply r_assign; exact rfl; exact rfl; exact rfl) | (apply r_loadN; exact rfl; exact rfl; exact rfl; exact rfl; (first | exact at0 | exact at1 | exact at2 | exact at3 | exact at4 | exact at5 | exact at6 | exact at7 | exact at8 | exact at9); exact rfl) | (apply r_extract; exact rfl; exact rfl; exact rfl; exact rfl) | (apply r_storeN; exact rfl; (first | exact trivial | exact ⟨rfl, rfl⟩); exact rfl; exact rfl; (first | exact at0 | exact at1 | exact at2 | exact at3 | exact at4 | exact at5 | exact at6 | exact at7 | exact at8 | exact at9); exact rfl; exact rfl; exact rfl) | (apply r_allocZ; exact rfl; exact rfl; exact rfl; intro _) | (apply r_storeN; exact rfl; (first | exact trivial | exact ⟨rfl, rfl⟩); exact rfl; exact rfl; (first | exact at0 | exact at1 | exact at2 | exact at3 | exact at4 | exact at5 | exact at6 | exact at7 | exact at8 | exact at9); exact rfl; exact rfl; exact rfl)))
    rename_i b19 b20
    refine r_call0 (by first | trivial | exact ⟨rfl, rfl⟩) rfl rfl rfl (fun w hk hs => c_Quo w _ _ E g' 300 (zE.mono (by decide)) zG (by decide)) fun w v w' _ _ _ hR => ?_
    rw [hQ2] at hR
    subst hR
    (repeat' (first | refine JC.seq ?_ | refine JO.nil ?_ | refine JX.thenN ?_ | (apply r_move; exact rfl; exact rfl; exact rfl) | (apply r_assign; exact rfl; exact rfl; exact rfl) | (apply r_extract; exact rfl; exact rfl; exact rfl; exact rfl) | (apply r_storeN; exact rfl; (first | exact trivial | exact ⟨rfl, rfl⟩); exact rfl; exact rfl; (first | exact at0 | exact at1 | exact at2 | exact at3 | exact at4 | exact at5 | exact at6 | exact at7 | exact at8 | exact at9); exact rfl; exact rfl; exact rfl) | (apply r_allocZ; exact rfl; exact rfl; exact rfl; intro _) | (apply r_storeN; exact rfl; (first | exact trivial | exact ⟨rfl, rfl⟩); exact rfl; exact rfl; (first | exact at0 | exact at1 | exact at2 | exact at3 | exact at4 | exact at5 | exact at6 | exact at7 | exact at8 | exact at9); exact rfl; exact rfl; exact rfl)))
    rename_i b22 b23
    refine JC.opsDs [(b11, .cells #[.bool pD, sv lD] 27 (0, 0)), (b12, .cells #[.bool pE, sv lE] 27 (0, 0)), (b13, .cells (wc g') 27 (0, 0)), (b14, .cells (wc x') 27 (0, 0)), (b15, .cells (wc y') 27 (0, 0)), (b16, .cells (wc g') 27 (0, 0)), (b17, .cells (wc x') 27 (0, 0)), (b18, .cells (wc y') 27 (0, 0)), (b20, .cells (wc 0) 27 (0, 0)), (b23, .cells (wc 0) 27 (0, 0))] (by (repeat' first | exact HSub.refl _ | exact HSub.nil _ | refine HSub.at 0 rfl ?_ | refine HSub.at 1 rfl ?_ | refine HSub.at 2 rfl ?_ | refine HSub.at 3 rfl ?_ | refine HSub.at 4 rfl ?_ | refine HSub.at 5 rfl ?_ | refine HSub.at 6 rfl ?_ | refine HSub.at 7 rfl ?_ | refine HSub.at 8 rfl ?_ | refine HSub.at 9 rfl ?_ | refine HSub.at 10 rfl ?_ | refine HSub.at 11 rfl ?_ | refine HSub.at 12 rfl ?_ | refine HSub.at 13 rfl ?_ | refine HSub.at 14 rfl ?_ | refine HSub.at 15 rfl ?_ | refine HSub.at 16 rfl ?_ | refine HSub.at 17 rfl ?_ | refine HSub.at 18 rfl ?_ | refine HSub.at 19 rfl ?_ | refine HSub.segH ?_ | refine HSub.skip ?_ | refine HSub.skipN ?_)) ?_
    (repeat' (first | (apply r_move; exact rfl; exact rfl; exact rfl) | (apply r_loadN; exact rfl; exact rfl; exact rfl; exact rfl; (first | exact at0 | exact at1 | exact at2 | exact at3 | exact at4 | exact at5 | exact at6 | exact at7 | exact at8 | exact at9); exact rfl) | (apply r_pickF; exact rfl; exact rfl; exact rfl; exact rfl) | (apply r_neWF; exact rfl; exact rfl; exact rfl; exact rfl; (first | exact rfl | assumption))))
    have hsg : 0 ≤ g'.sign := Int.sign_nonneg_iff.2 hS.g0
    have hlin := hS.lin
    have z1 : IsZ (Wv (x' * D)) (x' * D) 399 := (zX.mul zD).mono (by decide)
    have z2 : IsZ (Wv (y' * E)) (y' * E) 399 := (zY.mul zE).mono (by decide)
    refine r_call0 (by first | trivial | exact ⟨rfl, rfl⟩) rfl rfl rfl (fun w hk hs => c_Sign w _ g' 300 zG (by decide)) fun w v w' _ _ _ hR => ?_
    generalize g'.sign = sg at hsg hR
    subst hR
    (repeat' (first | (apply r_move; exact rfl; exact rfl; exact rfl) | (apply r_loadN; exact rfl; exact rfl; exact rfl; exact rfl; (first | exact at0 | exact at1 | exact at2 | exact at3 | exact at4 | exact at5 | exact at6 | exact at7 | exact at8 | exact at9); exact rfl) | (apply r_pickF; exact rfl; exact rfl; exact rfl; exact rfl) | (apply r_lss; exact rfl; exact rfl; exact rfl; exact rfl; all_goals intro hc; all_goals try (exfalso; omega)) | (apply r_buildL; exact rfl; exact rfl; exact rfl; exact rfl; exact rfl)))
    refine r_neWF (a := 0) (b := 0) rfl (by first | rfl | exact ⟨rfl, rfl⟩) rfl rfl rfl ?_
    (repeat' (first | (apply r_move; exact rfl; exact rfl; exact rfl) | (apply r_loadN; exact rfl; exact rfl; exact rfl; exact rfl; (first | exact at0 | exact at1 | exact at2 | exact at3 | exact at4 | exact at5 | exact at6 | exact at7 | exact at8 | exact at9); exact rfl) | (apply r_pickF; exact rfl; exact rfl; exact rfl; exact rfl) | (apply r_buildL; exact rfl; exact rfl; exact rfl; exact rfl; exact rfl)))
    refine r_neWF (a := 0) (b := 0) rfl (by first | rfl | exact ⟨rfl, rfl⟩) rfl rfl rfl ?_
    (repeat' (first | (apply r_move; exact rfl; exact rfl; exact rfl) | (apply r_loadN; exact rfl; exact rfl; exact rfl; exact rfl; (first | exact at0 | exact at1 | exact at2 | exact at3 | exact at4 | exact at5 | exact at6 | exact at7 | exact at8 | exact at9); exact rfl) | (apply r_pickF; exact rfl; exact rfl; exact rfl; exact rfl)))
    refine r_call0 (by first | trivial | exact ⟨rfl, rfl⟩) rfl rfl rfl (fun w hk hs => c_Mul w _ _ x' D 200 zX (zD.mono (by decide)) (by decide)) fun w v w' _ _ _ hR => ?_
    subst hR
    skip
    refine r_call0 (by first | trivial | exact ⟨rfl, rfl⟩) rfl rfl rfl (fun w hk hs => c_Mul w _ _ y' E 200 zY (zE.mono (by decide)) (by decide)) fun w v w' _ _ _ hR => ?_
    subst hR
    skip
    refine r_call0 (by first | trivial | exact ⟨rfl, rfl⟩) rfl rfl rfl (fun w hk hs => c_Add w _ _ (x' * D) (y' * E) 399 z1 z2 (by decide)) fun w v w' _ _ _ hR => ?_
    subst hR
    (repeat' (first | refine JC.ops ?_ | refine JO.nil ?_ | refine JX.thenN ?_ | (apply r_move; exact rfl; exact rfl; exact rfl) | (apply r_assign; exact rfl; exact rfl; exact rfl) | (apply r_add1; exact rfl; exact rfl; exact rfl; exact rfl; omega) | (apply r_pickF; exact rfl; exact rfl; exact rfl; exact rfl) | (apply r_neWF; exact rfl; exact rfl; exact rfl; exact rfl; (first | exact rfl | assumption)) | refine JC.skip ?_ | refine JC.condF rfl ?_ | refine JX.blockN ?_))
    exact JX.roundH 2 (by show 2 ≤ 2; decide) (by show 2 - 2 < 2 - 1; decide) (by repeat first | exact trivial | refine ⟨rfl, ?_⟩) (by (repeat' first | exact HSub.refl _ | exact HSub.nil _ | refine HSub.at 0 rfl ?_ | refine HSub.at 1 rfl ?_ | refine HSub.at 2 rfl ?_ | refine HSub.at 3 rfl ?_ | refine HSub.at 4 rfl ?_ | refine HSub.at 5 rfl ?_ | refine HSub.at 6 rfl ?_ | refine HSub.at 7 rfl ?_ | refine HSub.at 8 rfl ?_ | refine HSub.at 9 rfl ?_ | refine HSub.at 10 rfl ?_ | refine HSub.at 11 rfl ?_ | refine HSub.at 12 rfl ?_ | refine HSub.at 13 rfl ?_ | refine HSub.at 14 rfl ?_ | refine HSub.at 15 rfl ?_ | refine HSub.at 16 rfl ?_ | refine HSub.at 17 rfl ?_ | refine HSub.at 18 rfl ?_ | refine HSub.at 19 rfl ?_ | refine HSub.segH ?_ | refine HSub.skip ?_ | refine HSub.skipN ?_))
  · (repeat' (first | refine JC.seq ?_ | refine JC.ops ?_ | refine JO.nil ?_ | refine JX.thenN ?_ | (apply r_move; exact rfl; exact rfl; exact rfl) | (apply r_assign; exact rfl; exact rfl; exact rfl) | (apply r_lss; exact rfl; exact rfl; exact rfl; exact rfl; all_goals intro hc; all_goals try (exfalso; omega)) | refine JX.thenE ?_ | refine JC.exit ?_ | refine JC.ret ?_ | refine JC.condF rfl ?_ | refine JX.blockE ?_))
    exact JX.ret1 rfl (fun a w' st => ⟨st.kp, rfl⟩)

end Go.Proofs.YtdehklhdjbkneaaDoor

/-
  LawWideDivisors: for every input the call of 'cocycle/cocyclelaw01.WideDivisors' returns true, and every argument reads afterwards as it read before. Conditions: none. The card.
-/
namespace Go.Proofs.YtdehklhdjbkneaaDoor.wideDivisors
open Go Go.RowKit Go.ChangeShapes Go.WideShapes Go.ChangeAt
set_option linter.unusedSimpArgs false
set_option linter.unusedVariables false
set_option linter.unusedSectionVars false

set_option maxRecDepth 100000 in
theorem lifted (os : Os) (started : os.Started) (H : Type) (enc : TypeId × Value → H) :
    ReturnsInHanded {} Tryd.checked os 5 .any (fun w args => (Rows.wideDivisorsSpec.pre enc Tryd.prog Tryd.f5 [] false w args ∧ laidMetH Tryd.prog Rows.wideDivisorsRow.laid w) ∧ sizedMet enc Tryd.prog Tryd.f5 (OpenSpec.ofChange Rows.wideDivisorsSpec) false w args)
      (Rows.wideDivisorsSpec.post enc Tryd.prog Tryd.f5 false true false false) := by
  refine returnsInHanded_of_change_and (C := Tryd.checked) (X := fun w _ => laidMetH Tryd.prog Rows.wideDivisorsRow.laid w) (fun _ _ _ hh h => h.of_heap hh) own started (by kernel_rfl) Tryd.func5
    (ChangeSpec.witness_shaped (enc := enc) (C := Tryd.checked) (os := os) (X := fun w _ => laidMetH Tryd.prog Rows.wideDivisorsRow.laid w) false (World.laidAll Tryd.prog os Rows.wideDivisorsRow.laid) #[.agg #[.bool false, .slice none 0 0, .int .i64 0], .agg #[.bool false, .slice none 0 0, .int .i64 0], .agg #[.bool false, .slice none 0 0, .int .i64 0]] 8 (World.laidAll_os _ _ _)
      (World.shaped_of_ZipB (by kernel_rfl) (by kernel_rfl)) (by kernel_rfl) (by kernel_rfl) (by kernel_rfl)
      (by rw [MakeChecks.laidMetH_plain _ _ _ (by kernel_rfl)]; exact laidMet_laidAll _ (by kernel_rfl) (by kernel_rfl))) ?_
  intro W base args ds gs before hval0 hW _ hwt0 hL _
  have hval : ∀ (j : Nat) t v, Tryd.f5.params[j]? = some t → args[j]? = some v → Value.okWide Tryd.prog W .any base t v := hval0
  have hW' := hW
  obtain ⟨p, q, hA0, hV, rfl, hfz, hnd⟩ := hW
  have hA : DataW.TrodAll enc Tryd.prog W 0 (fun _ => true) true Tryd.f5.params.toList args.toList ds p := hA0
  have hwt : (DataW.weightsEach Tryd.prog (Tryd.f5.params.toList ++ Rows.wideDivisorsSpec.plain.varTypes Tryd.prog) (ds ++ gs)).all (· ≤ reachBytes) = true := hwt0
  have hwt1 := fun n hn => of_decide_eq_true (List.all_eq_true.1 hwt n hn)
  rw [Tryd.params5] at hA hval hwt1
  obtain ⟨v0, vs0, d0, ds0, p0, q0, hargs, rfl, rfl, h0, r0⟩ := trodAll_cons hA
  obtain ⟨v1, vs1, d1, ds1, p1, q1, rfl, rfl, rfl, h1, r1⟩ := trodAll_cons r0
  obtain ⟨v2, vs2, d2, ds2, p2, q2, rfl, rfl, rfl, h2, r2⟩ := trodAll_cons r1
  obtain ⟨rfl, rfl, rfl⟩ := trodAll_nil r2
  obtain rfl : args = #[v0, v1, v2] := by cases args; simp_all
  obtain ⟨rfl, rfl⟩ := trodVars_none hV
  have k0 := h0
  have lt0 : ∀ x ∈ p0, x.block < W.heap.size := by obtain ⟨m, hm⟩ := k0; exact DataW.trod_lt m _ _ _ hm
  have s0 := open_num (hval 0 24 v0 rfl rfl) h0 (fun n hn => hwt1 n (DataW.weights_mem_each (j := 0) rfl rfl n hn))
  have k1 := h1
  have lt1 : ∀ x ∈ p1, x.block < W.heap.size := by obtain ⟨m, hm⟩ := k1; exact DataW.trod_lt m _ _ _ hm
  have s1 := open_num (hval 1 24 v1 rfl rfl) h1 (fun n hn => hwt1 n (DataW.weights_mem_each (j := 1) rfl rfl n hn))
  have k2 := h2
  have lt2 : ∀ x ∈ p2, x.block < W.heap.size := by obtain ⟨m, hm⟩ := k2; exact DataW.trod_lt m _ _ _ hm
  have s2 := open_num (hval 2 24 v2 rfl rfl) h2 (fun n hn => hwt1 n (DataW.weights_mem_each (j := 2) rfl rfl n hn))
  clear hA0 hval0
  refine (c_WideDivisors W v0 v1 v2 s0 s1 s2).mono fun e W' he => ?_
  cases e with
  | panicked _ => exact he.elim
  | outgrown => exact he.elim
  | returned u =>
    obtain ⟨hk, rfl⟩ := he
    have bel := hk.below
    exact ⟨_, rfl, _, _, _, [], _, [], hW', trodAll_mk1 (shut_bool Tryd.underlying4 _), (trodAll_cons_mk (Below.trod laidOut (by kernel_rfl) (of_decide_eq_true (by kernel_rfl)) k0 bel lt0) (trodAll_cons_mk (Below.trod laidOut (by kernel_rfl) (of_decide_eq_true (by kernel_rfl)) k1 bel lt1) (trodAll_cons_mk (Below.trod laidOut (by kernel_rfl) (of_decide_eq_true (by kernel_rfl)) k2 bel lt2) trodAll_mk0))), rfl, bel.frame _, fun h => by cases h⟩

theorem holds : Rows.WideDivisorsSaid :=
  OpenClaim.holds_of_wide 5 Tryd.f5 rfl rfl rfl rfl rfl rfl rfl ⟨rfl, rfl, rfl, rfl, rfl⟩ rfl rfl rfl rfl rfl (by kernel_rfl) Tryd.func5 (by kernel_rfl)
    (of_decide_eq_true (by kernel_rfl)) (by unfold Func.isWrapper; first | (rw [if_pos (by decide +kernel)]; kernel_rfl) | (rw [if_neg (by decide +kernel)]; exact ⟨rfl, rfl⟩))
    (fun os started H enc _ => lifted os started H enc)

theorem proved : Rows.WideDivisorsCardSaid :=
  Claim7.holds_tied_plain_at .later [] [.data, .pinned] true (true, "1b4308b2693fd3c5d8a5af720d248fe7c1199e94c09dcbfbf8bbeec66be0f239") false holds (fun _ h => by cases h) (by kernel_rfl) (fun _ h => by cases h) wideDivisors_row_tie rfl ⟨rfl, rfl⟩ (by kernel_rfl) rfl
    (fun f fn hf hfn => by
      obtain rfl : f = 5 := Option.some.inj ((show Tryd.prog.funcNamed "cocycle/cocyclelaw01.WideDivisors" = some 5 by kernel_rfl).symm.trans hf) |>.symm
      obtain rfl : fn = Tryd.f5 := (Option.some.inj (Tryd.func5.symm.trans hfn)).symm
      exact ⟨by kernel_rfl, fun j t ht => by
        rw [Tryd.params5] at ht
        have hm : t ∈ [24] := by simpa using Array.mem_of_getElem? ht
        have hall : ([24].all fun u => !Tryd.prog.wantsStandIn u) = true := by kernel_rfl
        exact (show Tryd.prog.wantsStandIn t = false by simpa using List.all_eq_true.1 hall t hm)⟩)
    (by kernel_rfl)

end Go.Proofs.YtdehklhdjbkneaaDoor.wideDivisors

