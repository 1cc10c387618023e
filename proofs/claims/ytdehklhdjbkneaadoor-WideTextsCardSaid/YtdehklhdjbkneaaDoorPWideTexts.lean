import Derived.Test.YtdehklhdjbkneaaDoorMe
import Derived.Test.YtdehklhdjbkneaaDoorMk
import Derived.Test.YtdehklhdjbkneaaDoorTie
import Derived.Test.YtdehklhdjbkneaaDoorCards
import Derived.Shelf.Lay
import Derived.Lay
import Derived.LaidOnce
import Derived.SevenTiedAt
/- Texts. Written by genW14.py. -/
namespace Go.Proofs.YtdehklhdjbkneaaDoor
open Go Go.RowKit
set_option linter.unusedSimpArgs false
set_option linter.unusedVariables false
set_option linter.unusedSectionVars false

theorem int_wf {x : Int} (h : (Lit.int .i64 x).wf = true) : -9223372036854775808 ≤ x ∧ x < 9223372036854775808 := by
  have hmin : IntKind.i64.min = -9223372036854775808 := by decide
  have hmax : IntKind.i64.max = 9223372036854775807 := by decide
  simp only [Lit.wf, Bool.and_eq_true, decide_eq_true_eq, hmin, hmax] at h
  omega
/-- Digits in bytes. -/
def db (V : Nat) : List UInt8 := (dec V).map UInt8.ofNat
theorem ofNat_toNat {n : Nat} (h : n < 256) : (UInt8.ofNat n).toNat = n := by
  rw [UInt8.toNat_ofNat']
  exact Nat.mod_eq_of_lt h
theorem db_ok (V : Nat) : pnum (db V) = V ∧ ∀ c ∈ db V, digit c = true := by
  induction V using Nat.strongRecOn with
  | ind V ih =>
    by_cases h0 : V = 0
    · subst h0; exact ⟨rfl, fun _ h => absurd h List.not_mem_nil⟩
    · obtain ⟨h1, h2⟩ := ih (V / 10) (by omega)
      have e : db V = db (V / 10) ++ [UInt8.ofNat (48 + V % 10)] := by
        unfold db
        rw [dec_step (Nat.pos_of_ne_zero h0), List.map_append]; rfl
      have hn := ofNat_toNat (n := 48 + V % 10) (by omega)
      rw [e]
      refine ⟨by rw [pnum_snoc, h1, hn]; omega, fun c hc => ?_⟩
      rcases List.mem_append.1 hc with h | h
      · exact h2 c h
      · rw [List.mem_singleton.1 h]; exact (digit_iff _).2 (by rw [hn]; omega)
theorem dec_len : ∀ k V, V < 10 ^ k → (dec V).length ≤ k
  | 0, V, h => by
    obtain rfl : V = 0 := by simpa using h
    exact Nat.le_refl _
  | k + 1, V, h => by
    by_cases h0 : V = 0
    · subst h0; exact Nat.zero_le _
    · rw [dec_step (Nat.pos_of_ne_zero h0), List.length_append, List.length_singleton]
      have := dec_len k (V / 10) (by rw [Nat.pow_succ] at h; omega)
      omega
/-- The text of a number behind its sign. -/
def t0 (a : Int) : List UInt8 := if a = 0 then [48] else db a.natAbs
theorem tx_eq (a : Int) : tx a = (if a < 0 then [45] else []) ++ t0 a := by
  unfold tx txt t0 db
  by_cases h : a = 0
  · subst h; rfl
  · rw [if_neg h, if_neg h, List.map_append]
    by_cases hn : a < 0
    · rw [if_pos hn, if_pos hn]; rfl
    · rw [if_neg hn, if_neg hn]; rfl
theorem t0_ok (a : Int) : pnum (t0 a) = a.natAbs ∧ (∀ c ∈ t0 a, digit c = true) ∧ t0 a ≠ [] := by
  unfold t0
  by_cases h : a = 0
  · subst h; exact ⟨rfl, fun c hc => by rw [if_pos rfl] at hc; rw [List.mem_singleton.1 hc]; rfl, by simp⟩
  · rw [if_neg h]
    refine ⟨(db_ok _).1, (db_ok _).2, fun e => ?_⟩
    have := (db_ok a.natAbs).1
    rw [e] at this
    have h2 : pnum [] = 0 := rfl
    omega
theorem t0_len {a : Int} (h : a.natAbs < 256 ^ 40) : (t0 a).length ≤ 100 := by
  unfold t0
  split
  · simp
  · unfold db
    rw [List.length_map]
    exact dec_len 100 _ (Nat.lt_trans h (by decide))
theorem pres_neg {t : List UInt8} {a : Int} (ha : a < 0) (h1 : pnum t = a.natAbs) (h2 : ∀ c ∈ t, digit c = true) (h3 : t ≠ []) : PRes (45 :: t) = .tuple #[Wv a, .bool true] := by
  show (if t.all digit then Value.tuple #[Wv (sgn true (pnum t)), .bool (decide (t ≠ []))] else .tuple #[Wv 0, .bool false]) = _
  rw [if_pos (List.all_eq_true.2 h2), h1, decide_eq_true h3]
  have : sgn true a.natAbs = a := by simp only [sgn, if_true]; omega
  rw [this]
theorem pres_pos {c : UInt8} {t : List UInt8} {a : Int} (ha : ¬ a < 0) (h1 : pnum (c :: t) = a.natAbs) (h2 : ∀ x ∈ c :: t, digit x = true) : PRes (c :: t) = .tuple #[Wv a, .bool true] := by
  have hc := (digit_iff c).1 (h2 c (List.mem_cons_self ..))
  have h45 : (c == 45) = false := by
    simp only [beq_eq_false_iff_ne]
    intro e
    subst e
    exact absurd hc.1 (by decide)
  unfold PRes
  simp only [minus, body, h45, Bool.false_eq_true, if_false]
  rw [if_pos (List.all_eq_true.2 h2), h1]
  have : sgn false a.natAbs = a := by simp [sgn]; omega
  rw [this]
  rfl
/-- Zeros in front. -/
def zt : Nat → List UInt8 → List UInt8
  | 0, t => t
  | k + 1, t => 48 :: zt k t
theorem zt_ok {t : List UInt8} (h2 : ∀ c ∈ t, digit c = true) (h3 : t ≠ []) : ∀ k, pnum (zt k t) = pnum t ∧ (∀ c ∈ zt k t, digit c = true) ∧ zt k t ≠ [] ∧ (zt k t).length = k + t.length
  | 0 => ⟨rfl, h2, h3, by simp [zt]⟩
  | k + 1 => by
    obtain ⟨a1, a2, a3, a4⟩ := zt_ok h2 h3 k
    refine ⟨a1, fun c hc => ?_, by simp [zt], by simp only [zt, List.length_cons, a4]; omega⟩
    rcases List.mem_cons.1 hc with rfl | h
    · rfl
    · exact a2 c h

theorem r_eqST {c : Cx} {Q : Exit → Act → World → Prop} {m : Mode} {F : SFrame} {H : SHeap} {r : List SOp} {g : Option (Option Tmp × Bool)} {ns : Bool} {d : Tmp} {ty t t' : TypeId} {x y : Operand} {l : List UInt8} [TStr c.P t] (hd : dstOk c.n (some d) = true) (hg : guardF F g = some true) (hx : ev F x = some (sv l)) (hy : ev F y = some (sv l))
    (h : JO c Q m r ((d, .bool true) :: F) H) : JO c Q m (⟨some d, .binOp .eql t x y t', ty, g, .mov, ns⟩ :: r) F H :=
  r_eqS hd hg hx hy (by rw [decide_eq_true rfl]; exact h)
theorem pres_any {t : List UInt8} {a : Int} (ha : ¬ a < 0) (h1 : pnum t = a.natAbs) (h2 : ∀ x ∈ t, digit x = true) (h3 : t ≠ []) : PRes t = .tuple #[Wv a, .bool true] := by
  cases t with
  | nil => exact absurd rfl h3
  | cons c t => exact pres_pos ha h1 h2

set_option maxHeartbeats 16000000 in
theorem c_WideTexts (w : World) (v0 : Value) (z : Int) (h0 : IsNum w v0) (hz : -9223372036854775808 ≤ z ∧ z < 9223372036854775808) :
    Calls Tryd.prog 11 #[v0, iv z] w (Ret fun v w' => Kp [] w w' ∧ v = .bool true) := by
  obtain ⟨x0, x1, x2, rfl⟩ := h0.form
  refine calls_of_S [⟨15, 1, [], []⟩] [] (by simp) [] Tryd.func11 rfl mixed (by kernel_rfl) Tryd.ntmps11 Tryd.results11 rfl ⟨by simp, by simp⟩ (by simp) ?_
  simp only [toS, textOps, toSOp, kindAt, kindOf, odAt, sopsAt, ordOf, zipF]
  (repeat' (first | refine JC.seq ?_ | refine JC.ops ?_ | refine JO.nil ?_ | refine JX.thenN ?_ | (apply r_assign; exact rfl; exact rfl; exact rfl) | (apply r_boxA; exact rfl; exact rfl; exact rfl; exact rfl; intro _)))
  rename_i b2
  refine r_call0 (by first | trivial | exact ⟨rfl, rfl⟩) rfl rfl rfl (fun w hk hs => c_sanity w) fun w v w' _ _ _ hR => ?_
  subst hR
  (repeat' (first | refine JC.seq ?_ | refine JC.ops ?_ | refine JO.nil ?_ | refine JX.thenN ?_ | (apply r_assign; exact rfl; exact rfl; exact rfl) | (apply r_loadN; exact rfl; exact rfl; exact rfl; exact rfl; (first | exact at0 | exact at1 | exact at2 | exact at3 | exact at4 | exact at5 | exact at6 | exact at7 | exact at8 | exact at9); exact rfl)))
  refine r_call0 (by first | trivial | exact ⟨rfl, rfl⟩) rfl rfl rfl (fun w hk hs => c_Num w _ (h0.mono hk)) fun w v w' _ _ _ hR => ?_
  obtain ⟨a, p0, l0, rfl, hl0, hn0⟩ := hR
  have Za : IsZ (wv p0 l0) a 40 := ⟨p0, l0, rfl, hl0, hn0⟩
  (repeat' (first | refine JC.seq ?_ | refine JC.ops ?_ | refine JO.nil ?_ | refine JX.thenN ?_ | (apply r_loadN; exact rfl; exact rfl; exact rfl; exact rfl; (first | exact at0 | exact at1 | exact at2 | exact at3 | exact at4 | exact at5 | exact at6 | exact at7 | exact at8 | exact at9); exact rfl) | (apply r_storeN; exact rfl; (first | exact trivial | exact ⟨rfl, rfl⟩); exact rfl; exact rfl; (first | exact at0 | exact at1 | exact at2 | exact at3 | exact at4 | exact at5 | exact at6 | exact at7 | exact at8 | exact at9); exact rfl; exact rfl; exact rfl) | (apply r_allocZ; exact rfl; exact rfl; exact rfl; intro _) | (apply r_storeN; exact rfl; (first | exact trivial | exact ⟨rfl, rfl⟩); exact rfl; exact rfl; (first | exact at0 | exact at1 | exact at2 | exact at3 | exact at4 | exact at5 | exact at6 | exact at7 | exact at8 | exact at9); exact rfl; exact rfl; exact rfl)))
  rename_i b6
  have zA := Za.mono (show 40 ≤ 1000 by decide)
  have zWa : IsZ (Wv a) a 1000 := Za.canon.mono (by decide)
  have haL := t0_len Za.lt
  obtain ⟨hp, hd, hne⟩ := t0_ok a
  have hzt := zt_ok hd hne
  have hnn : a = - -a := by omega
  have hx := tx_eq a
  refine r_call0 (by first | trivial | exact ⟨rfl, rfl⟩) rfl rfl rfl (fun w hk hs => c_Text w p0 l0 (by omega)) fun w v w' _ _ _ hR => ?_
  rw [← hn0, hx] at hR
  by_cases ha : a < 0
  · rw [if_pos ha] at hR hx
    have hpr := pres_neg ha hp hd hne
    generalize t0 a = T at hpr hR haL hp hd hne hzt hx
    obtain rfl : v = sv (45 :: T) := hR
    have h45 : UInt8.toNat 45 = 45 := rfl
    have hTl : (45 :: T).length ≤ 1000 := by simp; omega
    have hTp : (((45 :: T).length : Nat) : Int) = T.length + 1 := by simp
    (repeat' (first | refine JC.seq ?_ | refine JC.ops ?_ | refine JO.nil ?_ | refine JX.thenN ?_ | (apply r_move; exact rfl; exact rfl; exact rfl) | (apply r_assign; exact rfl; exact rfl; exact rfl)))
    refine r_call0 (by first | trivial | exact ⟨rfl, rfl⟩) rfl rfl rfl (fun w hk hs => c_Parse w (45 :: T) hTl) fun w v w' _ _ _ hR => ?_
    rw [hpr] at hR
    subst hR
    (repeat' (first | refine JC.seq ?_ | refine JC.ops ?_ | refine JO.nil ?_ | refine JX.thenN ?_ | (apply r_move; exact rfl; exact rfl; exact rfl) | (apply r_assign; exact rfl; exact rfl; exact rfl) | (apply r_pickT; exact rfl; exact rfl; exact rfl; exact rfl) | (apply r_extract; exact rfl; exact rfl; exact rfl; exact rfl) | (apply r_storeN; exact rfl; (first | exact trivial | exact ⟨rfl, rfl⟩); exact rfl; exact rfl; (first | exact at0 | exact at1 | exact at2 | exact at3 | exact at4 | exact at5 | exact at6 | exact at7 | exact at8 | exact at9); exact rfl; exact rfl; exact rfl) | (apply r_lenS; exact rfl; exact rfl; exact rfl) | (apply r_idxS0; exact rfl; exact rfl; exact rfl; exact rfl) | (apply r_fromS1; exact rfl; exact rfl; exact rfl; exact rfl) | (apply r_gtr; exact rfl; exact rfl; exact rfl; exact rfl; all_goals intro hc; all_goals try (exfalso; omega)) | (apply r_eql; exact rfl; exact rfl; exact rfl; exact rfl; all_goals intro hc; all_goals try (exfalso; omega)) | (apply r_allocZ; exact rfl; exact rfl; exact rfl; intro _) | (apply r_storeN; exact rfl; (first | exact trivial | exact ⟨rfl, rfl⟩); exact rfl; exact rfl; (first | exact at0 | exact at1 | exact at2 | exact at3 | exact at4 | exact at5 | exact at6 | exact at7 | exact at8 | exact at9); exact rfl; exact rfl; exact rfl) | refine JC.condT rfl ?_ | refine JC.block ?_))
    rename_i b8 h8
    generalize hmm : (z % (30 : Nat)).toNat = mm
    refine JC.loopH (ι := Nat) ⟨fun i => [(12, nv i), (10, sv (zt i (T))), (11, sv [45]), (9, .bool true), (8, .pointer (some ⟨b8, 0, none⟩)), (7, sv (45 :: T)), (6, .pointer (some ⟨b6, 0, none⟩)), (5, .bool true), (1, iv z)], fun _ => [(b8, .cells (wc a) 27 (0, 0)), (b6, .cells #[.bool p0, sv l0] 27 (0, 0))], fun i => i ≤ mm ∧ i ≤ 30, fun i => 30 - i⟩ 0 ⟨Nat.zero_le _, Nat.zero_le _⟩ (by repeat first | exact trivial | refine ⟨rfl, ?_⟩) (by (repeat' first | exact HSub.refl _ | exact HSub.nil _ | refine HSub.at 0 rfl ?_ | refine HSub.at 1 rfl ?_ | refine HSub.at 2 rfl ?_ | refine HSub.at 3 rfl ?_ | refine HSub.at 4 rfl ?_ | refine HSub.at 5 rfl ?_ | refine HSub.at 6 rfl ?_ | refine HSub.at 7 rfl ?_ | refine HSub.at 8 rfl ?_ | refine HSub.at 9 rfl ?_ | refine HSub.at 10 rfl ?_ | refine HSub.at 11 rfl ?_ | refine HSub.at 12 rfl ?_ | refine HSub.at 13 rfl ?_ | refine HSub.at 14 rfl ?_ | refine HSub.at 15 rfl ?_ | refine HSub.at 16 rfl ?_ | refine HSub.at 17 rfl ?_ | refine HSub.at 18 rfl ?_ | refine HSub.at 19 rfl ?_ | refine HSub.segH ?_ | refine HSub.skip ?_ | refine HSub.skipN ?_)) (fun i hi => ?_)
    obtain ⟨him, hi30⟩ := hi
    dsimp only at him hi30 ⊢
    have hzl := (hzt i).2.2.2
    (repeat' (first | refine JC.seq ?_ | refine JC.ops ?_ | (apply r_move; exact rfl; exact rfl; exact rfl)))
    refine r_call0 (by first | trivial | exact ⟨rfl, rfl⟩) rfl rfl rfl (fun w hk hs => c_Mod w z 30 (by decide) (by decide)) fun w v w' _ _ _ hR => ?_
    obtain ⟨rfl, hm30⟩ := hR
    rw [hmm] at hm30 ⊢
    by_cases hgo : i < mm
    · (repeat' (first | refine JC.seq ?_ | refine JC.ops ?_ | refine JO.nil ?_ | refine JX.thenN ?_ | (apply r_move; exact rfl; exact rfl; exact rfl) | (apply r_lss; exact rfl; exact rfl; exact rfl; exact rfl; all_goals intro hc; all_goals try (exfalso; omega)) | refine JC.skip ?_ | refine JC.condT rfl ?_ | refine JC.block ?_))
      refine r_addS (l := [48]) rfl rfl rfl rfl (by simp only [List.length_cons, List.length_nil] at *; omega) ?_
      (repeat' (first | refine JC.ops ?_ | refine JO.nil ?_ | refine JX.thenN ?_ | (apply r_move; exact rfl; exact rfl; exact rfl) | (apply r_assign; exact rfl; exact rfl; exact rfl) | (apply r_add1; exact rfl; exact rfl; exact rfl; exact rfl; omega) | refine JX.blockN ?_))
      exact JX.roundH (i + 1) ⟨by show i + 1 ≤ mm; omega, by show i + 1 ≤ 30; omega⟩ (by show 30 - (i + 1) < 30 - i; omega) (by repeat first | exact trivial | refine ⟨rfl, ?_⟩) (by (repeat' first | exact HSub.refl _ | exact HSub.nil _ | refine HSub.at 0 rfl ?_ | refine HSub.at 1 rfl ?_ | refine HSub.at 2 rfl ?_ | refine HSub.at 3 rfl ?_ | refine HSub.at 4 rfl ?_ | refine HSub.at 5 rfl ?_ | refine HSub.at 6 rfl ?_ | refine HSub.at 7 rfl ?_ | refine HSub.at 8 rfl ?_ | refine HSub.at 9 rfl ?_ | refine HSub.at 10 rfl ?_ | refine HSub.at 11 rfl ?_ | refine HSub.at 12 rfl ?_ | refine HSub.at 13 rfl ?_ | refine HSub.at 14 rfl ?_ | refine HSub.at 15 rfl ?_ | refine HSub.at 16 rfl ?_ | refine HSub.at 17 rfl ?_ | refine HSub.at 18 rfl ?_ | refine HSub.at 19 rfl ?_ | refine HSub.segH ?_ | refine HSub.skip ?_ | refine HSub.skipN ?_))
    · (repeat' (first | refine JC.seq ?_ | refine JC.ops ?_ | refine JO.nil ?_ | refine JX.thenN ?_ | (apply r_move; exact rfl; exact rfl; exact rfl) | (apply r_lss; exact rfl; exact rfl; exact rfl; exact rfl; all_goals intro hc; all_goals try (exfalso; omega)) | refine JX.thenE ?_ | refine JC.exit ?_ | refine JC.condF rfl ?_ | refine JX.blockE ?_))
      refine r_addS (l := [45]) (l' := zt i (T)) rfl rfl rfl rfl (by simp only [List.length_cons, List.length_nil] at *; omega) ?_
      skip
      refine r_call0 (by first | trivial | exact ⟨rfl, rfl⟩) rfl rfl rfl (fun w hk hs => c_Parse w ([45] ++ zt i (T)) (by simp only [List.length_append, List.length_cons, List.length_nil] at *; omega)) fun w v w' _ _ _ hR => ?_
      have hpk : PRes ([45] ++ zt i (T)) = .tuple #[Wv a, .bool true] := pres_neg ha ((hzt i).1.trans hp) (hzt i).2.1 (hzt i).2.2.1
      rw [hpk] at hR
      subst hR
      (repeat' (first | refine JC.seq ?_ | refine JC.opsD ?_ | refine JO.nil ?_ | refine JX.thenN ?_ | (apply r_move; exact rfl; exact rfl; exact rfl) | (apply r_assign; exact rfl; exact rfl; exact rfl) | (apply r_loadN; exact rfl; exact rfl; exact rfl; exact rfl; (first | exact at0 | exact at1 | exact at2 | exact at3 | exact at4 | exact at5 | exact at6 | exact at7 | exact at8 | exact at9); exact rfl) | (apply r_extract; exact rfl; exact rfl; exact rfl; exact rfl) | (apply r_storeN; exact rfl; (first | exact trivial | exact ⟨rfl, rfl⟩); exact rfl; exact rfl; (first | exact at0 | exact at1 | exact at2 | exact at3 | exact at4 | exact at5 | exact at6 | exact at7 | exact at8 | exact at9); exact rfl; exact rfl; exact rfl) | (apply r_allocZ; exact rfl; exact rfl; exact rfl; intro _) | (apply r_storeN; exact rfl; (first | exact trivial | exact ⟨rfl, rfl⟩); exact rfl; exact rfl; (first | exact at0 | exact at1 | exact at2 | exact at3 | exact at4 | exact at5 | exact at6 | exact at7 | exact at8 | exact at9); exact rfl; exact rfl; exact rfl)))
      refine r_call0 (by first | trivial | exact ⟨rfl, rfl⟩) rfl rfl rfl (fun w hk hs => c_TextR w p0 l0 (by omega)) fun w v w' _ _ _ hR => ?_
      rw [← hn0, hx] at hR
      obtain rfl : v = sv (45 :: T) := hR
      refine r_eqST (l := 45 :: T) rfl rfl rfl rfl ?_
      (repeat' (first | (apply r_move; exact rfl; exact rfl; exact rfl) | (apply r_loadN; exact rfl; exact rfl; exact rfl; exact rfl; (first | exact at0 | exact at1 | exact at2 | exact at3 | exact at4 | exact at5 | exact at6 | exact at7 | exact at8 | exact at9); exact rfl) | (apply r_pickT; exact rfl; exact rfl; exact rfl; exact rfl)))
      refine r_call0 (by first | trivial | exact ⟨rfl, rfl⟩) rfl rfl rfl (fun w hk hs => c_Cmp w _ _ a a 1000 zA zWa (by decide)) fun w v w' _ _ _ hR => ?_
      rw [Int.sub_self] at hR
      obtain rfl : v = iv 0 := hR
      (repeat' (first | (apply r_move; exact rfl; exact rfl; exact rfl) | (apply r_loadN; exact rfl; exact rfl; exact rfl; exact rfl; (first | exact at0 | exact at1 | exact at2 | exact at3 | exact at4 | exact at5 | exact at6 | exact at7 | exact at8 | exact at9); exact rfl) | (apply r_pickT; exact rfl; exact rfl; exact rfl; exact rfl) | (apply r_eqWT; exact rfl; exact rfl; exact rfl; exact rfl; (first | exact rfl | assumption)) | (apply r_eql; exact rfl; exact rfl; exact rfl; exact rfl; all_goals intro hc; all_goals try (exfalso; omega))))
      refine r_call0 (by first | trivial | exact ⟨rfl, rfl⟩) rfl rfl rfl (fun w hk hs => c_Neg w _ a 1000 zA (by decide)) fun w v w' _ _ _ hR => ?_
      subst hR
      skip
      refine r_call0 (by first | trivial | exact ⟨rfl, rfl⟩) rfl rfl rfl (fun w hk hs => c_Neg w _ (-a) 1000 zA.neg (by decide)) fun w v w' _ _ _ hR => ?_
      subst hR
      (repeat' (first | refine JO.nil ?_ | refine JX.thenN ?_ | (apply r_assign; exact rfl; exact rfl; exact rfl) | (apply r_pickT; exact rfl; exact rfl; exact rfl; exact rfl) | (apply r_eqWT; exact rfl; exact rfl; exact rfl; exact rfl; (first | exact rfl | assumption)) | refine JC.ret ?_))
      exact JX.ret1 rfl (fun a w' st => ⟨st.kp, rfl⟩)
  · rw [if_neg ha, List.nil_append] at hR hx
    have hpr := pres_any ha hp hd hne
    have hdc : ∀ c T', t0 a = c :: T' → ¬ UInt8.toNat c = 45 := fun c T' e h => by
      have := (digit_iff c).1 (hd c (by rw [e]; exact List.mem_cons_self ..))
      omega
    generalize t0 a = T at hpr hR haL hp hd hne hzt hx hdc
    obtain ⟨cT, T', hT⟩ : ∃ c T', T = c :: T' := by
      cases T with
      | nil => exact absurd rfl hne
      | cons c T' => exact ⟨c, T', rfl⟩
    have h45 := hdc cT T' hT
    clear hdc
    subst hT
    subst hR
    have hTl : (cT :: T').length ≤ 1000 := by omega
    have hTp : (((cT :: T').length : Nat) : Int) = T'.length + 1 := by simp
    (repeat' (first | refine JC.seq ?_ | refine JC.ops ?_ | refine JO.nil ?_ | refine JX.thenN ?_ | (apply r_move; exact rfl; exact rfl; exact rfl) | (apply r_assign; exact rfl; exact rfl; exact rfl)))
    refine r_call0 (by first | trivial | exact ⟨rfl, rfl⟩) rfl rfl rfl (fun w hk hs => c_Parse w (cT :: T') hTl) fun w v w' _ _ _ hR => ?_
    rw [hpr] at hR
    subst hR
    (repeat' (first | refine JC.seq ?_ | refine JC.ops ?_ | refine JO.nil ?_ | refine JX.thenN ?_ | (apply r_move; exact rfl; exact rfl; exact rfl) | (apply r_assign; exact rfl; exact rfl; exact rfl) | (apply r_pickT; exact rfl; exact rfl; exact rfl; exact rfl) | (apply r_extract; exact rfl; exact rfl; exact rfl; exact rfl) | (apply r_storeN; exact rfl; (first | exact trivial | exact ⟨rfl, rfl⟩); exact rfl; exact rfl; (first | exact at0 | exact at1 | exact at2 | exact at3 | exact at4 | exact at5 | exact at6 | exact at7 | exact at8 | exact at9); exact rfl; exact rfl; exact rfl) | (apply r_lenS; exact rfl; exact rfl; exact rfl) | (apply r_idxS0; exact rfl; exact rfl; exact rfl; exact rfl) | (apply r_gtr; exact rfl; exact rfl; exact rfl; exact rfl; all_goals intro hc; all_goals try (exfalso; omega)) | (apply r_eql; exact rfl; exact rfl; exact rfl; exact rfl; all_goals intro hc; all_goals try (exfalso; omega)) | (apply r_allocZ; exact rfl; exact rfl; exact rfl; intro _) | (apply r_storeN; exact rfl; (first | exact trivial | exact ⟨rfl, rfl⟩); exact rfl; exact rfl; (first | exact at0 | exact at1 | exact at2 | exact at3 | exact at4 | exact at5 | exact at6 | exact at7 | exact at8 | exact at9); exact rfl; exact rfl; exact rfl) | refine JC.skip ?_ | refine JC.condF rfl ?_ | refine JC.block ?_))
    rename_i b8 h8
    generalize hmm : (z % (30 : Nat)).toNat = mm
    refine JC.loopH (ι := Nat) ⟨fun i => [(12, nv i), (10, sv (zt i (cT :: T'))), (11, sv []), (9, .bool true), (8, .pointer (some ⟨b8, 0, none⟩)), (7, sv (cT :: T')), (6, .pointer (some ⟨b6, 0, none⟩)), (5, .bool true), (1, iv z)], fun _ => [(b8, .cells (wc a) 27 (0, 0)), (b6, .cells #[.bool p0, sv l0] 27 (0, 0))], fun i => i ≤ mm ∧ i ≤ 30, fun i => 30 - i⟩ 0 ⟨Nat.zero_le _, Nat.zero_le _⟩ (by repeat first | exact trivial | refine ⟨rfl, ?_⟩) (by (repeat' first | exact HSub.refl _ | exact HSub.nil _ | refine HSub.at 0 rfl ?_ | refine HSub.at 1 rfl ?_ | refine HSub.at 2 rfl ?_ | refine HSub.at 3 rfl ?_ | refine HSub.at 4 rfl ?_ | refine HSub.at 5 rfl ?_ | refine HSub.at 6 rfl ?_ | refine HSub.at 7 rfl ?_ | refine HSub.at 8 rfl ?_ | refine HSub.at 9 rfl ?_ | refine HSub.at 10 rfl ?_ | refine HSub.at 11 rfl ?_ | refine HSub.at 12 rfl ?_ | refine HSub.at 13 rfl ?_ | refine HSub.at 14 rfl ?_ | refine HSub.at 15 rfl ?_ | refine HSub.at 16 rfl ?_ | refine HSub.at 17 rfl ?_ | refine HSub.at 18 rfl ?_ | refine HSub.at 19 rfl ?_ | refine HSub.segH ?_ | refine HSub.skip ?_ | refine HSub.skipN ?_)) (fun i hi => ?_)
    obtain ⟨him, hi30⟩ := hi
    dsimp only at him hi30 ⊢
    have hzl := (hzt i).2.2.2
    (repeat' (first | refine JC.seq ?_ | refine JC.ops ?_ | (apply r_move; exact rfl; exact rfl; exact rfl)))
    refine r_call0 (by first | trivial | exact ⟨rfl, rfl⟩) rfl rfl rfl (fun w hk hs => c_Mod w z 30 (by decide) (by decide)) fun w v w' _ _ _ hR => ?_
    obtain ⟨rfl, hm30⟩ := hR
    rw [hmm] at hm30 ⊢
    by_cases hgo : i < mm
    · (repeat' (first | refine JC.seq ?_ | refine JC.ops ?_ | refine JO.nil ?_ | refine JX.thenN ?_ | (apply r_move; exact rfl; exact rfl; exact rfl) | (apply r_lss; exact rfl; exact rfl; exact rfl; exact rfl; all_goals intro hc; all_goals try (exfalso; omega)) | refine JC.skip ?_ | refine JC.condT rfl ?_ | refine JC.block ?_))
      refine r_addS (l := [48]) rfl rfl rfl rfl (by simp only [List.length_cons, List.length_nil] at *; omega) ?_
      (repeat' (first | refine JC.ops ?_ | refine JO.nil ?_ | refine JX.thenN ?_ | (apply r_move; exact rfl; exact rfl; exact rfl) | (apply r_assign; exact rfl; exact rfl; exact rfl) | (apply r_add1; exact rfl; exact rfl; exact rfl; exact rfl; omega) | refine JX.blockN ?_))
      exact JX.roundH (i + 1) ⟨by show i + 1 ≤ mm; omega, by show i + 1 ≤ 30; omega⟩ (by show 30 - (i + 1) < 30 - i; omega) (by repeat first | exact trivial | refine ⟨rfl, ?_⟩) (by (repeat' first | exact HSub.refl _ | exact HSub.nil _ | refine HSub.at 0 rfl ?_ | refine HSub.at 1 rfl ?_ | refine HSub.at 2 rfl ?_ | refine HSub.at 3 rfl ?_ | refine HSub.at 4 rfl ?_ | refine HSub.at 5 rfl ?_ | refine HSub.at 6 rfl ?_ | refine HSub.at 7 rfl ?_ | refine HSub.at 8 rfl ?_ | refine HSub.at 9 rfl ?_ | refine HSub.at 10 rfl ?_ | refine HSub.at 11 rfl ?_ | refine HSub.at 12 rfl ?_ | refine HSub.at 13 rfl ?_ | refine HSub.at 14 rfl ?_ | refine HSub.at 15 rfl ?_ | refine HSub.at 16 rfl ?_ | refine HSub.at 17 rfl ?_ | refine HSub.at 18 rfl ?_ | refine HSub.at 19 rfl ?_ | refine HSub.segH ?_ | refine HSub.skip ?_ | refine HSub.skipN ?_))
    · (repeat' (first | refine JC.seq ?_ | refine JC.ops ?_ | refine JO.nil ?_ | refine JX.thenN ?_ | (apply r_move; exact rfl; exact rfl; exact rfl) | (apply r_lss; exact rfl; exact rfl; exact rfl; exact rfl; all_goals intro hc; all_goals try (exfalso; omega)) | refine JX.thenE ?_ | refine JC.exit ?_ | refine JC.condF rfl ?_ | refine JX.blockE ?_))
      refine r_addS (l := []) (l' := zt i (cT :: T')) rfl rfl rfl rfl (by simp only [List.length_cons, List.length_nil] at *; omega) ?_
      skip
      refine r_call0 (by first | trivial | exact ⟨rfl, rfl⟩) rfl rfl rfl (fun w hk hs => c_Parse w ([] ++ zt i (cT :: T')) (by simp only [List.length_append, List.length_cons, List.length_nil] at *; omega)) fun w v w' _ _ _ hR => ?_
      have hpk : PRes ([] ++ zt i (cT :: T')) = .tuple #[Wv a, .bool true] := pres_any ha ((hzt i).1.trans hp) (hzt i).2.1 (hzt i).2.2.1
      rw [hpk] at hR
      subst hR
      (repeat' (first | refine JC.seq ?_ | refine JC.opsD ?_ | refine JO.nil ?_ | refine JX.thenN ?_ | (apply r_move; exact rfl; exact rfl; exact rfl) | (apply r_assign; exact rfl; exact rfl; exact rfl) | (apply r_loadN; exact rfl; exact rfl; exact rfl; exact rfl; (first | exact at0 | exact at1 | exact at2 | exact at3 | exact at4 | exact at5 | exact at6 | exact at7 | exact at8 | exact at9); exact rfl) | (apply r_extract; exact rfl; exact rfl; exact rfl; exact rfl) | (apply r_storeN; exact rfl; (first | exact trivial | exact ⟨rfl, rfl⟩); exact rfl; exact rfl; (first | exact at0 | exact at1 | exact at2 | exact at3 | exact at4 | exact at5 | exact at6 | exact at7 | exact at8 | exact at9); exact rfl; exact rfl; exact rfl) | (apply r_allocZ; exact rfl; exact rfl; exact rfl; intro _) | (apply r_storeN; exact rfl; (first | exact trivial | exact ⟨rfl, rfl⟩); exact rfl; exact rfl; (first | exact at0 | exact at1 | exact at2 | exact at3 | exact at4 | exact at5 | exact at6 | exact at7 | exact at8 | exact at9); exact rfl; exact rfl; exact rfl)))
      refine r_call0 (by first | trivial | exact ⟨rfl, rfl⟩) rfl rfl rfl (fun w hk hs => c_TextR w p0 l0 (by omega)) fun w v w' _ _ _ hR => ?_
      rw [← hn0, hx] at hR
      obtain rfl : v = sv (cT :: T') := hR
      refine r_eqST (l := cT :: T') rfl rfl rfl rfl ?_
      (repeat' (first | (apply r_move; exact rfl; exact rfl; exact rfl) | (apply r_loadN; exact rfl; exact rfl; exact rfl; exact rfl; (first | exact at0 | exact at1 | exact at2 | exact at3 | exact at4 | exact at5 | exact at6 | exact at7 | exact at8 | exact at9); exact rfl) | (apply r_pickT; exact rfl; exact rfl; exact rfl; exact rfl)))
      refine r_call0 (by first | trivial | exact ⟨rfl, rfl⟩) rfl rfl rfl (fun w hk hs => c_Cmp w _ _ a a 1000 zA zWa (by decide)) fun w v w' _ _ _ hR => ?_
      rw [Int.sub_self] at hR
      obtain rfl : v = iv 0 := hR
      (repeat' (first | (apply r_move; exact rfl; exact rfl; exact rfl) | (apply r_loadN; exact rfl; exact rfl; exact rfl; exact rfl; (first | exact at0 | exact at1 | exact at2 | exact at3 | exact at4 | exact at5 | exact at6 | exact at7 | exact at8 | exact at9); exact rfl) | (apply r_pickT; exact rfl; exact rfl; exact rfl; exact rfl) | (apply r_eqWT; exact rfl; exact rfl; exact rfl; exact rfl; (first | exact rfl | assumption)) | (apply r_eql; exact rfl; exact rfl; exact rfl; exact rfl; all_goals intro hc; all_goals try (exfalso; omega))))
      refine r_call0 (by first | trivial | exact ⟨rfl, rfl⟩) rfl rfl rfl (fun w hk hs => c_Neg w _ a 1000 zA (by decide)) fun w v w' _ _ _ hR => ?_
      subst hR
      skip
      refine r_call0 (by first | trivial | exact ⟨rfl, rfl⟩) rfl rfl rfl (fun w hk hs => c_Neg w _ (-a) 1000 zA.neg (by decide)) fun w v w' _ _ _ hR => ?_
      subst hR
      (repeat' (first | refine JO.nil ?_ | refine JX.thenN ?_ | (apply r_assign; exact rfl; exact rfl; exact rfl) | (apply r_pickT; exact rfl; exact rfl; exact rfl; exact rfl) | (apply r_eqWT; exact rfl; exact rfl; exact rfl; exact rfl; (first | exact rfl | assumption)) | refine JC.ret ?_))
      exact JX.ret1 rfl (fun a w' st => ⟨st.kp, rfl⟩)

end Go.Proofs.YtdehklhdjbkneaaDoor

/-
  LawWideTexts: for every input the call of 'cocycle/cocyclelaw01.WideTexts' returns true, and every argument reads afterwards as it read before. Conditions: none. The card.
-/
namespace Go.Proofs.YtdehklhdjbkneaaDoor.wideTexts
open Go Go.RowKit Go.ChangeShapes Go.WideShapes Go.ChangeAt
set_option linter.unusedSimpArgs false
set_option linter.unusedVariables false
set_option linter.unusedSectionVars false

set_option maxRecDepth 100000 in
theorem lifted (os : Os) (started : os.Started) (H : Type) (enc : TypeId × Value → H) :
    ReturnsInHanded {} Tryd.checked os 11 .any (fun w args => (Rows.wideTextsSpec.pre enc Tryd.prog Tryd.f11 [] false w args ∧ laidMetH Tryd.prog Rows.wideTextsRow.laid w) ∧ sizedMet enc Tryd.prog Tryd.f11 (OpenSpec.ofChange Rows.wideTextsSpec) false w args)
      (Rows.wideTextsSpec.post enc Tryd.prog Tryd.f11 false true false false) := by
  refine returnsInHanded_of_change_and (C := Tryd.checked) (X := fun w _ => laidMetH Tryd.prog Rows.wideTextsRow.laid w) (fun _ _ _ hh h => h.of_heap hh) own started (by kernel_rfl) Tryd.func11
    (ChangeSpec.witness_shaped (enc := enc) (C := Tryd.checked) (os := os) (X := fun w _ => laidMetH Tryd.prog Rows.wideTextsRow.laid w) false (World.laidAll Tryd.prog os Rows.wideTextsRow.laid) #[.agg #[.bool false, .slice none 0 0, .int .i64 0], .int .i64 0] 8 (World.laidAll_os _ _ _)
      (World.shaped_of_ZipB (by kernel_rfl) (by kernel_rfl)) (by kernel_rfl) (by kernel_rfl) (by kernel_rfl)
      (by rw [MakeChecks.laidMetH_plain _ _ _ (by kernel_rfl)]; exact laidMet_laidAll _ (by kernel_rfl) (by kernel_rfl))) ?_
  intro W base args ds gs before hval0 hW _ hwt0 hL _
  have hval : ∀ (j : Nat) t v, Tryd.f11.params[j]? = some t → args[j]? = some v → Value.okWide Tryd.prog W .any base t v := hval0
  have hW' := hW
  obtain ⟨p, q, hA0, hV, rfl, hfz, hnd⟩ := hW
  have hA : DataW.TrodAll enc Tryd.prog W 0 (fun _ => true) true Tryd.f11.params.toList args.toList ds p := hA0
  have hwt : (DataW.weightsEach Tryd.prog (Tryd.f11.params.toList ++ Rows.wideTextsSpec.plain.varTypes Tryd.prog) (ds ++ gs)).all (· ≤ reachBytes) = true := hwt0
  have hwt1 := fun n hn => of_decide_eq_true (List.all_eq_true.1 hwt n hn)
  rw [Tryd.params11] at hA hval hwt1
  obtain ⟨v0, vs0, d0, ds0, p0, q0, hargs, rfl, rfl, h0, r0⟩ := trodAll_cons hA
  obtain ⟨v1, vs1, d1, ds1, p1, q1, rfl, rfl, rfl, h1, r1⟩ := trodAll_cons r0
  obtain ⟨rfl, rfl, rfl⟩ := trodAll_nil r1
  obtain rfl : args = #[v0, v1] := by cases args; simp_all
  obtain ⟨rfl, rfl⟩ := trodVars_none hV
  have k0 := h0
  have lt0 : ∀ x ∈ p0, x.block < W.heap.size := by obtain ⟨m, hm⟩ := k0; exact DataW.trod_lt m _ _ _ hm
  have s0 := open_num (hval 0 24 v0 rfl rfl) h0 (fun n hn => hwt1 n (DataW.weights_mem_each (j := 0) rfl rfl n hn))
  have k1 := h1
  have lt1 : ∀ x ∈ p1, x.block < W.heap.size := by obtain ⟨m, hm⟩ := k1; exact DataW.trod_lt m _ _ _ hm
  obtain ⟨x1, rfl, rfl, rfl, wx1⟩ := open_int Tryd.underlying3 (hval 1 3 v1 rfl rfl) h1
  have s1 := int_wf wx1
  clear hA0 hval0
  refine (c_WideTexts W v0 x1 s0 s1).mono fun e W' he => ?_
  cases e with
  | panicked _ => exact he.elim
  | outgrown => exact he.elim
  | returned u =>
    obtain ⟨hk, rfl⟩ := he
    have bel := hk.below
    exact ⟨_, rfl, _, _, _, [], _, [], hW', trodAll_mk1 (shut_bool Tryd.underlying4 _), (trodAll_cons_mk (Below.trod laidOut (by kernel_rfl) (of_decide_eq_true (by kernel_rfl)) k0 bel lt0) (trodAll_cons_mk (Below.trod laidOut (by kernel_rfl) (of_decide_eq_true (by kernel_rfl)) k1 bel lt1) trodAll_mk0)), rfl, bel.frame _, fun h => by cases h⟩

theorem holds : Rows.WideTextsSaid :=
  OpenClaim.holds_of_wide 11 Tryd.f11 rfl rfl rfl rfl rfl rfl rfl ⟨rfl, rfl, rfl, rfl, rfl⟩ rfl rfl rfl rfl rfl (by kernel_rfl) Tryd.func11 (by kernel_rfl)
    (of_decide_eq_true (by kernel_rfl)) (by unfold Func.isWrapper; first | (rw [if_pos (by decide +kernel)]; kernel_rfl) | (rw [if_neg (by decide +kernel)]; exact ⟨rfl, rfl⟩))
    (fun os started H enc _ => lifted os started H enc)

theorem proved : Rows.WideTextsCardSaid :=
  Claim7.holds_tied_plain_at .later [] [.data, .pinned] true (true, "1b4308b2693fd3c5d8a5af720d248fe7c1199e94c09dcbfbf8bbeec66be0f239") false holds (fun _ h => by cases h) (by kernel_rfl) (fun _ h => by cases h) wideTexts_row_tie rfl ⟨rfl, rfl⟩ (by kernel_rfl) rfl
    (fun f fn hf hfn => by
      obtain rfl : f = 11 := Option.some.inj ((show Tryd.prog.funcNamed "cocycle/cocyclelaw01.WideTexts" = some 11 by kernel_rfl).symm.trans hf) |>.symm
      obtain rfl : fn = Tryd.f11 := (Option.some.inj (Tryd.func11.symm.trans hfn)).symm
      exact ⟨by kernel_rfl, fun j t ht => by
        rw [Tryd.params11] at ht
        have hm : t ∈ [24, 3] := by simpa using Array.mem_of_getElem? ht
        have hall : ([24, 3].all fun u => !Tryd.prog.wantsStandIn u) = true := by kernel_rfl
        exact (show Tryd.prog.wantsStandIn t = false by simpa using List.all_eq_true.1 hall t hm)⟩)
    (by kernel_rfl)

end Go.Proofs.YtdehklhdjbkneaaDoor.wideTexts

