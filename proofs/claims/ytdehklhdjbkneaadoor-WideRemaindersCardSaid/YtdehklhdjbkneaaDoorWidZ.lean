/- Gcd. -/
import Derived.Test.YtdehklhdjbkneaaDoorWidY
namespace Go.Proofs.YtdehklhdjbkneaaDoor
open Go Go.RowKit
set_option linter.unusedSimpArgs false
set_option linter.unusedVariables false
set_option linter.unusedSectionVars false

/-- The cells of a canonical number. -/
abbrev wc (z : Int) : Array Value := #[.bool (decide (z < 0)), sv (magU z.natAbs)]
theorem Wv_wc (z : Int) : Wv z = .agg (wc z) := rfl

/-- Three results, structs in owned blocks. -/
theorem JX.retCCC {c : Cx} {t t' t'' : Tmp} {ty ty' ty'' n n' n'' b b' b'' : Nat} {cs cs' cs'' : Array Value} {T T' T'' : TypeId} {fz fz' fz'' : Nat × Nat} {R : Value → World → Prop} {F : SFrame} {H : SHeap} [TN c.P ty n] [TN c.P ty' n'] [TN c.P ty'' n''] (k k' k'' : Nat) (h1 : look F t = some (.pointer (some ⟨b, 0, none⟩)))
    (h2 : H[k]? = some (b, Obj.cells cs T fz)) (hn : cs.size = n) (h1' : look F t' = some (.pointer (some ⟨b', 0, none⟩))) (h2' : H[k']? = some (b', Obj.cells cs' T' fz')) (hn' : cs'.size = n') (h1'' : look F t'' = some (.pointer (some ⟨b'', 0, none⟩))) (h2'' : H[k'']? = some (b'', Obj.cells cs'' T'' fz'')) (hn'' : cs''.size = n'')
    (hR : ∀ a w, St c F H a w → R (.tuple #[.agg cs, .agg cs', .agg cs'']) w) : JX c (endPost c.P #[.cell t ty, .cell t' ty', .cell t'' ty''] (Ret R)) .ret F H :=
  JX.ret' [.agg cs, .agg cs', .agg cs''] (JR.cellN k h1 h2 hn (JR.cellN k' h1' h2' hn' (JR.cellN k'' h1'' h2'' hn'' JR.nil))) hR

theorem natAbs_lt_of_le {a b : Int} {k : Nat} (h : a.natAbs < 256 ^ k) (hb : b.natAbs ≤ 3 * a.natAbs) : b.natAbs < 256 ^ (k + 1) := by
  rw [Nat.pow_succ]; omega
theorem sgn_false (n : Nat) : sgn false n = (n : Int) := rfl
theorem ediv_lt {g h : Int} {k : Nat} (hg : 0 ≤ g) (hh : 0 ≤ h) (hl : g.natAbs < 256 ^ k) : (g / h).natAbs < 256 ^ k := by
  obtain ⟨G, rfl⟩ := Int.eq_ofNat_of_zero_le hg
  obtain ⟨K, rfl⟩ := Int.eq_ofNat_of_zero_le hh
  have e : (G : Int) / K = ((G / K : Nat) : Int) := rfl
  rw [e, Int.natAbs_natCast] at *
  exact Nat.lt_of_le_of_lt (Nat.div_le_self _ _) hl
theorem quo_natAbs_le (a b : Int) : (a / b).natAbs ≤ a.natAbs + b.natAbs := by
  by_cases hb : b = 0
  · subst hb; simp
  have e := Int.mul_ediv_add_emod a b
  have h1 := Int.emod_nonneg a hb
  have h2 := Int.emod_lt a hb
  have h3 : (b * (a / b)).natAbs = b.natAbs * (a / b).natAbs := Int.natAbs_mul _ _
  have h4 : (a / b).natAbs ≤ b.natAbs * (a / b).natAbs := Nat.le_mul_of_pos_left _ (by omega)
  omega

set_option maxHeartbeats 16000000 in
theorem c_Gcd (w : World) (v u : Value) (a b : Int) (k : Nat) (hv : IsZ v a k) (hu : IsZ u b k) (hk : k ≤ 1000) :
    Calls Tryd.prog 18 #[v, u] w (Ret fun r w' => Kp [] w w' ∧ ∃ g x y, r = .tuple #[Wv g, Wv x, Wv y] ∧ GcdP a b g x y) := by
  have hZa := hv
  have hZb := hu
  obtain ⟨p, l, rfl, hl1, ha⟩ := hv
  obtain ⟨q, l', rfl, hl2, hb'⟩ := hu
  have haN : a.natAbs = bval (bts l) := by rw [ha, sgn_natAbs]
  have hbN : b.natAbs = bval (bts l') := by rw [hb', sgn_natAbs]
  have hsa : -9223372036854775808 ≤ a.sign ∧ a.sign < 9223372036854775808 := by
    rcases Int.lt_trichotomy a 0 with h | h | h
    · rw [Int.sign_eq_neg_one_of_neg h]; omega
    · subst h; decide
    · rw [Int.sign_eq_one_of_pos h]; omega
  have hZabs : ∀ {z : Int}, z.natAbs < 256 ^ k → IsZ (Wv z) z k := fun h => IsZ.can h
  refine calls_of_R [8] [⟨2, 1, [0, 3, 6, 1, 2, 4, 5, 7, 8, 9], []⟩, ⟨3, 1, [0, 3, 1, 2, 4, 5, 6, 7], []⟩, ⟨7, 1, [], []⟩, ⟨8, 1, [], []⟩, ⟨9, 3, [0, 3, 1, 2, 4, 5, 6, 7, 8, 9, 10, 11, 12, 13], []⟩, ⟨11, 1, [0, 1, 2, 5, 3, 4, 6, 7, 8, 9, 10, 11], []⟩, ⟨12, 1, [], []⟩] [] (by simp) [] Tryd.func18 rfl mixed (by kernel_rfl) Tryd.ntmps18 Tryd.results18 rfl ⟨by simp, by simp⟩ (by simp) ?_
  simp only [toR, inR, cond_true, cond_false, Nat.reduceBEq, toS, textOps, toSOp, kindAt, kindOf, odAt, sopsAt, ordOf, zipF]
  (repeat' (first | refine JC.seq ?_ | refine JC.ops ?_ | refine JO.nil ?_ | refine JX.thenN ?_ | (apply r_loadN; exact rfl; exact rfl; exact rfl; exact rfl; (first | exact at0 | exact at1 | exact at2 | exact at3 | exact at4 | exact at5 | exact at6 | exact at7 | exact at8 | exact at9); exact rfl) | (apply r_allocZ; exact rfl; exact rfl; exact rfl; intro _) | (apply r_boxA; exact rfl; exact rfl; exact rfl; exact rfl; intro _)))
  rename_i b2 b3 b4 b5 b6
  refine r_call0 trivial rfl rfl rfl (fun w hk' hs => c_Sign w _ b k hZb (by omega)) fun w v w' _ _ _ hR => ?_
  subst hR
  by_cases hb : b = 0
  · have hbs : b.sign = 0 := by rw [hb]; rfl
    (repeat' (first | refine JC.seq ?_ | refine JO.nil ?_ | refine JX.thenN ?_ | (apply r_eql; exact rfl; exact rfl; exact rfl; exact rfl; all_goals intro hc; all_goals try (exfalso; omega)) | refine JC.condT rfl ?_))
    refine JC.opsDs [(b6, .cells #[.bool false, .string ⟨#[]⟩] 27 (0, 0)), (b3, .cells #[.bool q, sv l'] 27 (0, 0)), (b2, .cells #[.bool p, sv l] 27 (0, 0))] (by (repeat' first | exact HSub.refl _ | exact HSub.nil _ | refine HSub.at 0 rfl ?_ | refine HSub.at 1 rfl ?_ | refine HSub.at 2 rfl ?_ | refine HSub.at 3 rfl ?_ | refine HSub.at 4 rfl ?_ | refine HSub.at 5 rfl ?_ | refine HSub.at 6 rfl ?_ | refine HSub.at 7 rfl ?_ | refine HSub.at 8 rfl ?_ | refine HSub.at 9 rfl ?_ | refine HSub.at 10 rfl ?_ | refine HSub.at 11 rfl ?_ | refine HSub.at 12 rfl ?_ | refine HSub.at 13 rfl ?_ | refine HSub.at 14 rfl ?_ | refine HSub.at 15 rfl ?_ | refine HSub.at 16 rfl ?_ | refine HSub.at 17 rfl ?_ | refine HSub.at 18 rfl ?_ | refine HSub.at 19 rfl ?_ | refine HSub.segH ?_ | refine HSub.skip ?_ | refine HSub.skipN ?_)) ?_
    (repeat' (first | (apply r_loadN; exact rfl; exact rfl; exact rfl; exact rfl; (first | exact at0 | exact at1 | exact at2 | exact at3 | exact at4 | exact at5 | exact at6 | exact at7 | exact at8 | exact at9); exact rfl)))
    refine r_callA (A := [_, _, _, _, _]) rfl trivial rfl rfl rfl (fun w hk hs => c_abs w p l (by omega)) fun w v w' _ _ _ hR => ?_
    obtain ⟨N1, zs1, hN1, hO1, hz1, hval1⟩ := hR
    refine ⟨N1, hN1, ?_⟩
    have hzl1 := words_le hz1 hval1 hl1
    skip
    refine r_call0 trivial rfl rfl rfl (fun w hk hs => c_wide w _ _ zs1 false (hO1.rd.at hk hs (by (repeat' first | exact HSub.nil _ | exact HSub.hd | exact HSub.in0 | exact HSub.refl _ | refine HSub.skip ?_ | refine HSub.skipN ?_))) hz1.lt (by omega)) fun w v w' _ _ _ hR => ?_
    rw [hval1, sgn_false, ← haN] at hR
    subst hR
    skip
    refine r_call0 trivial rfl rfl rfl (fun w hk' hs => c_Sign w _ a k hZa (by omega)) fun w v w' _ _ _ hR => ?_
    subst hR
    skip
    refine r_call0 trivial rfl rfl rfl (fun w hk' hs => c_From w a.sign hsa.1 hsa.2) fun w v w' _ _ _ hR => ?_
    subst hR
    (repeat' (first | refine JO.nil ?_ | refine JX.thenN ?_ | (apply r_storeN; exact rfl; (first | exact trivial | exact ⟨rfl, rfl⟩); exact rfl; exact rfl; (first | exact at0 | exact at1 | exact at2 | exact at3 | exact at4 | exact at5 | exact at6 | exact at7 | exact at8 | exact at9); exact rfl; exact rfl; exact rfl) | (apply r_storeKN; exact rfl; exact rfl; exact rfl; (first | exact at0 | exact at1 | exact at2 | exact at3 | exact at4 | exact at5 | exact at6 | exact at7 | exact at8 | exact at9); exact rfl; exact rfl; exact rfl; (repeat' first | exact HSub.refl _ | exact HSub.nil _ | refine HSub.at 0 rfl ?_ | refine HSub.at 1 rfl ?_ | refine HSub.at 2 rfl ?_ | refine HSub.at 3 rfl ?_ | refine HSub.at 4 rfl ?_ | refine HSub.at 5 rfl ?_ | refine HSub.at 6 rfl ?_ | refine HSub.at 7 rfl ?_ | refine HSub.at 8 rfl ?_ | refine HSub.at 9 rfl ?_ | refine HSub.at 10 rfl ?_ | refine HSub.at 11 rfl ?_ | refine HSub.at 12 rfl ?_ | refine HSub.at 13 rfl ?_ | refine HSub.at 14 rfl ?_ | refine HSub.at 15 rfl ?_ | refine HSub.at 16 rfl ?_ | refine HSub.at 17 rfl ?_ | refine HSub.at 18 rfl ?_ | refine HSub.at 19 rfl ?_ | refine HSub.segH ?_ | refine HSub.skip ?_ | refine HSub.skipN ?_)) | (apply r_storeN; exact rfl; (first | exact trivial | exact ⟨rfl, rfl⟩); exact rfl; exact rfl; (first | exact at0 | exact at1 | exact at2 | exact at3 | exact at4 | exact at5 | exact at6 | exact at7 | exact at8 | exact at9); exact rfl; exact rfl; exact rfl) | refine JX.thenR ?_ | refine JC.ret ?_))
    exact JX.retCCC 2 1 0 rfl rfl rfl rfl rfl rfl rfl rfl rfl (fun a' w' st => ⟨st.kp, (a.natAbs : Int), a.sign, 0, rfl, by rw [hb]; exact gcd_zero_end a⟩)
  have hbs : b.sign ≠ 0 := fun h => hb (Int.sign_eq_zero_iff_zero.1 h)
  (repeat' (first | refine JC.seq ?_ | refine JO.nil ?_ | refine JX.thenN ?_ | (apply r_eql; exact rfl; exact rfl; exact rfl; exact rfl; all_goals intro hc; all_goals try (exfalso; omega)) | refine JC.skip ?_ | refine JC.condF rfl ?_))
  refine JC.opsDs [(b6, .cells #[.bool false, .string ⟨#[]⟩] 27 (0, 0)), (b3, .cells #[.bool q, sv l'] 27 (0, 0)), (b2, .cells #[.bool p, sv l] 27 (0, 0))] (by (repeat' first | exact HSub.refl _ | exact HSub.nil _ | refine HSub.at 0 rfl ?_ | refine HSub.at 1 rfl ?_ | refine HSub.at 2 rfl ?_ | refine HSub.at 3 rfl ?_ | refine HSub.at 4 rfl ?_ | refine HSub.at 5 rfl ?_ | refine HSub.at 6 rfl ?_ | refine HSub.at 7 rfl ?_ | refine HSub.at 8 rfl ?_ | refine HSub.at 9 rfl ?_ | refine HSub.at 10 rfl ?_ | refine HSub.at 11 rfl ?_ | refine HSub.at 12 rfl ?_ | refine HSub.at 13 rfl ?_ | refine HSub.at 14 rfl ?_ | refine HSub.at 15 rfl ?_ | refine HSub.at 16 rfl ?_ | refine HSub.at 17 rfl ?_ | refine HSub.at 18 rfl ?_ | refine HSub.at 19 rfl ?_ | refine HSub.segH ?_ | refine HSub.skip ?_ | refine HSub.skipN ?_)) ?_
  (repeat' (first | (apply r_loadN; exact rfl; exact rfl; exact rfl; exact rfl; (first | exact at0 | exact at1 | exact at2 | exact at3 | exact at4 | exact at5 | exact at6 | exact at7 | exact at8 | exact at9); exact rfl)))
  refine r_callA (A := [_, _, _, _, _]) rfl trivial rfl rfl rfl (fun w hk hs => c_abs w p l (by omega)) fun w v w' _ _ _ hR => ?_
  obtain ⟨N1, zs1, hN1, hO1, hz1, hval1⟩ := hR
  refine ⟨N1, hN1, ?_⟩
  have hzl1 := words_le hz1 hval1 hl1
  skip
  refine r_call0 trivial rfl rfl rfl (fun w hk hs => c_wide w _ _ zs1 false (hO1.rd.at hk hs (by (repeat' first | exact HSub.nil _ | exact HSub.hd | exact HSub.in0 | exact HSub.refl _ | refine HSub.skip ?_ | refine HSub.skipN ?_))) hz1.lt (by omega)) fun w v w' _ _ _ hR => ?_
  rw [hval1, sgn_false, ← haN] at hR
  subst hR
  skip
  refine r_call0 trivial rfl rfl rfl (fun w hk' hs => c_Sign w _ a k hZa (by omega)) fun w v w' _ _ _ hR => ?_
  subst hR
  skip
  refine r_call0 trivial rfl rfl rfl (fun w hk' hs => c_From w a.sign hsa.1 hsa.2) fun w v w' _ _ _ hR => ?_
  subst hR
  (repeat' (first | refine JC.seq ?_ | refine JC.ops ?_ | refine JO.nil ?_ | refine JX.thenN ?_ | (apply r_loadN; exact rfl; exact rfl; exact rfl; exact rfl; (first | exact at0 | exact at1 | exact at2 | exact at3 | exact at4 | exact at5 | exact at6 | exact at7 | exact at8 | exact at9); exact rfl) | (apply r_storeN; exact rfl; (first | exact trivial | exact ⟨rfl, rfl⟩); exact rfl; exact rfl; (first | exact at0 | exact at1 | exact at2 | exact at3 | exact at4 | exact at5 | exact at6 | exact at7 | exact at8 | exact at9); exact rfl; exact rfl; exact rfl) | (apply r_storeKN; exact rfl; exact rfl; exact rfl; (first | exact at0 | exact at1 | exact at2 | exact at3 | exact at4 | exact at5 | exact at6 | exact at7 | exact at8 | exact at9); exact rfl; exact rfl; exact rfl; (repeat' first | exact HSub.refl _ | exact HSub.nil _ | refine HSub.at 0 rfl ?_ | refine HSub.at 1 rfl ?_ | refine HSub.at 2 rfl ?_ | refine HSub.at 3 rfl ?_ | refine HSub.at 4 rfl ?_ | refine HSub.at 5 rfl ?_ | refine HSub.at 6 rfl ?_ | refine HSub.at 7 rfl ?_ | refine HSub.at 8 rfl ?_ | refine HSub.at 9 rfl ?_ | refine HSub.at 10 rfl ?_ | refine HSub.at 11 rfl ?_ | refine HSub.at 12 rfl ?_ | refine HSub.at 13 rfl ?_ | refine HSub.at 14 rfl ?_ | refine HSub.at 15 rfl ?_ | refine HSub.at 16 rfl ?_ | refine HSub.at 17 rfl ?_ | refine HSub.at 18 rfl ?_ | refine HSub.at 19 rfl ?_ | refine HSub.segH ?_ | refine HSub.skip ?_ | refine HSub.skipN ?_)) | (apply r_storeN; exact rfl; (first | exact trivial | exact ⟨rfl, rfl⟩); exact rfl; exact rfl; (first | exact at0 | exact at1 | exact at2 | exact at3 | exact at4 | exact at5 | exact at6 | exact at7 | exact at8 | exact at9); exact rfl; exact rfl; exact rfl)))
  refine r_callA (A := [_, _, _, _, _]) rfl trivial rfl rfl rfl (fun w hk hs => c_abs w q l' (by omega)) fun w v w' _ _ _ hR => ?_
  obtain ⟨N2, zs2, hN2, hO2, hz2, hval2⟩ := hR
  refine ⟨N2, hN2, ?_⟩
  have hzl2 := words_le hz2 hval2 hl2
  skip
  refine r_call0 trivial rfl rfl rfl (fun w hk hs => c_wide w _ _ zs2 false (hO2.rd.at hk hs (by (repeat' first | exact HSub.nil _ | exact HSub.hd | exact HSub.in0 | exact HSub.refl _ | refine HSub.skip ?_ | refine HSub.skipN ?_))) hz2.lt (by omega)) fun w v w' _ _ _ hR => ?_
  rw [hval2, sgn_false, ← hbN] at hR
  subst hR
  (repeat' (first | refine JC.seq ?_ | refine JO.nil ?_ | refine JX.thenN ?_ | (apply r_storeN; exact rfl; (first | exact trivial | exact ⟨rfl, rfl⟩); exact rfl; exact rfl; (first | exact at0 | exact at1 | exact at2 | exact at3 | exact at4 | exact at5 | exact at6 | exact at7 | exact at8 | exact at9); exact rfl; exact rfl; exact rfl) | (apply r_allocZ; exact rfl; exact rfl; exact rfl; intro _) | (apply r_buildL; exact rfl; exact rfl; exact rfl; exact rfl; exact rfl) | (apply r_storeN; exact rfl; (first | exact trivial | exact ⟨rfl, rfl⟩); exact rfl; exact rfl; (first | exact at0 | exact at1 | exact at2 | exact at3 | exact at4 | exact at5 | exact at6 | exact at7 | exact at8 | exact at9); exact rfl; exact rfl; exact rfl) | refine JC.block ?_))
  rename_i b7 b8
  have hb1 : 1 ≤ b.natAbs := by omega
  refine JC.loopH (ι := Int × Int × Int × Int) ⟨fun z => [(8, .pointer (some ⟨b8, 0, none⟩)), (7, .pointer (some ⟨b7, 0, none⟩)), (6, .pointer (some ⟨b6, 0, none⟩)), (5, .pointer (some ⟨b5, 0, none⟩)), (4, .pointer (some ⟨b4, 0, none⟩)), (3, .pointer (some ⟨b3, 0, none⟩)), (2, .pointer (some ⟨b2, 0, none⟩))],
    fun z => [(b8, .cells (wc z.2.2.2) 27 (0, 0)), (b7, .cells (wc z.2.1) 27 (0, 0)), (b6, .cells #[.bool false, .string ⟨#[]⟩] 27 (0, 0)), (b5, .cells (wc z.2.2.1) 27 (0, 0)), (b4, .cells (wc z.1) 27 (0, 0)), (b3, .cells #[.bool q, sv l'] 27 (0, 0)), (b2, .cells #[.bool p, sv l] 27 (0, 0))],
    fun z => GI a b z.1 z.2.1 z.2.2.1 z.2.2.2 ∧ z.2.2.1.natAbs ≤ 3 * b.natAbs ∧ z.2.2.2.natAbs ≤ 3 * b.natAbs ∧ z.1.natAbs < 256 ^ k ∧ z.2.1.natAbs < 256 ^ k, fun z => z.2.1.natAbs⟩
    ((a.natAbs : Int), (b.natAbs : Int), a.sign, 0) ⟨GI.start a b, by
      show a.sign.natAbs ≤ _
      have : a.sign.natAbs ≤ 1 := by rcases Int.lt_trichotomy a 0 with h | h | h <;> simp [Int.sign_eq_neg_one_of_neg, Int.sign_eq_one_of_pos, h]
      omega, by simp, by simpa using hZa.lt, by simpa using hZb.lt⟩ (by repeat first | exact trivial | refine ⟨rfl, ?_⟩) (by (repeat' first | exact HSub.refl _ | exact HSub.nil _ | refine HSub.at 0 rfl ?_ | refine HSub.at 1 rfl ?_ | refine HSub.at 2 rfl ?_ | refine HSub.at 3 rfl ?_ | refine HSub.at 4 rfl ?_ | refine HSub.at 5 rfl ?_ | refine HSub.at 6 rfl ?_ | refine HSub.at 7 rfl ?_ | refine HSub.at 8 rfl ?_ | refine HSub.at 9 rfl ?_ | refine HSub.at 10 rfl ?_ | refine HSub.at 11 rfl ?_ | refine HSub.at 12 rfl ?_ | refine HSub.at 13 rfl ?_ | refine HSub.at 14 rfl ?_ | refine HSub.at 15 rfl ?_ | refine HSub.at 16 rfl ?_ | refine HSub.at 17 rfl ?_ | refine HSub.at 18 rfl ?_ | refine HSub.at 19 rfl ?_ | refine HSub.segH ?_ | refine HSub.skip ?_ | refine HSub.skipN ?_)) (fun z hz => ?_)
  obtain ⟨g, h, x, y⟩ := z
  obtain ⟨hGI, hx3, hy3, hgk, hhk⟩ := hz
  dsimp only at hGI hx3 hy3 hgk hhk ⊢
  have hZx : IsZ (Wv x) x (k + 1) := IsZ.can (natAbs_lt_of_le hZb.lt hx3)
  have hZy : IsZ (Wv y) y (k + 1) := IsZ.can (natAbs_lt_of_le hZb.lt hy3)
  have hZg : IsZ (Wv g) g k := IsZ.can hgk
  have hZh : IsZ (Wv h) h k := IsZ.can hhk
  by_cases hh : h = 0
  · subst hh
    have hs0 : Int.sign 0 = 0 := rfl
    have hgg : g = Int.gcd a b := by
      have h1 := hGI.gcd
      rw [Int.gcd_zero_right] at h1
      have := hGI.g0
      omega
    have hgp : 0 < g := by
      have h1 : 0 < Int.gcd a b := Int.gcd_pos_of_ne_zero_right _ hb
      omega
    have hdb : g ∣ b := by rw [hgg]; exact Int.gcd_dvd_right ..
    obtain ⟨y0, hex⟩ := hGI.ex
    have hmg : (b / g) * g = b := Int.ediv_mul_cancel hdb
    have hbg0 : b / g ≠ 0 := fun e => by rw [e, Int.zero_mul] at hmg; exact hb hmg.symm
    have hmm : (b.natAbs : Int) / g * g = b.natAbs := Int.ediv_mul_cancel (Int.dvd_natAbs.2 hdb)
    have hm0 : (b.natAbs : Int) / g ≠ 0 := fun e => by rw [e, Int.zero_mul] at hmm; omega
    have hm1 : ((b.natAbs : Int) / g).natAbs < 256 ^ k := ediv_lt (by omega) (by omega) (by simpa using hZb.lt)
    have hxm := abs_quo_emod (x := x) hdb
    have hx1 : (x % (b / g)).natAbs < 256 ^ k := by
      have h1 := Int.emod_nonneg x hm0
      have h2 := Int.emod_lt x hm0
      rw [hxm] at h1 h2
      omega
    have hZx' : IsZ (Wv (x % (b / g))) (x % (b / g)) k := IsZ.can hx1
    have hZxa : IsZ (Wv (x % (b / g) * a)) (x % (b / g) * a) (2 * k) := (IsZ.can (mul_lt hx1 hZa.lt)).mono (by omega)
    have hZgx : IsZ (Wv (g - x % (b / g) * a)) (g - x % (b / g) * a) (2 * k + 1) := by
      rw [Int.sub_eq_add_neg]
      exact IsZ.add (hZg.mono (show k ≤ 2 * k by omega)).lt (by rw [Int.natAbs_neg]; exact hZxa.lt)
    (repeat' (first | refine JC.seq ?_ | refine JC.ops ?_ | (apply r_loadN; exact rfl; exact rfl; exact rfl; exact rfl; (first | exact at0 | exact at1 | exact at2 | exact at3 | exact at4 | exact at5 | exact at6 | exact at7 | exact at8 | exact at9); exact rfl)))
    refine r_call0 trivial rfl rfl rfl (fun w hk' hs => c_Sign w _ 0 k hZh (by omega)) fun w v w' _ _ _ hR => ?_
    subst hR
    (repeat' (first | refine JC.seq ?_ | refine JC.opsD ?_ | refine JO.nil ?_ | refine JX.thenN ?_ | (apply r_loadN; exact rfl; exact rfl; exact rfl; exact rfl; (first | exact at0 | exact at1 | exact at2 | exact at3 | exact at4 | exact at5 | exact at6 | exact at7 | exact at8 | exact at9); exact rfl) | (apply r_neq; exact rfl; exact rfl; exact rfl; exact rfl; all_goals intro hc; all_goals try (exfalso; omega)) | refine JX.thenE ?_ | refine JC.exit ?_ | refine JC.condF rfl ?_ | refine JX.blockE ?_))
    refine r_callA (A := [_, _, _, _, _, _, _]) rfl trivial rfl rfl rfl (fun w hk hs => c_abs w q l' (by omega)) fun w v w' _ _ _ hR => ?_
    obtain ⟨N3, zs3, hN3, hO3, hz3, hval3⟩ := hR
    refine ⟨N3, hN3, ?_⟩
    have hzl3 := words_le hz3 hval3 hl2
    skip
    refine r_call0 trivial rfl rfl rfl (fun w hk hs => c_wide w _ _ zs3 false (hO3.rd.at hk hs (by (repeat' first | exact HSub.nil _ | exact HSub.hd | exact HSub.in0 | exact HSub.refl _ | refine HSub.skip ?_ | refine HSub.skipN ?_))) hz3.lt (by omega)) fun w v w' _ _ _ hR => ?_
    rw [hval3, sgn_false, ← hbN] at hR
    subst hR
    skip
    refine r_call0 trivial rfl rfl rfl (fun w hk' hs => c_Quo w _ _ (b.natAbs : Int) g k (IsZ.can (by simpa using hZb.lt)) hZg (by omega)) fun w v w' _ _ _ hR => ?_
    rw [if_neg (by omega)] at hR
    subst hR
    (repeat' (first | refine JC.seq ?_ | refine JC.ops ?_ | refine JO.nil ?_ | refine JX.thenN ?_ | (apply r_move; exact rfl; exact rfl; exact rfl) | (apply r_assign; exact rfl; exact rfl; exact rfl) | (apply r_loadN; exact rfl; exact rfl; exact rfl; exact rfl; (first | exact at0 | exact at1 | exact at2 | exact at3 | exact at4 | exact at5 | exact at6 | exact at7 | exact at8 | exact at9); exact rfl) | (apply r_extract; exact rfl; exact rfl; exact rfl; exact rfl) | (apply r_storeN; exact rfl; (first | exact trivial | exact ⟨rfl, rfl⟩); exact rfl; exact rfl; (first | exact at0 | exact at1 | exact at2 | exact at3 | exact at4 | exact at5 | exact at6 | exact at7 | exact at8 | exact at9); exact rfl; exact rfl; exact rfl) | (apply r_allocZ; exact rfl; exact rfl; exact rfl; intro _) | (apply r_storeN; exact rfl; (first | exact trivial | exact ⟨rfl, rfl⟩); exact rfl; exact rfl; (first | exact at0 | exact at1 | exact at2 | exact at3 | exact at4 | exact at5 | exact at6 | exact at7 | exact at8 | exact at9); exact rfl; exact rfl; exact rfl)))
    refine r_call0 trivial rfl rfl rfl (fun w hk' hs => c_Quo w _ _ x ((b.natAbs : Int) / g) (k + 1) hZx ((IsZ.can hm1).mono (by omega)) (by omega)) fun w v w' _ _ _ hR => ?_
    rw [if_neg hm0, hxm] at hR
    subst hR
    (repeat' (first | refine JC.seq ?_ | refine JC.opsD ?_ | refine JO.nil ?_ | refine JX.thenN ?_ | (apply r_move; exact rfl; exact rfl; exact rfl) | (apply r_loadN; exact rfl; exact rfl; exact rfl; exact rfl; (first | exact at0 | exact at1 | exact at2 | exact at3 | exact at4 | exact at5 | exact at6 | exact at7 | exact at8 | exact at9); exact rfl) | (apply r_extract; exact rfl; exact rfl; exact rfl; exact rfl) | (apply r_storeN; exact rfl; (first | exact trivial | exact ⟨rfl, rfl⟩); exact rfl; exact rfl; (first | exact at0 | exact at1 | exact at2 | exact at3 | exact at4 | exact at5 | exact at6 | exact at7 | exact at8 | exact at9); exact rfl; exact rfl; exact rfl) | (apply r_storeN; exact rfl; (first | exact trivial | exact ⟨rfl, rfl⟩); exact rfl; exact rfl; (first | exact at0 | exact at1 | exact at2 | exact at3 | exact at4 | exact at5 | exact at6 | exact at7 | exact at8 | exact at9); exact rfl; exact rfl; exact rfl)))
    refine r_call0 trivial rfl rfl rfl (fun w hk' hs => c_Mul w _ _ (x % (b / g)) a k hZx' hZa (by omega)) fun w v w' _ _ _ hR => ?_
    subst hR
    skip
    refine r_call0 trivial rfl rfl rfl (fun w hk' hs => c_Sub w _ _ g (x % (b / g) * a) (2 * k) (hZg.mono (by omega)) hZxa (by omega)) fun w v w' _ _ _ hR => ?_
    subst hR
    skip
    refine r_call0 trivial rfl rfl rfl (fun w hk' hs => c_Quo w _ _ (g - x % (b / g) * a) b (2 * k + 1) hZgx (hZb.mono (by omega)) (by omega)) fun w v w' _ _ _ hR => ?_
    rw [if_neg hb] at hR
    subst hR
    (repeat' (first | refine JC.seq ?_ | refine JC.opsD ?_ | refine JO.nil ?_ | refine JX.thenN ?_ | (apply r_move; exact rfl; exact rfl; exact rfl) | (apply r_loadN; exact rfl; exact rfl; exact rfl; exact rfl; (first | exact at0 | exact at1 | exact at2 | exact at3 | exact at4 | exact at5 | exact at6 | exact at7 | exact at8 | exact at9); exact rfl) | (apply r_extract; exact rfl; exact rfl; exact rfl; exact rfl) | (apply r_storeN; exact rfl; (first | exact trivial | exact ⟨rfl, rfl⟩); exact rfl; exact rfl; (first | exact at0 | exact at1 | exact at2 | exact at3 | exact at4 | exact at5 | exact at6 | exact at7 | exact at8 | exact at9); exact rfl; exact rfl; exact rfl) | (apply r_storeKN; exact rfl; exact rfl; exact rfl; (first | exact at0 | exact at1 | exact at2 | exact at3 | exact at4 | exact at5 | exact at6 | exact at7 | exact at8 | exact at9); exact rfl; exact rfl; exact rfl; (repeat' first | exact HSub.refl _ | exact HSub.nil _ | refine HSub.at 0 rfl ?_ | refine HSub.at 1 rfl ?_ | refine HSub.at 2 rfl ?_ | refine HSub.at 3 rfl ?_ | refine HSub.at 4 rfl ?_ | refine HSub.at 5 rfl ?_ | refine HSub.at 6 rfl ?_ | refine HSub.at 7 rfl ?_ | refine HSub.at 8 rfl ?_ | refine HSub.at 9 rfl ?_ | refine HSub.at 10 rfl ?_ | refine HSub.at 11 rfl ?_ | refine HSub.at 12 rfl ?_ | refine HSub.at 13 rfl ?_ | refine HSub.at 14 rfl ?_ | refine HSub.at 15 rfl ?_ | refine HSub.at 16 rfl ?_ | refine HSub.at 17 rfl ?_ | refine HSub.at 18 rfl ?_ | refine HSub.at 19 rfl ?_ | refine HSub.segH ?_ | refine HSub.skip ?_ | refine HSub.skipN ?_)) | (apply r_storeN; exact rfl; (first | exact trivial | exact ⟨rfl, rfl⟩); exact rfl; exact rfl; (first | exact at0 | exact at1 | exact at2 | exact at3 | exact at4 | exact at5 | exact at6 | exact at7 | exact at8 | exact at9); exact rfl; exact rfl; exact rfl) | refine JC.ret ?_))
    exact JX.retCCC 6 5 4 rfl rfl rfl rfl rfl rfl rfl rfl rfl (fun a' w' st => ⟨st.kp, g, x % (b / g), (g - x % (b / g) * a) / b, rfl, gcd_end hgg hb hex⟩)
  · have hs0 : h.sign ≠ 0 := fun e => hh (Int.sign_eq_zero_iff_zero.1 e)
    have hq1 := ediv_lt hGI.g0 hGI.h0 hgk
    have hZq : IsZ (Wv (g / h)) (g / h) (k + 1) := (IsZ.can hq1).mono (by omega)
    have hstep := hGI.step hh
    have hZqy : IsZ (Wv (g / h * y)) (g / h * y) (2 * k + 2) := (IsZ.can (mul_lt hZq.lt hZy.lt)).mono (by omega)
    have hu3 : (x - g / h * y).natAbs ≤ 3 * b.natAbs := by
      have h1 := hstep.sz
      have h2 := Nat.le_mul_of_pos_right (x - g / h * y).natAbs (show 0 < h.natAbs by omega)
      omega
    have hr1 := Int.emod_nonneg g hh
    have hr2 := Int.emod_lt g hh
    (repeat' (first | refine JC.seq ?_ | refine JC.ops ?_ | (apply r_loadN; exact rfl; exact rfl; exact rfl; exact rfl; (first | exact at0 | exact at1 | exact at2 | exact at3 | exact at4 | exact at5 | exact at6 | exact at7 | exact at8 | exact at9); exact rfl)))
    refine r_call0 trivial rfl rfl rfl (fun w hk' hs => c_Sign w _ h k hZh (by omega)) fun w v w' _ _ _ hR => ?_
    subst hR
    (repeat' (first | refine JC.seq ?_ | refine JC.ops ?_ | refine JO.nil ?_ | refine JX.thenN ?_ | (apply r_loadN; exact rfl; exact rfl; exact rfl; exact rfl; (first | exact at0 | exact at1 | exact at2 | exact at3 | exact at4 | exact at5 | exact at6 | exact at7 | exact at8 | exact at9); exact rfl) | (apply r_neq; exact rfl; exact rfl; exact rfl; exact rfl; all_goals intro hc; all_goals try (exfalso; omega)) | refine JC.skip ?_ | refine JC.condT rfl ?_ | refine JC.block ?_))
    refine r_call0 trivial rfl rfl rfl (fun w hk' hs => c_Quo w _ _ g h k hZg hZh (by omega)) fun w v w' _ _ _ hR => ?_
    rw [if_neg hh] at hR
    subst hR
    (repeat' (first | refine JC.seq ?_ | refine JO.nil ?_ | refine JX.thenN ?_ | (apply r_move; exact rfl; exact rfl; exact rfl) | (apply r_assign; exact rfl; exact rfl; exact rfl) | (apply r_extract; exact rfl; exact rfl; exact rfl; exact rfl) | (apply r_storeN; exact rfl; (first | exact trivial | exact ⟨rfl, rfl⟩); exact rfl; exact rfl; (first | exact at0 | exact at1 | exact at2 | exact at3 | exact at4 | exact at5 | exact at6 | exact at7 | exact at8 | exact at9); exact rfl; exact rfl; exact rfl) | (apply r_allocZ; exact rfl; exact rfl; exact rfl; intro _) | (apply r_storeN; exact rfl; (first | exact trivial | exact ⟨rfl, rfl⟩); exact rfl; exact rfl; (first | exact at0 | exact at1 | exact at2 | exact at3 | exact at4 | exact at5 | exact at6 | exact at7 | exact at8 | exact at9); exact rfl; exact rfl; exact rfl)))
    rename_i b9 b10
    refine JC.opsDs [(b10, .cells (wc (g % h)) 27 (0, 0)), (b9, .cells (wc (g / h)) 27 (0, 0)), (b8, .cells (wc y) 27 (0, 0)), (b7, .cells (wc h) 27 (0, 0))] (by (repeat' first | exact HSub.refl _ | exact HSub.nil _ | refine HSub.at 0 rfl ?_ | refine HSub.at 1 rfl ?_ | refine HSub.at 2 rfl ?_ | refine HSub.at 3 rfl ?_ | refine HSub.at 4 rfl ?_ | refine HSub.at 5 rfl ?_ | refine HSub.at 6 rfl ?_ | refine HSub.at 7 rfl ?_ | refine HSub.at 8 rfl ?_ | refine HSub.at 9 rfl ?_ | refine HSub.at 10 rfl ?_ | refine HSub.at 11 rfl ?_ | refine HSub.at 12 rfl ?_ | refine HSub.at 13 rfl ?_ | refine HSub.at 14 rfl ?_ | refine HSub.at 15 rfl ?_ | refine HSub.at 16 rfl ?_ | refine HSub.at 17 rfl ?_ | refine HSub.at 18 rfl ?_ | refine HSub.at 19 rfl ?_ | refine HSub.segH ?_ | refine HSub.skip ?_ | refine HSub.skipN ?_)) ?_
    (repeat' (first | refine JO.nil ?_ | refine JX.thenN ?_ | (apply r_loadN; exact rfl; exact rfl; exact rfl; exact rfl; (first | exact at0 | exact at1 | exact at2 | exact at3 | exact at4 | exact at5 | exact at6 | exact at7 | exact at8 | exact at9); exact rfl) | (apply r_storeN; exact rfl; (first | exact trivial | exact ⟨rfl, rfl⟩); exact rfl; exact rfl; (first | exact at0 | exact at1 | exact at2 | exact at3 | exact at4 | exact at5 | exact at6 | exact at7 | exact at8 | exact at9); exact rfl; exact rfl; exact rfl) | (apply r_storeKN; exact rfl; exact rfl; exact rfl; (first | exact at0 | exact at1 | exact at2 | exact at3 | exact at4 | exact at5 | exact at6 | exact at7 | exact at8 | exact at9); exact rfl; exact rfl; exact rfl; (repeat' first | exact HSub.refl _ | exact HSub.nil _ | refine HSub.at 0 rfl ?_ | refine HSub.at 1 rfl ?_ | refine HSub.at 2 rfl ?_ | refine HSub.at 3 rfl ?_ | refine HSub.at 4 rfl ?_ | refine HSub.at 5 rfl ?_ | refine HSub.at 6 rfl ?_ | refine HSub.at 7 rfl ?_ | refine HSub.at 8 rfl ?_ | refine HSub.at 9 rfl ?_ | refine HSub.at 10 rfl ?_ | refine HSub.at 11 rfl ?_ | refine HSub.at 12 rfl ?_ | refine HSub.at 13 rfl ?_ | refine HSub.at 14 rfl ?_ | refine HSub.at 15 rfl ?_ | refine HSub.at 16 rfl ?_ | refine HSub.at 17 rfl ?_ | refine HSub.at 18 rfl ?_ | refine HSub.at 19 rfl ?_ | refine HSub.segH ?_ | refine HSub.skip ?_ | refine HSub.skipN ?_)) | (apply r_storeN; exact rfl; (first | exact trivial | exact ⟨rfl, rfl⟩); exact rfl; exact rfl; (first | exact at0 | exact at1 | exact at2 | exact at3 | exact at4 | exact at5 | exact at6 | exact at7 | exact at8 | exact at9); exact rfl; exact rfl; exact rfl)))
    refine JC.forkS [(b9, .cells (wc (g / h)) 27 (0, 0)), (b8, .cells (wc y) 27 (0, 0))] (by (repeat' first | exact HSub.refl _ | exact HSub.nil _ | refine HSub.at 0 rfl ?_ | refine HSub.at 1 rfl ?_ | refine HSub.at 2 rfl ?_ | refine HSub.at 3 rfl ?_ | refine HSub.at 4 rfl ?_ | refine HSub.at 5 rfl ?_ | refine HSub.at 6 rfl ?_ | refine HSub.at 7 rfl ?_ | refine HSub.at 8 rfl ?_ | refine HSub.at 9 rfl ?_ | refine HSub.at 10 rfl ?_ | refine HSub.at 11 rfl ?_ | refine HSub.at 12 rfl ?_ | refine HSub.at 13 rfl ?_ | refine HSub.at 14 rfl ?_ | refine HSub.at 15 rfl ?_ | refine HSub.at 16 rfl ?_ | refine HSub.at 17 rfl ?_ | refine HSub.at 18 rfl ?_ | refine HSub.at 19 rfl ?_ | refine HSub.segH ?_ | refine HSub.skip ?_ | refine HSub.skipN ?_)) 1 4 (fun i op => kindAt [(1, .seq)] i op) 1 1 [0, 2, 3, 1, 4, 5, 6, 7] [0, 2, 3, 4, 1, 5, 6, 7] (by decide) mixed (by kernel_rfl) (by kernel_rfl) ?_ ?_
    · (repeat' (first | (apply r_loadN; exact rfl; exact rfl; exact rfl; exact rfl; (first | exact at0 | exact at1 | exact at2 | exact at3 | exact at4 | exact at5 | exact at6 | exact at7 | exact at8 | exact at9); exact rfl) | (apply r_ldNS; (first | exact trivial | exact ⟨rfl, rfl⟩); exact rfl; exact rfl; exact rfl; (first | exact at0 | exact at1 | exact at2 | exact at3 | exact at4 | exact at5 | exact at6 | exact at7 | exact at8 | exact at9); exact rfl)))
      refine r_call0 (by first | trivial | exact ⟨rfl, rfl⟩) rfl rfl rfl (fun w hk' hs => c_Mul w _ _ (g / h) y (k + 1) hZq hZy (by omega)) fun w v w' _ _ _ hR => ?_
      subst hR
      skip
      refine r_call0 (by first | trivial | exact ⟨rfl, rfl⟩) rfl rfl rfl (fun w hk' hs => c_Sub w _ _ x (g / h * y) (2 * k + 2) (hZx.mono (by omega)) hZqy (by omega)) fun w v w' _ _ _ hR => ?_
      subst hR
      (repeat' (first | refine JO.nil ?_ | (apply r_storeN; exact rfl; (first | exact trivial | exact ⟨rfl, rfl⟩); exact rfl; exact rfl; (first | exact at0 | exact at1 | exact at2 | exact at3 | exact at4 | exact at5 | exact at6 | exact at7 | exact at8 | exact at9); exact rfl; exact rfl; exact rfl) | (apply r_storeKN; exact rfl; exact rfl; exact rfl; (first | exact at0 | exact at1 | exact at2 | exact at3 | exact at4 | exact at5 | exact at6 | exact at7 | exact at8 | exact at9); exact rfl; exact rfl; exact rfl; (repeat' first | exact HSub.refl _ | exact HSub.nil _ | refine HSub.at 0 rfl ?_ | refine HSub.at 1 rfl ?_ | refine HSub.at 2 rfl ?_ | refine HSub.at 3 rfl ?_ | refine HSub.at 4 rfl ?_ | refine HSub.at 5 rfl ?_ | refine HSub.at 6 rfl ?_ | refine HSub.at 7 rfl ?_ | refine HSub.at 8 rfl ?_ | refine HSub.at 9 rfl ?_ | refine HSub.at 10 rfl ?_ | refine HSub.at 11 rfl ?_ | refine HSub.at 12 rfl ?_ | refine HSub.at 13 rfl ?_ | refine HSub.at 14 rfl ?_ | refine HSub.at 15 rfl ?_ | refine HSub.at 16 rfl ?_ | refine HSub.at 17 rfl ?_ | refine HSub.at 18 rfl ?_ | refine HSub.at 19 rfl ?_ | refine HSub.segH ?_ | refine HSub.skip ?_ | refine HSub.skipN ?_)) | (apply r_storeN; exact rfl; (first | exact trivial | exact ⟨rfl, rfl⟩); exact rfl; exact rfl; (first | exact at0 | exact at1 | exact at2 | exact at3 | exact at4 | exact at5 | exact at6 | exact at7 | exact at8 | exact at9); exact rfl; exact rfl; exact rfl) | refine JX.blockN ?_))
      exact JX.roundH (h, g % h, y, x - g / h * y) ⟨hstep, hy3, hu3, hhk, by dsimp only; omega⟩ (by dsimp only; omega) (by repeat first | exact trivial | refine ⟨rfl, ?_⟩) (by (repeat' first | exact HSub.refl _ | exact HSub.nil _ | refine HSub.at 0 rfl ?_ | refine HSub.at 1 rfl ?_ | refine HSub.at 2 rfl ?_ | refine HSub.at 3 rfl ?_ | refine HSub.at 4 rfl ?_ | refine HSub.at 5 rfl ?_ | refine HSub.at 6 rfl ?_ | refine HSub.at 7 rfl ?_ | refine HSub.at 8 rfl ?_ | refine HSub.at 9 rfl ?_ | refine HSub.at 10 rfl ?_ | refine HSub.at 11 rfl ?_ | refine HSub.at 12 rfl ?_ | refine HSub.at 13 rfl ?_ | refine HSub.at 14 rfl ?_ | refine HSub.at 15 rfl ?_ | refine HSub.at 16 rfl ?_ | refine HSub.at 17 rfl ?_ | refine HSub.at 18 rfl ?_ | refine HSub.at 19 rfl ?_ | refine HSub.segH ?_ | refine HSub.skip ?_ | refine HSub.skipN ?_))
    · (repeat' (first | (apply r_loadN; exact rfl; exact rfl; exact rfl; exact rfl; (first | exact at0 | exact at1 | exact at2 | exact at3 | exact at4 | exact at5 | exact at6 | exact at7 | exact at8 | exact at9); exact rfl)))
      refine r_call0 (by first | trivial | exact ⟨rfl, rfl⟩) rfl rfl rfl (fun w hk' hs => c_Mul w _ _ (g / h) y (k + 1) hZq hZy (by omega)) fun w v w' _ _ _ hR => ?_
      subst hR
      (repeat' (first | (apply r_ldNS; (first | exact trivial | exact ⟨rfl, rfl⟩); exact rfl; exact rfl; exact rfl; (first | exact at0 | exact at1 | exact at2 | exact at3 | exact at4 | exact at5 | exact at6 | exact at7 | exact at8 | exact at9); exact rfl)))
      refine r_call0 (by first | trivial | exact ⟨rfl, rfl⟩) rfl rfl rfl (fun w hk' hs => c_Sub w _ _ x (g / h * y) (2 * k + 2) (hZx.mono (by omega)) hZqy (by omega)) fun w v w' _ _ _ hR => ?_
      subst hR
      (repeat' (first | refine JO.nil ?_ | (apply r_storeN; exact rfl; (first | exact trivial | exact ⟨rfl, rfl⟩); exact rfl; exact rfl; (first | exact at0 | exact at1 | exact at2 | exact at3 | exact at4 | exact at5 | exact at6 | exact at7 | exact at8 | exact at9); exact rfl; exact rfl; exact rfl) | (apply r_storeKN; exact rfl; exact rfl; exact rfl; (first | exact at0 | exact at1 | exact at2 | exact at3 | exact at4 | exact at5 | exact at6 | exact at7 | exact at8 | exact at9); exact rfl; exact rfl; exact rfl; (repeat' first | exact HSub.refl _ | exact HSub.nil _ | refine HSub.at 0 rfl ?_ | refine HSub.at 1 rfl ?_ | refine HSub.at 2 rfl ?_ | refine HSub.at 3 rfl ?_ | refine HSub.at 4 rfl ?_ | refine HSub.at 5 rfl ?_ | refine HSub.at 6 rfl ?_ | refine HSub.at 7 rfl ?_ | refine HSub.at 8 rfl ?_ | refine HSub.at 9 rfl ?_ | refine HSub.at 10 rfl ?_ | refine HSub.at 11 rfl ?_ | refine HSub.at 12 rfl ?_ | refine HSub.at 13 rfl ?_ | refine HSub.at 14 rfl ?_ | refine HSub.at 15 rfl ?_ | refine HSub.at 16 rfl ?_ | refine HSub.at 17 rfl ?_ | refine HSub.at 18 rfl ?_ | refine HSub.at 19 rfl ?_ | refine HSub.segH ?_ | refine HSub.skip ?_ | refine HSub.skipN ?_)) | (apply r_storeN; exact rfl; (first | exact trivial | exact ⟨rfl, rfl⟩); exact rfl; exact rfl; (first | exact at0 | exact at1 | exact at2 | exact at3 | exact at4 | exact at5 | exact at6 | exact at7 | exact at8 | exact at9); exact rfl; exact rfl; exact rfl) | refine JX.blockN ?_))
      exact JX.roundH (h, g % h, y, x - g / h * y) ⟨hstep, hy3, hu3, hhk, by dsimp only; omega⟩ (by dsimp only; omega) (by repeat first | exact trivial | refine ⟨rfl, ?_⟩) (by (repeat' first | exact HSub.refl _ | exact HSub.nil _ | refine HSub.at 0 rfl ?_ | refine HSub.at 1 rfl ?_ | refine HSub.at 2 rfl ?_ | refine HSub.at 3 rfl ?_ | refine HSub.at 4 rfl ?_ | refine HSub.at 5 rfl ?_ | refine HSub.at 6 rfl ?_ | refine HSub.at 7 rfl ?_ | refine HSub.at 8 rfl ?_ | refine HSub.at 9 rfl ?_ | refine HSub.at 10 rfl ?_ | refine HSub.at 11 rfl ?_ | refine HSub.at 12 rfl ?_ | refine HSub.at 13 rfl ?_ | refine HSub.at 14 rfl ?_ | refine HSub.at 15 rfl ?_ | refine HSub.at 16 rfl ?_ | refine HSub.at 17 rfl ?_ | refine HSub.at 18 rfl ?_ | refine HSub.at 19 rfl ?_ | refine HSub.segH ?_ | refine HSub.skip ?_ | refine HSub.skipN ?_))

end Go.Proofs.YtdehklhdjbkneaaDoor
