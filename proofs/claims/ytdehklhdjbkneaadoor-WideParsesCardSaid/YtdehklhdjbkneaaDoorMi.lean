import Derived.Test.YtdehklhdjbkneaaDoorMh
import Derived.Test.YtdehklhdjbkneaaDoorMe
/- The reference model: Gcd. -/
namespace Go.Proofs.YtdehklhdjbkneaaDoor
open Go Go.RowKit
set_option linter.unusedSimpArgs false
set_option linter.unusedVariables false
set_option linter.unusedSectionVars false

theorem GR.bu {a b g h x u : Int} (H : GR a b g h x u) (hb : b ≠ 0) (hg : g ≠ 0) : u.natAbs ≤ 3 * b.natAbs := by
  rcases H with ⟨_, _, _, rfl⟩ | ⟨_, _, _, _, rfl⟩ | H
  · simp
  · simp; omega
  · have h1 := H.sz
    have h2 := Nat.le_mul_of_pos_right u.natAbs (show 0 < g.natAbs by omega)
    omega
theorem GR.fin {a b g x u : Int} (H : GR a b g 0 x u) (hb : b ≠ 0) : (0 < g ∧ g = Int.gcd a b ∧ ∃ y, x * a + y * b = g) ∨ (g < 0 ∧ -g = Int.gcd a b ∧ ∃ y, -x * a + y * b = -g) := by
  rcases H with ⟨_, h, _, _⟩ | ⟨rfl, hlt, h0, rfl, _⟩ | H
  · exact absurd h.symm hb
  · refine .inr ⟨hlt, ?_, -1, by simp⟩
    have h1 : g ∣ a := Int.dvd_of_emod_eq_zero h0.symm
    have h2 : Int.gcd a g = g.natAbs := Nat.gcd_eq_right (Int.natAbs_dvd_natAbs.2 h1)
    rw [h2]
    omega
  · have h1 := H.gcd
    rw [Int.gcd_zero_right] at h1
    have h2 := H.g0
    have h3 : 0 < Int.gcd a b := Int.gcd_pos_of_ne_zero_right _ hb
    exact .inl ⟨by omega, by omega, H.ex⟩

set_option maxHeartbeats 16000000 in
theorem c_GcdR (w : World) (v u : Value) (a b : Int) (k : Nat) (hv : IsZ v a k) (hu : IsZ u b k) (hk : k ≤ 1000) :
    Calls Tryd.prog 19 #[v, u] w (Ret fun r w' => Kp [] w w' ∧ ∃ g x y, r = .tuple #[Wv g, Wv x, Wv y] ∧ GcdP a b g x y) := by
  have hZa := hv
  have hZb := hu
  obtain ⟨p, l, rfl, hl1, ha⟩ := hv
  obtain ⟨q, l', rfl, hl2, hb'⟩ := hu
  have haN : a.natAbs = bval (bts l) := by rw [ha, sgn_natAbs]
  have hsa : -9223372036854775808 ≤ a.sign ∧ a.sign < 9223372036854775808 := by
    rcases Int.lt_trichotomy a 0 with h | h | h
    · rw [Int.sign_eq_neg_one_of_neg h]; omega
    · subst h; decide
    · rw [Int.sign_eq_one_of_pos h]; omega
  refine calls_of_S [⟨4, 2, [0, 1, 3, 6, 2, 4, 5, 7, 8, 9], []⟩, ⟨13, 1, [], []⟩, ⟨21, 3, [0, 1, 2, 5, 3, 4, 6, 7, 8, 9, 10, 11, 12, 13, 14, 15], []⟩, ⟨22, 1, [], []⟩] [] (by simp) [] Tryd.func19 rfl mixed (by kernel_rfl) Tryd.ntmps19 Tryd.results19 rfl ⟨by simp, by simp⟩ (by simp) ?_
  simp only [toS, textOps, toSOp, kindAt, kindOf, odAt, sopsAt, ordOf, zipF]
  (repeat' (first | refine JC.seq ?_ | refine JC.ops ?_ | refine JO.nil ?_ | refine JX.thenN ?_ | (apply r_loadN; exact rfl; exact rfl; exact rfl; exact rfl; (first | exact at0 | exact at1 | exact at2 | exact at3 | exact at4 | exact at5 | exact at6 | exact at7 | exact at8 | exact at9); exact rfl) | (apply r_allocZ; exact rfl; exact rfl; exact rfl; intro _) | (apply r_boxA; exact rfl; exact rfl; exact rfl; exact rfl; intro _)))
  rename_i b2 b3 b4 b5 b6
  refine r_call0 trivial rfl rfl rfl (fun w hk' hs => c_SignR w _ b k hZb (by omega)) fun w v w' _ _ _ hR => ?_
  have z0 : IsZ (wv false []) 0 k := ⟨false, [], rfl, Nat.zero_le _, rfl⟩
  by_cases hb : b = 0
  · rw [hb] at hR
    obtain rfl : v = iv 0 := hR
    have zA : IsZ (wv false l) (a.natAbs : Int) k := ⟨false, l, rfl, hl1, by rw [haN]; rfl⟩
    (repeat' (first | refine JC.seq ?_ | refine JC.ops ?_ | refine JO.nil ?_ | refine JX.thenN ?_ | (apply r_fieldAddr; exact rfl; exact rfl; exact rfl) | (apply r_loadN; exact rfl; exact rfl; exact rfl; exact rfl; (first | exact at0 | exact at1 | exact at2 | exact at3 | exact at4 | exact at5 | exact at6 | exact at7 | exact at8 | exact at9); exact rfl) | (apply r_storeN; exact rfl; (first | exact trivial | exact ⟨rfl, rfl⟩); exact rfl; exact rfl; (first | exact at0 | exact at1 | exact at2 | exact at3 | exact at4 | exact at5 | exact at6 | exact at7 | exact at8 | exact at9); exact rfl; exact rfl; exact rfl) | (apply r_eql; exact rfl; exact rfl; exact rfl; exact rfl; all_goals intro hc; all_goals try (exfalso; omega)) | (apply r_allocZ; exact rfl; exact rfl; exact rfl; intro _) | (apply r_storeN; exact rfl; (first | exact trivial | exact ⟨rfl, rfl⟩); exact rfl; exact rfl; (first | exact at0 | exact at1 | exact at2 | exact at3 | exact at4 | exact at5 | exact at6 | exact at7 | exact at8 | exact at9); exact rfl; exact rfl; exact rfl) | (apply r_store; exact rfl; (first | exact trivial | exact ⟨rfl, rfl⟩); exact rfl; exact rfl; (first | exact at0 | exact at1 | exact at2 | exact at3 | exact at4 | exact at5 | exact at6 | exact at7 | exact at8 | exact at9); exact rfl; exact rfl; (first | exact Nat.le_of_ble_eq_true rfl | (simp; done) | omega)) | refine JC.condT rfl ?_))
    rename_i b7
    refine JC.opsDs [(b7, .cells #[.bool false, sv l] 27 (0, 0)), (b2, .cells #[.bool p, sv l] 27 (0, 0))] (by (repeat' first | exact HSub.refl _ | exact HSub.nil _ | refine HSub.at 0 rfl ?_ | refine HSub.at 1 rfl ?_ | refine HSub.at 2 rfl ?_ | refine HSub.at 3 rfl ?_ | refine HSub.at 4 rfl ?_ | refine HSub.at 5 rfl ?_ | refine HSub.at 6 rfl ?_ | refine HSub.at 7 rfl ?_ | refine HSub.at 8 rfl ?_ | refine HSub.at 9 rfl ?_ | refine HSub.at 10 rfl ?_ | refine HSub.at 11 rfl ?_ | refine HSub.at 12 rfl ?_ | refine HSub.at 13 rfl ?_ | refine HSub.at 14 rfl ?_ | refine HSub.at 15 rfl ?_ | refine HSub.at 16 rfl ?_ | refine HSub.at 17 rfl ?_ | refine HSub.at 18 rfl ?_ | refine HSub.at 19 rfl ?_ | refine HSub.segH ?_ | refine HSub.skip ?_ | refine HSub.skipN ?_)) ?_
    (repeat' (first | (apply r_loadN; exact rfl; exact rfl; exact rfl; exact rfl; (first | exact at0 | exact at1 | exact at2 | exact at3 | exact at4 | exact at5 | exact at6 | exact at7 | exact at8 | exact at9); exact rfl) | (apply r_buildL; exact rfl; exact rfl; exact rfl; exact rfl; exact rfl)))
    refine r_call0 (by first | trivial | exact ⟨rfl, rfl⟩) rfl rfl rfl (fun w hk' hs => c_AddR w _ _ (a.natAbs : Int) 0 k zA z0 (by omega)) fun w v w' _ _ _ hR => ?_
    rw [Int.add_zero] at hR
    subst hR
    skip
    refine r_call0 (by first | trivial | exact ⟨rfl, rfl⟩) rfl rfl rfl (fun w hk' hs => c_SignR w _ a k hZa (by omega)) fun w v w' _ _ _ hR => ?_
    subst hR
    skip
    refine r_call0 (by first | trivial | exact ⟨rfl, rfl⟩) rfl rfl rfl (fun w hk' hs => c_FromR w a.sign hsa.1 hsa.2) fun w v w' _ _ _ hR => ?_
    subst hR
    (repeat' (first | refine JO.nil ?_ | refine JX.thenN ?_ | (apply r_storeN; exact rfl; (first | exact trivial | exact ⟨rfl, rfl⟩); exact rfl; exact rfl; (first | exact at0 | exact at1 | exact at2 | exact at3 | exact at4 | exact at5 | exact at6 | exact at7 | exact at8 | exact at9); exact rfl; exact rfl; exact rfl) | (apply r_storeKN; exact rfl; exact rfl; exact rfl; (first | exact at0 | exact at1 | exact at2 | exact at3 | exact at4 | exact at5 | exact at6 | exact at7 | exact at8 | exact at9); exact rfl; exact rfl; exact rfl; (repeat' first | exact HSub.refl _ | exact HSub.nil _ | refine HSub.at 0 rfl ?_ | refine HSub.at 1 rfl ?_ | refine HSub.at 2 rfl ?_ | refine HSub.at 3 rfl ?_ | refine HSub.at 4 rfl ?_ | refine HSub.at 5 rfl ?_ | refine HSub.at 6 rfl ?_ | refine HSub.at 7 rfl ?_ | refine HSub.at 8 rfl ?_ | refine HSub.at 9 rfl ?_ | refine HSub.at 10 rfl ?_ | refine HSub.at 11 rfl ?_ | refine HSub.at 12 rfl ?_ | refine HSub.at 13 rfl ?_ | refine HSub.at 14 rfl ?_ | refine HSub.at 15 rfl ?_ | refine HSub.at 16 rfl ?_ | refine HSub.at 17 rfl ?_ | refine HSub.at 18 rfl ?_ | refine HSub.at 19 rfl ?_ | refine HSub.segH ?_ | refine HSub.skip ?_ | refine HSub.skipN ?_)) | (apply r_storeN; exact rfl; (first | exact trivial | exact ⟨rfl, rfl⟩); exact rfl; exact rfl; (first | exact at0 | exact at1 | exact at2 | exact at3 | exact at4 | exact at5 | exact at6 | exact at7 | exact at8 | exact at9); exact rfl; exact rfl; exact rfl) | refine JX.thenR ?_ | refine JC.ret ?_))
    exact JX.retCCC 3 2 1 rfl rfl rfl rfl rfl rfl rfl rfl rfl (fun a' w' st => ⟨st.kp, (a.natAbs : Int), a.sign, 0, rfl, by rw [hb]; exact gcd_zero_end a⟩)
  have hbs : b.sign ≠ 0 := fun h => hb (Int.sign_eq_zero_iff_zero.1 h)
  generalize b.sign = sb at hbs hR
  subst hR
  (repeat' (first | refine JC.seq ?_ | refine JC.ops ?_ | refine JO.nil ?_ | refine JX.thenN ?_ | (apply r_loadN; exact rfl; exact rfl; exact rfl; exact rfl; (first | exact at0 | exact at1 | exact at2 | exact at3 | exact at4 | exact at5 | exact at6 | exact at7 | exact at8 | exact at9); exact rfl) | (apply r_eql; exact rfl; exact rfl; exact rfl; exact rfl; all_goals intro hc; all_goals try (exfalso; omega)) | (apply r_buildL; exact rfl; exact rfl; exact rfl; exact rfl; exact rfl) | refine JC.skip ?_ | refine JC.condF rfl ?_))
  refine r_call0 (by first | trivial | exact ⟨rfl, rfl⟩) rfl rfl rfl (fun w hk' hs => c_AddR w _ _ a 0 k hZa z0 (by omega)) fun w v w' _ _ _ hR => ?_
  rw [Int.add_zero] at hR
  subst hR
  (repeat' (first | refine JC.seq ?_ | refine JC.ops ?_ | refine JO.nil ?_ | refine JX.thenN ?_ | (apply r_loadN; exact rfl; exact rfl; exact rfl; exact rfl; (first | exact at0 | exact at1 | exact at2 | exact at3 | exact at4 | exact at5 | exact at6 | exact at7 | exact at8 | exact at9); exact rfl) | (apply r_storeN; exact rfl; (first | exact trivial | exact ⟨rfl, rfl⟩); exact rfl; exact rfl; (first | exact at0 | exact at1 | exact at2 | exact at3 | exact at4 | exact at5 | exact at6 | exact at7 | exact at8 | exact at9); exact rfl; exact rfl; exact rfl) | (apply r_allocZ; exact rfl; exact rfl; exact rfl; intro _) | (apply r_buildL; exact rfl; exact rfl; exact rfl; exact rfl; exact rfl) | (apply r_storeN; exact rfl; (first | exact trivial | exact ⟨rfl, rfl⟩); exact rfl; exact rfl; (first | exact at0 | exact at1 | exact at2 | exact at3 | exact at4 | exact at5 | exact at6 | exact at7 | exact at8 | exact at9); exact rfl; exact rfl; exact rfl)))
  rename_i b8
  refine r_call0 (by first | trivial | exact ⟨rfl, rfl⟩) rfl rfl rfl (fun w hk' hs => c_AddR w _ _ b 0 k hZb z0 (by omega)) fun w v w' _ _ _ hR => ?_
  rw [Int.add_zero] at hR
  subst hR
  (repeat' (first | refine JC.seq ?_ | refine JC.ops ?_ | refine JO.nil ?_ | refine JX.thenN ?_ | (apply r_storeN; exact rfl; (first | exact trivial | exact ⟨rfl, rfl⟩); exact rfl; exact rfl; (first | exact at0 | exact at1 | exact at2 | exact at3 | exact at4 | exact at5 | exact at6 | exact at7 | exact at8 | exact at9); exact rfl; exact rfl; exact rfl) | (apply r_allocZ; exact rfl; exact rfl; exact rfl; intro _) | (apply r_storeN; exact rfl; (first | exact trivial | exact ⟨rfl, rfl⟩); exact rfl; exact rfl; (first | exact at0 | exact at1 | exact at2 | exact at3 | exact at4 | exact at5 | exact at6 | exact at7 | exact at8 | exact at9); exact rfl; exact rfl; exact rfl)))
  rename_i b9
  refine r_call0 (by first | trivial | exact ⟨rfl, rfl⟩) rfl rfl rfl (fun w hk' hs => c_FromR w 1 (by decide) (by decide)) fun w v w' _ _ _ hR => ?_
  subst hR
  (repeat' (first | refine JC.seq ?_ | refine JC.ops ?_ | refine JO.nil ?_ | refine JX.thenN ?_ | (apply r_storeN; exact rfl; (first | exact trivial | exact ⟨rfl, rfl⟩); exact rfl; exact rfl; (first | exact at0 | exact at1 | exact at2 | exact at3 | exact at4 | exact at5 | exact at6 | exact at7 | exact at8 | exact at9); exact rfl; exact rfl; exact rfl) | (apply r_allocZ; exact rfl; exact rfl; exact rfl; intro _) | (apply r_storeN; exact rfl; (first | exact trivial | exact ⟨rfl, rfl⟩); exact rfl; exact rfl; (first | exact at0 | exact at1 | exact at2 | exact at3 | exact at4 | exact at5 | exact at6 | exact at7 | exact at8 | exact at9); exact rfl; exact rfl; exact rfl)))
  rename_i b10
  refine r_call0 (by first | trivial | exact ⟨rfl, rfl⟩) rfl rfl rfl (fun w hk' hs => c_FromR w 0 (by decide) (by decide)) fun w v w' _ _ _ hR => ?_
  subst hR
  (repeat' (first | refine JC.seq ?_ | refine JO.nil ?_ | refine JX.thenN ?_ | (apply r_storeN; exact rfl; (first | exact trivial | exact ⟨rfl, rfl⟩); exact rfl; exact rfl; (first | exact at0 | exact at1 | exact at2 | exact at3 | exact at4 | exact at5 | exact at6 | exact at7 | exact at8 | exact at9); exact rfl; exact rfl; exact rfl) | (apply r_allocZ; exact rfl; exact rfl; exact rfl; intro _) | (apply r_storeN; exact rfl; (first | exact trivial | exact ⟨rfl, rfl⟩); exact rfl; exact rfl; (first | exact at0 | exact at1 | exact at2 | exact at3 | exact at4 | exact at5 | exact at6 | exact at7 | exact at8 | exact at9); exact rfl; exact rfl; exact rfl) | refine JC.block ?_))
  rename_i b11
  have hb1 : 1 ≤ b.natAbs := by omega
  refine JC.loopH (ι := Int × Int × Int × Int) ⟨fun z => [(11, .pointer (some ⟨b11, 0, none⟩)), (10, .pointer (some ⟨b10, 0, none⟩)), (9, .pointer (some ⟨b9, 0, none⟩)), (8, .pointer (some ⟨b8, 0, none⟩)), (6, .pointer (some ⟨b6, 0, none⟩)), (5, .pointer (some ⟨b5, 0, none⟩)), (4, .pointer (some ⟨b4, 0, none⟩)), (3, .pointer (some ⟨b3, 0, none⟩)), (2, .pointer (some ⟨b2, 0, none⟩))],
    fun z => [(b11, .cells (wc z.2.2.2) 27 (0, 0)), (b10, .cells (wc z.2.2.1) 27 (0, 0)), (b9, .cells (wc z.2.1) 27 (0, 0)), (b8, .cells (wc z.1) 27 (0, 0)), (b6, .cells #[.bool false, .string ⟨#[]⟩] 27 (0, 0)), (b5, .cells #[.bool false, .string ⟨#[]⟩] 27 (0, 0)), (b4, .cells #[.bool false, .string ⟨#[]⟩] 27 (0, 0)), (b3, .cells #[.bool q, sv l'] 27 (0, 0)), (b2, .cells #[.bool p, sv l] 27 (0, 0))],
    fun z => GR a b z.1 z.2.1 z.2.2.1 z.2.2.2 ∧ z.2.2.1.natAbs ≤ 3 * b.natAbs ∧ z.2.2.2.natAbs ≤ 3 * b.natAbs ∧ z.1.natAbs < 256 ^ k ∧ z.2.1.natAbs < 256 ^ k, fun z => z.2.1.natAbs⟩
    (a, b, 1, 0) ⟨.inl ⟨rfl, rfl, rfl, rfl⟩, by show 1 ≤ _; omega, Nat.zero_le _, hZa.lt, hZb.lt⟩ (by repeat first | exact trivial | refine ⟨rfl, ?_⟩) (by (repeat' first | exact HSub.refl _ | exact HSub.nil _ | refine HSub.at 0 rfl ?_ | refine HSub.at 1 rfl ?_ | refine HSub.at 2 rfl ?_ | refine HSub.at 3 rfl ?_ | refine HSub.at 4 rfl ?_ | refine HSub.at 5 rfl ?_ | refine HSub.at 6 rfl ?_ | refine HSub.at 7 rfl ?_ | refine HSub.at 8 rfl ?_ | refine HSub.at 9 rfl ?_ | refine HSub.at 10 rfl ?_ | refine HSub.at 11 rfl ?_ | refine HSub.at 12 rfl ?_ | refine HSub.at 13 rfl ?_ | refine HSub.at 14 rfl ?_ | refine HSub.at 15 rfl ?_ | refine HSub.at 16 rfl ?_ | refine HSub.at 17 rfl ?_ | refine HSub.at 18 rfl ?_ | refine HSub.at 19 rfl ?_ | refine HSub.segH ?_ | refine HSub.skip ?_ | refine HSub.skipN ?_)) (fun z hz => ?_)
  obtain ⟨g, h, x, y⟩ := z
  obtain ⟨hGR, hx3, hy3, hgk, hhk⟩ := hz
  dsimp only at hGR hx3 hy3 hgk hhk ⊢
  have hZx : IsZ (Wv x) x (k + 1) := IsZ.can (natAbs_lt_of_le hZb.lt hx3)
  have hZy : IsZ (Wv y) y (k + 1) := IsZ.can (natAbs_lt_of_le hZb.lt hy3)
  have hZg : IsZ (Wv g) g k := IsZ.can hgk
  have hZh : IsZ (Wv h) h k := IsZ.can hhk
  by_cases hh : h = 0
  · subst hh
    refine JC.part (F' := [(10, .pointer (some ⟨b10, 0, none⟩)), (9, .pointer (some ⟨b9, 0, none⟩)), (8, .pointer (some ⟨b8, 0, none⟩)), (6, .pointer (some ⟨b6, 0, none⟩)), (5, .pointer (some ⟨b5, 0, none⟩)), (4, .pointer (some ⟨b4, 0, none⟩)), (3, .pointer (some ⟨b3, 0, none⟩)), (2, .pointer (some ⟨b2, 0, none⟩))])
      (H' := [(b10, .cells (wc x) 27 (0, 0)), (b9, .cells (wc 0) 27 (0, 0)), (b8, .cells (wc g) 27 (0, 0)), (b6, .cells #[.bool false, .string ⟨#[]⟩] 27 (0, 0)), (b5, .cells #[.bool false, .string ⟨#[]⟩] 27 (0, 0)), (b4, .cells #[.bool false, .string ⟨#[]⟩] 27 (0, 0)), (b3, .cells #[.bool q, sv l'] 27 (0, 0)), (b2, .cells #[.bool p, sv l] 27 (0, 0))]) (by repeat first | exact trivial | refine ⟨rfl, ?_⟩) (by (repeat' first | exact HSub.refl _ | exact HSub.nil _ | refine HSub.at 0 rfl ?_ | refine HSub.at 1 rfl ?_ | refine HSub.at 2 rfl ?_ | refine HSub.at 3 rfl ?_ | refine HSub.at 4 rfl ?_ | refine HSub.at 5 rfl ?_ | refine HSub.at 6 rfl ?_ | refine HSub.at 7 rfl ?_ | refine HSub.at 8 rfl ?_ | refine HSub.at 9 rfl ?_ | refine HSub.at 10 rfl ?_ | refine HSub.at 11 rfl ?_ | refine HSub.at 12 rfl ?_ | refine HSub.at 13 rfl ?_ | refine HSub.at 14 rfl ?_ | refine HSub.at 15 rfl ?_ | refine HSub.at 16 rfl ?_ | refine HSub.at 17 rfl ?_ | refine HSub.at 18 rfl ?_ | refine HSub.at 19 rfl ?_ | refine HSub.segH ?_ | refine HSub.skip ?_ | refine HSub.skipN ?_)) ?_
    (repeat' (first | refine JC.seq ?_ | refine JC.ops ?_ | (apply r_loadN; exact rfl; exact rfl; exact rfl; exact rfl; (first | exact at0 | exact at1 | exact at2 | exact at3 | exact at4 | exact at5 | exact at6 | exact at7 | exact at8 | exact at9); exact rfl)))
    refine r_call0 (by first | trivial | exact ⟨rfl, rfl⟩) rfl rfl rfl (fun w hk' hs => c_SignR w _ 0 k hZh (by omega)) fun w v w' _ _ _ hR => ?_
    obtain rfl : v = iv 0 := hR
    (repeat' (first | refine JC.seq ?_ | refine JC.ops ?_ | refine JO.nil ?_ | refine JX.thenN ?_ | (apply r_loadN; exact rfl; exact rfl; exact rfl; exact rfl; (first | exact at0 | exact at1 | exact at2 | exact at3 | exact at4 | exact at5 | exact at6 | exact at7 | exact at8 | exact at9); exact rfl) | (apply r_neq; exact rfl; exact rfl; exact rfl; exact rfl; all_goals intro hc; all_goals try (exfalso; omega)) | refine JX.thenE ?_ | refine JC.exit ?_ | refine JC.condF rfl ?_ | refine JX.blockE ?_))
    rcases hGR.fin hb with ⟨hgp, hgg, y0, hex0⟩ | ⟨hgn, hgg, y0, hex0⟩
    · have hZG := hZg
      have hZX := hZx
      refine r_call0 (by first | trivial | exact ⟨rfl, rfl⟩) rfl rfl rfl (fun w hk' hs => c_SignR w _ g k hZg (by omega)) fun w v w' _ _ _ hR => ?_
      rw [Int.sign_eq_one_of_pos hgp] at hR
      subst hR
      (repeat' (first | refine JC.seq ?_ | refine JC.ops ?_ | refine JO.nil ?_ | refine JX.thenN ?_ | (apply r_loadN; exact rfl; exact rfl; exact rfl; exact rfl; (first | exact at0 | exact at1 | exact at2 | exact at3 | exact at4 | exact at5 | exact at6 | exact at7 | exact at8 | exact at9); exact rfl) | (apply r_lss; exact rfl; exact rfl; exact rfl; exact rfl; all_goals intro hc; all_goals try (exfalso; omega)) | refine JC.skip ?_ | refine JC.condF rfl ?_))
      have hdb : g ∣ b := by rw [hgg]; exact Int.gcd_dvd_right ..
      have hmg : (b / g) * g = b := Int.ediv_mul_cancel hdb
      have hbg0 : b / g ≠ 0 := fun e => by rw [e, Int.zero_mul] at hmg; exact hb hmg.symm
      have hm1 : (b / g).natAbs < 256 ^ (k + 1) := Nat.lt_of_le_of_lt (quo_natAbs_le b g) (two_pow_lt hZb.lt hZG.lt)
      have hx1 : (x % (b / g)).natAbs < 256 ^ (k + 1) := by
        have h1 := Int.emod_nonneg x hbg0
        have h2 := Int.emod_lt x hbg0
        omega
      have hZx' : IsZ (Wv (x % (b / g))) (x % (b / g)) (k + 1) := IsZ.can hx1
      have hZxa : IsZ (Wv (x % (b / g) * a)) (x % (b / g) * a) (2 * k + 1) := (IsZ.can (mul_lt hx1 hZa.lt)).mono (by omega)
      have hZgx : IsZ (Wv (g - x % (b / g) * a)) (g - x % (b / g) * a) (2 * k + 2) := by
        rw [Int.sub_eq_add_neg]
        exact IsZ.add (hZG.mono (show k ≤ 2 * k + 1 by omega)).lt (by rw [Int.natAbs_neg]; exact hZxa.lt)
      refine r_call0 (by first | trivial | exact ⟨rfl, rfl⟩) rfl rfl rfl (fun w hk' hs => c_QuoR w _ _ b (g) k hZb hZG (by omega)) fun w v w' _ _ _ hR => ?_
      rw [if_neg (by omega)] at hR
      subst hR
      (repeat' (first | refine JC.seq ?_ | refine JC.ops ?_ | refine JO.nil ?_ | refine JX.thenN ?_ | (apply r_move; exact rfl; exact rfl; exact rfl) | (apply r_assign; exact rfl; exact rfl; exact rfl) | (apply r_loadN; exact rfl; exact rfl; exact rfl; exact rfl; (first | exact at0 | exact at1 | exact at2 | exact at3 | exact at4 | exact at5 | exact at6 | exact at7 | exact at8 | exact at9); exact rfl) | (apply r_extract; exact rfl; exact rfl; exact rfl; exact rfl) | (apply r_storeN; exact rfl; (first | exact trivial | exact ⟨rfl, rfl⟩); exact rfl; exact rfl; (first | exact at0 | exact at1 | exact at2 | exact at3 | exact at4 | exact at5 | exact at6 | exact at7 | exact at8 | exact at9); exact rfl; exact rfl; exact rfl) | (apply r_allocZ; exact rfl; exact rfl; exact rfl; intro _) | (apply r_storeN; exact rfl; (first | exact trivial | exact ⟨rfl, rfl⟩); exact rfl; exact rfl; (first | exact at0 | exact at1 | exact at2 | exact at3 | exact at4 | exact at5 | exact at6 | exact at7 | exact at8 | exact at9); exact rfl; exact rfl; exact rfl)))
      refine r_call0 (by first | trivial | exact ⟨rfl, rfl⟩) rfl rfl rfl (fun w hk' hs => c_QuoR w _ _ (x) (b / (g)) (k + 1) hZX (IsZ.can hm1) (by omega)) fun w v w' _ _ _ hR => ?_
      rw [if_neg hbg0] at hR
      subst hR
      (repeat' (first | refine JC.seq ?_ | refine JO.nil ?_ | refine JX.thenN ?_ | (apply r_move; exact rfl; exact rfl; exact rfl) | (apply r_extract; exact rfl; exact rfl; exact rfl; exact rfl) | (apply r_storeN; exact rfl; (first | exact trivial | exact ⟨rfl, rfl⟩); exact rfl; exact rfl; (first | exact at0 | exact at1 | exact at2 | exact at3 | exact at4 | exact at5 | exact at6 | exact at7 | exact at8 | exact at9); exact rfl; exact rfl; exact rfl) | (apply r_storeN; exact rfl; (first | exact trivial | exact ⟨rfl, rfl⟩); exact rfl; exact rfl; (first | exact at0 | exact at1 | exact at2 | exact at3 | exact at4 | exact at5 | exact at6 | exact at7 | exact at8 | exact at9); exact rfl; exact rfl; exact rfl)))
      refine JC.opsDs [(b10, .cells (wc (x % (b / (g)))) 27 (0, 0)), (b8, .cells (wc (g)) 27 (0, 0)), (b3, .cells #[.bool q, sv l'] 27 (0, 0)), (b2, .cells #[.bool p, sv l] 27 (0, 0))] (by (repeat' first | exact HSub.refl _ | exact HSub.nil _ | refine HSub.at 0 rfl ?_ | refine HSub.at 1 rfl ?_ | refine HSub.at 2 rfl ?_ | refine HSub.at 3 rfl ?_ | refine HSub.at 4 rfl ?_ | refine HSub.at 5 rfl ?_ | refine HSub.at 6 rfl ?_ | refine HSub.at 7 rfl ?_ | refine HSub.at 8 rfl ?_ | refine HSub.at 9 rfl ?_ | refine HSub.at 10 rfl ?_ | refine HSub.at 11 rfl ?_ | refine HSub.at 12 rfl ?_ | refine HSub.at 13 rfl ?_ | refine HSub.at 14 rfl ?_ | refine HSub.at 15 rfl ?_ | refine HSub.at 16 rfl ?_ | refine HSub.at 17 rfl ?_ | refine HSub.at 18 rfl ?_ | refine HSub.at 19 rfl ?_ | refine HSub.segH ?_ | refine HSub.skip ?_ | refine HSub.skipN ?_)) ?_
      (repeat' (first | (apply r_loadN; exact rfl; exact rfl; exact rfl; exact rfl; (first | exact at0 | exact at1 | exact at2 | exact at3 | exact at4 | exact at5 | exact at6 | exact at7 | exact at8 | exact at9); exact rfl)))
      refine r_call0 (by first | trivial | exact ⟨rfl, rfl⟩) rfl rfl rfl (fun w hk' hs => c_MulR w _ _ (x % (b / (g))) a (k + 1) hZx' (hZa.mono (by omega)) (by omega)) fun w v w' _ _ _ hR => ?_
      subst hR
      skip
      refine r_call0 (by first | trivial | exact ⟨rfl, rfl⟩) rfl rfl rfl (fun w hk' hs => c_SubR w _ _ (g) (x % (b / (g)) * a) (2 * k + 1) (hZG.mono (by omega)) hZxa (by omega)) fun w v w' _ _ _ hR => ?_
      subst hR
      skip
      refine r_call0 (by first | trivial | exact ⟨rfl, rfl⟩) rfl rfl rfl (fun w hk' hs => c_QuoR w _ _ (g - x % (b / (g)) * a) b (2 * k + 2) hZgx (hZb.mono (by omega)) (by omega)) fun w v w' _ _ _ hR => ?_
      rw [if_neg hb] at hR
      subst hR
      (repeat' (first | refine JC.seq ?_ | refine JO.nil ?_ | refine JX.thenN ?_ | (apply r_move; exact rfl; exact rfl; exact rfl) | (apply r_assign; exact rfl; exact rfl; exact rfl) | (apply r_extract; exact rfl; exact rfl; exact rfl; exact rfl) | (apply r_storeN; exact rfl; (first | exact trivial | exact ⟨rfl, rfl⟩); exact rfl; exact rfl; (first | exact at0 | exact at1 | exact at2 | exact at3 | exact at4 | exact at5 | exact at6 | exact at7 | exact at8 | exact at9); exact rfl; exact rfl; exact rfl) | (apply r_allocZ; exact rfl; exact rfl; exact rfl; intro _) | (apply r_storeN; exact rfl; (first | exact trivial | exact ⟨rfl, rfl⟩); exact rfl; exact rfl; (first | exact at0 | exact at1 | exact at2 | exact at3 | exact at4 | exact at5 | exact at6 | exact at7 | exact at8 | exact at9); exact rfl; exact rfl; exact rfl)))
      rename_i b19 b20
      refine JC.opsDs [(b19, .cells (wc ((g - x % (b / (g)) * a) / b)) 27 (0, 0)), (b10, .cells (wc (x % (b / (g)))) 27 (0, 0)), (b8, .cells (wc (g)) 27 (0, 0))] (by (repeat' first | exact HSub.refl _ | exact HSub.nil _ | refine HSub.at 0 rfl ?_ | refine HSub.at 1 rfl ?_ | refine HSub.at 2 rfl ?_ | refine HSub.at 3 rfl ?_ | refine HSub.at 4 rfl ?_ | refine HSub.at 5 rfl ?_ | refine HSub.at 6 rfl ?_ | refine HSub.at 7 rfl ?_ | refine HSub.at 8 rfl ?_ | refine HSub.at 9 rfl ?_ | refine HSub.at 10 rfl ?_ | refine HSub.at 11 rfl ?_ | refine HSub.at 12 rfl ?_ | refine HSub.at 13 rfl ?_ | refine HSub.at 14 rfl ?_ | refine HSub.at 15 rfl ?_ | refine HSub.at 16 rfl ?_ | refine HSub.at 17 rfl ?_ | refine HSub.at 18 rfl ?_ | refine HSub.at 19 rfl ?_ | refine HSub.segH ?_ | refine HSub.skip ?_ | refine HSub.skipN ?_)) ?_
      (repeat' (first | refine JO.nil ?_ | refine JX.thenN ?_ | (apply r_loadN; exact rfl; exact rfl; exact rfl; exact rfl; (first | exact at0 | exact at1 | exact at2 | exact at3 | exact at4 | exact at5 | exact at6 | exact at7 | exact at8 | exact at9); exact rfl) | (apply r_storeN; exact rfl; (first | exact trivial | exact ⟨rfl, rfl⟩); exact rfl; exact rfl; (first | exact at0 | exact at1 | exact at2 | exact at3 | exact at4 | exact at5 | exact at6 | exact at7 | exact at8 | exact at9); exact rfl; exact rfl; exact rfl) | (apply r_storeKN; exact rfl; exact rfl; exact rfl; (first | exact at0 | exact at1 | exact at2 | exact at3 | exact at4 | exact at5 | exact at6 | exact at7 | exact at8 | exact at9); exact rfl; exact rfl; exact rfl; (repeat' first | exact HSub.refl _ | exact HSub.nil _ | refine HSub.at 0 rfl ?_ | refine HSub.at 1 rfl ?_ | refine HSub.at 2 rfl ?_ | refine HSub.at 3 rfl ?_ | refine HSub.at 4 rfl ?_ | refine HSub.at 5 rfl ?_ | refine HSub.at 6 rfl ?_ | refine HSub.at 7 rfl ?_ | refine HSub.at 8 rfl ?_ | refine HSub.at 9 rfl ?_ | refine HSub.at 10 rfl ?_ | refine HSub.at 11 rfl ?_ | refine HSub.at 12 rfl ?_ | refine HSub.at 13 rfl ?_ | refine HSub.at 14 rfl ?_ | refine HSub.at 15 rfl ?_ | refine HSub.at 16 rfl ?_ | refine HSub.at 17 rfl ?_ | refine HSub.at 18 rfl ?_ | refine HSub.at 19 rfl ?_ | refine HSub.segH ?_ | refine HSub.skip ?_ | refine HSub.skipN ?_)) | (apply r_storeN; exact rfl; (first | exact trivial | exact ⟨rfl, rfl⟩); exact rfl; exact rfl; (first | exact at0 | exact at1 | exact at2 | exact at3 | exact at4 | exact at5 | exact at6 | exact at7 | exact at8 | exact at9); exact rfl; exact rfl; exact rfl) | refine JC.ret ?_))
      exact JX.retCCC 9 8 7 rfl rfl rfl rfl rfl rfl rfl rfl rfl (fun a' w' st => ⟨st.kp, g, x % (b / (g)), (g - x % (b / (g)) * a) / b, rfl, gcd_end hgg hb hex0⟩)
    · have hZG : IsZ (Wv (-g)) (-g) k := IsZ.can (by rw [Int.natAbs_neg]; exact hgk)
      have hZX : IsZ (Wv (-x)) (-x) (k + 1) := IsZ.can (by rw [Int.natAbs_neg]; exact hZx.lt)
      have hgp : 0 < -g := by omega
      refine r_call0 (by first | trivial | exact ⟨rfl, rfl⟩) rfl rfl rfl (fun w hk' hs => c_SignR w _ g k hZg (by omega)) fun w v w' _ _ _ hR => ?_
      rw [Int.sign_eq_neg_one_of_neg hgn] at hR
      subst hR
      (repeat' (first | refine JC.seq ?_ | refine JC.ops ?_ | refine JO.nil ?_ | refine JX.thenN ?_ | (apply r_loadN; exact rfl; exact rfl; exact rfl; exact rfl; (first | exact at0 | exact at1 | exact at2 | exact at3 | exact at4 | exact at5 | exact at6 | exact at7 | exact at8 | exact at9); exact rfl) | (apply r_lss; exact rfl; exact rfl; exact rfl; exact rfl; all_goals intro hc; all_goals try (exfalso; omega)) | refine JC.condT rfl ?_))
      refine r_call0 (by first | trivial | exact ⟨rfl, rfl⟩) rfl rfl rfl (fun w hk' hs => c_NegR w _ g k hZg (by omega)) fun w v w' _ _ _ hR => ?_
      subst hR
      (repeat' (first | refine JC.ops ?_ | refine JO.nil ?_ | refine JX.thenN ?_ | (apply r_loadN; exact rfl; exact rfl; exact rfl; exact rfl; (first | exact at0 | exact at1 | exact at2 | exact at3 | exact at4 | exact at5 | exact at6 | exact at7 | exact at8 | exact at9); exact rfl) | (apply r_storeN; exact rfl; (first | exact trivial | exact ⟨rfl, rfl⟩); exact rfl; exact rfl; (first | exact at0 | exact at1 | exact at2 | exact at3 | exact at4 | exact at5 | exact at6 | exact at7 | exact at8 | exact at9); exact rfl; exact rfl; exact rfl) | (apply r_storeN; exact rfl; (first | exact trivial | exact ⟨rfl, rfl⟩); exact rfl; exact rfl; (first | exact at0 | exact at1 | exact at2 | exact at3 | exact at4 | exact at5 | exact at6 | exact at7 | exact at8 | exact at9); exact rfl; exact rfl; exact rfl)))
      refine r_call0 (by first | trivial | exact ⟨rfl, rfl⟩) rfl rfl rfl (fun w hk' hs => c_NegR w _ x (k + 1) hZx (by omega)) fun w v w' _ _ _ hR => ?_
      subst hR
      (repeat' (first | refine JC.seq ?_ | refine JC.ops ?_ | refine JO.nil ?_ | refine JX.thenN ?_ | (apply r_loadN; exact rfl; exact rfl; exact rfl; exact rfl; (first | exact at0 | exact at1 | exact at2 | exact at3 | exact at4 | exact at5 | exact at6 | exact at7 | exact at8 | exact at9); exact rfl) | (apply r_storeN; exact rfl; (first | exact trivial | exact ⟨rfl, rfl⟩); exact rfl; exact rfl; (first | exact at0 | exact at1 | exact at2 | exact at3 | exact at4 | exact at5 | exact at6 | exact at7 | exact at8 | exact at9); exact rfl; exact rfl; exact rfl) | (apply r_storeN; exact rfl; (first | exact trivial | exact ⟨rfl, rfl⟩); exact rfl; exact rfl; (first | exact at0 | exact at1 | exact at2 | exact at3 | exact at4 | exact at5 | exact at6 | exact at7 | exact at8 | exact at9); exact rfl; exact rfl; exact rfl)))
      have hdb : (-g) ∣ b := by rw [hgg]; exact Int.gcd_dvd_right ..
      have hmg : (b / (-g)) * (-g) = b := Int.ediv_mul_cancel hdb
      have hbg0 : b / (-g) ≠ 0 := fun e => by rw [e, Int.zero_mul] at hmg; exact hb hmg.symm
      have hm1 : (b / (-g)).natAbs < 256 ^ (k + 1) := Nat.lt_of_le_of_lt (quo_natAbs_le b (-g)) (two_pow_lt hZb.lt hZG.lt)
      have hx1 : ((-x) % (b / (-g))).natAbs < 256 ^ (k + 1) := by
        have h1 := Int.emod_nonneg (-x) hbg0
        have h2 := Int.emod_lt (-x) hbg0
        omega
      have hZx' : IsZ (Wv ((-x) % (b / (-g)))) ((-x) % (b / (-g))) (k + 1) := IsZ.can hx1
      have hZxa : IsZ (Wv ((-x) % (b / (-g)) * a)) ((-x) % (b / (-g)) * a) (2 * k + 1) := (IsZ.can (mul_lt hx1 hZa.lt)).mono (by omega)
      have hZgx : IsZ (Wv ((-g) - (-x) % (b / (-g)) * a)) ((-g) - (-x) % (b / (-g)) * a) (2 * k + 2) := by
        rw [Int.sub_eq_add_neg]
        exact IsZ.add (hZG.mono (show k ≤ 2 * k + 1 by omega)).lt (by rw [Int.natAbs_neg]; exact hZxa.lt)
      refine r_call0 (by first | trivial | exact ⟨rfl, rfl⟩) rfl rfl rfl (fun w hk' hs => c_QuoR w _ _ b ((-g)) k hZb hZG (by omega)) fun w v w' _ _ _ hR => ?_
      rw [if_neg (by omega)] at hR
      subst hR
      (repeat' (first | refine JC.seq ?_ | refine JC.ops ?_ | refine JO.nil ?_ | refine JX.thenN ?_ | (apply r_move; exact rfl; exact rfl; exact rfl) | (apply r_assign; exact rfl; exact rfl; exact rfl) | (apply r_loadN; exact rfl; exact rfl; exact rfl; exact rfl; (first | exact at0 | exact at1 | exact at2 | exact at3 | exact at4 | exact at5 | exact at6 | exact at7 | exact at8 | exact at9); exact rfl) | (apply r_extract; exact rfl; exact rfl; exact rfl; exact rfl) | (apply r_storeN; exact rfl; (first | exact trivial | exact ⟨rfl, rfl⟩); exact rfl; exact rfl; (first | exact at0 | exact at1 | exact at2 | exact at3 | exact at4 | exact at5 | exact at6 | exact at7 | exact at8 | exact at9); exact rfl; exact rfl; exact rfl) | (apply r_allocZ; exact rfl; exact rfl; exact rfl; intro _) | (apply r_storeN; exact rfl; (first | exact trivial | exact ⟨rfl, rfl⟩); exact rfl; exact rfl; (first | exact at0 | exact at1 | exact at2 | exact at3 | exact at4 | exact at5 | exact at6 | exact at7 | exact at8 | exact at9); exact rfl; exact rfl; exact rfl)))
      refine r_call0 (by first | trivial | exact ⟨rfl, rfl⟩) rfl rfl rfl (fun w hk' hs => c_QuoR w _ _ ((-x)) (b / ((-g))) (k + 1) hZX (IsZ.can hm1) (by omega)) fun w v w' _ _ _ hR => ?_
      rw [if_neg hbg0] at hR
      subst hR
      (repeat' (first | refine JC.seq ?_ | refine JO.nil ?_ | refine JX.thenN ?_ | (apply r_move; exact rfl; exact rfl; exact rfl) | (apply r_extract; exact rfl; exact rfl; exact rfl; exact rfl) | (apply r_storeN; exact rfl; (first | exact trivial | exact ⟨rfl, rfl⟩); exact rfl; exact rfl; (first | exact at0 | exact at1 | exact at2 | exact at3 | exact at4 | exact at5 | exact at6 | exact at7 | exact at8 | exact at9); exact rfl; exact rfl; exact rfl) | (apply r_storeN; exact rfl; (first | exact trivial | exact ⟨rfl, rfl⟩); exact rfl; exact rfl; (first | exact at0 | exact at1 | exact at2 | exact at3 | exact at4 | exact at5 | exact at6 | exact at7 | exact at8 | exact at9); exact rfl; exact rfl; exact rfl)))
      refine JC.opsDs [(b10, .cells (wc ((-x) % (b / ((-g))))) 27 (0, 0)), (b8, .cells (wc ((-g))) 27 (0, 0)), (b3, .cells #[.bool q, sv l'] 27 (0, 0)), (b2, .cells #[.bool p, sv l] 27 (0, 0))] (by (repeat' first | exact HSub.refl _ | exact HSub.nil _ | refine HSub.at 0 rfl ?_ | refine HSub.at 1 rfl ?_ | refine HSub.at 2 rfl ?_ | refine HSub.at 3 rfl ?_ | refine HSub.at 4 rfl ?_ | refine HSub.at 5 rfl ?_ | refine HSub.at 6 rfl ?_ | refine HSub.at 7 rfl ?_ | refine HSub.at 8 rfl ?_ | refine HSub.at 9 rfl ?_ | refine HSub.at 10 rfl ?_ | refine HSub.at 11 rfl ?_ | refine HSub.at 12 rfl ?_ | refine HSub.at 13 rfl ?_ | refine HSub.at 14 rfl ?_ | refine HSub.at 15 rfl ?_ | refine HSub.at 16 rfl ?_ | refine HSub.at 17 rfl ?_ | refine HSub.at 18 rfl ?_ | refine HSub.at 19 rfl ?_ | refine HSub.segH ?_ | refine HSub.skip ?_ | refine HSub.skipN ?_)) ?_
      (repeat' (first | (apply r_loadN; exact rfl; exact rfl; exact rfl; exact rfl; (first | exact at0 | exact at1 | exact at2 | exact at3 | exact at4 | exact at5 | exact at6 | exact at7 | exact at8 | exact at9); exact rfl)))
      refine r_call0 (by first | trivial | exact ⟨rfl, rfl⟩) rfl rfl rfl (fun w hk' hs => c_MulR w _ _ ((-x) % (b / ((-g)))) a (k + 1) hZx' (hZa.mono (by omega)) (by omega)) fun w v w' _ _ _ hR => ?_
      subst hR
      skip
      refine r_call0 (by first | trivial | exact ⟨rfl, rfl⟩) rfl rfl rfl (fun w hk' hs => c_SubR w _ _ ((-g)) ((-x) % (b / ((-g))) * a) (2 * k + 1) (hZG.mono (by omega)) hZxa (by omega)) fun w v w' _ _ _ hR => ?_
      subst hR
      skip
      refine r_call0 (by first | trivial | exact ⟨rfl, rfl⟩) rfl rfl rfl (fun w hk' hs => c_QuoR w _ _ ((-g) - (-x) % (b / ((-g))) * a) b (2 * k + 2) hZgx (hZb.mono (by omega)) (by omega)) fun w v w' _ _ _ hR => ?_
      rw [if_neg hb] at hR
      subst hR
      (repeat' (first | refine JC.seq ?_ | refine JO.nil ?_ | refine JX.thenN ?_ | (apply r_move; exact rfl; exact rfl; exact rfl) | (apply r_assign; exact rfl; exact rfl; exact rfl) | (apply r_extract; exact rfl; exact rfl; exact rfl; exact rfl) | (apply r_storeN; exact rfl; (first | exact trivial | exact ⟨rfl, rfl⟩); exact rfl; exact rfl; (first | exact at0 | exact at1 | exact at2 | exact at3 | exact at4 | exact at5 | exact at6 | exact at7 | exact at8 | exact at9); exact rfl; exact rfl; exact rfl) | (apply r_allocZ; exact rfl; exact rfl; exact rfl; intro _) | (apply r_storeN; exact rfl; (first | exact trivial | exact ⟨rfl, rfl⟩); exact rfl; exact rfl; (first | exact at0 | exact at1 | exact at2 | exact at3 | exact at4 | exact at5 | exact at6 | exact at7 | exact at8 | exact at9); exact rfl; exact rfl; exact rfl)))
      rename_i b19 b20
      refine JC.opsDs [(b19, .cells (wc (((-g) - (-x) % (b / ((-g))) * a) / b)) 27 (0, 0)), (b10, .cells (wc ((-x) % (b / ((-g))))) 27 (0, 0)), (b8, .cells (wc ((-g))) 27 (0, 0))] (by (repeat' first | exact HSub.refl _ | exact HSub.nil _ | refine HSub.at 0 rfl ?_ | refine HSub.at 1 rfl ?_ | refine HSub.at 2 rfl ?_ | refine HSub.at 3 rfl ?_ | refine HSub.at 4 rfl ?_ | refine HSub.at 5 rfl ?_ | refine HSub.at 6 rfl ?_ | refine HSub.at 7 rfl ?_ | refine HSub.at 8 rfl ?_ | refine HSub.at 9 rfl ?_ | refine HSub.at 10 rfl ?_ | refine HSub.at 11 rfl ?_ | refine HSub.at 12 rfl ?_ | refine HSub.at 13 rfl ?_ | refine HSub.at 14 rfl ?_ | refine HSub.at 15 rfl ?_ | refine HSub.at 16 rfl ?_ | refine HSub.at 17 rfl ?_ | refine HSub.at 18 rfl ?_ | refine HSub.at 19 rfl ?_ | refine HSub.segH ?_ | refine HSub.skip ?_ | refine HSub.skipN ?_)) ?_
      (repeat' (first | refine JO.nil ?_ | refine JX.thenN ?_ | (apply r_loadN; exact rfl; exact rfl; exact rfl; exact rfl; (first | exact at0 | exact at1 | exact at2 | exact at3 | exact at4 | exact at5 | exact at6 | exact at7 | exact at8 | exact at9); exact rfl) | (apply r_storeN; exact rfl; (first | exact trivial | exact ⟨rfl, rfl⟩); exact rfl; exact rfl; (first | exact at0 | exact at1 | exact at2 | exact at3 | exact at4 | exact at5 | exact at6 | exact at7 | exact at8 | exact at9); exact rfl; exact rfl; exact rfl) | (apply r_storeKN; exact rfl; exact rfl; exact rfl; (first | exact at0 | exact at1 | exact at2 | exact at3 | exact at4 | exact at5 | exact at6 | exact at7 | exact at8 | exact at9); exact rfl; exact rfl; exact rfl; (repeat' first | exact HSub.refl _ | exact HSub.nil _ | refine HSub.at 0 rfl ?_ | refine HSub.at 1 rfl ?_ | refine HSub.at 2 rfl ?_ | refine HSub.at 3 rfl ?_ | refine HSub.at 4 rfl ?_ | refine HSub.at 5 rfl ?_ | refine HSub.at 6 rfl ?_ | refine HSub.at 7 rfl ?_ | refine HSub.at 8 rfl ?_ | refine HSub.at 9 rfl ?_ | refine HSub.at 10 rfl ?_ | refine HSub.at 11 rfl ?_ | refine HSub.at 12 rfl ?_ | refine HSub.at 13 rfl ?_ | refine HSub.at 14 rfl ?_ | refine HSub.at 15 rfl ?_ | refine HSub.at 16 rfl ?_ | refine HSub.at 17 rfl ?_ | refine HSub.at 18 rfl ?_ | refine HSub.at 19 rfl ?_ | refine HSub.segH ?_ | refine HSub.skip ?_ | refine HSub.skipN ?_)) | (apply r_storeN; exact rfl; (first | exact trivial | exact ⟨rfl, rfl⟩); exact rfl; exact rfl; (first | exact at0 | exact at1 | exact at2 | exact at3 | exact at4 | exact at5 | exact at6 | exact at7 | exact at8 | exact at9); exact rfl; exact rfl; exact rfl) | refine JC.ret ?_))
      exact JX.retCCC 9 8 7 rfl rfl rfl rfl rfl rfl rfl rfl rfl (fun a' w' st => ⟨st.kp, (-g), (-x) % (b / ((-g))), ((-g) - (-x) % (b / ((-g))) * a) / b, rfl, gcd_end hgg hb hex0⟩)
  · have hs0 : h.sign ≠ 0 := fun e => hh (Int.sign_eq_zero_iff_zero.1 e)
    have hq1 : (g / h).natAbs < 256 ^ (k + 1) := Nat.lt_of_le_of_lt (quo_natAbs_le g h) (two_pow_lt hgk hhk)
    have hZq : IsZ (Wv (g / h)) (g / h) (k + 1) := IsZ.can hq1
    have hstep := hGR.step hb hh
    have hZqy : IsZ (Wv (g / h * y)) (g / h * y) (2 * k + 2) := (IsZ.can (mul_lt hZq.lt hZy.lt)).mono (by omega)
    have hu3 := hstep.bu hb hh
    have hr1 := Int.emod_nonneg g hh
    have hr2 := Int.emod_lt g hh
    (repeat' (first | refine JC.seq ?_ | refine JC.ops ?_ | (apply r_loadN; exact rfl; exact rfl; exact rfl; exact rfl; (first | exact at0 | exact at1 | exact at2 | exact at3 | exact at4 | exact at5 | exact at6 | exact at7 | exact at8 | exact at9); exact rfl)))
    refine r_call0 (by first | trivial | exact ⟨rfl, rfl⟩) rfl rfl rfl (fun w hk' hs => c_SignR w _ h k hZh (by omega)) fun w v w' _ _ _ hR => ?_
    generalize h.sign = sh at hs0 hR
    subst hR
    (repeat' (first | refine JC.seq ?_ | refine JC.ops ?_ | refine JO.nil ?_ | refine JX.thenN ?_ | (apply r_loadN; exact rfl; exact rfl; exact rfl; exact rfl; (first | exact at0 | exact at1 | exact at2 | exact at3 | exact at4 | exact at5 | exact at6 | exact at7 | exact at8 | exact at9); exact rfl) | (apply r_neq; exact rfl; exact rfl; exact rfl; exact rfl; all_goals intro hc; all_goals try (exfalso; omega)) | refine JC.skip ?_ | refine JC.condT rfl ?_ | refine JC.block ?_))
    refine r_call0 (by first | trivial | exact ⟨rfl, rfl⟩) rfl rfl rfl (fun w hk' hs => c_QuoR w _ _ g h k hZg hZh (by omega)) fun w v w' _ _ _ hR => ?_
    rw [if_neg hh] at hR
    subst hR
    (repeat' (first | refine JC.seq ?_ | refine JC.ops ?_ | refine JC.opsD ?_ | refine JO.nil ?_ | refine JX.thenN ?_ | (apply r_move; exact rfl; exact rfl; exact rfl) | (apply r_assign; exact rfl; exact rfl; exact rfl) | (apply r_loadN; exact rfl; exact rfl; exact rfl; exact rfl; (first | exact at0 | exact at1 | exact at2 | exact at3 | exact at4 | exact at5 | exact at6 | exact at7 | exact at8 | exact at9); exact rfl) | (apply r_extract; exact rfl; exact rfl; exact rfl; exact rfl) | (apply r_storeN; exact rfl; (first | exact trivial | exact ⟨rfl, rfl⟩); exact rfl; exact rfl; (first | exact at0 | exact at1 | exact at2 | exact at3 | exact at4 | exact at5 | exact at6 | exact at7 | exact at8 | exact at9); exact rfl; exact rfl; exact rfl) | (apply r_allocZ; exact rfl; exact rfl; exact rfl; intro _) | (apply r_storeN; exact rfl; (first | exact trivial | exact ⟨rfl, rfl⟩); exact rfl; exact rfl; (first | exact at0 | exact at1 | exact at2 | exact at3 | exact at4 | exact at5 | exact at6 | exact at7 | exact at8 | exact at9); exact rfl; exact rfl; exact rfl)))
    refine r_call0 (by first | trivial | exact ⟨rfl, rfl⟩) rfl rfl rfl (fun w hk' hs => c_MulR w _ _ (g / h) y (k + 1) hZq hZy (by omega)) fun w v w' _ _ _ hR => ?_
    subst hR
    skip
    refine r_call0 (by first | trivial | exact ⟨rfl, rfl⟩) rfl rfl rfl (fun w hk' hs => c_SubR w _ _ x (g / h * y) (2 * k + 2) (hZx.mono (by omega)) hZqy (by omega)) fun w v w' _ _ _ hR => ?_
    subst hR
    (repeat' (first | refine JC.seq ?_ | refine JC.ops ?_ | refine JO.nil ?_ | refine JX.thenN ?_ | (apply r_loadN; exact rfl; exact rfl; exact rfl; exact rfl; (first | exact at0 | exact at1 | exact at2 | exact at3 | exact at4 | exact at5 | exact at6 | exact at7 | exact at8 | exact at9); exact rfl) | (apply r_storeN; exact rfl; (first | exact trivial | exact ⟨rfl, rfl⟩); exact rfl; exact rfl; (first | exact at0 | exact at1 | exact at2 | exact at3 | exact at4 | exact at5 | exact at6 | exact at7 | exact at8 | exact at9); exact rfl; exact rfl; exact rfl) | (apply r_allocZ; exact rfl; exact rfl; exact rfl; intro _) | (apply r_storeN; exact rfl; (first | exact trivial | exact ⟨rfl, rfl⟩); exact rfl; exact rfl; (first | exact at0 | exact at1 | exact at2 | exact at3 | exact at4 | exact at5 | exact at6 | exact at7 | exact at8 | exact at9); exact rfl; exact rfl; exact rfl) | refine JX.blockN ?_))
    exact JX.roundH (h, g % h, y, x - g / h * y) ⟨hstep, hy3, hu3, hhk, by dsimp only; omega⟩ (by dsimp only; omega) (by repeat first | exact trivial | refine ⟨rfl, ?_⟩) (by (repeat' first | exact HSub.refl _ | exact HSub.nil _ | refine HSub.at 0 rfl ?_ | refine HSub.at 1 rfl ?_ | refine HSub.at 2 rfl ?_ | refine HSub.at 3 rfl ?_ | refine HSub.at 4 rfl ?_ | refine HSub.at 5 rfl ?_ | refine HSub.at 6 rfl ?_ | refine HSub.at 7 rfl ?_ | refine HSub.at 8 rfl ?_ | refine HSub.at 9 rfl ?_ | refine HSub.at 10 rfl ?_ | refine HSub.at 11 rfl ?_ | refine HSub.at 12 rfl ?_ | refine HSub.at 13 rfl ?_ | refine HSub.at 14 rfl ?_ | refine HSub.at 15 rfl ?_ | refine HSub.at 16 rfl ?_ | refine HSub.at 17 rfl ?_ | refine HSub.at 18 rfl ?_ | refine HSub.at 19 rfl ?_ | refine HSub.segH ?_ | refine HSub.skip ?_ | refine HSub.skipN ?_))

end Go.Proofs.YtdehklhdjbkneaaDoor

