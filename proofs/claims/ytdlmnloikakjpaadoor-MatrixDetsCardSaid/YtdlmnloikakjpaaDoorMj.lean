import Derived.Test.YtdlmnloikakjpaaDoorMg
import Derived.Test.YtdlmnloikakjpaaDoorMe
import Derived.Test.YtdlmnloikakjpaaDoorMh
import Derived.Test.YtdlmnloikakjpaaDoorMi
namespace Go.Proofs.YtdlmnloikakjpaaDoor
open Go Go.RowKit
set_option linter.unusedSimpArgs false
set_option linter.unusedVariables false
set_option linter.unusedSectionVars false

theorem canon_bad {xs : List WR} {k : Nat} (hk : k < xs.length) (h : badW (xs.getD k w0x) = true) : ¬ Canon xs := fun hc => canon_iff.1 hc ⟨_, mem_getD hk, h⟩

set_option maxHeartbeats 2000000 in
theorem c_refCanonical (w : World) (E : Value) (n : Nat) (xs : List WR) (hE : WX w E n xs) (hn : n < 1000000000) :
    Calls Tryd.prog 72 #[E] w (Ret fun v w' => Kp [] w w' ∧ IsB (Canon xs) v) := by
  have hl := hE.len
  refine calls_of_S [] [] (by simp) [] Tryd.func72 rfl mixed (by kernel_rfl) Tryd.ntmps72 Tryd.results72 rfl ⟨by simp, by simp⟩ (by simp) ?_
  simp only [toS, textOps, toSOp, kindAt, kindOf, odAt, sopsAt, ordOf, zipF]
  have hR := WX.rd (c := ⟨Tryd.prog, 40, w, [], by simp⟩) hE rfl []
  (repeat' (first | refine JC.seq ?_ | refine JC.ops ?_ | refine JO.nil ?_ | refine JX.thenN ?_ | (apply r_assign; (iterate 3 exact rfl)) | refine JC.block ?_))
  refine JC.loopH (ι := Nat) ⟨fun k => [(3, nv k), (0, E)], fun _ => [], fun k => k ≤ n ∧ ∀ j, j < k → badW (xs.getD j w0x) = false, fun k => n - k⟩ 0 ⟨by omega, fun j h => by omega⟩ (by repeat first | exact trivial | refine ⟨rfl, ?_⟩) (HSub.nil _) (fun k hk => ?_)
  obtain ⟨hkn, hpr⟩ := hk
  dsimp only
  by_cases hlt : k < n
  · (repeat' (first | refine JC.seq ?_ | refine JC.ops ?_ | refine JO.nil ?_ | refine JX.thenN ?_ | (apply r_move; (iterate 3 exact rfl)) | (apply r_idxX; (iterate 4 exact rfl); (first | assumption | exact WX.rd (by assumption) rfl [] | exact OwnX.rd (by assumption)); (first | assumption | omega)) | (apply r_ldXm; (iterate 4 exact rfl); (first | assumption | exact WX.rd (by assumption) rfl [] | exact OwnX.rd (by assumption)); (repeat' first | exact HSub.nil _ | exact HSub.hd | exact HSub.in0 | exact HSub.refl _ | refine HSub.skip ?_ | refine HSub.skipN ?_); (first | assumption | omega)) | (apply r_fieldX; (iterate 3 exact rfl); (first | assumption | exact WX.rd (by assumption) rfl [] | exact OwnX.rd (by assumption)); omega) | (apply r_lenX; (iterate 3 exact rfl); (first | assumption | exact WX.rd (by assumption) rfl [] | exact OwnX.rd (by assumption))) | (apply r_eqS; (iterate 4 exact rfl)) | (apply r_lss; (iterate 4 exact rfl); all_goals intro hc; all_goals try (exfalso; omega)) | refine JC.skip ?_ | refine JC.condT rfl ?_ | refine JC.block ?_))
    have hxk : ∀ x, xs.getD k w0x = x → badW x = true → ¬ Canon xs := fun x hx hb => canon_bad (k := k) (by omega) (by rw [hx]; exact hb)
    have hnx : ∀ x, xs.getD k w0x = x → badW x = false → ∀ j, j < k + 1 → badW (xs.getD j w0x) = false := fun x hx hb j hj => by
      rcases Nat.lt_or_ge j k with h | h
      · exact hpr j h
      · obtain rfl : j = k := by omega
        rw [hx]; exact hb
    rcases hx : xs.getD k w0x with ⟨p, l⟩
    cases l with
    | nil =>
      simp only [decide_true]
      (repeat' (first | (apply r_move; (iterate 3 exact rfl)) | (apply r_idxX; (iterate 4 exact rfl); (first | assumption | exact WX.rd (by assumption) rfl [] | exact OwnX.rd (by assumption)); (first | assumption | omega)) | (apply r_ldXs; (iterate 4 exact rfl); (first | assumption | exact WX.rd (by assumption) rfl [] | exact OwnX.rd (by assumption)); (repeat' first | exact HSub.nil _ | exact HSub.hd | exact HSub.in0 | exact HSub.refl _ | refine HSub.skip ?_ | refine HSub.skipN ?_); (first | assumption | omega)) | (apply r_fieldX; (iterate 3 exact rfl); (first | assumption | exact WX.rd (by assumption) rfl [] | exact OwnX.rd (by assumption)); omega) | (apply r_pickT; (iterate 4 exact rfl))))
      rw [hx]
      cases p
      · (repeat' (first | (apply r_move; (iterate 3 exact rfl)) | (apply r_idxX; (iterate 4 exact rfl); (first | assumption | exact WX.rd (by assumption) rfl [] | exact OwnX.rd (by assumption)); (first | assumption | omega)) | (apply r_ldXm; (iterate 4 exact rfl); (first | assumption | exact WX.rd (by assumption) rfl [] | exact OwnX.rd (by assumption)); (repeat' first | exact HSub.nil _ | exact HSub.hd | exact HSub.in0 | exact HSub.refl _ | refine HSub.skip ?_ | refine HSub.skipN ?_); (first | assumption | omega)) | (apply r_fieldX; (iterate 3 exact rfl); (first | assumption | exact WX.rd (by assumption) rfl [] | exact OwnX.rd (by assumption)); omega) | (apply r_neS; (iterate 4 exact rfl))))
        rw [hx, show decide ((false, ([] : List UInt8)).snd ≠ []) = false from rfl]
        (repeat' (first | refine JC.ops ?_ | refine JO.nil ?_ | refine JX.thenN ?_ | (apply r_move; (iterate 3 exact rfl)) | (apply r_assign; (iterate 3 exact rfl)) | (apply r_add1; (iterate 4 exact rfl); omega) | (apply r_pickF; (iterate 4 exact rfl)) | refine JC.skip ?_ | refine JC.condF rfl ?_ | refine JX.blockN ?_ | (apply r_skip; exact rfl; exact rfl; (first | (intro h; cases h; done) | (intro _; rfl)))))
        exact JX.roundH (k + 1) ⟨by omega, hnx _ hx rfl⟩ (by dsimp only; omega) (by repeat first | exact trivial | refine ⟨rfl, ?_⟩) (HSub.nil _)
      · (repeat' (first | refine JC.seq ?_ | refine JC.ops ?_ | refine JO.nil ?_ | refine JX.thenN ?_ | (apply r_assign; (iterate 3 exact rfl)) | (apply r_pickT; (iterate 4 exact rfl)) | refine JX.thenR ?_ | refine JC.ret ?_ | refine JC.condT rfl ?_ | refine JX.blockR ?_ | (apply r_skip; exact rfl; exact rfl; (first | (intro h; cases h; done) | (intro _; rfl)))))
        exact JX.ret1 rfl (fun a w' st => ⟨st.kp, IsB.f (hxk _ hx rfl)⟩)
    | cons x r =>
      rw [show decide ((p, x :: r).snd = ([] : List UInt8)) = false from rfl]
      (repeat' (first | (apply r_move; (iterate 3 exact rfl)) | (apply r_idxX; (iterate 4 exact rfl); (first | assumption | exact WX.rd (by assumption) rfl [] | exact OwnX.rd (by assumption)); (first | assumption | omega)) | (apply r_ldXm; (iterate 4 exact rfl); (first | assumption | exact WX.rd (by assumption) rfl [] | exact OwnX.rd (by assumption)); (repeat' first | exact HSub.nil _ | exact HSub.hd | exact HSub.in0 | exact HSub.refl _ | refine HSub.skip ?_ | refine HSub.skipN ?_); (first | assumption | omega)) | (apply r_fieldX; (iterate 3 exact rfl); (first | assumption | exact WX.rd (by assumption) rfl [] | exact OwnX.rd (by assumption)); omega) | (apply r_pickF; (iterate 4 exact rfl)) | (apply r_neS; (iterate 4 exact rfl)) | (apply r_skip; exact rfl; exact rfl; (first | (intro h; cases h; done) | (intro _; rfl)))))
      rw [hx, show decide ((p, x :: r).snd ≠ ([] : List UInt8)) = true from rfl]
      (repeat' (first | (apply r_move; (iterate 3 exact rfl)) | (apply r_idxX; (iterate 4 exact rfl); (first | assumption | exact WX.rd (by assumption) rfl [] | exact OwnX.rd (by assumption)); (first | assumption | omega)) | (apply r_ldXm; (iterate 4 exact rfl); (first | assumption | exact WX.rd (by assumption) rfl [] | exact OwnX.rd (by assumption)); (repeat' first | exact HSub.nil _ | exact HSub.hd | exact HSub.in0 | exact HSub.refl _ | refine HSub.skip ?_ | refine HSub.skipN ?_); (first | assumption | omega)) | (apply r_fieldX; (iterate 3 exact rfl); (first | assumption | exact WX.rd (by assumption) rfl [] | exact OwnX.rd (by assumption)); omega)))
      rw [hx]
      (repeat' (first | refine JC.seq ?_ | refine JC.ops ?_ | refine JO.nil ?_ | refine JX.thenN ?_ | (apply r_move; (iterate 3 exact rfl)) | (apply r_assign; (iterate 3 exact rfl)) | (apply r_add1; (iterate 4 exact rfl); omega) | (apply r_pickT; (iterate 4 exact rfl)) | (apply r_pickF; (iterate 4 exact rfl)) | (apply r_idxS0; (iterate 4 exact rfl)) | (apply r_eql; (iterate 4 exact rfl); all_goals intro hc; all_goals try (exfalso; omega)) | refine JX.thenR ?_ | refine JC.skip ?_ | refine JC.ret ?_ | refine JC.condT rfl ?_ | refine JC.condF rfl ?_ | refine JX.blockN ?_ | refine JX.blockR ?_))
      · exact JX.ret1 rfl (fun _ w' st => ⟨st.kp, IsB.f (hxk _ hx (by have : x = 0 := UInt8.toNat.inj (by simpa using hc); subst this; rfl))⟩)
      · exact JX.roundH (k + 1) ⟨by omega, hnx _ hx (by have : x ≠ 0 := fun e => hc (by subst e; rfl); simp [badW, this])⟩ (by dsimp only; omega) (by repeat first | exact trivial | refine ⟨rfl, ?_⟩) (HSub.nil _)
  · (repeat' (first | refine JC.seq ?_ | refine JC.ops ?_ | refine JO.nil ?_ | refine JX.thenN ?_ | (apply r_move; (iterate 3 exact rfl)) | (apply r_assign; (iterate 3 exact rfl)) | (apply r_lenX; (iterate 3 exact rfl); (first | assumption | exact WX.rd (by assumption) rfl [] | exact OwnX.rd (by assumption))) | (apply r_lss; (iterate 4 exact rfl); all_goals intro hc; all_goals try (exfalso; omega)) | refine JX.thenE ?_ | refine JC.exit ?_ | refine JC.ret ?_ | refine JC.condF rfl ?_ | refine JX.blockE ?_))
    refine JX.ret1 rfl (fun a w' st => ⟨st.kp, IsB.t (canon_iff.2 ?_)⟩)
    rintro ⟨x, hx, hb⟩
    obtain ⟨j, hj, rfl⟩ := List.mem_iff_getElem.1 hx
    have := hpr j (by omega)
    rw [List.getD, List.getElem?_eq_getElem hj, Option.getD_some, hb] at this
    cases this

set_option maxHeartbeats 1000000 in
theorem c_refRight (w : World) (v : Value) (a : XM) (ha : IsX w v a) (hl : a.E.length < 1000000000) : Calls Tryd.prog 55 #[v] w (Ret fun v w' => Kp [] w w' ∧ IsB (RX a) v) := by
  obtain ⟨E, rfl, hE⟩ := ha
  by_cases hf : 0 ≤ a.R ∧ a.R ≤ 200 ∧ 0 ≤ a.C ∧ a.C ≤ 200
  · obtain ⟨R, C, xs⟩ := a
    obtain ⟨h1, h2, h3, h4⟩ := hf
    dsimp only at *
    obtain ⟨r, rfl⟩ := Int.eq_ofNat_of_zero_le h1
    obtain ⟨c, rfl⟩ := Int.eq_ofNat_of_zero_le h3
    have hr : r ≤ 200 := by omega
    have hc : c ≤ 200 := by omega
    have hrc := rcZ hr hc
    have hiff := RX.iff (E := xs) hr hc
    refine calls_of_S [] [] (by simp) [] Tryd.func55 rfl mixed (by kernel_rfl) Tryd.ntmps55 Tryd.results55 rfl ⟨by simp, by simp⟩ (by simp) ?_
    simp only [toS, textOps, toSOp, kindAt, kindOf, odAt, sopsAt, ordOf, zipF]
    have hR := WX.rd (c := ⟨Tryd.prog, 25, w, [], by simp⟩) hE rfl []
    (repeat' (first | refine JC.seq ?_ | refine JC.ops ?_ | refine JO.nil ?_ | refine JX.thenN ?_ | (apply r_fieldAddr; (iterate 3 exact rfl)) | (apply r_assign; (iterate 3 exact rfl)) | (apply r_load; (iterate 4 exact rfl); exact at0; exact rfl) | (apply r_boxA; (iterate 4 exact rfl); intro _)))
    refine r_call0 trivial rfl rfl rfl (fun w _ _ => c_refFits r c w) fun w v w' _ _ _ hv => ?_
    obtain ⟨b', rfl, hb⟩ := hv
    obtain rfl := hb.2 ⟨h1, h2, h3, h4⟩
    (repeat' (first | refine JC.seq ?_ | refine JC.ops ?_ | refine JO.nil ?_ | refine JX.thenN ?_ | (apply r_move; (iterate 3 exact rfl)) | (apply r_fieldAddr; (iterate 3 exact rfl)) | (apply r_assign; (iterate 3 exact rfl)) | (apply r_load; (iterate 4 exact rfl); exact at0; exact rfl) | (apply r_lenX; (iterate 3 exact rfl); (first | assumption | exact WX.rd (by assumption) rfl [] | exact OwnX.rd (by assumption))) | (apply r_mulN; (iterate 4 exact rfl); (first | assumption | omega)) | (apply r_pickF; (iterate 4 exact rfl)) | (apply r_not; (iterate 3 exact rfl)) | (apply r_neq; (iterate 4 exact rfl); all_goals intro hc; all_goals try (exfalso; omega)) | refine JX.thenR ?_ | refine JC.skip ?_ | refine JC.ret ?_ | refine JC.condT rfl ?_ | refine JC.condF rfl ?_))
    · exact JX.ret1 rfl (fun a w' st => ⟨st.kp, IsB.f (fun h => by have := (hiff.1 h).1; omega)⟩)
    · refine r_call0 trivial rfl rfl rfl (fun w' hk hs => c_refCanonical w' E _ _ (hE.mono hk) hl) fun w v w' _ _ _ hv => ?_
      obtain ⟨b', rfl, hb⟩ := hv
      (repeat' (first | refine JO.nil ?_ | refine JX.thenN ?_ | (apply r_assign; (iterate 3 exact rfl)) | refine JC.ret ?_))
      exact JX.ret1 rfl (fun a w' st => ⟨st.kp, b', rfl, hb.trans ⟨fun h => hiff.2 ⟨by omega, h⟩, fun h => (hiff.1 h).2⟩⟩)
  · refine calls_of_S [] [] (by simp) [] Tryd.func55 rfl mixed (by kernel_rfl) Tryd.ntmps55 Tryd.results55 rfl ⟨by simp, by simp⟩ (by simp) ?_
    simp only [toS, textOps, toSOp, kindAt, kindOf, odAt, sopsAt, ordOf, zipF]
    (repeat' (first | refine JC.seq ?_ | refine JC.ops ?_ | refine JO.nil ?_ | refine JX.thenN ?_ | (apply r_fieldAddr; (iterate 3 exact rfl)) | (apply r_assign; (iterate 3 exact rfl)) | (apply r_load; (iterate 4 exact rfl); exact at0; exact rfl) | (apply r_boxA; (iterate 4 exact rfl); intro _)))
    refine r_call0 trivial rfl rfl rfl (fun w _ _ => c_refFits a.R a.C w) fun w v w' _ _ _ hv => ?_
    obtain ⟨b', rfl, hb⟩ := hv
    cases b' with
    | true => exact absurd (hb.1 rfl) hf
    | false =>
      (repeat' (first | refine JC.seq ?_ | refine JC.ops ?_ | refine JO.nil ?_ | refine JX.thenN ?_ | (apply r_move; (iterate 3 exact rfl)) | (apply r_assign; (iterate 3 exact rfl)) | (apply r_pickT; (iterate 4 exact rfl)) | (apply r_not; (iterate 3 exact rfl)) | refine JX.thenR ?_ | refine JC.ret ?_ | refine JC.condT rfl ?_ | (apply r_skip; exact rfl; exact rfl; (first | (intro h; cases h; done) | (intro _; rfl)))))
      exact JX.ret1 rfl (fun a w' st => ⟨st.kp, IsB.f (fun h => hf h.fits)⟩)


theorem xm_len {m : ZM} (h : RtZ m) : m.xm.E.length < 1000000000 := by have := h.le; simp [ZM.xm]; omega

open Classical in
open Classical in
theorem RtZ.zM : RtZ zM := ⟨by decide, by decide, rfl⟩

theorem enz_set {n a b i j : Nat} {x : Int} {es : List Int} (hl : es.length = n * n) (ha : a < n) (hb : b < n) (hj : j < n) : enz n (es.set (a * n + b) x) i j = if i = a ∧ j = b then x else enz n es i j := by
  unfold enz
  rw [List.getD, List.getD, List.getElem?_set]
  by_cases h : i = a ∧ j = b
  · obtain ⟨rfl, rfl⟩ := h
    rw [if_pos (show i * n + j = i * n + j from rfl), if_pos (show i * n + j < es.length by rw [hl]; exact zx_lt ha hb)]
    simp
  · rw [if_neg h, if_neg (fun e => h ?_)]
    obtain ⟨h1, h2⟩ := zx_inj hb hj e
    exact ⟨h1.symm, h2.symm⟩

def swR (M : Mi) (k p j : Nat) : Mi := fun a b => if p ≠ k ∧ b < j then (if a = p then M k b else if a = k then M p b else M a b) else M a b
theorem swR_zero (M : Mi) (k p : Nat) (a b : Nat) : swR M k p 0 a b = M a b := by unfold swR; rw [if_neg (by omega)]
theorem swR_same (M : Mi) (k j : Nat) (a b : Nat) : swR M k k j a b = M a b := by unfold swR; rw [if_neg (by omega)]
theorem swR_step {M : Mi} {k p j : Nat} (h : p ≠ k) (a b : Nat) : (if a = k ∧ b = j then M p j else if a = p ∧ b = j then M k j else swR M k p j a b) = swR M k p (j + 1) a b := by
  unfold swR
  by_cases h1 : a = k ∧ b = j
  · obtain ⟨rfl, rfl⟩ := h1
    rw [if_pos ⟨rfl, rfl⟩, if_pos ⟨h, by omega⟩, if_neg (fun e => h e.symm), if_pos rfl]
  · rw [if_neg h1]
    by_cases h2 : a = p ∧ b = j
    · obtain ⟨rfl, rfl⟩ := h2
      rw [if_pos ⟨rfl, rfl⟩, if_pos ⟨h, by omega⟩, if_pos rfl]
    · rw [if_neg h2]
      by_cases h3 : b = j
      · subst h3
        rw [if_neg (by omega), if_pos ⟨h, by omega⟩, if_neg (fun e => h2 ⟨e, rfl⟩), if_neg (fun e => h1 ⟨e, rfl⟩)]
      · have : (b < j + 1) ↔ b < j := by omega
        simp only [this]

structure DetR (n K : Nat) (A0 : Mi) (k : Nat) (last : Int) (tn : Bool) (es : List Int) : Prop where
  ex : ∃ A, Bar n A k (enz n es) last ∧ det n A = (if tn then -1 else 1) * det n A0 ∧ ∀ i j, (A i j).natAbs < 256 ^ K
  bd : ∀ i j, i < n → j < n → (enz n es i j).natAbs < 256 ^ (n * (K + 1) + 1)
theorem DetR.swap {n K k p : Nat} {A0 : Mi} {last : Int} {tn : Bool} {es es2 : List Int} (h : DetR n K A0 k last tn es) (hk : k ≤ p) (hp : p < n) (h2 : ∀ i j, i < n → j < n → enz n es2 i j = swR (enz n es) k p n i j) : DetR n K A0 k last (tn != !decide (p = k)) es2 := by
  have hb : ∀ i j, i < n → j < n → (enz n es2 i j).natAbs < 256 ^ (n * (K + 1) + 1) := fun i j hi hj => by
    rw [h2 i j hi hj]
    unfold swR
    split
    · split
      · exact h.bd _ _ (by omega) hj
      · split
        · exact h.bd _ _ hp hj
        · exact h.bd _ _ hi hj
    · exact h.bd _ _ hi hj
  refine ⟨?_, hb⟩
  obtain ⟨A, hbar, hdet, hA⟩ := h.ex
  by_cases hpk : p = k
  · subst hpk
    have e : (tn != !decide (p = p)) = tn := by simp
    rw [e]
    exact ⟨A, ⟨hbar.eqd, hbar.ne, fun i j hi hin hj hjn => by rw [h2 i j hin hjn, swR_same]; exact hbar.eq i j hi hin hj hjn⟩, hdet, hA⟩
  · have hsw := hbar.swap (M' := enz n es2) 1 (q := p) (by omega) hp (fun j hj => by rw [h2 _ _ (by omega) hj, Int.one_mul]; unfold swR; rw [if_pos ⟨hpk, hj⟩, if_neg (fun e => hpk e.symm), if_pos rfl])
      (fun j hj => by rw [h2 _ _ hp hj]; unfold swR; rw [if_pos ⟨hpk, hj⟩, if_pos rfl]) (fun i j hi hj h3 h4 => by rw [h2 _ _ hi hj]; unfold swR; rw [if_pos ⟨hpk, hj⟩, if_neg h4, if_neg h3])
    refine ⟨_, hsw.1, ?_, fun i j => ?_⟩
    · rw [hsw.2, hdet]
      simp only [hpk, decide_false, Bool.not_false]
      cases tn <;> simp
    · by_cases hi : i = k
      · subst hi
        rw [setRow_self, Int.one_mul]
        exact hA _ _
      · rw [setRow_ne hi]
        unfold swp
        rw [if_neg hi]
        split <;> exact hA _ _
theorem DetR.none {n K k : Nat} {A0 : Mi} {last : Int} {tn : Bool} {es : List Int} (h : DetR n K A0 k last tn es) (hk : k < n) (hz : ∀ i, k ≤ i → i < n → enz n es i k = 0) : det n A0 = 0 := by
  obtain ⟨A, hbar, hdet, _⟩ := h.ex
  have h0 := hbar.none hk hz
  rw [h0] at hdet
  cases tn <;> simp at hdet <;> omega

section
variable {c : Cx} {Q : Exit → Act → World → Prop} {F : SFrame} {H : SHeap}
theorem r_neqD {i j : Int} {k : IntKind} {m : Mode} {r : List SOp} {g : Option (Option Tmp × Bool)} {ns : Bool} {d : Tmp} {ty t t' : TypeId} {x y : Operand} (hd : dstOk c.n (some d) = true) (hg : guardF F g = some true) (hx : ev F x = some (.int k i)) (hy : ev F y = some (.int k j))
    (h : JO c Q m r ((d, .bool (decide (i ≠ j))) :: F) H) : JO c Q m (⟨some d, .binOp .neq t x y t', ty, g, .mov, ns⟩ :: r) F H := by
  refine r_neq hd hg hx hy (fun hc => ?_) (fun hc => ?_)
  · rw [decide_eq_true hc] at h; exact h
  · rw [decide_eq_false (fun h => h hc)] at h; exact h
theorem JC.later {s : SCode} {ι : Type} (F0 : ι → SFrame) (H0 : ι → SHeap) (p : ι → Prop) (rest : ∀ z, p z → JX c Q .normal (F0 z) (H0 z)) (h : (∀ z, p z → JX c Q .normal (F0 z) (H0 z)) → JC c Q s F H) : JC c Q s F H := h rest
end

set_option maxHeartbeats 16000000 in
theorem c_refDet (K : Nat) (w : World) (v : Value) (m : ZM) (hm : RtZ m) (hsq : m.r = m.c) (hK : (m.r + 1) * (K + 1) ≤ 40000000) (hx : BdZ K m) (hv : IsM w v m) :
    Calls Tryd.prog 44 #[v] w (Ret fun v w' => Kp [] w w' ∧ v = .tuple #[Wv (det m.r m.at), .bool true]) := by
  have hv0 := hv
  have hvX := hv.x
  obtain ⟨E, rfl, hE⟩ := hv
  obtain ⟨n, c, e⟩ := m
  obtain rfl : n = c := hsq
  have hlen : e.length = n * n := hm.len
  have hle := rcZ hm.r hm.c
  have hbr : n ≤ 200 := hm.r
  have hB : n * (K + 1) + 1 ≤ 40000000 := by
    have e1 : (n + 1) * (K + 1) = n * (K + 1) + (K + 1) := by rw [Nat.add_mul, Nat.one_mul]
    simp only at hK; omega
  dsimp only at hE hK hle ⊢
  rw [hlen] at hE
  refine calls_of_S [⟨29, 1, [], []⟩, ⟨30, 1, [], []⟩, ⟨31, 3, [0, 1, 3, 2, 4, 5, 6, 7, 8, 9, 10, 11, 12, 13], []⟩] [] (by simp) [] Tryd.func44 rfl mixed (by kernel_rfl) Tryd.ntmps44 Tryd.results44 rfl ⟨by simp, by simp⟩ (by simp) ?_
  simp only [toS, textOps, toSOp, kindAt, kindOf, odAt, sopsAt, ordOf, zipF]
  have hRE := WZ.rd (c := ⟨Tryd.prog, 189, w, [], by simp⟩) hE rfl []
  (repeat' (first | refine JC.seq ?_ | refine JC.ops ?_ | refine JO.nil ?_ | refine JX.thenN ?_ | (apply r_assign; (iterate 3 exact rfl)) | (apply r_loadN; (iterate 4 exact rfl); exact at1; exact rfl) | (apply r_allocZ; (iterate 3 exact rfl); intro _) | (apply r_boxA; (iterate 4 exact rfl); intro _)))
  rename_i b1 b2
  refine r_call0 trivial rfl rfl rfl (fun w hk _ => c_refRight w _ _ (hvX.mono hk) (xm_len hm)) fun w v w' _ _ _ hR => ?_
  obtain ⟨b', rfl, hb⟩ := hR
  obtain rfl := hb.2 hm.rx
  (repeat' (first | refine JC.seq ?_ | refine JC.ops ?_ | refine JO.nil ?_ | refine JX.thenN ?_ | (apply r_move; (iterate 3 exact rfl)) | (apply r_fieldAddr; (iterate 3 exact rfl)) | (apply r_assign; (iterate 3 exact rfl)) | (apply r_load; (iterate 4 exact rfl); exact at1; exact rfl) | (apply r_pickF; (iterate 4 exact rfl)) | (apply r_not; (iterate 3 exact rfl)) | (apply r_neq; (iterate 4 exact rfl); all_goals intro hc; all_goals try (exfalso; omega)) | refine JC.skip ?_ | refine JC.condF rfl ?_))
  refine r_buildSlice0 rfl rfl rfl (fun b => ?_)
  (repeat' (first | (apply r_fieldAddr; (iterate 3 exact rfl)) | (apply r_load; (iterate 4 exact rfl); exact at2; exact rfl)))
  have hO : OwnZ [(b, .cells #[] 41)] (.slice (some ⟨b, 0, none⟩) 0 0) 0 [] := by
    have := OwnRow.mk' (e := 41) (sz := 2) (n := 0) (b := b) (cs := #[]) rfl (by simp only [maxLen]; omega)
    exact this
  refine r_appendZ (A := []) hO hRE (by (repeat' first | exact HSub.nil _ | exact HSub.hd | exact HSub.in0 | exact HSub.refl _ | refine HSub.skip ?_ | refine HSub.skipN ?_)) rfl (by first | trivial | exact ⟨rfl, rfl⟩) rfl rfl rfl rfl (by omega) (fun v6 N hO' => ?_)
  rw [Nat.zero_add, List.nil_append] at hO'
  obtain ⟨A6, c6, rfl⟩ := hO'.form
  (repeat' (first | refine JC.seq ?_ | refine JC.ops ?_ | refine JO.nil ?_ | refine JX.thenN ?_ | (apply r_assign; (iterate 3 exact rfl))))
  refine r_call0 (by first | trivial | exact ⟨rfl, rfl⟩) rfl rfl rfl (fun w _ _ => c_FromR w 1 (by omega) (by omega)) fun w v w' _ _ _ hR => ?_
  subst hR
  (repeat' (first | refine JC.seq ?_ | refine JC.ops ?_ | refine JO.nil ?_ | refine JX.thenN ?_ | (apply r_assign; (iterate 3 exact rfl)) | (apply r_storeN; exact rfl; (first | exact trivial | exact ⟨rfl, rfl⟩); exact rfl; exact rfl; exact at0; (iterate 3 exact rfl)) | (apply r_allocZ; (iterate 3 exact rfl); intro _) | (apply r_storeN; exact rfl; (first | exact trivial | exact ⟨rfl, rfl⟩); exact rfl; exact rfl; exact at0; (iterate 3 exact rfl)) | refine JC.block ?_))
  rename_i b7
  have hD0 : DetR n K (ZM.mk n n e).at 0 1 false e := ⟨⟨_, Bar.start n (ZM.mk n n e).at, by simp, fun i j => hx.at i j⟩, fun i j hi hj => bd_up (hx.at i j) (by have : K + 1 ≤ n * (K + 1) := Nat.le_mul_of_pos_left _ (by omega); omega)⟩
  generalize (ZM.mk n n e).at = A0 at hD0 ⊢
  refine JC.loopH (ι := Nat × Int × Bool × SHeap × List Int) ⟨fun z => [(9, nv z.1), (8, .bool z.2.2.1), (7, .pointer (some ⟨b7, 0, none⟩)), (6, .slice A6 (n * n) c6), (5, nv n), (2, .pointer (some ⟨b2, 0, none⟩))],
    fun z => [(b7, .cells (wc z.2.1) 41), (b2, .cells #[.bool false, .string ⟨#[]⟩] 41)] ++ (z.2.2.2.1 ++ []),
    fun z => z.1 ≤ n ∧ OwnZ z.2.2.2.1 (.slice A6 (n * n) c6) (n * n) z.2.2.2.2 ∧ DetR n K A0 z.1 z.2.1 z.2.2.1 z.2.2.2.2, fun z => n - z.1⟩ (0, 1, false, N, e) ⟨by omega, hO', hD0⟩ (by repeat first | exact trivial | refine ⟨rfl, ?_⟩) ⟨[(b1, .cells #[nv n, nv n, E] 29)], by
      dsimp only
      simp only [List.cons_append, List.nil_append, List.append_nil]
      exact List.Perm.cons _ List.perm_middle⟩ (fun z hz => ?_)
  clear hO hO' hD0
  obtain ⟨k, last, tn, N, es⟩ := z
  obtain ⟨hkn, hO, hD⟩ := hz
  dsimp only at hkn hO hD ⊢
  have hel := hO.len
  by_cases hlt : k < n
  · have q0 : k * n ≤ 40000 := Nat.le_trans (Nat.mul_le_mul_right n hkn) hle
    (repeat' (first | refine JC.seq ?_ | refine JC.ops ?_ | refine JO.nil ?_ | refine JX.thenN ?_ | (apply r_move; (iterate 3 exact rfl)) | (apply r_lss; (iterate 4 exact rfl); all_goals intro hc; all_goals try (exfalso; omega)) | refine JC.skip ?_ | refine JC.condT rfl ?_))
    refine JC.block ?_
    (repeat' (first | refine JC.seq ?_ | refine JC.ops ?_ | refine JO.nil ?_ | refine JX.thenN ?_ | (apply r_move; (iterate 3 exact rfl)) | (apply r_assign; (iterate 3 exact rfl))))
    refine JC.later (ι := { p : Nat // k ≤ p ∧ p < n ∧ enz n es p k ≠ 0 }) (fun p => [(10, nv p.1), (9, nv k), (8, .bool tn), (7, .pointer (some ⟨b7, 0, none⟩)), (6, .slice A6 (n * n) c6), (5, nv n), (2, .pointer (some ⟨b2, 0, none⟩))]) (fun _ => [(b7, .cells (wc last) 41), (b2, .cells #[.bool false, .string ⟨#[]⟩] 41)] ++ (N ++ [])) (fun _ => True) (fun p _ => ?_) (fun rest => ?_)
    · obtain ⟨p, hkp, hpn, hpz⟩ := p
      dsimp only
      have q1 : p * n ≤ 40000 := Nat.le_trans (Nat.mul_le_mul_right n (by omega)) hle
      refine JX.thenN ?_
      (repeat' (first | refine JC.seq ?_ | refine JC.ops ?_ | refine JO.nil ?_ | refine JX.thenN ?_ | (apply r_move; (iterate 3 exact rfl)) | (apply r_assign; (iterate 3 exact rfl)) | (apply r_eql; (iterate 4 exact rfl); all_goals intro hc; all_goals try (exfalso; omega)) | refine JC.skip ?_ | refine JC.condF rfl ?_))
      all_goals first
        | (exfalso; omega)
        | skip
      refine JC.later (ι := { z : SHeap × List Int // OwnZ z.1 (.slice A6 (n * n) c6) (n * n) z.2 ∧ ∀ i j, i < n → j < n → enz n z.2 i j = swR (enz n es) k p n i j }) (fun _ => [(10, nv p), (9, nv k), (8, .bool tn), (7, .pointer (some ⟨b7, 0, none⟩)), (6, .slice A6 (n * n) c6), (5, nv n), (2, .pointer (some ⟨b2, 0, none⟩))]) (fun z => [(b7, .cells (wc last) 41), (b2, .cells #[.bool false, .string ⟨#[]⟩] 41)] ++ (z.1.1 ++ [])) (fun _ => True) (fun z _ => ?_) (fun rest2 => ?_)
      · obtain ⟨⟨N2, es2⟩, hO2, hM2⟩ := z
        dsimp only at hO2 hM2 ⊢
        clear hO
        have hD2 := hD.swap hkp hpn hM2
        have hpz2 : enz n es2 k k ≠ 0 := by
          rw [hM2 k k hlt hlt]
          unfold swR
          by_cases h : p = k
          · subst h; rw [if_neg (by omega)]; exact hpz
          · rw [if_pos ⟨h, hlt⟩, if_neg (fun e => h e.symm), if_pos rfl]; exact hpz
        clear hM2 hpz hD
        have hel2 := hO2.len
        obtain ⟨A, hbar, hdet, hA⟩ := hD2.ex
        refine JX.thenN ?_
        (repeat' (first | refine JC.seq ?_ | refine JC.ops ?_ | (apply r_move; (iterate 3 exact rfl))))
        refine r_neqD rfl rfl rfl rfl ?_
        (repeat' (first | refine JC.seq ?_ | refine JC.ops ?_ | refine JO.nil ?_ | refine JX.thenN ?_ | (apply r_move; (iterate 3 exact rfl)) | (apply r_assign; (iterate 3 exact rfl)) | (apply r_add1; (iterate 4 exact rfl); omega) | (apply r_neB; (iterate 4 exact rfl)) | refine JC.block ?_))
        have htn : (tn != decide ((p : Int) ≠ (k : Int))) = (tn != !decide (p = k)) := by
          congr 1
          rw [← decide_not, decide_eq_decide]
          omega
        rw [htn]
        generalize (tn != !decide (p = k)) = tn2 at hdet hD2 ⊢
        refine JC.loopH (ι := Nat × SHeap × List Int) ⟨fun z => [(13, nv z.1), (9, nv k), (8, .bool tn2), (7, .pointer (some ⟨b7, 0, none⟩)), (6, .slice A6 (n * n) c6), (5, nv n), (2, .pointer (some ⟨b2, 0, none⟩))], fun z => [(b7, .cells (wc last) 41), (b2, .cells #[.bool false, .string ⟨#[]⟩] 41)] ++ (z.2.1 ++ []),
          fun z => k + 1 ≤ z.1 ∧ z.1 ≤ n ∧ OwnZ z.2.1 (.slice A6 (n * n) c6) (n * n) z.2.2 ∧ ∀ i j, i < n → j < n → enz n z.2.2 i j = elS (enz n es2) k last z.1 0 i j, fun z => n - z.1⟩ (k + 1, N2, es2) ⟨by dsimp only; omega, by dsimp only; omega, hO2, fun i j _ _ => (elS_start _ _ _ _ (by omega) _ _).symm⟩ (by repeat first | exact trivial | refine ⟨rfl, ?_⟩) (HSub.refl _) (fun z hz => ?_)
        clear hO2
        obtain ⟨i, N3, es3⟩ := z
        obtain ⟨hki, hin, hO3, hM3⟩ := hz
        dsimp only at hki hin hO3 hM3 ⊢
        by_cases hi : i < n
        · have q2 : i * n ≤ 40000 := Nat.le_trans (Nat.mul_le_mul_right n (by omega)) hle
          (repeat' (first | refine JC.seq ?_ | refine JC.ops ?_ | refine JO.nil ?_ | refine JX.thenN ?_ | (apply r_move; (iterate 3 exact rfl)) | (apply r_assign; (iterate 3 exact rfl)) | (apply r_add1; (iterate 4 exact rfl); omega) | (apply r_lss; (iterate 4 exact rfl); all_goals intro hc; all_goals try (exfalso; omega)) | refine JC.skip ?_ | refine JC.condT rfl ?_ | refine JC.block ?_))
          refine JC.loopH (ι := Nat × SHeap × List Int) ⟨fun z => [(14, nv z.1), (13, nv i), (9, nv k), (8, .bool tn2), (7, .pointer (some ⟨b7, 0, none⟩)), (6, .slice A6 (n * n) c6), (5, nv n), (2, .pointer (some ⟨b2, 0, none⟩))], fun z => [(b7, .cells (wc last) 41), (b2, .cells #[.bool false, .string ⟨#[]⟩] 41)] ++ (z.2.1 ++ []),
            fun z => k + 1 ≤ z.1 ∧ z.1 ≤ n ∧ OwnZ z.2.1 (.slice A6 (n * n) c6) (n * n) z.2.2 ∧ ∀ a b, a < n → b < n → enz n z.2.2 a b = elS (enz n es2) k last i z.1 a b, fun z => n - z.1⟩ (k + 1, N3, es3) ⟨by dsimp only; omega, by dsimp only; omega, hO3, fun a b ha hb => by rw [hM3 a b ha hb, elS_zero]⟩ (by repeat first | exact trivial | refine ⟨rfl, ?_⟩) (HSub.refl _) (fun z hz => ?_)
          clear hO3
          obtain ⟨j, N4, es4⟩ := z
          obtain ⟨hkj, hjn, hO4, hM4⟩ := hz
          dsimp only at hkj hjn hO4 hM4 ⊢
          have hel4 := hO4.len
          by_cases hj : j < n
          · have x1 := zx_lt hlt hlt
            have x2 := zx_lt hi hj
            have x3 := zx_lt hi hlt
            have x4 := zx_lt hlt hj
            have e0 : es4.getD (k * n + k) 0 = enz n es2 k k := (hM4 k k hlt hlt).trans (by unfold elS; rw [if_neg (by omega)])
            have e1 : es4.getD (i * n + j) 0 = enz n es2 i j := (hM4 i j hi hj).trans (by unfold elS; rw [if_neg (by omega)])
            have e2 : es4.getD (i * n + k) 0 = enz n es2 i k := (hM4 i k hi hlt).trans (by unfold elS; rw [if_neg (by omega)])
            have e3 : es4.getD (k * n + j) 0 = enz n es2 k j := (hM4 k j hlt hj).trans (by unfold elS; rw [if_neg (by omega)])
            have d0 := hD2.bd k k hlt hlt
            have d1 := hD2.bd i j hi hj
            have d2 := hD2.bd i k hi hlt
            have d3 := hD2.bd k j hlt hj
            rw [← e0] at d0
            rw [← e1] at d1
            rw [← e2] at d2
            rw [← e3] at d3
            (repeat' (first | refine JC.seq ?_ | refine JC.ops ?_ | refine JC.opsD ?_ | refine JO.nil ?_ | refine JX.thenN ?_ | (apply r_move; (iterate 3 exact rfl)) | (apply r_idxZ; (iterate 4 exact rfl); (first | assumption | exact WZ.rd (by assumption) rfl [] | exact OwnZ.rd (by assumption)); (first | assumption | omega)) | (apply r_ldZ; (iterate 4 exact rfl); (first | assumption | exact WZ.rd (by assumption) rfl [] | exact OwnZ.rd (by assumption)); (repeat' first | exact HSub.nil _ | exact HSub.hd | exact HSub.in0 | exact HSub.refl _ | refine HSub.skip ?_ | refine HSub.skipN ?_); (first | assumption | omega)) | (apply r_addN; (iterate 4 exact rfl); omega) | (apply r_mulN; (iterate 4 exact rfl); (first | assumption | omega)) | (apply r_lss; (iterate 4 exact rfl); all_goals intro hc; all_goals try (exfalso; omega)) | refine JC.skip ?_ | refine JC.condT rfl ?_ | refine JC.block ?_))
            refine r_call0 (by first | trivial | exact ⟨rfl, rfl⟩) rfl rfl rfl (fun w _ _ => c_MulR w _ _ (es4.getD (k * n + k) 0) (es4.getD (i * n + j) 0) (n * (K + 1) + 1) (IsZ.can d0) (IsZ.can d1) (by omega)) fun w v w' _ _ _ hR => ?_
            subst hR
            (repeat' (first | refine JC.seq ?_ | refine JC.opsD ?_ | refine JO.nil ?_ | refine JX.thenN ?_ | (apply r_move; (iterate 3 exact rfl)) | (apply r_idxZ; (iterate 4 exact rfl); (first | assumption | exact WZ.rd (by assumption) rfl [] | exact OwnZ.rd (by assumption)); (first | assumption | omega)) | (apply r_ldZ; (iterate 4 exact rfl); (first | assumption | exact WZ.rd (by assumption) rfl [] | exact OwnZ.rd (by assumption)); (repeat' first | exact HSub.nil _ | exact HSub.hd | exact HSub.in0 | exact HSub.refl _ | refine HSub.skip ?_ | refine HSub.skipN ?_); (first | assumption | omega)) | (apply r_addN; (iterate 4 exact rfl); omega) | (apply r_mulN; (iterate 4 exact rfl); (first | assumption | omega)) | (apply r_storeN; exact rfl; (first | exact trivial | exact ⟨rfl, rfl⟩); exact rfl; exact rfl; exact at0; (iterate 3 exact rfl)) | (apply r_allocZ; (iterate 3 exact rfl); intro _) | (apply r_storeN; exact rfl; (first | exact trivial | exact ⟨rfl, rfl⟩); exact rfl; exact rfl; exact at0; (iterate 3 exact rfl))))
            refine r_call0 (by first | trivial | exact ⟨rfl, rfl⟩) rfl rfl rfl (fun w _ _ => c_MulR w _ _ (es4.getD (i * n + k) 0) (es4.getD (k * n + j) 0) (n * (K + 1) + 1) (IsZ.can d2) (IsZ.can d3) (by omega)) fun w v w' _ _ _ hR => ?_
            subst hR
            (repeat' (first | refine JC.seq ?_ | refine JC.opsD ?_ | refine JO.nil ?_ | refine JX.thenN ?_ | (apply r_loadN; (iterate 4 exact rfl); (first | exact at0 | exact at1 | exact at2); exact rfl) | (apply r_storeN; exact rfl; (first | exact trivial | exact ⟨rfl, rfl⟩); exact rfl; exact rfl; (first | exact at0 | exact at1 | exact at2); (iterate 3 exact rfl)) | (apply r_allocZ; (iterate 3 exact rfl); intro _) | (apply r_storeN; exact rfl; (first | exact trivial | exact ⟨rfl, rfl⟩); exact rfl; exact rfl; (first | exact at0 | exact at1 | exact at2); (iterate 3 exact rfl))))
            refine r_call0 (by first | trivial | exact ⟨rfl, rfl⟩) rfl rfl rfl (fun w _ _ => c_SubR w _ _ (es4.getD (k * n + k) 0 * es4.getD (i * n + j) 0) (es4.getD (i * n + k) 0 * es4.getD (k * n + j) 0) _ (IsZ.can (mul_bd d0 d1)) (IsZ.can (mul_bd d2 d3)) (by omega)) fun w v w' _ _ _ hR => ?_
            subst hR
            skip
            refine r_call0 (by first | trivial | exact ⟨rfl, rfl⟩) rfl rfl rfl (fun w _ _ => c_QuoR w _ _ (es4.getD (k * n + k) 0 * es4.getD (i * n + j) 0 - es4.getD (i * n + k) 0 * es4.getD (k * n + j) 0) last (n * (K + 1) + 1 + (n * (K + 1) + 1) + 1) (IsZ.can (sub_bd (mul_bd d0 d1) (mul_bd d2 d3))) (IsZ.can (bd_up (hbar.lastLt (by omega) hbr hA) (by omega))) (by omega)) fun w v w' _ _ _ hR => ?_
            rw [if_neg hbar.ne] at hR
            subst hR
            (repeat' (first | refine JC.ops ?_ | refine JO.nil ?_ | refine JX.thenN ?_ | (apply r_move; (iterate 3 exact rfl)) | (apply r_assign; (iterate 3 exact rfl)) | (apply r_loadN; (iterate 4 exact rfl); (first | exact at0 | exact at1); exact rfl) | (apply r_idxZ; (iterate 4 exact rfl); (first | assumption | exact WZ.rd (by assumption) rfl [] | exact OwnZ.rd (by assumption)); (first | assumption | omega)) | (apply r_addN; (iterate 4 exact rfl); omega) | (apply r_mulN; (iterate 4 exact rfl); (first | assumption | omega)) | (apply r_extract; (iterate 4 exact rfl)) | (apply r_storeN; exact rfl; (first | exact trivial | exact ⟨rfl, rfl⟩); exact rfl; exact rfl; (first | exact at0 | exact at1); (iterate 3 exact rfl)) | (apply r_allocZ; (iterate 3 exact rfl); intro _) | (apply r_storeN; exact rfl; (first | exact trivial | exact ⟨rfl, rfl⟩); exact rfl; exact rfl; (first | exact at0 | exact at1); (iterate 3 exact rfl))))
            refine r_stZ (A := [_, _, _, _, _, _]) (u := (es4.getD (k * n + k) 0 * es4.getD (i * n + j) 0 - es4.getD (i * n + k) 0 * es4.getD (k * n + j) 0) / last) hO4 rfl rfl (by first | trivial | exact ⟨rfl, rfl⟩) rfl rfl x2 (fun N5 hO5 => ?_)
            (repeat' (first | refine JC.ops ?_ | refine JO.nil ?_ | refine JX.thenN ?_ | (apply r_move; (iterate 3 exact rfl)) | (apply r_assign; (iterate 3 exact rfl)) | (apply r_add1; (iterate 4 exact rfl); omega) | refine JX.blockN ?_))
            refine JX.roundH (j + 1, N5, _) ⟨by dsimp only; omega, by dsimp only; omega, hO5, fun a b ha hb => ?_⟩ (by dsimp only; omega) (by repeat first | exact trivial | refine ⟨rfl, ?_⟩) (HSub.skip (HSub.skip (HSub.skip (HSub.skip (HSub.refl _)))))
            dsimp only
            rw [enz_set hel4 hi hj hb, e0, e1, e2, e3, hM4 a b ha hb]
            exact elS_step _ _ _ _ _ (by omega) (by omega) _ _
          · (repeat' (first | refine JC.seq ?_ | refine JC.ops ?_ | refine JO.nil ?_ | refine JX.thenN ?_ | (apply r_move; (iterate 3 exact rfl)) | (apply r_assign; (iterate 3 exact rfl)) | (apply r_add1; (iterate 4 exact rfl); omega) | (apply r_lss; (iterate 4 exact rfl); all_goals intro hc; all_goals try (exfalso; omega)) | refine JX.thenE ?_ | refine JC.exit ?_ | refine JC.condF rfl ?_ | refine JX.blockN ?_ | refine JX.blockE ?_))
            obtain rfl : j = n := by omega
            refine JX.roundH (i + 1, N4, es4) ⟨by dsimp only; omega, by dsimp only; omega, hO4, fun a b ha hb => ?_⟩ (by dsimp only; omega) (by repeat first | exact trivial | refine ⟨rfl, ?_⟩) (HSub.refl _)
            dsimp only
            rw [hM4 a b ha hb, elS_row _ _ _ _ _ _ _ hb]
        · obtain rfl : i = n := by omega
          have x1 := zx_lt hlt hlt
          have e0 : es3.getD (k * i + k) 0 = enz i es2 k k := (hM3 k k hlt hlt).trans (by unfold elS; rw [if_neg (by omega)])
          have hst := hbar.step (M' := enz i es3) hlt hpz2 (fun a b ha hin hb hjn => by
            rw [hM3 a b hin hjn]
            unfold elS
            rw [if_pos ⟨hb, ha, .inl (by omega)⟩])
          rw [← e0] at hst
          (repeat' (first | refine JC.seq ?_ | refine JC.ops ?_ | refine JO.nil ?_ | refine JX.thenN ?_ | (apply r_move; (iterate 3 exact rfl)) | (apply r_assign; (iterate 3 exact rfl)) | (apply r_idxZ; (iterate 4 exact rfl); (first | assumption | exact WZ.rd (by assumption) rfl [] | exact OwnZ.rd (by assumption)); (first | assumption | omega)) | (apply r_ldZ; (iterate 4 exact rfl); (first | assumption | exact WZ.rd (by assumption) rfl [] | exact OwnZ.rd (by assumption)); (repeat' first | exact HSub.nil _ | exact HSub.hd | exact HSub.in0 | exact HSub.refl _ | refine HSub.skip ?_ | refine HSub.skipN ?_); (first | assumption | omega)) | (apply r_add1; (iterate 4 exact rfl); omega) | (apply r_addN; (iterate 4 exact rfl); omega) | (apply r_mulN; (iterate 4 exact rfl); (first | assumption | omega)) | (apply r_storeN; exact rfl; (first | exact trivial | exact ⟨rfl, rfl⟩); exact rfl; exact rfl; exact at0; (iterate 3 exact rfl)) | (apply r_lss; (iterate 4 exact rfl); all_goals intro hc; all_goals try (exfalso; omega)) | (apply r_storeN; exact rfl; (first | exact trivial | exact ⟨rfl, rfl⟩); exact rfl; exact rfl; exact at0; (iterate 3 exact rfl)) | refine JX.thenE ?_ | refine JC.exit ?_ | refine JC.condF rfl ?_ | refine JX.blockN ?_ | refine JX.blockE ?_))
          refine JX.roundH (k + 1, es3.getD (k * i + k) 0, tn2, N3, es3) ⟨by dsimp only; omega, hO3, ⟨A, hst, hdet, hA⟩, fun a b ha hb => ?_⟩ (by dsimp only; omega) (by repeat first | exact trivial | refine ⟨rfl, ?_⟩) (HSub.refl _)
          dsimp only
          by_cases hc : k < b ∧ k < a
          · exact hst.lt hbr hA (by omega) ha (by omega) hb
          · rw [hM3 a b ha hb]
            unfold elS
            rw [if_neg (by omega)]
            exact hD2.bd a b ha hb
      · refine JC.block ?_
        refine JC.loopH (ι := Nat × SHeap × List Int) ⟨fun z => [(11, nv z.1), (10, nv p), (9, nv k), (8, .bool tn), (7, .pointer (some ⟨b7, 0, none⟩)), (6, .slice A6 (n * n) c6), (5, nv n), (2, .pointer (some ⟨b2, 0, none⟩))], fun z => [(b7, .cells (wc last) 41), (b2, .cells #[.bool false, .string ⟨#[]⟩] 41)] ++ (z.2.1 ++ []),
          fun z => z.1 ≤ n ∧ OwnZ z.2.1 (.slice A6 (n * n) c6) (n * n) z.2.2 ∧ ∀ i j, i < n → j < n → enz n z.2.2 i j = swR (enz n es) k p z.1 i j, fun z => n - z.1⟩ (0, N, es) ⟨by dsimp only; omega, hO, fun i j _ _ => (swR_zero _ _ _ _ _).symm⟩ (by repeat first | exact trivial | refine ⟨rfl, ?_⟩) (HSub.refl _) (fun z hz => ?_)
        clear hO
        obtain ⟨j, N, es2⟩ := z
        obtain ⟨hj, hO, hM⟩ := hz
        dsimp only at hj hO hM ⊢
        have hel2 := hO.len
        by_cases hjp : j < n ∧ p ≠ k
        · obtain ⟨hjn, hpk⟩ := hjp
          have x1 := zx_lt hpn hjn
          have x2 := zx_lt hlt hjn
          (repeat' (first | refine JC.seq ?_ | refine JC.ops ?_ | refine JO.nil ?_ | refine JX.thenN ?_ | (apply r_move; (iterate 3 exact rfl)) | (apply r_idxZ; (iterate 4 exact rfl); (first | assumption | exact WZ.rd (by assumption) rfl [] | exact OwnZ.rd (by assumption)); (first | assumption | omega)) | (apply r_ldZ; (iterate 4 exact rfl); (first | assumption | exact WZ.rd (by assumption) rfl [] | exact OwnZ.rd (by assumption)); (repeat' first | exact HSub.nil _ | exact HSub.hd | exact HSub.in0 | exact HSub.refl _ | refine HSub.skip ?_ | refine HSub.skipN ?_); (first | assumption | omega)) | (apply r_addN; (iterate 4 exact rfl); omega) | (apply r_mulN; (iterate 4 exact rfl); (first | assumption | omega)) | (apply r_pickT; (iterate 4 exact rfl)) | (apply r_storeN; exact rfl; (first | exact trivial | exact ⟨rfl, rfl⟩); exact rfl; exact rfl; exact at0; (iterate 3 exact rfl)) | (apply r_lss; (iterate 4 exact rfl); all_goals intro hc; all_goals try (exfalso; omega)) | (apply r_neq; (iterate 4 exact rfl); all_goals intro hc; all_goals try (exfalso; omega)) | (apply r_allocZ; (iterate 3 exact rfl); intro _) | (apply r_storeN; exact rfl; (first | exact trivial | exact ⟨rfl, rfl⟩); exact rfl; exact rfl; exact at0; (iterate 3 exact rfl)) | refine JC.skip ?_ | refine JC.condT rfl ?_ | refine JC.block ?_))
          rename_i b12
          have g1 : es2.getD (k * n + j) 0 = enz n es k j := (hM k j hlt hjn).trans (by unfold swR; rw [if_neg (by omega)])
          have g2 : es2.getD (p * n + j) 0 = enz n es p j := (hM p j hpn hjn).trans (by unfold swR; rw [if_neg (by omega)])
          refine r_stZ (A := [_, _, _]) (u := es2.getD (k * n + j) 0) hO rfl rfl (by first | trivial | exact ⟨rfl, rfl⟩) rfl rfl x1 (fun N1 hO1 => ?_)
          (repeat' (first | refine JC.ops ?_ | refine JO.nil ?_ | refine JX.thenN ?_ | (apply r_move; (iterate 3 exact rfl)) | (apply r_loadN; (iterate 4 exact rfl); exact at0; exact rfl) | (apply r_idxZ; (iterate 4 exact rfl); (first | assumption | exact WZ.rd (by assumption) rfl [] | exact OwnZ.rd (by assumption)); (first | assumption | omega)) | (apply r_addN; (iterate 4 exact rfl); omega) | (apply r_mulN; (iterate 4 exact rfl); (first | assumption | omega))))
          refine r_stZ (A := [_, _, _]) (u := es2.getD (p * n + j) 0) hO1 rfl rfl (by first | trivial | exact ⟨rfl, rfl⟩) rfl rfl x2 (fun N2 hO2 => ?_)
          (repeat' (first | refine JC.ops ?_ | refine JO.nil ?_ | refine JX.thenN ?_ | (apply r_move; (iterate 3 exact rfl)) | (apply r_assign; (iterate 3 exact rfl)) | (apply r_add1; (iterate 4 exact rfl); omega) | refine JX.blockN ?_))
          refine JX.roundH (j + 1, N2, _) ⟨by dsimp only; omega, hO2, fun a b ha hb => ?_⟩ (by dsimp only; omega) (by repeat first | exact trivial | refine ⟨rfl, ?_⟩) (HSub.skip (HSub.refl _))
          dsimp only
          rw [enz_set (by rw [List.length_set]; exact hel2) hlt hjn hb, enz_set hel2 hpn hjn hb, g1, g2, hM a b ha hb]
          exact swR_step hpk a b
        · have hexit : ∀ i' j', i' < n → j' < n → enz n es2 i' j' = swR (enz n es) k p n i' j' := fun i' j' h1 h2 => by
            rw [hM i' j' h1 h2]
            by_cases h : p = k
            · subst h; rw [swR_same, swR_same]
            · obtain rfl : j = n := by omega
              rfl
          (repeat' (first | refine JC.seq ?_ | refine JC.ops ?_ | refine JO.nil ?_ | (apply r_move; (iterate 3 exact rfl)) | (apply r_pickT; (iterate 4 exact rfl)) | (apply r_pickF; (iterate 4 exact rfl)) | (apply r_lss; (iterate 4 exact rfl); all_goals intro hc; all_goals try (exfalso; omega)) | (apply r_neq; (iterate 4 exact rfl); all_goals intro hc; all_goals try (exfalso; omega)) | (apply r_skip; exact rfl; exact rfl; (first | (intro h; cases h; done) | (intro _; rfl)))))
          all_goals refine JX.thenN ?_
          all_goals (repeat' (first | refine JX.thenE ?_ | refine JC.exit ?_ | refine JC.condF rfl ?_ | refine JX.blockE ?_))
          all_goals exact JX.part (by repeat first | exact trivial | refine ⟨rfl, ?_⟩) (HSub.refl _) (rest2 ⟨(N, es2), hO, hexit⟩ trivial)
    · refine JC.block ?_
      refine JC.loopH (ι := Nat) ⟨fun p => [(10, nv p), (9, nv k), (8, .bool tn), (7, .pointer (some ⟨b7, 0, none⟩)), (6, .slice A6 (n * n) c6), (5, nv n), (2, .pointer (some ⟨b2, 0, none⟩))], fun _ => [(b7, .cells (wc last) 41), (b2, .cells #[.bool false, .string ⟨#[]⟩] 41)] ++ (N ++ []), fun p => k ≤ p ∧ p ≤ n ∧ ∀ i, k ≤ i → i < p → enz n es i k = 0, fun p => n - p⟩ k ⟨by omega, by omega, fun i h1 h2 => by omega⟩ (by repeat first | exact trivial | refine ⟨rfl, ?_⟩) (HSub.refl _) (fun p hp => ?_)
      obtain ⟨hkp, hpn, hpz⟩ := hp
      dsimp only
      by_cases hpl : p < n
      · have hpk := zx_lt hpl hlt
        have q1 : p * n ≤ 40000 := Nat.le_trans (Nat.mul_le_mul_right n (by omega)) hle
        (repeat' (first | refine JC.seq ?_ | refine JC.ops ?_ | refine JO.nil ?_ | refine JX.thenN ?_ | (apply r_move; (iterate 3 exact rfl)) | (apply r_idxZ; (iterate 4 exact rfl); (first | assumption | exact WZ.rd (by assumption) rfl [] | exact OwnZ.rd (by assumption)); (first | assumption | omega)) | (apply r_ldXm; (iterate 4 exact rfl); (first | assumption | exact WX.rd (by assumption) rfl [] | exact OwnX.rd (by assumption)); (repeat' first | exact HSub.nil _ | exact HSub.hd | exact HSub.in0 | exact HSub.refl _ | refine HSub.skip ?_ | refine HSub.skipN ?_); (first | assumption | omega)) | (apply r_fieldX; (iterate 3 exact rfl); (first | assumption | exact WX.rd (by assumption) rfl [] | exact OwnX.rd (by assumption)); omega) | (apply r_addN; (iterate 4 exact rfl); omega) | (apply r_mulN; (iterate 4 exact rfl); (first | assumption | omega)) | (apply r_pickT; (iterate 4 exact rfl)) | (apply r_eqS; (iterate 4 exact rfl)) | (apply r_lss; (iterate 4 exact rfl); all_goals intro hc; all_goals try (exfalso; omega))))
        have hz59 : decide (((List.map wz es).getD (p * n + k) w0x).snd = []) = decide (enz n es p k = 0) := by rw [map_wz_getD]; exact decide_eq_decide.2 magU_zero
        by_cases hz : enz n es p k = 0
        · rw [hz59, decide_eq_true hz]
          (repeat' (first | refine JC.ops ?_ | refine JO.nil ?_ | refine JX.thenN ?_ | (apply r_move; (iterate 3 exact rfl)) | (apply r_assign; (iterate 3 exact rfl)) | (apply r_add1; (iterate 4 exact rfl); omega) | refine JC.skip ?_ | refine JC.condT rfl ?_ | refine JC.block ?_ | refine JX.blockN ?_))
          refine JX.roundH (p + 1) ⟨by omega, by omega, fun i h1 h2 => ?_⟩ (by dsimp only; omega) (by repeat first | exact trivial | refine ⟨rfl, ?_⟩) (HSub.refl _)
          rcases Nat.lt_or_ge i p with h | h
          · exact hpz i h1 h
          · obtain rfl : i = p := by omega
            exact hz
        · rw [hz59, decide_eq_false hz]
          (repeat' (first | refine JX.thenE ?_ | refine JC.exit ?_ | refine JC.condF rfl ?_ | refine JX.blockE ?_))
          exact JX.part (by repeat first | exact trivial | refine ⟨rfl, ?_⟩) (HSub.refl _) (rest ⟨p, hkp, hpl, hz⟩ trivial)
      · obtain rfl : p = n := by omega
        have h0 := hD.none hlt hpz
        (repeat' (first | refine JC.seq ?_ | refine JC.ops ?_ | refine JO.nil ?_ | refine JX.thenN ?_ | (apply r_move; (iterate 3 exact rfl)) | (apply r_assign; (iterate 3 exact rfl)) | (apply r_pickF; (iterate 4 exact rfl)) | (apply r_storeN; exact rfl; (first | exact trivial | exact ⟨rfl, rfl⟩); exact rfl; exact rfl; exact at1; (iterate 3 exact rfl)) | (apply r_lss; (iterate 4 exact rfl); all_goals intro hc; all_goals try (exfalso; omega)) | (apply r_eql; (iterate 4 exact rfl); all_goals intro hc; all_goals try (exfalso; omega)) | (apply r_buildL; (iterate 5 exact rfl)) | (apply r_storeN; exact rfl; (first | exact trivial | exact ⟨rfl, rfl⟩); exact rfl; exact rfl; exact at1; (iterate 3 exact rfl)) | refine JX.thenE ?_ | refine JX.thenR ?_ | refine JC.exit ?_ | refine JC.ret ?_ | refine JC.condT rfl ?_ | refine JC.condF rfl ?_ | refine JX.blockR ?_ | refine JX.blockE ?_ | (apply r_skip; exact rfl; exact rfl; (first | (intro h; cases h; done) | (intro _; rfl)))))
        refine JX.retCT 1 rfl rfl rfl rfl (fun a w' st => ⟨st.kp, ?_⟩)
        rw [h0, Wz0]
        rfl
  · obtain rfl : k = n := by omega
    obtain ⟨A, hbar, hdet, hA⟩ := hD.ex
    have hdone := hbar.done
    have hlast := hbar.lastLt (Nat.le_refl _) hbr hA
    (repeat' (first | refine JC.seq ?_ | refine JC.ops ?_ | refine JO.nil ?_ | refine JX.thenN ?_ | (apply r_move; (iterate 3 exact rfl)) | (apply r_lss; (iterate 4 exact rfl); all_goals intro hc; all_goals try (exfalso; omega)) | refine JX.thenE ?_ | refine JC.exit ?_ | refine JC.condF rfl ?_ | refine JX.blockE ?_))
    cases tn with
    | false =>
      (repeat' (first | refine JC.seq ?_ | refine JC.ops ?_ | refine JO.nil ?_ | refine JX.thenN ?_ | (apply r_assign; (iterate 3 exact rfl)) | (apply r_loadN; (iterate 4 exact rfl); (first | exact at0 | exact at1); exact rfl) | (apply r_storeN; exact rfl; (first | exact trivial | exact ⟨rfl, rfl⟩); exact rfl; exact rfl; (first | exact at0 | exact at1); (iterate 3 exact rfl)) | (apply r_storeN; exact rfl; (first | exact trivial | exact ⟨rfl, rfl⟩); exact rfl; exact rfl; (first | exact at0 | exact at1); (iterate 3 exact rfl)) | refine JC.skip ?_ | refine JC.ret ?_ | refine JC.condF rfl ?_))
      refine JX.retCT 1 rfl rfl rfl rfl (fun a w' st => ⟨st.kp, ?_⟩)
      have : det k A0 = last := by rw [hdone, hdet]; simp
      rw [this]
      rfl
    | true =>
      (repeat' (first | refine JC.ops ?_ | (apply r_loadN; (iterate 4 exact rfl); exact at0; exact rfl) | refine JC.condT rfl ?_))
      refine r_call0 (by first | trivial | exact ⟨rfl, rfl⟩) rfl rfl rfl (fun w _ _ => c_NegR w _ last _ (IsZ.can hlast) (by omega)) fun w v w' _ _ _ hR => ?_
      subst hR
      (repeat' (first | refine JC.seq ?_ | refine JC.ops ?_ | refine JO.nil ?_ | refine JX.thenN ?_ | (apply r_assign; (iterate 3 exact rfl)) | (apply r_loadN; (iterate 4 exact rfl); (first | exact at0 | exact at1); exact rfl) | (apply r_storeN; exact rfl; (first | exact trivial | exact ⟨rfl, rfl⟩); exact rfl; exact rfl; (first | exact at0 | exact at1); (iterate 3 exact rfl)) | (apply r_storeN; exact rfl; (first | exact trivial | exact ⟨rfl, rfl⟩); exact rfl; exact rfl; (first | exact at0 | exact at1); (iterate 3 exact rfl)) | refine JC.ret ?_))
      refine JX.retCT 1 rfl rfl rfl rfl (fun a w' st => ⟨st.kp, ?_⟩)
      have : det k A0 = -last := by rw [hdone, hdet]; simp
      rw [this]
      rfl


end Go.Proofs.YtdlmnloikakjpaaDoor

