import Derived.Test.YtdehklhdjbkneaaDoorMh
import Derived.Test.YtdehklhdjbkneaaDoorMe
import Derived.Test.YtdehklhdjbkneaaDoorMd
import Derived.Test.YtdehklhdjbkneaaDoorMc
import Derived.Test.YtdehklhdjbkneaaDoorMf
/- Decimal texts; Text of wide. -/
namespace Go.Proofs.YtdehklhdjbkneaaDoor
open Go Go.RowKit
set_option linter.unusedSimpArgs false
set_option linter.unusedVariables false
set_option linter.unusedSectionVars false

/-- The decimal digits of a number, as bytes. -/
def decF : Nat → Nat → List Nat
  | 0, _ => []
  | f + 1, x => if x = 0 then [] else decF f (x / 10) ++ [48 + x % 10]
def dec (x : Nat) : List Nat := decF x x
theorem decF_eq : ∀ f g x, x ≤ f → x ≤ g → decF f x = decF g x
  | 0, 0, _, _, _ => rfl
  | 0, g + 1, x, h, _ => by rw [decF, decF, if_pos (by omega)]
  | f + 1, 0, x, _, h => by rw [decF, decF, if_pos (by omega)]
  | f + 1, g + 1, x, h1, h2 => by
    rw [decF, decF]
    by_cases h : x = 0
    · rw [if_pos h, if_pos h]
    · rw [if_neg h, if_neg h, decF_eq f g (x / 10) (by omega) (by omega)]
theorem dec_step {x : Nat} (h : 0 < x) : dec x = dec (x / 10) ++ [48 + x % 10] := by
  unfold dec
  obtain ⟨y, rfl⟩ : ∃ y, x = y + 1 := ⟨x - 1, by omega⟩
  rw [decF, if_neg (by omega), decF_eq y ((y + 1) / 10) ((y + 1) / 10) (by omega) (Nat.le_refl _)]
theorem dec_zero : dec 0 = [] := rfl
/-- The text of a number. -/
def txt (a : Int) : List Nat := if a = 0 then [48] else (if a < 0 then [45] else []) ++ dec a.natAbs
/-- A text, by its bytes. -/
def tx (a : Int) : List UInt8 := (txt a).map UInt8.ofNat

theorem dec_lt : ∀ f x, ∀ c ∈ decF f x, 48 ≤ c ∧ c ≤ 57
  | 0, _, _, h => absurd h List.not_mem_nil
  | f + 1, x, c, h => by
    rw [decF] at h
    by_cases h0 : x = 0
    · rw [if_pos h0] at h; exact absurd h List.not_mem_nil
    · rw [if_neg h0] at h
      rcases List.mem_append.1 h with h1 | h1
      · exact dec_lt f _ c h1
      · rw [List.mem_singleton.1 h1]; omega
theorem txt_lt (a : Int) : ∀ c ∈ txt a, c < 256 := fun c h => by
  unfold txt at h
  by_cases h0 : a = 0
  · rw [if_pos h0] at h; rw [List.mem_singleton.1 h]; decide
  · rw [if_neg h0] at h
    rcases List.mem_append.1 h with h1 | h1
    · by_cases hn : a < 0
      · rw [if_pos hn] at h1; rw [List.mem_singleton.1 h1]; decide
      · rw [if_neg hn] at h1; exact absurd h1 List.not_mem_nil
    · have := dec_lt _ _ c h1; omega
theorem bts_tx (a : Int) : bts (tx a) = txt a := bts_of (txt_lt a)
theorem tx_of {l : List UInt8} {a : Int} (h : bts l = txt a) : l = tx a := bts_inj (h.trans (bts_tx a).symm)

/-- 'x[l:n:n]' of bytes, not empty. -/
theorem r_slice3Y {c : Cx} {Q : Exit → Act → World → Prop} {m : Mode} {F : SFrame} {H : SHeap} {r : List SOp} {g : Option (Option Tmp × Bool)} {ns : Bool} {d : Tmp} {ty t e : TypeId} {x lo hi mx : Operand} {N : SHeap} {b o n l cap : Nat} {xs : List Nat} [TSl c.P t e] [TSz c.P e 1] (hd : dstOk c.n (some d) = true) (hg : guardF F g = some true)
    (hx : ev F x = some (.slice (some ⟨b, o, none⟩) n cap)) (hv : RdY c N (.slice (some ⟨b, o, none⟩) n cap) n xs) (hlo : ev F lo = some (.int .i64 l)) (hhi : ev F hi = some (.int .i64 n)) (hmx : ev F mx = some (.int .i64 n)) (hln : l < n) (hnc : n ≤ cap)
    (h : ∀ v', RdY c N v' (n - l) (xs.drop l) → JO c Q m r ((d, v') :: F) H) : JO c Q m (⟨some d, .slice t x (some lo) (some hi) (some mx), ty, g, .mov, ns⟩ :: r) F H := by
  refine r_mov (v := .slice (some ⟨b, o + l, none⟩) (n - l) (n - l)) hd hg (fun a w fr => ?_) (h _ ?_)
  · have e1 : (0 : Int) ≤ l ∧ (l : Int) ≤ n := by omega
    have e2 : (0 : Int) ≤ n ∧ (n : Int) ≤ n := by omega
    have e3 : (0 : Int) ≤ n ∧ (n : Int) ≤ cap := by omega
    have e4 : ¬ n = l := by omega
    simp only [execOp, fr.ev hx, Option.map_some, fr.ev hlo, fr.ev hhi, fr.ev hmx, Instr.sliceAt, Sem.run_bind, run_underlying (TSl.und (P := c.P) (t := t)), Result.andThen_ok, Instr.slice, Instr.sliceBounds, Instr.sliceBound, asIntOf, Sem.run_pure, e1, e2, e3, and_self, if_true, Int.toNat_natCast, TSz.size (e := e) (n := 1), if_false, e4]
    simp [add_none]
  · obtain ⟨hlen, A', cap', h2, h3, h4⟩ := hv
    simp only [Value.slice.injEq, true_and] at h2
    obtain ⟨rfl, rfl⟩ := h2
    refine ⟨by rw [List.map_drop, List.length_drop, hlen]; omega, _, _, rfl, Nat.le_refl _, fun h0 => ⟨⟨_, _, rfl⟩, fun w hw j u hu => ?_⟩⟩
    rw [List.map_drop, List.getElem?_drop] at hu
    have := (h4 (by omega)).2 w hw (l + j) u hu
    simpa [vAt, Addr.add, Nat.add_assoc] using this

end Go.Proofs.YtdehklhdjbkneaaDoor

/- Text of wide. -/
namespace Go.Proofs.YtdehklhdjbkneaaDoor
open Go Go.RowKit
set_option linter.unusedSimpArgs false
set_option linter.unusedVariables false
set_option linter.unusedSectionVars false

theorem drop_set_self {l : List Nat} {i u : Nat} (h : i < l.length) : (l.set i u).drop i = u :: l.drop (i + 1) := by
  rw [List.drop_eq_getElem_cons (show i < (l.set i u).length by simpa using h), List.getElem_set_self, drop_set]
theorem txt_sgn {p : Bool} {V : Nat} (h : V ≠ 0) : txt (sgn p V) = (if p = true then [45] else []) ++ dec V := by
  unfold txt
  rw [if_neg (fun e => h ((sgn_eq_zero _ _).1 e)), sgn_natAbs]
  cases p
  · rw [if_neg (show ¬ sgn false V < 0 by simp [sgn])]; rfl
  · rw [if_pos (show sgn true V < 0 by simp [sgn]; omega)]; rfl
theorem ten_pow (L : Nat) : W32 ^ L ≤ 10 ^ (10 * L) := by
  rw [Nat.pow_mul]
  exact Nat.pow_le_pow_left (by decide) L

set_option maxHeartbeats 8000000 in
theorem c_Text (w : World) (p : Bool) (l : List UInt8) (hl : l.length ≤ 10000) :
    Calls Tryd.prog 36 #[wv p l] w (Ret fun v w' => Kp [] w w' ∧ v = sv (tx (sgn p (bval (bts l))))) := by
  refine calls_of_S [⟨14, 0, [], [(7, .seq)]⟩] [] (by simp) [] Tryd.func36 rfl mixed (by kernel_rfl) Tryd.ntmps36 Tryd.results36 rfl ⟨by simp, by simp⟩ (by simp) ?_
  simp only [toS, textOps, toSOp, kindAt, kindOf, odAt, sopsAt, ordOf, zipF]
  (repeat' (first | refine JC.seq ?_ | refine JC.ops ?_ | refine JO.nil ?_ | refine JX.thenN ?_ | (apply r_assign; exact rfl; exact rfl; exact rfl) | (apply r_loadN; exact rfl; exact rfl; exact rfl; exact rfl; (first | exact at0 | exact at1 | exact at2 | exact at3 | exact at4 | exact at5 | exact at6 | exact at7 | exact at8 | exact at9); exact rfl) | (apply r_boxA; exact rfl; exact rfl; exact rfl; exact rfl; intro _)))
  rename_i b1
  refine r_callA (A := [_]) rfl trivial rfl rfl rfl (fun w hk hs => c_abs w p l (by omega)) fun w v w' _ _ _ hR => ?_
  obtain ⟨N1, zs0, hN1, hO1, hz1, hval1⟩ := hR
  refine ⟨N1, hN1, ?_⟩
  have hzl1 := words_le hz1 hval1 (Nat.le_refl _)
  have he := hz1.eq_nil (by decide)
  rw [hval1] at he
  by_cases h0 : zs0.length = 0
  · have h1 := he.1 (List.eq_nil_of_length_eq_zero h0)
    rw [h1, sgn_zero]
    (repeat' (first | refine JC.seq ?_ | refine JC.ops ?_ | refine JO.nil ?_ | refine JX.thenN ?_ | (apply r_move; exact rfl; exact rfl; exact rfl) | (apply r_assign; exact rfl; exact rfl; exact rfl) | (apply r_lenU; exact rfl; exact rfl; exact rfl; (first | assumption | exact WU.rd (by assumption) rfl [] | exact OwnU.rd (by assumption))) | (apply r_eql; exact rfl; exact rfl; exact rfl; exact rfl; all_goals intro hc; all_goals try (exfalso; omega)) | refine JX.thenR ?_ | refine JC.ret ?_ | refine JC.condT rfl ?_))
    exact JX.ret1 rfl (fun a w' st => ⟨st.kp, rfl⟩)
  have hV0 : bval (bts l) ≠ 0 := fun h => h0 (by rw [he.2 h]; rfl)
  (repeat' (first | refine JC.seq ?_ | refine JC.ops ?_ | refine JO.nil ?_ | refine JX.thenN ?_ | (apply r_move; exact rfl; exact rfl; exact rfl) | (apply r_assign; exact rfl; exact rfl; exact rfl) | (apply r_mulN (i := 10); exact rfl; exact rfl; exact rfl; exact rfl; (first | assumption | omega)) | (apply r_add; exact rfl; exact rfl; exact rfl; exact rfl; omega) | (apply r_lenU; exact rfl; exact rfl; exact rfl; (first | assumption | exact WU.rd (by assumption) rfl [] | exact OwnU.rd (by assumption))) | (apply r_eql; exact rfl; exact rfl; exact rfl; exact rfl; all_goals intro hc; all_goals try (exfalso; omega)) | refine JC.skip ?_ | refine JC.condF rfl ?_))
  refine r_make (n := 1 + 10 * zs0.length) rfl rfl rfl rfl rfl (by omega) (by omega) (fun b5 => ?_)
  have hOb0 := own_zerosY b5 (1 + 10 * zs0.length) (by simp only [maxLen]; omega)
  have hMb : 1 + 10 * zs0.length ≤ 100001 := by omega
  have hV10 : val W32 zs0 < 10 ^ (1 + 10 * zs0.length - 1) := by
    rw [Nat.add_sub_cancel_left]
    exact Nat.lt_of_lt_of_le (val_lt hz1.lt) (ten_pow _)
  generalize 1 + 10 * zs0.length = M at hOb0 hMb hV10 ⊢
  have hM1 : 1 ≤ M := by
    refine Decidable.byContradiction fun h => ?_
    obtain rfl : M = 0 := by omega
    simp at hV10
    omega
  rw [← hval1] at hV0 ⊢
  generalize hV : val W32 zs0 = V at hV0 hV10 ⊢
  have hds : dec V ++ (tab M fun _ => 0).drop M = dec V := by rw [List.drop_eq_nil_of_le (by simp), List.append_nil]
  (repeat' (first | refine JC.seq ?_ | refine JC.ops ?_ | refine JO.nil ?_ | refine JX.thenN ?_ | (apply r_move; exact rfl; exact rfl; exact rfl) | (apply r_assign; exact rfl; exact rfl; exact rfl) | (apply r_len; exact rfl; exact rfl; exact rfl) | refine JC.block ?_))
  refine JC.loopH (ι := Nat × Value × SHeap × List Nat × SHeap × List Nat) ⟨fun z => [(5, nv z.1), (4, .slice (some ⟨b5, 0, none⟩) M M), (3, z.2.1), (1, .pointer (some ⟨b1, 0, none⟩))], fun z => (b1, .cells #[.bool p, sv l] 27) :: (z.2.2.2.2.1 ++ (z.2.2.1 ++ [])),
    fun z => z.1 ≤ M ∧ 1 ≤ z.1 ∧ OwnU z.2.2.1 z.2.1 z.2.2.2.1.length z.2.2.2.1 ∧ Dig W32 z.2.2.2.1 ∧ z.2.2.2.1.length ≤ 10000 ∧ OwnY z.2.2.2.2.1 (.slice (some ⟨b5, 0, none⟩) M M) M z.2.2.2.2.2 ∧ (∀ x ∈ z.2.2.2.2.2, x < 256) ∧ val W32 z.2.2.2.1 < 10 ^ (z.1 - 1) ∧ dec (val W32 z.2.2.2.1) ++ z.2.2.2.2.2.drop z.1 = dec V, fun z => val W32 z.2.2.2.1⟩
    (M, _, N1, zs0, _, _) ⟨Nat.le_refl _, hM1, hO1, hz1, by dsimp only; omega, hOb0, fun x hx => by obtain ⟨a, _, rfl⟩ := List.mem_map.1 hx; decide, by dsimp only; rw [hV]; exact hV10, by dsimp only; rw [hV]; exact hds⟩ (by repeat first | exact trivial | refine ⟨rfl, ?_⟩) (by exact HSub.at 1 rfl (HSub.at 0 rfl (HSub.refl _))) (fun z hz => ?_)
  clear hOb0 hO1 hz1 hds hV10
  obtain ⟨at', vz, Nz, zs, Nb, bs⟩ := z
  obtain ⟨hat, hat1, hOz, hz, hzl, hOb, hbs, hpw, hdec⟩ := hz
  dsimp only at hat hat1 hOz hz hzl hOb hbs hpw hdec ⊢
  have hlb := hOb.len
  have hez := hz.eq_nil (by decide)
  by_cases hgo : 0 < zs.length
  · have hvp : 0 < val W32 zs := Nat.pos_of_ne_zero fun h => by rw [hez.2 h] at hgo; exact absurd hgo (by simp)
    have hat2 : 2 ≤ at' := by
      refine Decidable.byContradiction fun h => ?_
      obtain rfl : at' = 1 := by omega
      simp at hpw
      omega
    have hst := dec_step hvp
    (repeat' (first | refine JC.seq ?_ | refine JC.ops ?_ | refine JO.nil ?_ | refine JX.thenN ?_ | (apply r_move; exact rfl; exact rfl; exact rfl) | (apply r_assign; exact rfl; exact rfl; exact rfl) | (apply r_lenU; exact rfl; exact rfl; exact rfl; (first | assumption | exact WU.rd (by assumption) rfl [] | exact OwnU.rd (by assumption))) | (apply r_gtr; exact rfl; exact rfl; exact rfl; exact rfl; all_goals intro hc; all_goals try (exfalso; omega)) | refine JC.skip ?_ | refine JC.condT rfl ?_ | refine JC.block ?_))
    refine r_callA (A := [_]) rfl trivial rfl rfl rfl (fun w hk hs => c_small w _ _ 10 zs (hOz.rd.at hk hs (by (repeat' first | exact HSub.nil _ | exact HSub.hd | exact HSub.in0 | exact HSub.refl _ | refine HSub.skip ?_ | refine HSub.skipN ?_))) hz.lt (by decide) (by decide) (by omega)) fun w v w' _ _ _ hR => ?_
    obtain ⟨v1, N3, zs3, rfl, hN3, hO3, hz3, hval3⟩ := hR
    refine ⟨N3, hN3, ?_⟩
    have hr10 : val W32 zs % 10 < 10 := Nat.mod_lt _ (by decide)
    generalize hr : val W32 zs % 10 = rr at hr10 hst ⊢
    (repeat' (first | refine JC.seq ?_ | refine JC.ops ?_ | refine JO.nil ?_ | refine JX.thenN ?_ | (apply r_move; exact rfl; exact rfl; exact rfl) | (apply r_assign; exact rfl; exact rfl; exact rfl) | (apply r_sub1; exact rfl; exact rfl; exact rfl; exact rfl; omega) | (apply r_extract; exact rfl; exact rfl; exact rfl; exact rfl)))
    refine r_addU (i := 48) (j := rr) rfl rfl rfl rfl (by omega) ?_
    (repeat' (first | (apply r_toU8; exact rfl; exact rfl; exact rfl) | (apply r_idxY; exact rfl; exact rfl; exact rfl; exact rfl; (first | assumption | exact WY.rd (by assumption) rfl [] | exact OwnY.rd (by assumption)); (first | assumption | omega))))
    have hu : (48 + rr) % 256 = 48 + rr := Nat.mod_eq_of_lt (by omega)
    rw [hu]
    refine r_stY (A := _ :: N3) hOb rfl rfl trivial rfl rfl (by omega) (fun Nb' hOb' => ?_)
    (repeat' (first | refine JO.nil ?_ | refine JX.blockN ?_))
    refine JX.roundH (at' - 1, v1, N3, zs3, Nb', bs.set (at' - 1) (48 + rr)) ⟨by dsimp only; omega, by dsimp only; omega, hO3, hz3, ?_, hOb', set_lt hbs (by omega), ?_, ?_⟩ (by dsimp only; rw [hval3]; omega) (by repeat first | exact trivial | refine ⟨rfl, ?_⟩) ?_
    · dsimp only
      have h1 := hz3.len_le (by decide) (k := zs.length) (by
        rw [hval3]
        exact Nat.lt_of_le_of_lt (Nat.div_le_self _ _) (val_lt hz.lt))
      omega
    · dsimp only
      rw [hval3, show at' - 1 - 1 = at' - 2 by omega]
      rw [show at' - 1 = at' - 2 + 1 by omega, Nat.pow_succ] at hpw
      omega
    · dsimp only
      rw [hval3, drop_set_self (by omega), show at' - 1 + 1 = at' by omega, ← hdec, hst, List.append_assoc]
      rfl
    · exact HSub.at 0 rfl (by
        show HSub (Nb' ++ (N3 ++ [])) (N3 ++ (Nb' ++ _))
        exact ⟨Nz ++ [], by
          simp only [List.append_nil]
          rw [← List.append_assoc N3]
          exact List.Perm.append_right Nz List.perm_append_comm⟩)
  · have hv0 : val W32 zs = 0 := hez.1 (List.eq_nil_of_length_eq_zero (by omega))
    rw [hv0, dec_zero, List.nil_append] at hdec
    have hne : dec V ≠ [] := by rw [dec_step (Nat.pos_of_ne_zero hV0)]; simp
    have hatM : at' < M := by
      refine Decidable.byContradiction fun h => hne ?_
      rw [← hdec]
      exact List.drop_eq_nil_of_le (by omega)
    cases p with
    | true =>
      (repeat' (first | refine JC.seq ?_ | refine JC.ops ?_ | refine JO.nil ?_ | refine JX.thenN ?_ | (apply r_move; exact rfl; exact rfl; exact rfl) | (apply r_fieldAddr; exact rfl; exact rfl; exact rfl) | (apply r_assign; exact rfl; exact rfl; exact rfl) | (apply r_load; exact rfl; exact rfl; exact rfl; exact rfl; (first | exact at0 | exact at1 | exact at2 | exact at3 | exact at4 | exact at5 | exact at6 | exact at7 | exact at8 | exact at9); exact rfl) | (apply r_sub1; exact rfl; exact rfl; exact rfl; exact rfl; omega) | (apply r_idxY; exact rfl; exact rfl; exact rfl; exact rfl; (first | assumption | exact WY.rd (by assumption) rfl [] | exact OwnY.rd (by assumption)); (first | assumption | omega)) | (apply r_lenU; exact rfl; exact rfl; exact rfl; (first | assumption | exact WU.rd (by assumption) rfl [] | exact OwnU.rd (by assumption))) | (apply r_gtr; exact rfl; exact rfl; exact rfl; exact rfl; all_goals intro hc; all_goals try (exfalso; omega)) | refine JX.thenE ?_ | refine JC.exit ?_ | refine JC.condT rfl ?_ | refine JC.condF rfl ?_ | refine JX.blockE ?_))
      refine r_stY (A := [_]) hOb rfl rfl trivial rfl rfl (by omega) (fun Nb' hOb' => ?_)
      (repeat' (first | refine JC.seq ?_ | refine JC.ops ?_ | refine JO.nil ?_ | refine JX.thenN ?_ | (apply r_move; exact rfl; exact rfl; exact rfl) | (apply r_len; exact rfl; exact rfl; exact rfl)))
      refine r_slice3Y (l := at' - 1) rfl rfl rfl hOb'.rd rfl rfl rfl (by omega) (Nat.le_refl _) (fun v9 hR9 => ?_)
      refine r_toStr (fun u hu => set_lt hbs (by decide) u (List.mem_of_mem_drop hu)) hR9 (by (repeat' first | exact HSub.nil _ | exact HSub.hd | exact HSub.in0 | exact HSub.refl _ | refine HSub.skip ?_ | refine HSub.skipN ?_)) trivial rfl rfl rfl (fun l9 hl9 => ?_)
      (repeat' (first | refine JO.nil ?_ | refine JX.thenN ?_ | (apply r_assign; exact rfl; exact rfl; exact rfl) | refine JC.ret ?_))
      have hfin : l9 = tx (sgn true V) := tx_of (by rw [hl9, drop_set_self (by omega), show at' - 1 + 1 = at' by omega, hdec, txt_sgn hV0]; rfl)
      exact JX.ret1 rfl (fun a w' st => ⟨st.kp, by rw [hfin]⟩)
    | false =>
      (repeat' (first | refine JC.seq ?_ | refine JC.ops ?_ | refine JO.nil ?_ | refine JX.thenN ?_ | (apply r_move; exact rfl; exact rfl; exact rfl) | (apply r_fieldAddr; exact rfl; exact rfl; exact rfl) | (apply r_load; exact rfl; exact rfl; exact rfl; exact rfl; (first | exact at0 | exact at1 | exact at2 | exact at3 | exact at4 | exact at5 | exact at6 | exact at7 | exact at8 | exact at9); exact rfl) | (apply r_len; exact rfl; exact rfl; exact rfl) | (apply r_lenU; exact rfl; exact rfl; exact rfl; (first | assumption | exact WU.rd (by assumption) rfl [] | exact OwnU.rd (by assumption))) | (apply r_gtr; exact rfl; exact rfl; exact rfl; exact rfl; all_goals intro hc; all_goals try (exfalso; omega)) | refine JX.thenE ?_ | refine JC.skip ?_ | refine JC.exit ?_ | refine JC.condF rfl ?_ | refine JX.blockE ?_))
      refine r_slice3Y (l := at') rfl rfl rfl hOb.rd rfl rfl rfl (by omega) (Nat.le_refl _) (fun v9 hR9 => ?_)
      refine r_toStr (fun u hu => hbs u (List.mem_of_mem_drop hu)) hR9 (by (repeat' first | exact HSub.nil _ | exact HSub.hd | exact HSub.in0 | exact HSub.refl _ | refine HSub.skip ?_ | refine HSub.skipN ?_)) trivial rfl rfl rfl (fun l9 hl9 => ?_)
      (repeat' (first | refine JO.nil ?_ | refine JX.thenN ?_ | (apply r_assign; exact rfl; exact rfl; exact rfl) | refine JC.ret ?_))
      have hfin : l9 = tx (sgn false V) := tx_of (by rw [hl9, hdec, txt_sgn hV0]; rfl)
      exact JX.ret1 rfl (fun a w' st => ⟨st.kp, by rw [hfin]⟩)

end Go.Proofs.YtdehklhdjbkneaaDoor

/- The reference model: Text. -/
namespace Go.Proofs.YtdehklhdjbkneaaDoor
open Go Go.RowKit
set_option linter.unusedSimpArgs false
set_option linter.unusedVariables false
set_option linter.unusedSectionVars false

theorem bts_append (a b : List UInt8) : bts (a ++ b) = bts a ++ bts b := List.map_append ..
theorem dig_ten : Dig B16 [10] := ⟨fun x hx => by rw [List.mem_singleton.1 hx]; decide, rfl⟩
theorem val_ten : val B16 [10] = 10 := rfl
theorem val_head {rs : List Nat} (h : val B16 rs < 10) (h0 : 0 < rs.length) : rs.getD 0 0 = val B16 rs := by
  have e := val_drop (b := B16) (l := rs) (k := 0) h0
  rw [List.drop_zero] at e
  change val B16 rs = rs.getD 0 0 + 65536 * _ at e
  omega

set_option maxHeartbeats 8000000 in
theorem c_TextR (w : World) (p : Bool) (l : List UInt8) (hl : l.length ≤ 10000) :
    Calls Tryd.prog 38 #[wv p l] w (Ret fun v w' => Kp [] w w' ∧ v = sv (tx (sgn p (bval (bts l))))) := by
  refine calls_of_S [⟨10, 0, [], [(4, .seq)]⟩] [] (by simp) [] Tryd.func38 rfl mixed (by kernel_rfl) Tryd.ntmps38 Tryd.results38 rfl ⟨by simp, by simp⟩ (by simp) ?_
  simp only [toS, textOps, toSOp, kindAt, kindOf, odAt, sopsAt, ordOf, zipF]
  (repeat' (first | refine JC.seq ?_ | refine JC.ops ?_ | refine JO.nil ?_ | refine JX.thenN ?_ | (apply r_assign; exact rfl; exact rfl; exact rfl) | (apply r_loadN; exact rfl; exact rfl; exact rfl; exact rfl; (first | exact at0 | exact at1 | exact at2 | exact at3 | exact at4 | exact at5 | exact at6 | exact at7 | exact at8 | exact at9); exact rfl) | (apply r_boxA; exact rfl; exact rfl; exact rfl; exact rfl; intro _)))
  rename_i b1
  refine r_callA (A := [_]) rfl trivial rfl rfl rfl (fun w hk hs => c_digits w p l (by omega)) fun w v w' _ _ _ hR => ?_
  obtain ⟨N1, zs0, hN1, hO1, hz1, hval1⟩ := hR
  refine ⟨N1, hN1, ?_⟩
  have hzl1 := words16_le hz1 hval1 (Nat.le_refl _)
  have he := hz1.eq_nil (by decide)
  rw [hval1] at he
  by_cases h0 : zs0.length = 0
  · have h1 := he.1 (List.eq_nil_of_length_eq_zero h0)
    rw [h1, sgn_zero]
    (repeat' (first | refine JC.seq ?_ | refine JC.ops ?_ | refine JO.nil ?_ | refine JX.thenN ?_ | (apply r_move; exact rfl; exact rfl; exact rfl) | (apply r_assign; exact rfl; exact rfl; exact rfl) | (apply r_lenN; exact rfl; exact rfl; exact rfl; (first | assumption | exact WN.rd (by assumption) rfl [] | exact OwnN.rd (by assumption))) | (apply r_eql; exact rfl; exact rfl; exact rfl; exact rfl; all_goals intro hc; all_goals try (exfalso; omega)) | refine JX.thenR ?_ | refine JC.ret ?_ | refine JC.condT rfl ?_))
    exact JX.ret1 rfl (fun a w' st => ⟨st.kp, rfl⟩)
  have hV0 : bval (bts l) ≠ 0 := fun h => h0 (by rw [he.2 h]; rfl)
  rw [← hval1] at hV0 ⊢
  generalize hV : val B16 zs0 = V at hV0 ⊢
  (repeat' (first | refine JC.seq ?_ | refine JC.ops ?_ | refine JO.nil ?_ | refine JX.thenN ?_ | (apply r_move; exact rfl; exact rfl; exact rfl) | (apply r_assign; exact rfl; exact rfl; exact rfl) | (apply r_lenN; exact rfl; exact rfl; exact rfl; (first | assumption | exact WN.rd (by assumption) rfl [] | exact OwnN.rd (by assumption))) | (apply r_eql; exact rfl; exact rfl; exact rfl; exact rfl; all_goals intro hc; all_goals try (exfalso; omega)) | refine JC.skip ?_ | refine JC.condF rfl ?_ | refine JC.block ?_))
  refine JC.loopH (ι := Value × SHeap × List Nat × List UInt8 × Nat) ⟨fun z => [(4, sv z.2.2.2.1), (3, z.1), (1, .pointer (some ⟨b1, 0, none⟩))], fun z => (b1, .cells #[.bool p, sv l] 27) :: (z.2.1 ++ []),
    fun z => OwnN z.2.1 z.1 z.2.2.1.length z.2.2.1 ∧ Dig B16 z.2.2.1 ∧ z.2.2.1.length ≤ 10000 ∧ val B16 z.2.2.1 < 10 ^ z.2.2.2.2 ∧ dec (val B16 z.2.2.1) ++ bts z.2.2.2.1 = dec V ∧ z.2.2.2.1.length + z.2.2.2.2 ≤ 50000, fun z => val B16 z.2.2.1⟩
    (_, N1, zs0, [], 5 * zs0.length) ⟨hO1, hz1, by dsimp only; omega, Nat.lt_of_lt_of_le (val_lt hz1.lt) (by rw [Nat.pow_mul]; exact Nat.pow_le_pow_left (by decide) _), by dsimp only; rw [hV]; exact List.append_nil _, by dsimp only; simp; omega⟩ (by repeat first | exact trivial | refine ⟨rfl, ?_⟩) (by (repeat' first | exact HSub.refl _ | exact HSub.nil _ | refine HSub.at 0 rfl ?_ | refine HSub.at 1 rfl ?_ | refine HSub.at 2 rfl ?_ | refine HSub.at 3 rfl ?_ | refine HSub.at 4 rfl ?_ | refine HSub.at 5 rfl ?_ | refine HSub.at 6 rfl ?_ | refine HSub.at 7 rfl ?_ | refine HSub.at 8 rfl ?_ | refine HSub.at 9 rfl ?_ | refine HSub.at 10 rfl ?_ | refine HSub.at 11 rfl ?_ | refine HSub.at 12 rfl ?_ | refine HSub.at 13 rfl ?_ | refine HSub.at 14 rfl ?_ | refine HSub.at 15 rfl ?_ | refine HSub.at 16 rfl ?_ | refine HSub.at 17 rfl ?_ | refine HSub.at 18 rfl ?_ | refine HSub.at 19 rfl ?_ | refine HSub.segH ?_ | refine HSub.skip ?_ | refine HSub.skipN ?_)) (fun z hz => ?_)
  clear hO1 hz1
  obtain ⟨vz, Nz, zs, s, dd⟩ := z
  obtain ⟨hOz, hz, hzl, hle, hdec, hsl⟩ := hz
  dsimp only at hOz hz hzl hle hdec hsl ⊢
  have hez := hz.eq_nil (by decide)
  by_cases hgo : 0 < zs.length
  · have hvp : 0 < val B16 zs := Nat.pos_of_ne_zero fun h => by rw [hez.2 h] at hgo; exact absurd hgo (by simp)
    have hst := dec_step hvp
    have hdd : 1 ≤ dd := by
      refine Decidable.byContradiction fun h => ?_
      obtain rfl : dd = 0 := by omega
      simp at hle
      omega
    (repeat' (first | refine JC.seq ?_ | refine JC.ops ?_ | refine JO.nil ?_ | refine JX.thenN ?_ | (apply r_move; exact rfl; exact rfl; exact rfl) | (apply r_lenN; exact rfl; exact rfl; exact rfl; (first | assumption | exact WN.rd (by assumption) rfl [] | exact OwnN.rd (by assumption))) | (apply r_gtr; exact rfl; exact rfl; exact rfl; exact rfl; all_goals intro hc; all_goals try (exfalso; omega)) | (apply r_build1; exact rfl; exact rfl; exact rfl; exact rfl; exact rfl; (repeat first | exact trivial | refine ⟨rfl, ?_⟩); decide; decide; intro _) | refine JC.skip ?_ | refine JC.condT rfl ?_ | refine JC.block ?_))
    rename_i b10
    have hL : OwnN [(b10, .cells ⟨[nv 10]⟩ 3)] (.slice (some ⟨b10, 0, none⟩) 1 1) 1 [10] := own_lit b10 1 [10] _ rfl rfl (by decide)
    refine r_callA (A := [_, _]) rfl trivial rfl rfl rfl (fun w hk hs => c_overR w _ _ _ _ zs [10] (hOz.rd.at hk hs (by (repeat' first | exact HSub.nil _ | exact HSub.hd | exact HSub.in0 | exact HSub.refl _ | refine HSub.skip ?_ | refine HSub.skipN ?_))) (hL.rd.at hk hs (by (repeat' first | exact HSub.nil _ | exact HSub.hd | exact HSub.in0 | exact HSub.refl _ | refine HSub.skip ?_ | refine HSub.skipN ?_))) hz.lt dig_ten (by decide) (by omega) (by decide)) fun w v w' _ _ _ hR => ?_
    obtain ⟨N3, N4, v3, v4, zs3, zs4, rfl, hN34, hO3, hO4, hz3, hz4, hval3, hlt4⟩ := hR
    refine ⟨_, hN34, ?_⟩
    rw [List.append_assoc N3 N4]
    rw [val_ten] at hval3 hlt4
    have hq3 : val B16 zs3 = val B16 zs / 10 := by omega
    have hr4 : val B16 zs4 = val B16 zs % 10 := by omega
    rw [← hr4, ← hq3] at hst
    have h34 := hz3.len_le (by decide) (k := zs.length) (by
      rw [hq3]
      exact Nat.lt_of_le_of_lt (Nat.div_le_self _ _) (val_lt hz.lt))
    by_cases h4 : 0 < zs4.length
    · have hd4 := val_head hlt4 h4
      have hdl : zs4.getD 0 0 < 10 := by rw [hd4]; exact hlt4
      (repeat' (first | refine JC.seq ?_ | refine JC.ops ?_ | refine JO.nil ?_ | refine JX.thenN ?_ | (apply r_move; exact rfl; exact rfl; exact rfl) | (apply r_assign; exact rfl; exact rfl; exact rfl) | (apply r_idxN; exact rfl; exact rfl; exact rfl; exact rfl; (first | assumption | exact WN.rd (by assumption) rfl [] | exact OwnN.rd (by assumption)); (first | assumption | omega)) | (apply r_ldN; exact rfl; exact rfl; exact rfl; exact rfl; (first | assumption | exact WN.rd (by assumption) rfl [] | exact OwnN.rd (by assumption)); (repeat' first | exact HSub.nil _ | exact HSub.hd | exact HSub.in0 | exact HSub.refl _ | refine HSub.skip ?_ | refine HSub.skipN ?_); (first | assumption | omega)) | (apply r_lenN; exact rfl; exact rfl; exact rfl; (first | assumption | exact WN.rd (by assumption) rfl [] | exact OwnN.rd (by assumption))) | (apply r_extract; exact rfl; exact rfl; exact rfl; exact rfl) | (apply r_gtr; exact rfl; exact rfl; exact rfl; exact rfl; all_goals intro hc; all_goals try (exfalso; omega)) | refine JC.condT rfl ?_))
      refine r_addN (i := 48) (j := zs4.getD 0 0) rfl rfl rfl rfl (by omega) ?_
      (repeat' (first | (apply r_toU8; exact rfl; exact rfl; exact rfl) | (apply r_build1; exact rfl; exact rfl; exact rfl; exact rfl; exact rfl; (repeat first | exact trivial | refine ⟨rfl, ?_⟩); decide; decide; intro _)))
      rename_i c2
      have h256 : (48 + (zs4.getD 0 0)) % 256 = 48 + val B16 zs4 := by omega
      refine r_toStr (xs := [(48 + (zs4.getD 0 0)) % 256]) (fun u hu => by rw [List.mem_singleton.1 hu]; omega) (own_litY c2 1 [(48 + (zs4.getD 0 0)) % 256] _ rfl rfl (by decide)).rd (by (repeat' first | exact HSub.nil _ | exact HSub.hd | exact HSub.in0 | exact HSub.refl _ | refine HSub.skip ?_ | refine HSub.skipN ?_)) trivial rfl rfl rfl (fun l1 hl1 => ?_)
      have hll : l1.length = 1 := by rw [← bts_len, hl1]; rfl
      (repeat' (first | refine JC.ops ?_ | refine JO.nil ?_ | refine JX.thenN ?_ | (apply r_move; exact rfl; exact rfl; exact rfl) | (apply r_assign; exact rfl; exact rfl; exact rfl) | (apply r_addS; exact rfl; exact rfl; exact rfl; exact rfl; (first | assumption | omega)) | refine JX.blockN ?_))
      refine JX.roundH (v3, N3, zs3, l1 ++ s, dd - 1) ⟨hO3, hz3, by dsimp only; omega, ?_, ?_, by dsimp only; simp only [List.length_append]; omega⟩ (by dsimp only; omega) (by repeat first | exact trivial | refine ⟨rfl, ?_⟩) (by (repeat' first | exact HSub.refl _ | exact HSub.nil _ | refine HSub.at 0 rfl ?_ | refine HSub.at 1 rfl ?_ | refine HSub.at 2 rfl ?_ | refine HSub.at 3 rfl ?_ | refine HSub.at 4 rfl ?_ | refine HSub.at 5 rfl ?_ | refine HSub.at 6 rfl ?_ | refine HSub.at 7 rfl ?_ | refine HSub.at 8 rfl ?_ | refine HSub.at 9 rfl ?_ | refine HSub.at 10 rfl ?_ | refine HSub.at 11 rfl ?_ | refine HSub.at 12 rfl ?_ | refine HSub.at 13 rfl ?_ | refine HSub.at 14 rfl ?_ | refine HSub.at 15 rfl ?_ | refine HSub.at 16 rfl ?_ | refine HSub.at 17 rfl ?_ | refine HSub.at 18 rfl ?_ | refine HSub.at 19 rfl ?_ | refine HSub.segH ?_ | refine HSub.skip ?_ | refine HSub.skipN ?_))
      · dsimp only
        rw [show dd = dd - 1 + 1 by omega, Nat.pow_succ] at hle
        omega
      · dsimp only
        rw [bts_append, hl1, h256, ← hdec, hst, List.append_assoc]
    · have hv4 : val B16 zs4 = 0 := by rw [List.eq_nil_of_length_eq_zero (show zs4.length = 0 by omega)]; rfl
      (repeat' (first | refine JC.seq ?_ | refine JC.ops ?_ | refine JO.nil ?_ | refine JX.thenN ?_ | (apply r_move; exact rfl; exact rfl; exact rfl) | (apply r_assign; exact rfl; exact rfl; exact rfl) | (apply r_lenN; exact rfl; exact rfl; exact rfl; (first | assumption | exact WN.rd (by assumption) rfl [] | exact OwnN.rd (by assumption))) | (apply r_add; exact rfl; exact rfl; exact rfl; exact rfl; omega) | (apply r_extract; exact rfl; exact rfl; exact rfl; exact rfl) | (apply r_toU8; exact rfl; exact rfl; exact rfl) | (apply r_gtr; exact rfl; exact rfl; exact rfl; exact rfl; all_goals intro hc; all_goals try (exfalso; omega)) | (apply r_build1; exact rfl; exact rfl; exact rfl; exact rfl; exact rfl; (repeat first | exact trivial | refine ⟨rfl, ?_⟩); decide; decide; intro _) | refine JC.skip ?_ | refine JC.condF rfl ?_))
      rename_i c2
      have h256 : (48 + 0) % 256 = 48 + val B16 zs4 := by omega
      refine r_toStr (xs := [(48 + 0) % 256]) (fun u hu => by rw [List.mem_singleton.1 hu]; omega) (own_litY c2 1 [(48 + 0) % 256] _ rfl rfl (by decide)).rd (by (repeat' first | exact HSub.nil _ | exact HSub.hd | exact HSub.in0 | exact HSub.refl _ | refine HSub.skip ?_ | refine HSub.skipN ?_)) trivial rfl rfl rfl (fun l1 hl1 => ?_)
      have hll : l1.length = 1 := by rw [← bts_len, hl1]; rfl
      (repeat' (first | refine JC.ops ?_ | refine JO.nil ?_ | refine JX.thenN ?_ | (apply r_move; exact rfl; exact rfl; exact rfl) | (apply r_assign; exact rfl; exact rfl; exact rfl) | (apply r_addS; exact rfl; exact rfl; exact rfl; exact rfl; (first | assumption | omega)) | refine JX.blockN ?_))
      refine JX.roundH (v3, N3, zs3, l1 ++ s, dd - 1) ⟨hO3, hz3, by dsimp only; omega, ?_, ?_, by dsimp only; simp only [List.length_append]; omega⟩ (by dsimp only; omega) (by repeat first | exact trivial | refine ⟨rfl, ?_⟩) (by (repeat' first | exact HSub.refl _ | exact HSub.nil _ | refine HSub.at 0 rfl ?_ | refine HSub.at 1 rfl ?_ | refine HSub.at 2 rfl ?_ | refine HSub.at 3 rfl ?_ | refine HSub.at 4 rfl ?_ | refine HSub.at 5 rfl ?_ | refine HSub.at 6 rfl ?_ | refine HSub.at 7 rfl ?_ | refine HSub.at 8 rfl ?_ | refine HSub.at 9 rfl ?_ | refine HSub.at 10 rfl ?_ | refine HSub.at 11 rfl ?_ | refine HSub.at 12 rfl ?_ | refine HSub.at 13 rfl ?_ | refine HSub.at 14 rfl ?_ | refine HSub.at 15 rfl ?_ | refine HSub.at 16 rfl ?_ | refine HSub.at 17 rfl ?_ | refine HSub.at 18 rfl ?_ | refine HSub.at 19 rfl ?_ | refine HSub.segH ?_ | refine HSub.skip ?_ | refine HSub.skipN ?_))
      · dsimp only
        rw [show dd = dd - 1 + 1 by omega, Nat.pow_succ] at hle
        omega
      · dsimp only
        rw [bts_append, hl1, h256, ← hdec, hst, List.append_assoc]
  · have hv0 : val B16 zs = 0 := hez.1 (List.eq_nil_of_length_eq_zero (by omega))
    rw [hv0, dec_zero, List.nil_append] at hdec
    cases p with
    | true =>
      (repeat' (first | refine JC.seq ?_ | refine JC.ops ?_ | refine JO.nil ?_ | refine JX.thenN ?_ | (apply r_move; exact rfl; exact rfl; exact rfl) | (apply r_fieldAddr; exact rfl; exact rfl; exact rfl) | (apply r_load; exact rfl; exact rfl; exact rfl; exact rfl; (first | exact at0 | exact at1 | exact at2 | exact at3 | exact at4 | exact at5 | exact at6 | exact at7 | exact at8 | exact at9); exact rfl) | (apply r_lenN; exact rfl; exact rfl; exact rfl; (first | assumption | exact WN.rd (by assumption) rfl [] | exact OwnN.rd (by assumption))) | (apply r_gtr; exact rfl; exact rfl; exact rfl; exact rfl; all_goals intro hc; all_goals try (exfalso; omega)) | refine JX.thenE ?_ | refine JC.exit ?_ | refine JC.condT rfl ?_ | refine JC.condF rfl ?_ | refine JX.blockE ?_))
      refine r_addS (l := [45]) rfl rfl rfl rfl (by simp; omega) ?_
      (repeat' (first | refine JO.nil ?_ | refine JX.thenN ?_ | (apply r_assign; exact rfl; exact rfl; exact rfl) | refine JX.thenR ?_ | refine JC.ret ?_))
      have hfin : [45] ++ s = tx (sgn true V) := tx_of (by rw [bts_append, hdec, txt_sgn hV0]; rfl)
      exact JX.ret1 rfl (fun a w' st => ⟨st.kp, by rw [hfin]⟩)
    | false =>
      (repeat' (first | refine JC.seq ?_ | refine JC.ops ?_ | refine JO.nil ?_ | refine JX.thenN ?_ | (apply r_move; exact rfl; exact rfl; exact rfl) | (apply r_fieldAddr; exact rfl; exact rfl; exact rfl) | (apply r_assign; exact rfl; exact rfl; exact rfl) | (apply r_load; exact rfl; exact rfl; exact rfl; exact rfl; (first | exact at0 | exact at1 | exact at2 | exact at3 | exact at4 | exact at5 | exact at6 | exact at7 | exact at8 | exact at9); exact rfl) | (apply r_lenN; exact rfl; exact rfl; exact rfl; (first | assumption | exact WN.rd (by assumption) rfl [] | exact OwnN.rd (by assumption))) | (apply r_gtr; exact rfl; exact rfl; exact rfl; exact rfl; all_goals intro hc; all_goals try (exfalso; omega)) | refine JX.thenE ?_ | refine JC.skip ?_ | refine JC.exit ?_ | refine JC.ret ?_ | refine JC.condF rfl ?_ | refine JX.blockE ?_))
      have hfin : s = tx (sgn false V) := tx_of (by rw [hdec, txt_sgn hV0]; rfl)
      exact JX.ret1 rfl (fun a w' st => ⟨st.kp, by rw [hfin]⟩)

end Go.Proofs.YtdehklhdjbkneaaDoor

