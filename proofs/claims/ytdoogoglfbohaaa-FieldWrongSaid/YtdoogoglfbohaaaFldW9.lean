/- Walks of field: solutions. -/
import Derived.Test.YtdoogoglfbohaaaFldW8
namespace Go.Proofs.Ytdoogoglfbohaaa
open Go Go.RowKit
set_option linter.unusedSimpArgs false
set_option linter.unusedVariables false
set_option linter.unusedSectionVars false

/-- A solution, while it is made: n pivots are done. -/
def solG (c c1 : Nat) (e l : List Nat) : Nat → Nat → Nat → Nat
  | 0 => fun _ _ => 0
  | n + 1 => fun a b => if a = l.getD n 0 then ent c e n (c1 + b) else solG c c1 e l n a b
/-- The solution of a x = b, if there is one. -/
def solM (m n : NM) : Option NM :=
  if ∀ x ∈ pivM (joinM m n), x < m.c then some ⟨m.p, m.c, n.c, tab2 m.c n.c (solG (m.c + n.c) m.c (echM (joinM m n)).e (pivM (joinM m n)) (pivM (joinM m n)).length)⟩ else none

/-- A result that is a matrix, or none. -/
def GivesO (o : Option NM) (w : World) (v : Value) (w' : World) : Prop := match o with
  | some x => GivesMB x w v w'
  | none => v = .tuple #[zeroV, .bool false]

theorem Big.join {m n : NM} (h : Rt m) (h' : Rt n) (hp : m.p = n.p) : Big (joinM m n) := by
  have h1 := h.r
  have h2 := h.c
  have h3 := h'.c
  exact ⟨h.pr, h1, by show m.c + n.c ≤ 800; omega, by simp [joinM], tab2_lt (r := m.r) (c := m.c + n.c) (p := m.p) (g := fun i j => if j < m.c then Go.Proofs.Ytdoogoglfbohaaa.ent m.c m.e i j else Go.Proofs.Ytdoogoglfbohaaa.ent n.c n.e i (j - m.c)) fun i j _ _ => by
    show (if j < m.c then _ else _) < m.p
    split
    · exact h.ent _ _
    · rw [hp]; exact h'.ent _ _⟩

theorem seg_tab2 {r c x : Nat} {ys : List Nat} {G : Nat → Nat → Nat} (hx : x < r) (hy : c ≤ ys.length) : segSet (x * c) c ys (tab2 r c G) = tab2 r c fun a b => if a = x then ys.getD b 0 else G a b := by
  have hle := row_le (c := c) hx
  rw [Nat.add_mul, Nat.one_mul] at hle
  have hl : (tab2 r c G).length = r * c := tab2_len _ _ _
  refine ext_getD (d := 0) (by rw [segSet_len hy (by omega), tab2_len, tab2_len]) fun i hi => ?_
  rw [segSet_len hy (by omega), hl] at hi
  rw [segSet_getD hy (by omega)]
  obtain ⟨h1, h2, h3⟩ := idx_split hi
  have e1 : (tab2 r c fun a b => if a = x then ys.getD b 0 else G a b).getD i 0 = if i / c = x then ys.getD (i % c) 0 else G (i / c) (i % c) := by
    unfold tab2; rw [tab_getD hi]
  have e2 : (tab2 r c G).getD i 0 = G (i / c) (i % c) := by unfold tab2; rw [tab_getD hi]
  rw [e1, e2]
  by_cases h : i / c = x
  · rw [h] at h3
    rw [if_pos h, if_pos (by omega)]
    congr 1
    omega
  · rw [if_neg h, if_neg]
    intro h4
    apply h
    have h5 : i = x * c + (i - x * c) := by omega
    rw [h5, idx_div (by omega)]

set_option maxHeartbeats 4000000 in
theorem c_Solve (w : World) (v u : Value) (m n : NM) (hm : Rt m) (hn : Rt n) (hp : m.p = n.p) (hr : m.r = n.r) (hv : IsM w v m) (hu : IsM w u n) :
    Calls Try.prog 24 #[v, u] w (Ret fun v w' => Kp [] w w' ∧ GivesO (solM m n) w v w') := by
  have hv0 := hv
  have hu0 := hu
  obtain ⟨E, rfl, hE⟩ := hv
  obtain ⟨E', rfl, hE'⟩ := hu
  have hB := Big.join hm hn hp
  obtain ⟨hPr, hPc, hPlt, hPnd, hPmem, hPels, hPent⟩ := Pvs.of hB
  have hbr := hm.r
  have hbc := hm.c
  have hbc' := hn.c
  have hjr : (joinM m n).r = m.r := rfl
  have hjc : (joinM m n).c = m.c + n.c := rfl
  have hjp : (joinM m n).p = m.p := rfl
  rw [hjr] at hPr
  rw [hjc] at hPc hPlt hPmem
  rw [hjr, hjc] at hPels
  rw [hjp, hjc] at hPent
  refine calls_of_S [] [] (by simp) [] Try.func24 rfl mixed (by kernel_rfl) Try.ntmps24 Try.results24 rfl ⟨by simp, by simp⟩ (by simp) ?_
  simp only [toS, textOps, toSOp, kindAt, kindOf, odAt, sopsAt, ordOf, zipF]
  (repeat' (first | refine JC.seq ?_ | refine JC.ops ?_ | refine JO.nil ?_ | refine JX.thenN ?_ | (apply r_assign; exact rfl; exact rfl; exact rfl) | (apply r_loadN; exact rfl; exact rfl; exact rfl; exact rfl; (first | exact at0 | exact at1 | exact at2 | exact at3 | exact at4 | exact at5 | exact at6 | exact at7); exact rfl) | (apply r_allocZ; exact rfl; exact rfl; exact rfl; intro _) | (apply r_boxA; exact rfl; exact rfl; exact rfl; exact rfl; intro _)))
  rename_i b2 b3 b4
  refine r_call0 trivial rfl rfl rfl (fun w hk _ => c_one w _ _ m.fm n.fm (hv0.f.mono hk) (hu0.f.mono hk) hm.flen hn.flen) fun w v w' _ _ _ hR => ?_
  obtain ⟨b', rfl, hb⟩ := hR
  obtain rfl := hb.2 (oneF_of hm hn hp)
  (repeat' (first | refine JC.seq ?_ | refine JC.ops ?_ | refine JO.nil ?_ | refine JX.thenN ?_ | (apply r_move; exact rfl; exact rfl; exact rfl) | (apply r_fieldAddr; exact rfl; exact rfl; exact rfl) | (apply r_load; exact rfl; exact rfl; exact rfl; exact rfl; (first | exact at0 | exact at1 | exact at2 | exact at3 | exact at4 | exact at5 | exact at6 | exact at7); exact rfl) | (apply r_loadN; exact rfl; exact rfl; exact rfl; exact rfl; (first | exact at0 | exact at1 | exact at2 | exact at3 | exact at4 | exact at5 | exact at6 | exact at7); exact rfl) | (apply r_pickF; exact rfl; exact rfl; exact rfl; exact rfl) | (apply r_not; exact rfl; exact rfl; exact rfl) | (apply r_neq; exact rfl; exact rfl; exact rfl; exact rfl; all_goals intro hc; all_goals try (exfalso; omega)) | refine JC.skip ?_ | refine JC.condF rfl ?_))
  refine r_callA (A := [_, _, _]) (B := []) rfl trivial rfl rfl rfl (fun w hk _ => c_join w _ _ m n hm hn hr (IsM.mono hv0 hk) (IsM.mono hu0 hk)) fun w v w' _ _ _ hR => ?_
  obtain ⟨Nj, hNj, Ej, rfl, hOj⟩ := hR
  obtain ⟨Aj, cj, rfl⟩ := hOj.form
  refine ⟨Nj, hNj, ?_⟩
  skip
  refine r_callA (A := [_, _, _]) rfl trivial rfl rfl rfl (fun w hk hs => c_reduce w _ (joinM m n) hB ⟨_, rfl, hOj.rd.at hk hs (by (repeat' first | exact HSub.nil _ | exact HSub.hd | exact HSub.in0 | exact HSub.refl _ | refine HSub.skip ?_ | refine HSub.skipN ?_))⟩) fun w v w' _ _ _ hR => ?_
  obtain ⟨N, N2, u, x, rfl, hN, ⟨Eo, rfl, hOe⟩, hO2⟩ := hR
  rw [hPels] at hOe
  obtain ⟨Ae, ce, rfl⟩ := hOe.form
  refine ⟨_, hN, ?_⟩
  rw [List.append_assoc]
  (repeat' (first | refine JC.seq ?_ | refine JC.ops ?_ | refine JO.nil ?_ | refine JX.thenN ?_ | (apply r_move; exact rfl; exact rfl; exact rfl) | (apply r_fieldAddr; exact rfl; exact rfl; exact rfl) | (apply r_assign; exact rfl; exact rfl; exact rfl) | (apply r_load; exact rfl; exact rfl; exact rfl; exact rfl; (first | exact at0 | exact at1 | exact at2 | exact at3 | exact at4 | exact at5 | exact at6 | exact at7); exact rfl) | (apply r_extract; exact rfl; exact rfl; exact rfl; exact rfl) | (apply r_allocZ; exact rfl; exact rfl; exact rfl; intro _) | (apply r_storeN; exact rfl; (first | exact trivial | exact ⟨rfl, rfl⟩); exact rfl; exact rfl; (first | exact at0 | exact at1 | exact at2 | exact at3 | exact at4 | exact at5 | exact at6 | exact at7); exact rfl; exact rfl; exact rfl)))
  rename_i b6
  refine r_callA (A := [_, _, _, _]) rfl trivial rfl rfl rfl (fun w hk _ => c_zero m.p m.c n.c hm.pr hm.c hn.c w) fun w v w' _ _ _ hR => ?_
  obtain ⟨N8, E8, hN8, rfl, hO8⟩ := hR
  obtain ⟨A8, c8, rfl⟩ := hO8.form
  refine ⟨N8, hN8, ?_⟩
  (repeat' (first | refine JC.seq ?_ | refine JC.ops ?_ | refine JO.nil ?_ | refine JX.thenN ?_ | (apply r_move; exact rfl; exact rfl; exact rfl) | (apply r_lenN; exact rfl; exact rfl; exact rfl; (first | assumption | exact WN.rd (by assumption) rfl [] | exact OwnN.rd (by assumption))) | (apply r_allocZ; exact rfl; exact rfl; exact rfl; intro _) | (apply r_storeN; exact rfl; (first | exact trivial | exact ⟨rfl, rfl⟩); exact rfl; exact rfl; (first | exact at0 | exact at1 | exact at2 | exact at3 | exact at4 | exact at5 | exact at6 | exact at7); exact rfl; exact rfl; exact rfl) | refine JC.block ?_))
  rename_i b8
  refine JC.loopH (ι := Nat × SHeap) ⟨fun z => [(39, nv z.1), (38, nv (pivM (joinM m n)).length), (37, x), (7, x), (8, .pointer (some ⟨b8, 0, none⟩)), (6, .pointer (some ⟨b6, 0, none⟩)), (4, .pointer (some ⟨b4, 0, none⟩)), (3, .pointer (some ⟨b3, 0, none⟩)), (2, .pointer (some ⟨b2, 0, none⟩))],
    fun z => [(b8, .cells #[nv m.p, nv m.c, nv n.c, .slice A8 (m.c * n.c) c8] 27), (b6, .cells #[nv m.p, nv m.r, nv (m.c + n.c), .slice Ae (m.r * (m.c + n.c)) ce] 27), (b4, .cells #[iv 0, iv 0, iv 0, .slice none 0 0] 27), (b3, .cells #[nv n.p, nv n.r, nv n.c, E'] 27), (b2, .cells #[nv m.p, nv m.r, nv m.c, E] 27)] ++ (z.2 ++ (N ++ (N2 ++ (Nj ++ [])))),
    fun z => z.1 ≤ (pivM (joinM m n)).length ∧ OwnN z.2 (.slice A8 (m.c * n.c) c8) (m.c * n.c) (tab2 m.c n.c (solG (m.c + n.c) m.c (echM (joinM m n)).e (pivM (joinM m n)) z.1)) ∧ ∀ t, t < z.1 → (pivM (joinM m n)).getD t 0 < m.c, fun z => (pivM (joinM m n)).length - z.1⟩ (0, N8) ⟨by dsimp only; omega, hO8, fun t h => by dsimp only at h; omega⟩ (by repeat first | exact trivial | refine ⟨rfl, ?_⟩) (by (first | exact HSub.refl _ | (repeat' first | exact HSub.nil _ | exact HSub.refl _ | refine HSub.at 0 rfl ?_ | refine HSub.at 1 rfl ?_ | refine HSub.at 2 rfl ?_ | refine HSub.at 3 rfl ?_ | refine HSub.at 4 rfl ?_ | refine HSub.at 5 rfl ?_ | refine HSub.at 6 rfl ?_ | refine HSub.at 7 rfl ?_))) (fun z hz => ?_)
  clear hO8
  obtain ⟨i, N8⟩ := z
  obtain ⟨hi, hO, hall⟩ := hz
  dsimp only at hi hO hall ⊢
  by_cases hil : i < (pivM (joinM m n)).length
  · by_cases hlt : (pivM (joinM m n)).getD i 0 < m.c
    · have hb1 : i * (m.c + n.c) ≤ 320000 := Nat.mul_le_mul (show i ≤ 400 by omega) (show m.c + n.c ≤ 800 by omega)
      have hb2 : (pivM (joinM m n)).getD i 0 * n.c ≤ 160000 := Nat.mul_le_mul (show (pivM (joinM m n)).getD i 0 ≤ 400 by omega) hbc'
      have hb3 : ((pivM (joinM m n)).getD i 0 + 1) * n.c ≤ 160400 := by rw [Nat.add_mul]; omega
      have hrow := row_le (c := m.c + n.c) (show i < m.r by omega)
      rw [Nat.add_mul, Nat.one_mul] at hrow
      (repeat' (first | refine JC.seq ?_ | refine JC.ops ?_ | refine JO.nil ?_ | refine JX.thenN ?_ | (apply r_move; exact rfl; exact rfl; exact rfl) | (apply r_fieldAddr; exact rfl; exact rfl; exact rfl) | (apply r_assign; exact rfl; exact rfl; exact rfl) | (apply r_load; exact rfl; exact rfl; exact rfl; exact rfl; (first | exact at0 | exact at1 | exact at2 | exact at3 | exact at4 | exact at5 | exact at6 | exact at7); exact rfl) | (apply r_idxN; exact rfl; exact rfl; exact rfl; exact rfl; (first | assumption | exact WN.rd (by assumption) rfl [] | exact OwnN.rd (by assumption)); (first | assumption | omega)) | (apply r_ldN; exact rfl; exact rfl; exact rfl; exact rfl; (first | assumption | exact WN.rd (by assumption) rfl [] | exact OwnN.rd (by assumption)); (repeat' first | exact HSub.nil _ | exact HSub.hd | exact HSub.in0 | exact HSub.refl _ | refine HSub.skip ?_ | refine HSub.skipN ?_); (first | assumption | omega)) | (apply r_lss; exact rfl; exact rfl; exact rfl; exact rfl; all_goals intro hc; all_goals try (exfalso; omega)) | (apply r_geq; exact rfl; exact rfl; exact rfl; exact rfl; all_goals intro hc; all_goals try (exfalso; omega)) | refine JC.skip ?_ | refine JC.condT rfl ?_ | refine JC.condF rfl ?_ | refine JC.block ?_))
      refine JC.opsDs [(b8, .cells #[nv m.p, nv m.c, nv n.c, .slice A8 (m.c * n.c) c8] 27), (b6, .cells #[nv m.p, nv m.r, nv (m.c + n.c), .slice Ae (m.r * (m.c + n.c)) ce] 27), (b3, .cells #[nv n.p, nv n.r, nv n.c, E'] 27), (b2, .cells #[nv m.p, nv m.r, nv m.c, E] 27)] (by (first | exact HSub.refl _ | (repeat' first | exact HSub.nil _ | exact HSub.refl _ | refine HSub.at 0 rfl ?_ | refine HSub.at 1 rfl ?_ | refine HSub.at 2 rfl ?_ | refine HSub.at 3 rfl ?_ | refine HSub.at 4 rfl ?_ | refine HSub.at 5 rfl ?_ | refine HSub.at 6 rfl ?_ | refine HSub.at 7 rfl ?_))) ?_
      (repeat' (first | (apply r_move; exact rfl; exact rfl; exact rfl) | (apply r_fieldAddr; exact rfl; exact rfl; exact rfl) | (apply r_load; exact rfl; exact rfl; exact rfl; exact rfl; (first | exact at0 | exact at1 | exact at2 | exact at3 | exact at4 | exact at5 | exact at6 | exact at7); exact rfl) | (apply r_add1; exact rfl; exact rfl; exact rfl; exact rfl; omega) | (apply r_mulN; exact rfl; exact rfl; exact rfl; exact rfl; (first | assumption | omega))))
      refine r_rowN rfl rfl rfl hO.rd rfl rfl (row_le hlt) (fun vd hvd hat => ?_)
      (repeat' (first | (apply r_move; exact rfl; exact rfl; exact rfl) | (apply r_fieldAddr; exact rfl; exact rfl; exact rfl) | (apply r_load; exact rfl; exact rfl; exact rfl; exact rfl; (first | exact at0 | exact at1 | exact at2 | exact at3 | exact at4 | exact at5 | exact at6 | exact at7); exact rfl) | (apply r_addN; exact rfl; exact rfl; exact rfl; exact rfl; omega) | (apply r_mulN; exact rfl; exact rfl; exact rfl; exact rfl; (first | assumption | omega))))
      refine r_sliceN (l := i * (m.c + n.c) + m.c) (h' := m.r * (m.c + n.c)) (vl := some (nv (i * (m.c + n.c) + m.c))) (vh := none) rfl rfl rfl hOe.rd rfl rfl (.inl rfl) rfl rfl (.inr ⟨rfl, rfl⟩) (by omega) (Nat.le_refl _) (fun vs hvs _ => ?_)
      skip
      refine r_copyNL (A := [_, _, _, _, _]) hO hvd hat (by have := row_le (c := n.c) hlt; rw [Nat.add_mul, Nat.one_mul] at this; omega) hvs (by omega) (by (repeat' first | exact HSub.nil _ | exact HSub.hd | exact HSub.in0 | exact HSub.refl _ | refine HSub.skip ?_ | refine HSub.skipN ?_)) rfl (by (first | exact HSub.refl _ | (repeat' first | exact HSub.nil _ | exact HSub.refl _ | refine HSub.at 0 rfl ?_ | refine HSub.at 1 rfl ?_ | refine HSub.at 2 rfl ?_ | refine HSub.at 3 rfl ?_ | refine HSub.at 4 rfl ?_ | refine HSub.at 5 rfl ?_ | refine HSub.at 6 rfl ?_ | refine HSub.at 7 rfl ?_))) rfl rfl rfl rfl (fun u N' hO' => ?_)
      rw [seg_tab2 hlt (by simp [hPels]; omega)] at hO'
      have e : (tab2 m.c n.c fun a b => if a = (pivM (joinM m n)).getD i 0 then (((echM (joinM m n)).e.drop (i * (m.c + n.c) + m.c)).take (m.r * (m.c + n.c) - (i * (m.c + n.c) + m.c))).getD b 0 else solG (m.c + n.c) m.c (echM (joinM m n)).e (pivM (joinM m n)) i a b) = tab2 m.c n.c (solG (m.c + n.c) m.c (echM (joinM m n)).e (pivM (joinM m n)) (i + 1)) := by
        refine tab2_congr fun a b _ hb => ?_
        show _ = if a = (pivM (joinM m n)).getD i 0 then ent (m.c + n.c) (echM (joinM m n)).e i (m.c + b) else _
        split
        · simp only [ent, List.getD, List.getElem?_take, List.getElem?_drop]
          rw [if_pos (by omega), Nat.add_assoc]
        · rfl
      rw [e] at hO'
      (repeat' (first | refine JC.ops ?_ | refine JO.nil ?_ | refine JX.thenN ?_ | (apply r_move; exact rfl; exact rfl; exact rfl) | (apply r_add1; exact rfl; exact rfl; exact rfl; exact rfl; omega) | refine JX.blockN ?_))
      exact JX.roundH (i + 1, N') ⟨by dsimp only; omega, hO', fun t ht => by
        dsimp only at ht
        by_cases h : t = i
        · subst h; exact hlt
        · exact hall t (by omega)⟩ (by dsimp only; omega) (by repeat first | exact trivial | refine ⟨rfl, ?_⟩) (by (first | exact HSub.refl _ | (repeat' first | exact HSub.nil _ | exact HSub.refl _ | refine HSub.at 0 rfl ?_ | refine HSub.at 1 rfl ?_ | refine HSub.at 2 rfl ?_ | refine HSub.at 3 rfl ?_ | refine HSub.at 4 rfl ?_ | refine HSub.at 5 rfl ?_ | refine HSub.at 6 rfl ?_ | refine HSub.at 7 rfl ?_)))
    · (repeat' (first | refine JC.seq ?_ | refine JC.ops ?_ | refine JO.nil ?_ | refine JX.thenN ?_ | (apply r_move; exact rfl; exact rfl; exact rfl) | (apply r_fieldAddr; exact rfl; exact rfl; exact rfl) | (apply r_assign; exact rfl; exact rfl; exact rfl) | (apply r_load; exact rfl; exact rfl; exact rfl; exact rfl; (first | exact at0 | exact at1 | exact at2 | exact at3 | exact at4 | exact at5 | exact at6 | exact at7); exact rfl) | (apply r_idxN; exact rfl; exact rfl; exact rfl; exact rfl; (first | assumption | exact WN.rd (by assumption) rfl [] | exact OwnN.rd (by assumption)); (first | assumption | omega)) | (apply r_ldN; exact rfl; exact rfl; exact rfl; exact rfl; (first | assumption | exact WN.rd (by assumption) rfl [] | exact OwnN.rd (by assumption)); (repeat' first | exact HSub.nil _ | exact HSub.hd | exact HSub.in0 | exact HSub.refl _ | refine HSub.skip ?_ | refine HSub.skipN ?_); (first | assumption | omega)) | (apply r_lss; exact rfl; exact rfl; exact rfl; exact rfl; all_goals intro hc; all_goals try (exfalso; omega)) | (apply r_geq; exact rfl; exact rfl; exact rfl; exact rfl; all_goals intro hc; all_goals try (exfalso; omega)) | (apply r_buildL; exact rfl; exact rfl; exact rfl; exact rfl; exact rfl) | (apply r_storeN; exact rfl; (first | exact trivial | exact ⟨rfl, rfl⟩); exact rfl; exact rfl; (first | exact at0 | exact at1 | exact at2 | exact at3 | exact at4 | exact at5 | exact at6 | exact at7); exact rfl; exact rfl; exact rfl) | refine JX.thenR ?_ | refine JC.skip ?_ | refine JC.ret ?_ | refine JC.condT rfl ?_ | refine JC.block ?_ | refine JX.blockR ?_))
      refine JX.retCT 2 rfl rfl rfl rfl (fun a w' st => ⟨st.kp, ?_⟩)
      unfold solM
      rw [if_neg (fun h => hlt (h _ (mem_getD hil)))]
      rfl
  · (repeat' (first | refine JC.seq ?_ | refine JC.ops ?_ | refine JO.nil ?_ | refine JX.thenN ?_ | (apply r_assign; exact rfl; exact rfl; exact rfl) | (apply r_loadN; exact rfl; exact rfl; exact rfl; exact rfl; (first | exact at0 | exact at1 | exact at2 | exact at3 | exact at4 | exact at5 | exact at6 | exact at7); exact rfl) | (apply r_lss; exact rfl; exact rfl; exact rfl; exact rfl; all_goals intro hc; all_goals try (exfalso; omega)) | (apply r_storeN; exact rfl; (first | exact trivial | exact ⟨rfl, rfl⟩); exact rfl; exact rfl; (first | exact at0 | exact at1 | exact at2 | exact at3 | exact at4 | exact at5 | exact at6 | exact at7); exact rfl; exact rfl; exact rfl) | refine JX.thenE ?_ | refine JC.exit ?_ | refine JC.ret ?_ | refine JC.condF rfl ?_ | refine JX.blockE ?_))
    refine JX.retCT 2 rfl rfl rfl rfl (fun a w' st => ⟨st.kp, ?_⟩)
    have hii : i = (pivM (joinM m n)).length := by omega
    subst hii
    unfold solM
    rw [if_pos (fun y hy => by
      obtain ⟨t, ht, rfl⟩ := List.mem_iff_getElem.1 hy
      have := hall t ht
      simpa only [List.getD, List.getElem?_eq_getElem ht, Option.getD_some] using this)]
    exact ⟨N8, _, rfl, st.newOf rfl (by (repeat' first | exact HSub.nil _ | exact HSub.hd | exact HSub.in0 | exact HSub.refl _ | refine HSub.skip ?_ | refine HSub.skipN ?_)), OwnM.mk' hO⟩

end Go.Proofs.Ytdoogoglfbohaaa
