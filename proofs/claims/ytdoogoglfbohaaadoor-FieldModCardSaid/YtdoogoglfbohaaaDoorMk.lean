import Derived.Test.YtdoogoglfbohaaaDoorMj
import Derived.Test.YtdoogoglfbohaaaDoorMg
import Derived.Test.YtdoogoglfbohaaaDoorMi
import Derived.Test.YtdoogoglfbohaaaDoorMf
import Derived.Test.YtdoogoglfbohaaaDoorMh
namespace Go.Proofs.YtdoogoglfbohaaaDoor
open Go
set_option linter.unusedSimpArgs false
set_option linter.unusedVariables false
set_option linter.unusedSectionVars false

end Go.Proofs.YtdoogoglfbohaaaDoor

namespace Go.Proofs.YtdoogoglfbohaaaDoor
open Go Go.RowKit
set_option linter.unusedSimpArgs false
set_option linter.unusedVariables false
set_option linter.unusedSectionVars false


structure UnI (n k : Nat) (M : Mi) : Prop where
  dt : (det n M).natAbs = 1
  bd : ∀ a b, a < n → b < n → (M a b).natAbs ≤ 4 ^ k
section
variable {c : Cx} {Q : Exit → Act → World → Prop} {m : Mode} {F : SFrame} {H : SHeap} {r : List SOp} {g : Option (Option Tmp × Bool)} {ns : Bool} {d : Tmp} {ty t t' : TypeId} {x y : Operand}
end






structure BX (i : Nat) (a : XM) : Prop where
  r : -(6 + i : Int) ≤ a.R ∧ a.R ≤ 6 + i
  c : (-(6 + i : Int) ≤ a.C ∧ a.C ≤ 6 + i) ∨ (4611686018427387904 - (i : Int) ≤ a.C ∧ a.C ≤ 4611686018427387904 + i) ∨ (-4611686018427387904 - (i : Int) ≤ a.C ∧ a.C ≤ -4611686018427387904 + i)
  l : a.E.length ≤ 36 + i
  e : ∀ x ∈ a.E, x.2.length ≤ 8 + i
theorem mem_set_or {α : Type} {l : List α} {i : Nat} {x y : α} (h : y ∈ l.set i x) : y ∈ l ∨ y = x := by
  rcases List.mem_or_eq_of_mem_set h with h | h
  · exact .inl h
  · exact .inr h
theorem BX.up {i : Nat} {a : XM} (h : BX i a) : BX (i + 1) a :=
  ⟨⟨by have := h.r; omega, by have := h.r; omega⟩, by have := h.c; omega, by have := h.l; omega, fun x hx => by have := h.e x hx; omega⟩
theorem BX.rc {i : Nat} {a : XM} {R C : Int} (h : BX i a) (hR : -(7 + i : Int) ≤ R ∧ R ≤ 7 + i) (hC : (-(7 + i : Int) ≤ C ∧ C ≤ 7 + i) ∨ (4611686018427387903 - (i : Int) ≤ C ∧ C ≤ 4611686018427387905 + i) ∨ (-4611686018427387905 - (i : Int) ≤ C ∧ C ≤ -4611686018427387903 + i)) : BX (i + 1) ⟨R, C, a.E⟩ :=
  ⟨⟨by dsimp only; omega, by dsimp only; omega⟩, by dsimp only; omega, by have := h.l; dsimp only; omega, h.up.e⟩
theorem BX.app {i : Nat} {a : XM} {q : Int} (h : BX i a) (hq : -9223372036854775808 ≤ q ∧ q < 9223372036854775808) : BX (i + 1) ⟨a.R, a.C, a.E ++ [wz q]⟩ := by
  refine ⟨h.up.r, h.up.c, by have := h.l; simp only [List.length_append, List.length_singleton]; omega, fun x hx => ?_⟩
  rcases List.mem_append.1 hx with hx | hx
  · exact h.up.e x hx
  · obtain rfl := List.mem_singleton.1 hx
    have h5 : q.natAbs < 256 ^ 8 := by
      have : (256 : Nat) ^ 8 = 18446744073709551616 := by decide
      omega
    have h6 : (wz q).2.length ≤ 8 := magU_len h5
    omega
theorem BX.set {i k : Nat} {a : XM} {x : WR} (h : BX i a) (hx : x.2.length ≤ 9 + i) : BX (i + 1) ⟨a.R, a.C, a.E.set k x⟩ := by
  refine ⟨h.up.r, h.up.c, by have := h.l; simp only [List.length_set]; omega, fun y hy => ?_⟩
  rcases mem_set_or hy with hy | rfl
  · exact h.up.e y hy
  · omega
theorem BX.elt {i k : Nat} {a : XM} (h : BX i a) : (a.E.getD k w0x).2.length ≤ 8 + i := by
  rcases Nat.lt_or_ge k a.E.length with hk | hk
  · have h5 := h.e _ (List.getElem_mem hk)
    rw [List.getD, List.getElem?_eq_getElem hk]
    exact h5
  · rw [List.getD, List.getElem?_eq_none hk]
    exact Nat.zero_le _
theorem IsX.m {w : World} {v : Value} {m : ZM} (h : IsX w v m.xm) : IsM w v m := by
  obtain ⟨E, rfl, h⟩ := h
  exact ⟨E, rfl, by unfold WZ; simpa [ZM.xm] using h⟩
theorem BX.zero {m : ZM} (hr : m.r ≤ 6) (hc : m.c ≤ 6) (hm : RtZ m) (hb : BdZ 8 m) : BX 0 m.xm := by
  refine ⟨⟨?_, ?_⟩, .inl ⟨?_, ?_⟩, ?_, fun x hx => ?_⟩
  · show -(6 + ((0 : Nat) : Int)) ≤ (m.r : Int); omega
  · show (m.r : Int) ≤ 6 + ((0 : Nat) : Int); omega
  · show -(6 + ((0 : Nat) : Int)) ≤ (m.c : Int); omega
  · show (m.c : Int) ≤ 6 + ((0 : Nat) : Int); omega
  · show (m.e.map wz).length ≤ _
    rw [List.length_map, hm.len]
    exact Nat.mul_le_mul hr hc
  · have hx : x ∈ m.e.map wz := hx
    obtain ⟨z, hz, rfl⟩ := List.mem_map.1 hx
    obtain ⟨i, hi, rfl⟩ := List.mem_iff_getElem.1 hz
    have h1 := hb i
    rw [List.getD, List.getElem?_eq_getElem hi] at h1
    exact magU_len h1
theorem BX.len {i : Nat} {a : XM} (h : BX i a) (hi : i ≤ 2) : a.E.length < 1000000000 := by have := h.l; omega



def OwnXM (N : SHeap) (v : Value) (a : XM) : Prop := ∃ E, v = .agg #[iv a.R, iv a.C, E] ∧ OwnX N E a.E.length a.E
theorem own_nilX (b : Nat) : OwnX [(b, .cells #[] 56)] (.slice (some ⟨b, 0, none⟩) 0 0) 0 [] := by
  have := OwnRow.mk' (e := 56) (sz := 2) (n := 0) (b := b) (cs := #[]) rfl (by simp only [maxLen]; omega)
  exact this

theorem own_oneX (b : Nat) (x : WR) : OwnX [(b, .cells ⟨[.bool x.1, sv x.2]⟩ 56)] (.slice (some ⟨b, 0, none⟩) 1 1) 1 [x] := by
  have h := OwnRow.mk' (e := 56) (sz := 2) (n := 1) (b := b) (cs := ⟨[.bool x.1, sv x.2]⟩) (by simp) (by simp only [maxLen]; omega)
  exact h
section
variable {c : Cx} {Q : Exit → Act → World → Prop} {m : Mode} {F : SFrame} {H : SHeap} {r : List SOp} {g : Option (Option Tmp × Bool)} {ns : Bool} {d : Tmp} {ty t : TypeId} {x : Operand}
theorem r_negB {i : Int} (hd : dstOk c.n (some d) = true) (hg : guardF F g = some true) (hx : ev F x = some (iv i)) (hb : -9223372036854775808 < i ∧ i ≤ 9223372036854775807)
    (h : JO c Q m r ((d, iv (-i)) :: F) H) : JO c Q m (⟨some d, .unOp .neg t x, ty, g, .mov, ns⟩ :: r) F H :=
  r_mov (v := iv (-i)) hd hg (fun a w fr => by
    have e : IntKind.i64.wrap (0 - i) = -i := by rw [in64 (by omega)]; omega
    simp [execOp, fr.ev hx, Op.unary, Op.intArith, iv] at e ⊢
    simp [e]) h
end

theorem HSub.rot3 {N : SHeap} {x y z : Nat × Obj} : HSub (x :: y :: z :: (N ++ [])) (N ++ [x, y, z]) := ⟨[], by
  have : (N ++ [x, y, z]).Perm ([x, y, z] ++ N) := List.perm_append_comm
  simpa using this⟩

set_option maxHeartbeats 16000000 in
theorem c_Bent (w : World) (v : Value) (i : Nat) (a : XM) (p q : Int) (hp : I64 p) (hq : I64 q) (hB : BX i a) (hi : i ≤ 1) (ha : IsX w v a) :
    Calls Tryd.prog 21 #[v, .agg #[iv p, iv q]] w (Ret fun v w' => Kp [] w w' ∧ ∃ b, BX (i + 1) b ∧ ∃ N, New N w w' ∧ OwnXM N v b) := by
  obtain ⟨E, rfl, hE⟩ := ha
  have hr := hB.r
  have hc0 := hB.c
  have hl := hB.l
  unfold I64 at hp hq
  refine calls_of_S [⟨1, 1, [0, 1, 2, 3, 5, 6, 4, 7, 8, 9, 10], []⟩, ⟨9, 2, [], []⟩, ⟨15, 2, [], []⟩] [] (by simp) [] Tryd.func21 rfl mixed (by kernel_rfl) Tryd.ntmps21 Tryd.results21 rfl ⟨by simp, by simp⟩ (by simp) ?_
  simp only [toS, textOps, toSOp, kindAt, kindOf, odAt, sopsAt, ordOf, zipF]
  have hRE := WX.rd (c := ⟨Tryd.prog, 97, w, [], by simp⟩) hE rfl []
  (repeat' (first | refine JC.seq ?_ | refine JC.ops ?_ | refine JO.nil ?_ | refine JX.thenN ?_ | (apply r_allocZ; (iterate 3 exact rfl); intro _) | (apply r_boxA; (iterate 4 exact rfl); intro _)))
  rename_i b2 b3 b4
  refine JC.opsDs [(b2, .cells #[iv a.R, iv a.C, E] 36)] (by (first | exact HSub.refl _ | (repeat' first | exact HSub.nil _ | exact HSub.refl _ | refine HSub.at 0 rfl ?_ | refine HSub.at 1 rfl ?_ | refine HSub.at 2 rfl ?_ | refine HSub.at 3 rfl ?_ | refine HSub.at 4 rfl ?_ | refine HSub.at 5 rfl ?_ | refine HSub.at 6 rfl ?_ | refine HSub.at 7 rfl ?_))) ?_
  (repeat' (first | (apply r_fieldAddr; (iterate 3 exact rfl)) | (apply r_load; (iterate 4 exact rfl); exact at0; exact rfl)))
  refine r_buildSlice0 rfl rfl rfl (fun b => ?_)
  skip
  have hO := own_nilX b
  refine r_appendXL (A := []) hO hRE (by (repeat' first | exact HSub.nil _ | exact HSub.hd | exact HSub.in0 | exact HSub.refl _ | refine HSub.skip ?_ | refine HSub.skipN ?_)) rfl (by (first | exact HSub.refl _ | (repeat' first | exact HSub.nil _ | exact HSub.refl _ | refine HSub.at 0 rfl ?_ | refine HSub.at 1 rfl ?_ | refine HSub.at 2 rfl ?_ | refine HSub.at 3 rfl ?_ | refine HSub.at 4 rfl ?_ | refine HSub.at 5 rfl ?_ | refine HSub.at 6 rfl ?_ | refine HSub.at 7 rfl ?_))) rfl rfl rfl rfl (by omega) (fun v6 N hO6 => ?_)
  rw [Nat.zero_add, List.nil_append] at hO6
  obtain ⟨A6, c6, rfl⟩ := hO6.form
  (repeat' (first | refine JO.nil ?_ | (apply r_storeN; exact rfl; (first | exact trivial | exact ⟨rfl, rfl⟩); exact rfl; exact rfl; exact at0; (iterate 3 exact rfl)) | (apply r_allocZ; (iterate 3 exact rfl); intro _) | (apply r_buildL; (iterate 5 exact rfl)) | (apply r_storeN; exact rfl; (first | exact trivial | exact ⟨rfl, rfl⟩); exact rfl; exact rfl; exact at0; (iterate 3 exact rfl))))
  rename_i b5
  generalize hn : a.E.length = n at *
  clear hO hE
  refine JX.part (F' := [(5, .pointer (some ⟨b5, 0, none⟩)), (4, .pointer (some ⟨b4, 0, none⟩)), (3, .pointer (some ⟨b3, 0, none⟩)), (2, .pointer (some ⟨b2, 0, none⟩))]) (H' := [(b5, .cells #[iv a.R, iv a.C, .slice A6 n c6] 36), (b4, .cells #[iv 0, iv 0, .slice none 0 0] 36), (b3, .cells #[iv p, iv q] 46), (b2, .cells #[iv a.R, iv a.C, E] 36)] ++ (N ++ [])) (by repeat first | exact trivial | refine ⟨rfl, ?_⟩) (HSub.at 0 rfl HSub.rot3) ?_
  refine JX.thenN ?_
  refine JC.seq ?_
  refine JC.ops ?_
  refine r_idxArr (j := 1) rfl rfl rfl rfl (by omega) ?_
  (repeat' (first | (apply r_fieldAddr; (iterate 3 exact rfl)) | (apply r_load; (iterate 4 exact rfl); (first | exact at2 | exact at3); exact rfl) | (apply r_lenX; (iterate 3 exact rfl); (first | assumption | exact WX.rd (by assumption) rfl [] | exact OwnX.rd (by assumption))) | (apply r_max; (iterate 4 exact rfl))))
  have hmx : (if (n : Int) < 1 then (1 : Int) else n) = ((max n 1 : Nat) : Int) := by split <;> omega
  rw [hmx]
  refine r_call0 (by first | trivial | exact ⟨rfl, rfl⟩) rfl (by first | rfl | exact ⟨rfl, rfl⟩) rfl (fun w hk hs => c_Mod w q (max n 1) (by omega) (by omega)) fun w v w' _ _ _ hR => ?_
  obtain ⟨rfl, hK⟩ := hR
  generalize hKq : (q % ((max n 1 : Nat) : Int)).toNat = K at hK
  (repeat' (first | refine JC.seq ?_ | refine JC.ops ?_ | refine JO.nil ?_ | refine JX.thenN ?_ | (apply r_assign; (iterate 3 exact rfl))))
  refine r_idxArr (j := 0) rfl rfl rfl rfl (by omega) ?_
  (repeat' (first | (apply r_load; (iterate 4 exact rfl); exact at2; exact rfl)))
  refine r_call0 (by first | trivial | exact ⟨rfl, rfl⟩) rfl (by first | rfl | exact ⟨rfl, rfl⟩) rfl (fun w hk hs => c_Mod w p 8 (by omega) (by omega)) fun w v w' _ _ _ hR => ?_
  obtain ⟨rfl, hJ⟩ := hR
  generalize (p % ((8 : Nat) : Int)).toNat = J at hJ
  (repeat' (first | refine JC.seq ?_ | refine JC.ops ?_ | refine JO.nil ?_ | refine JX.thenN ?_ | (apply r_move; (iterate 3 exact rfl)) | (apply r_fieldAddr; (iterate 3 exact rfl)) | (apply r_assign; (iterate 3 exact rfl)) | (apply r_load; (iterate 4 exact rfl); (first | exact at0 | exact at1); exact rfl) | (apply r_loadN; (iterate 4 exact rfl); (first | exact at0 | exact at1); exact rfl) | (apply r_lenX; (iterate 3 exact rfl); (first | assumption | exact WX.rd (by assumption) rfl [] | exact OwnX.rd (by assumption))) | (apply r_add; (iterate 4 exact rfl); omega) | (apply r_sub; (iterate 4 exact rfl); omega) | (apply r_storeN; exact rfl; (first | exact trivial | exact ⟨rfl, rfl⟩); exact rfl; exact rfl; (first | exact at0 | exact at1); (iterate 3 exact rfl)) | (apply r_gtr; (iterate 4 exact rfl); all_goals intro hc; all_goals try (exfalso; omega)) | (apply r_eql; (iterate 4 exact rfl); all_goals intro hc; all_goals try (exfalso; omega)) | (apply r_storeN; exact rfl; (first | exact trivial | exact ⟨rfl, rfl⟩); exact rfl; exact rfl; (first | exact at0 | exact at1); (iterate 3 exact rfl)) | (apply r_store; exact rfl; (first | exact trivial | exact ⟨rfl, rfl⟩); exact rfl; exact rfl; (first | exact at0 | exact at1); exact rfl; exact rfl; (first | exact Nat.le_of_ble_eq_true rfl | (simp; done) | omega)) | refine JC.skip ?_ | refine JC.ret ?_ | refine JC.condT rfl ?_ | refine JC.condF rfl ?_ | refine JC.block ?_ | refine JX.blockN ?_))
  · exact JX.retC 1 rfl rfl rfl (fun a' w' st => ⟨st.kp, ⟨a.R + 1, a.C, a.E⟩, hB.rc (by omega) (by omega), N, st.newOf rfl (by (repeat' first | exact HSub.nil _ | exact HSub.hd | exact HSub.in0 | exact HSub.refl _ | refine HSub.skip ?_ | refine HSub.skipN ?_)), _, rfl, by dsimp only; rw [hn]; exact hO6⟩)
  · exact JX.retC 1 rfl rfl rfl (fun a' w' st => ⟨st.kp, ⟨a.R, a.C - 1, a.E⟩, hB.rc (by omega) (by omega), N, st.newOf rfl (by (repeat' first | exact HSub.nil _ | exact HSub.hd | exact HSub.in0 | exact HSub.refl _ | refine HSub.skip ?_ | refine HSub.skipN ?_)), _, rfl, by dsimp only; rw [hn]; exact hO6⟩)
  · refine JC.opsDs [(b5, .cells #[iv a.R, iv a.C, .slice A6 n c6] 36), (b3, .cells #[iv p, iv q] 46)] (by (first | exact HSub.refl _ | (repeat' first | exact HSub.nil _ | exact HSub.refl _ | refine HSub.at 0 rfl ?_ | refine HSub.at 1 rfl ?_ | refine HSub.at 2 rfl ?_ | refine HSub.at 3 rfl ?_ | refine HSub.at 4 rfl ?_ | refine HSub.at 5 rfl ?_ | refine HSub.at 6 rfl ?_ | refine HSub.at 7 rfl ?_))) ?_
    (repeat' (first | (apply r_fieldAddr; (iterate 3 exact rfl)) | (apply r_load; (iterate 4 exact rfl); exact at0; exact rfl)))
    refine r_idxArr (j := 1) rfl rfl rfl rfl (by omega) ?_
    (repeat' (first | (apply r_load; (iterate 4 exact rfl); exact at1; exact rfl)))
    refine r_call0 (by first | trivial | exact ⟨rfl, rfl⟩) rfl (by first | rfl | exact ⟨rfl, rfl⟩) rfl (fun w _ _ => c_FromR w q hq.1 hq.2) fun w v w' _ _ _ hR => ?_
    subst hR
    skip
    refine r_buildG (sz := 2) (vs := [Wv q]) (cl := [.bool (wz q).1, sv (wz q).2]) rfl rfl (by first | rfl | trivial | exact ⟨rfl, rfl⟩) rfl rfl (fun v hv => by
      cases List.mem_singleton.1 hv; rfl) rfl (by decide) (by decide) (fun b6 => ?_)
    have h1 := own_oneX b6 (wz q)
    skip
    refine r_appendXL (A := [_, _, _, _, _]) hO6 h1.rd (by (repeat' first | exact HSub.nil _ | exact HSub.hd | exact HSub.in0 | exact HSub.refl _ | refine HSub.skip ?_ | refine HSub.skipN ?_)) rfl (by (first | exact HSub.refl _ | (repeat' first | exact HSub.nil _ | exact HSub.refl _ | refine HSub.at 0 rfl ?_ | refine HSub.at 1 rfl ?_ | refine HSub.at 2 rfl ?_ | refine HSub.at 3 rfl ?_ | refine HSub.at 4 rfl ?_ | refine HSub.at 5 rfl ?_ | refine HSub.at 6 rfl ?_ | refine HSub.at 7 rfl ?_))) rfl rfl rfl rfl (by omega) (fun v8 N8 hO8 => ?_)
    obtain ⟨A8, c8, rfl⟩ := hO8.form
    (repeat' (first | refine JC.seq ?_ | refine JC.ops ?_ | refine JO.nil ?_ | refine JX.thenN ?_ | (apply r_fieldAddr; (iterate 3 exact rfl)) | (apply r_loadN; (iterate 4 exact rfl); (first | exact at1 | exact at2); exact rfl) | (apply r_storeN; exact rfl; (first | exact trivial | exact ⟨rfl, rfl⟩); exact rfl; exact rfl; (first | exact at1 | exact at2); (iterate 3 exact rfl)) | (apply r_storeN; exact rfl; (first | exact trivial | exact ⟨rfl, rfl⟩); exact rfl; exact rfl; (first | exact at1 | exact at2); (iterate 3 exact rfl)) | (apply r_store; exact rfl; (first | exact trivial | exact ⟨rfl, rfl⟩); exact rfl; exact rfl; (first | exact at1 | exact at2); exact rfl; exact rfl; (first | exact Nat.le_of_ble_eq_true rfl | (simp; done) | omega)) | refine JC.ret ?_ | refine JX.blockN ?_))
    exact JX.retC 2 rfl rfl rfl (fun a' w' st => ⟨st.kp, ⟨a.R, a.C, a.E ++ [wz q]⟩, hB.app hq, N8, st.newOf rfl (by (repeat' first | exact HSub.nil _ | exact HSub.hd | exact HSub.in0 | exact HSub.refl _ | refine HSub.skip ?_ | refine HSub.skipN ?_)), _, rfl, by simp only [List.length_append, List.length_singleton, hn]; exact hO8⟩)
  · refine r_negB rfl rfl rfl (by omega) ?_
    (repeat' (first | refine JC.ops ?_ | refine JO.nil ?_ | refine JX.thenN ?_ | (apply r_fieldAddr; (iterate 3 exact rfl)) | (apply r_load; (iterate 4 exact rfl); exact at0; exact rfl) | (apply r_store; exact rfl; (first | exact trivial | exact ⟨rfl, rfl⟩); exact rfl; exact rfl; exact at0; exact rfl; exact rfl; (first | exact Nat.le_of_ble_eq_true rfl | (simp; done) | omega))))
    refine r_negB rfl rfl rfl (by omega) ?_
    (repeat' (first | refine JC.seq ?_ | refine JC.ops ?_ | refine JO.nil ?_ | refine JX.thenN ?_ | (apply r_fieldAddr; (iterate 3 exact rfl)) | (apply r_loadN; (iterate 4 exact rfl); (first | exact at0 | exact at1); exact rfl) | (apply r_storeN; exact rfl; (first | exact trivial | exact ⟨rfl, rfl⟩); exact rfl; exact rfl; (first | exact at0 | exact at1); (iterate 3 exact rfl)) | (apply r_storeN; exact rfl; (first | exact trivial | exact ⟨rfl, rfl⟩); exact rfl; exact rfl; (first | exact at0 | exact at1); (iterate 3 exact rfl)) | (apply r_store; exact rfl; (first | exact trivial | exact ⟨rfl, rfl⟩); exact rfl; exact rfl; (first | exact at0 | exact at1); exact rfl; exact rfl; (first | exact Nat.le_of_ble_eq_true rfl | (simp; done) | omega)) | refine JC.ret ?_ | refine JX.blockN ?_))
    exact JX.retC 1 rfl rfl rfl (fun a' w' st => ⟨st.kp, ⟨-a.R, -a.C, a.E⟩, hB.rc (by omega) (by omega), N, st.newOf rfl (by (repeat' first | exact HSub.nil _ | exact HSub.hd | exact HSub.in0 | exact HSub.refl _ | refine HSub.skip ?_ | refine HSub.skipN ?_)), _, rfl, by dsimp only; rw [hn]; exact hO6⟩)
  · have hel := hB.elt (k := K)
    (repeat' (first | refine JC.opsD ?_ | (apply r_move; (iterate 3 exact rfl)) | (apply r_fieldAddr; (iterate 3 exact rfl)) | (apply r_load; (iterate 4 exact rfl); exact at0; exact rfl) | (apply r_idxX; (iterate 4 exact rfl); (first | assumption | exact WX.rd (by assumption) rfl [] | exact OwnX.rd (by assumption)); (first | assumption | omega)) | (apply r_ldXm; (iterate 4 exact rfl); (first | assumption | exact WX.rd (by assumption) rfl [] | exact OwnX.rd (by assumption)); (repeat' first | exact HSub.nil _ | exact HSub.hd | exact HSub.in0 | exact HSub.refl _ | refine HSub.skip ?_ | refine HSub.skipN ?_); (first | assumption | omega)) | (apply r_ldXs; (iterate 4 exact rfl); (first | assumption | exact WX.rd (by assumption) rfl [] | exact OwnX.rd (by assumption)); (repeat' first | exact HSub.nil _ | exact HSub.hd | exact HSub.in0 | exact HSub.refl _ | refine HSub.skip ?_ | refine HSub.skipN ?_); (first | assumption | omega)) | (apply r_fieldX; (iterate 3 exact rfl); (first | assumption | exact WX.rd (by assumption) rfl [] | exact OwnX.rd (by assumption)); omega)))
    refine r_addS (l := [0]) rfl rfl rfl rfl (by simp only [List.length_singleton]; omega) ?_
    (repeat' (first | (apply r_idxX; (iterate 4 exact rfl); (first | assumption | exact WX.rd (by assumption) rfl [] | exact OwnX.rd (by assumption)); (first | assumption | omega)) | (apply r_buildL; (iterate 5 exact rfl))))
    refine r_stX (A := [_, _, _, _]) (u := ((a.E.getD K w0x).1, 0 :: (a.E.getD K w0x).2)) hO6 rfl rfl (by first | trivial | exact ⟨rfl, rfl⟩) rfl rfl (by omega) (fun N8 hO8 => ?_)
    (repeat' (first | refine JC.seq ?_ | refine JC.ops ?_ | refine JO.nil ?_ | refine JX.thenN ?_ | (apply r_loadN; (iterate 4 exact rfl); (first | exact at0 | exact at1); exact rfl) | (apply r_storeN; exact rfl; (first | exact trivial | exact ⟨rfl, rfl⟩); exact rfl; exact rfl; (first | exact at0 | exact at1); (iterate 3 exact rfl)) | (apply r_storeN; exact rfl; (first | exact trivial | exact ⟨rfl, rfl⟩); exact rfl; exact rfl; (first | exact at0 | exact at1); (iterate 3 exact rfl)) | refine JC.ret ?_ | refine JX.blockN ?_))
    exact JX.retC 1 rfl rfl rfl (fun a' w' st => ⟨st.kp, ⟨a.R, a.C, a.E.set K ((a.E.getD K w0x).1, 0 :: (a.E.getD K w0x).2)⟩, hB.set (by simp only [List.length_cons]; omega), N8, st.newOf rfl (by (repeat' first | exact HSub.nil _ | exact HSub.hd | exact HSub.in0 | exact HSub.refl _ | refine HSub.skip ?_ | refine HSub.skipN ?_)), _, rfl, by simp only [List.length_set, hn]; exact hO8⟩)
  · exact JX.retC 1 rfl rfl rfl (fun a' w' st => ⟨st.kp, ⟨a.R, a.C, a.E⟩, hB.up, N, st.newOf rfl (by (repeat' first | exact HSub.nil _ | exact HSub.hd | exact HSub.in0 | exact HSub.refl _ | refine HSub.skip ?_ | refine HSub.skipN ?_)), _, rfl, by dsimp only; rw [hn]; exact hO6⟩)
  · refine r_build (l := [(0, .bool true)]) (cs := #[.bool true, .string ⟨#[]⟩]) rfl rfl rfl rfl ?_
    (repeat' (first | (apply r_idxX; (iterate 4 exact rfl); (first | assumption | exact WX.rd (by assumption) rfl [] | exact OwnX.rd (by assumption)); (first | assumption | omega))))
    refine r_stX (A := [_, _, _, _]) (u := (true, [])) hO6 rfl rfl (by first | trivial | exact ⟨rfl, rfl⟩) rfl rfl (by omega) (fun N8 hO8 => ?_)
    (repeat' (first | refine JC.seq ?_ | refine JC.ops ?_ | refine JO.nil ?_ | refine JX.thenN ?_ | (apply r_loadN; (iterate 4 exact rfl); (first | exact at0 | exact at1); exact rfl) | (apply r_storeN; exact rfl; (first | exact trivial | exact ⟨rfl, rfl⟩); exact rfl; exact rfl; (first | exact at0 | exact at1); (iterate 3 exact rfl)) | (apply r_storeN; exact rfl; (first | exact trivial | exact ⟨rfl, rfl⟩); exact rfl; exact rfl; (first | exact at0 | exact at1); (iterate 3 exact rfl)) | refine JC.ret ?_ | refine JX.blockN ?_))
    exact JX.retC 1 rfl rfl rfl (fun a' w' st => ⟨st.kp, ⟨a.R, a.C, a.E.set K (true, [])⟩, hB.set (by simp only [List.length_nil]; omega), N8, st.newOf rfl (by (repeat' first | exact HSub.nil _ | exact HSub.hd | exact HSub.in0 | exact HSub.refl _ | refine HSub.skip ?_ | refine HSub.skipN ?_)), _, rfl, by simp only [List.length_set, hn]; exact hO8⟩)
  · exact JX.retC 1 rfl rfl rfl (fun a' w' st => ⟨st.kp, ⟨a.R, a.C, a.E⟩, hB.up, N, st.newOf rfl (by (repeat' first | exact HSub.nil _ | exact HSub.hd | exact HSub.in0 | exact HSub.refl _ | refine HSub.skip ?_ | refine HSub.skipN ?_)), _, rfl, by dsimp only; rw [hn]; exact hO6⟩)
  · exact JX.retC 1 rfl rfl rfl (fun a' w' st => ⟨st.kp, ⟨a.R, 4611686018427387904, a.E⟩, hB.rc (by omega) (by omega), N, st.newOf rfl (by (repeat' first | exact HSub.nil _ | exact HSub.hd | exact HSub.in0 | exact HSub.refl _ | refine HSub.skip ?_ | refine HSub.skipN ?_)), _, rfl, by dsimp only; rw [hn]; exact hO6⟩)
  · exact JX.retC 1 rfl rfl rfl (fun a' w' st => ⟨st.kp, ⟨a.R, a.C, a.E⟩, hB.up, N, st.newOf rfl (by (repeat' first | exact HSub.nil _ | exact HSub.hd | exact HSub.in0 | exact HSub.refl _ | refine HSub.skip ?_ | refine HSub.skipN ?_)), _, rfl, by dsimp only; rw [hn]; exact hO6⟩)


theorem run_buildA {P : Program} {t e : TypeId} {n s : Nat} {zc cs : Array Value} {parts : Array (Nat × Value)} [hA : TAr P t n e] [hS : TSz P e s] [hZ : TZ0 P t zc] (hc : Instr.fill (fun i => some (i * s, s)) zc parts.toList = some cs) (w : World) :
    (Instr.build t parts).run P w = .ok (.agg cs) w := by
  obtain ⟨z, hz, rfl⟩ := hZ
  have h2 : (zeroValue t).run P w = .ok z w := by
    unfold zeroValue typeInfo
    cases hi : P.info? t with
    | none => rw [hi] at hz; cases hz
    | some i => rw [hi] at hz; simp only [Option.bind_some] at hz; simp [hi, hz]
  simp only [Instr.build, Sem.run_bind, h2, Result.andThen_ok, run_underlying hA.und, hS.size, hc, Sem.run_pure]

theorem r_buildA {c : Cx} {Q : Exit → Act → World → Prop} {m : Mode} {F : SFrame} {H : SHeap} {r : List SOp} {g : Option (Option Tmp × Bool)} {ns : Bool} {d : Tmp} {ty t e : TypeId} {n s : Nat} {zc cs : Array Value} {parts : Array (Nat × Operand)} {l : List (Nat × Value)} [TAr c.P t n e] [TSz c.P e s] [TZ0 c.P t zc] (hd : dstOk c.n (some d) = true) (hg : guardF F g = some true)
    (hp : evParts F parts.toList = some l) (hc : Instr.fill (fun i => some (i * s, s)) zc l = some cs) (h : JO c Q m r ((d, (.agg cs)) :: F) H) : JO c Q m (⟨some d, .build t parts, ty, g, .mov, ns⟩ :: r) F H :=
  r_mov hd hg (fun a w fr => by
    have h1 : (parts.map fun (i, x) => (i, a.eval x)).toList = l := by rw [Array.toList_map]; exact evParts_map fr hp
    simp only [execOp, Sem.run_bind, run_buildA (P := c.P) (t := t) (cs := cs) (parts := parts.map fun (i, x) => (i, a.eval x)) (by rw [h1]; exact hc), Result.andThen_ok, Sem.run_pure]) h

end Go.Proofs.YtdoogoglfbohaaaDoor

