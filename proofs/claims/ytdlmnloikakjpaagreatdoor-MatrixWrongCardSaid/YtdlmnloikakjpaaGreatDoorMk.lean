import Derived.Test.YtdlmnloikakjpaaGreatDoorMj
namespace Go.Proofs.YtdlmnloikakjpaaGreatDoor
open Go Go.RowKit
set_option linter.unusedSimpArgs false
set_option linter.unusedVariables false
set_option linter.unusedSectionVars false

structure BX (i : Nat) (a : XM) : Prop where
 r : -(6 + i : Int) ≤ a.R ∧ a.R ≤ 6 + i
 c : (-(6 + i : Int) ≤ a.C ∧ a.C ≤ 6 + i) ∨ (4611686018427387904 - (i : Int) ≤ a.C ∧ a.C ≤ 4611686018427387904 + i) ∨ (-4611686018427387904 - (i : Int) ≤ a.C ∧ a.C ≤ -4611686018427387904 + i)
 l : a.E.length ≤ 36 + i
 e : ∀ x ∈ a.E, x.2.length ≤ 8 + i
theorem Qek {α : Type} {l : List α} {i : Nat} {x y : α} (h : y ∈ l.set i x) : y ∈ l ∨ y = x := by
 rcases List.mem_or_eq_of_mem_set h with h | h
 ·exact .inl h
 ·exact .inr h
theorem BX.up {i : Nat} {a : XM} (h : BX i a) : BX (i + 1) a :=
 ⟨⟨by have := h.r; omega, by have := h.r; omega⟩, by have := h.c; omega, by have := h.l; omega, fun x hx => by have := h.e x hx; omega⟩
theorem BX.rc {i : Nat} {a : XM} {R C : Int} (h : BX i a) (hR : -(7 + i : Int) ≤ R ∧ R ≤ 7 + i) (hC : (-(7 + i : Int) ≤ C ∧ C ≤ 7 + i) ∨ (4611686018427387903 - (i : Int) ≤ C ∧ C ≤ 4611686018427387905 + i) ∨ (-4611686018427387905 - (i : Int) ≤ C ∧ C ≤ -4611686018427387903 + i)) : BX (i + 1) ⟨R, C, a.E⟩ :=
 ⟨⟨by dsimp only; omega, by dsimp only; omega⟩, by dsimp only; omega, by have := h.l; dsimp only; omega, h.up.e⟩
theorem BX.app {i : Nat} {a : XM} {q : Int} (h : BX i a) (hq : -9223372036854775808 ≤ q ∧ q < 9223372036854775808) : BX (i + 1) ⟨a.R, a.C, a.E ++ [wz q]⟩ := by
 refine ⟨h.up.r, h.up.c, by have := h.l; simp only [List.length_append, List.length_singleton]; omega, fun x hx => ?_⟩
 rcases List.mem_append.1 hx with hx | hx
 ·exact h.up.e x hx
 ·obtain rfl := List.mem_singleton.1 hx
  have h5 : q.natAbs < 256 ^ 8 := by
   have : (256 : Nat) ^ 8 = 18446744073709551616 := by decide
   omega
  have h6 : (wz q).2.length ≤ 8 := Qan h5
  omega
theorem BX.set {i k : Nat} {a : XM} {x : WR} (h : BX i a) (hx : x.2.length ≤ 9 + i) : BX (i + 1) ⟨a.R, a.C, a.E.set k x⟩ := by
 refine ⟨h.up.r, h.up.c, by have := h.l; simp only [List.length_set]; omega, fun y hy => ?_⟩
 rcases Qek hy with hy | rfl
 ·exact h.up.e y hy
 ·omega
theorem BX.elt {i k : Nat} {a : XM} (h : BX i a) : (a.E.getD k w0x).2.length ≤ 8 + i := by
 rcases Nat.lt_or_ge k a.E.length with hk | hk
 ·have h5 := h.e _ (List.getElem_mem hk)
  rw [List.getD, List.getElem?_eq_getElem hk]
  exact h5
 ·rw [List.getD, List.getElem?_eq_none hk]
  exact Nat.zero_le _
theorem Qln {n k : Nat} (h : (magU n).length ≤ k) : n < 256 ^ k := by
 have h1 : bval (bts (magU n)) < 256 ^ (bts (magU n)).length := Qhc (fun x hx => by
  obtain ⟨y, _, rfl⟩ := List.mem_map.1 hx
  exact UInt8.toNat_lt y)
 rw [Q8o] at h1
 have h2 : (bts (magU n)).length ≤ k := by unfold bts; rw [List.length_map]; exact h
 exact Nat.lt_of_lt_of_le h1 (Nat.pow_le_pow_right (by decide) h2)
theorem Qea : RtZ zM := ⟨by decide, by decide, rfl⟩
theorem IsX.m {w : World} {v : Value} {m : ZM} (h : IsX w v m.xm) : IsM w v m := by
 obtain ⟨E, rfl, h⟩ := h
 exact ⟨E, rfl, by unfold WZ; simpa [ZM.xm] using h⟩
theorem BX.zero {m : ZM} (hr : m.r ≤ 6) (hc : m.c ≤ 6) (hm : RtZ m) (hb : BdZ 8 m) : BX 0 m.xm := by
 refine ⟨⟨?_, ?_⟩, .inl ⟨?_, ?_⟩, ?_, fun x hx => ?_⟩
 ·show -(6 + ((0 : Nat) : Int)) ≤ (m.r : Int); omega
 ·show (m.r : Int) ≤ 6 + ((0 : Nat) : Int); omega
 ·show -(6 + ((0 : Nat) : Int)) ≤ (m.c : Int); omega
 ·show (m.c : Int) ≤ 6 + ((0 : Nat) : Int); omega
 ·show (m.e.map wz).length ≤ _
  rw [List.length_map, hm.len]
  exact Nat.mul_le_mul hr hc
 ·have hx : x ∈ m.e.map wz := hx
  obtain ⟨z, hz, rfl⟩ := List.mem_map.1 hx
  obtain ⟨i, hi, rfl⟩ := List.mem_iff_getElem.1 hz
  have h1 := hb i
  rw [List.getD, List.getElem?_eq_getElem hi] at h1
  exact Qan h1
theorem BX.zm {a : XM} (h : BX 2 a) (hR : RX a) : ∃ m : ZM, RtZ m ∧ a = m.xm ∧ BdZ 10 m ∧ m.r ≤ 8 ∧ m.c ≤ 8 ∧ (m.r = m.c → m.r ≤ 6) := by
 obtain ⟨m, hm, rfl⟩ := hR
 have h1 : (m.r : Int) ≤ 8 := h.r.2
 have h2 : m.c ≤ 200 := hm.c
 have h3 : (m.c : Int) ≤ 8 := by have h5 := h.c; have h6 : (m.xm.C : Int) = m.c := rfl; omega
 have h4 : m.e.length ≤ 38 := by have h5 := h.l; have h6 : m.xm.E.length = m.e.length := List.length_map ..; omega
 refine ⟨m, hm, rfl, fun i => ?_, by omega, by omega, fun hs => ?_⟩
 ·rcases Nat.lt_or_ge i m.e.length with hi | hi
  ·have h5 := h.e (wz (m.e[i])) (List.mem_map.2 ⟨_, List.getElem_mem hi, rfl⟩)
   rw [List.getD, List.getElem?_eq_getElem hi]
   exact Qln h5
  ·rw [List.getD, List.getElem?_eq_none hi]; exact Nat.pow_pos (by decide)
 ·rw [hm.len, ← hs] at h4
  rcases Nat.lt_or_ge m.r 7 with h5 | h5
  ·omega
  ·have := Nat.mul_le_mul h5 h5; omega
theorem BX.len {i : Nat} {a : XM} (h : BX i a) (hi : i ≤ 2) : a.E.length < 1000000000 := by have := h.l; omega

abbrev Gives2 (f : FuncId) (A : Array Value) (w : World) (R : World → Value → World → Prop) : Prop := Calls Tryz.prog f A w (Ret fun v w' => Kp [] w w' ∧ R w v w')

theorem Qj1 {a : XM} (hB : BX 2 a) : ∃ d b, (∀ w v, IsX w v a → Gives2 7 #[v] w fun _ v _ => v = .tuple #[Wv d, .bool b]) ∧ (∀ w v, IsX w v a → Gives2 8 #[v] w fun _ v _ => v = .tuple #[Wv d, .bool b]) := by
 by_cases h : RX a ∧ a.R = a.C
 ·obtain ⟨m, hm, rfl, hb, h1, h2, h3⟩ := hB.zm h.1
  have hsq : m.r = m.c := by have : (m.r : Int) = m.c := h.2; omega
  have hK : (m.r + 1) * (10 + 1) ≤ 40000000 := Nat.le_trans (Nat.mul_le_mul_right _ (show m.r + 1 ≤ 9 by omega)) (by decide)
  exact ⟨_, _, fun w v hv => Qma 10 w v m hm hsq hK hb hv.m, fun w v hv => Q7s 10 w v m hm hsq hK hb hv.m⟩
 ·exact ⟨_, _, fun w v hv => Qk6 w v a h hv (hB.len (by omega)), fun w v hv => Qc0 w v a h hv (hB.len (by omega))⟩
theorem Qiy {a : XM} (hB : BX 2 a) : ∃ m b, RtZ m ∧ (∀ w v, IsX w v a → Gives2 9 #[v] w (GivesMB m b)) ∧ (∀ w v, IsX w v a → Gives2 10 #[v] w (GivesMB m b)) := by
 by_cases h : RX a ∧ a.R = a.C
 ·obtain ⟨m, hm, rfl, hb, h1, h2, h3⟩ := hB.zm h.1
  have hsq : m.r = m.c := by have : (m.r : Int) = m.c := h.2; omega
  have hK : (m.r + 1) * (10 + 1) ≤ 40000000 := Nat.le_trans (Nat.mul_le_mul_right _ (show m.r + 1 ≤ 9 by omega)) (by decide)
  have hb2 : ∀ i j, i < m.r → j < m.r → (m.at i j).natAbs ≤ 256 ^ 11 := fun i j _ _ => Nat.le_of_lt (Q8q (hb.at i j) (by omega))
  have hb3 : BdZ 12 m := hb.mono (by decide)
  by_cases hd : (det m.r m.at).natAbs = 1
  ·exact ⟨adjZ m, true, Q74 hm.r hm.r, fun w v hv => Q14 (Qk5 w v m hm hsq (h3 hsq) hb3 hb2 hv.m) fun v w' h => ⟨h.1, by have := h.2; rw [if_pos hd] at this; exact this⟩,
    fun w v hv => Q14 (Q7d 10 w v m hm hsq hK hb hv.m) fun v w' h => ⟨h.1, by have := h.2; rw [if_pos hd] at this; exact this⟩⟩
  ·exact ⟨zM, false, Qea, fun w v hv => Q14 (Qk5 w v m hm hsq (h3 hsq) hb3 hb2 hv.m) fun v w' h => ⟨h.1, by have := h.2; rw [if_neg hd] at this; exact Q3x this⟩,
    fun w v hv => Q14 (Q7d 10 w v m hm hsq hK hb hv.m) fun v w' h => ⟨h.1, by have := h.2; rw [if_neg hd] at this; exact Q3x this⟩⟩
 ·exact ⟨zM, false, Qea, fun w v hv => Q14 (Qes w v a h hv (hB.len (by omega))) fun v w' h => ⟨h.1, Q3x h.2⟩, fun w v hv => Q14 (Qax w v a h hv (hB.len (by omega))) fun v w' h => ⟨h.1, Q3x h.2⟩⟩
theorem Qgb {a : XM} (hB : BX 2 a) : ∃ m b, RtZ m ∧ (∀ w v, IsX w v a → Gives2 11 #[v, iv 0, iv 0, iv 1, iv 1] w (GivesMB m b)) ∧ (∀ w v, IsX w v a → Gives2 12 #[v, iv 0, iv 0, iv 1, iv 1] w (GivesMB m b)) := by
 by_cases h : RX a
 ·obtain ⟨m, hm, rfl, hb, h1, h2, h3⟩ := hB.zm h
  by_cases hk : partOk m 0 0 1 1
  ·have hk2 := hk
   unfold partOk at hk2
   exact ⟨partZ m 0 0 1 1, true, Q74 (by omega) (by omega), fun w v hv => Qk4 w v m 0 0 1 1 hm (by omega) (by omega) hv.m, fun w v hv => Qh6 w v m 0 0 1 1 hm (by omega) (by omega) hv.m⟩
  ·exact ⟨zM, false, Qea, fun w v hv => Q14 (Qm6 w v m 0 0 1 1 hm hk hv.m (by omega) (by omega)) fun v w' h => ⟨h.1, Q3x h.2⟩, fun w v hv => Q14 (Qeq w v m 0 0 1 1 hm hk hv.m (by omega) (by omega)) fun v w' h => ⟨h.1, Q3x h.2⟩⟩
 ·exact ⟨zM, false, Qea, fun w v hv => Q14 (Qm5 w v a 0 0 1 1 h hv (hB.len (by omega))) fun v w' h => ⟨h.1, Q3x h.2⟩, fun w v hv => Q14 (Qep w v a 0 0 1 1 h hv (hB.len (by omega))) fun v w' h => ⟨h.1, Q3x h.2⟩⟩
theorem Qmg {a : XM} (hB : BX 2 a) : ∃ z, (∀ w v, IsX w v a → Gives2 18 #[v, iv 0, iv 0] w fun _ v _ => v = Wv z) ∧ (∀ w v, IsX w v a → Gives2 19 #[v, iv 0, iv 0] w fun _ v _ => v = Wv z) := by
 by_cases h : RX a
 ·obtain ⟨m, hm, rfl, hb, h1, h2, h3⟩ := hB.zm h
  exact ⟨_, fun w v hv => c_At w v m 0 0 hm hv.m, fun w v hv => Qm0 w v m 0 0 hm hv.m⟩
 ·exact ⟨_, fun w v hv => Qoq w v a 0 0 h hv (hB.len (by omega)), fun w v hv => Qj4 w v a 0 0 h hv (hB.len (by omega))⟩
theorem Q7m {q : Prop} {v : Value} {b : Bool} (hb : b = true ↔ q) (h : IsB q v) : v = .bool b := by
 obtain ⟨x, rfl, hx⟩ := h
 congr 1
 cases x <;> cases b <;> simp_all
theorem Qef {a : XM} (hB : BX 2 a) : ∃ b : Bool, (∀ w v, IsX w v a → Gives2 13 #[v] w fun _ v _ => v = .bool b) ∧ (∀ w v, IsX w v a → Gives2 14 #[v] w fun _ v _ => v = .bool b) := by
 classical
 have hb : decide (RX a) = true ↔ RX a := decide_eq_true_iff
 exact ⟨decide (RX a), fun w v hv => Q14 (Q20 w v a hv (by have := hB.len (by omega); omega)) fun v w' h => ⟨h.1, Q7m hb h.2⟩, fun w v hv => Q14 (Q1f w v a hv (hB.len (by omega))) fun v w' h => ⟨h.1, Q7m hb h.2⟩⟩
theorem Qjc {a b : XM} (hA : BX 2 a) (hB : BX 2 b) : ∃ m t, RtZ m ∧ (∀ w v u, IsX w v a → IsX w u b → Gives2 20 #[v, u] w (GivesMB m t)) ∧ (∀ w v u, IsX w v a → IsX w u b → Gives2 21 #[v, u] w (GivesMB m t)) := by
 by_cases h : Alike a b
 ·obtain ⟨m, hm, rfl, hb, _⟩ := hA.zm h.1
  obtain ⟨n, hn, rfl, hb', _⟩ := hB.zm h.2.1
  have hr : m.r = n.r := by have : (m.r : Int) = n.r := h.2.2.1; omega
  have hc : m.c = n.c := by have : (m.c : Int) = n.c := h.2.2.2; omega
  exact ⟨addZ m n, true, Q74 hm.r hm.c, fun w v u hv hu => Qo3 10 w v u m n hm hn hr hc (by omega) hb hb' hv.m hu.m, fun w v u hv hu => Qj5 10 w v u m n hm hn hr hc (by omega) hb hb' hv.m hu.m⟩
 ·exact ⟨zM, false, Qea, fun w v u hv hu => Q14 (Qm7 w v u a b h hv hu (hA.len (by omega)) (hB.len (by omega))) fun v w' h => ⟨h.1, Q3x h.2⟩, fun w v u hv hu => Q14 (Qh7 w v u a b h hv hu (hA.len (by omega)) (hB.len (by omega))) fun v w' h => ⟨h.1, Q3x h.2⟩⟩


set_option maxHeartbeats 4000000 in
theorem Qcq (w : World) (v u : Value) (a b : XM) (ha : IsX w v a) (hb : IsX w u b) (hl : a.E.length < 1000000000) (hl' : b.E.length < 1000000000) :
  Calls Tryz.prog 23 #[v, u] w (Ret fun v w' => Kp [] w w' ∧ IsB (RX a ∧ a = b) v) := by
 have ha0 := ha
 have hb0 := hb
 obtain ⟨E, rfl, hE⟩ := ha
 obtain ⟨E', rfl, hE'⟩ := hb
 refine Q0a [] [] (by simp) [] Tryz.func23 rfl mixed (by kernel_rfl) Tryz.ntmps23 Tryz.results23 rfl ⟨by simp, by simp⟩ (by simp) ?_
 simp only [toS, textOps, toSOp, kindAt, kindOf, odAt, sopsAt, ordOf, zipF]
 have hR := WX.rd (c := ⟨Tryz.prog, 50, w, [], by simp⟩) hE rfl []
 have hR' := WX.rd (c := ⟨Tryz.prog, 50, w, [], by simp⟩) hE' rfl []
 (repeat' (first | refine JC.seq ?_ | refine JC.ops ?_ | refine JO.nil ?_ | refine Q00 ?_ | (apply Q02; (iterate 3 exact rfl)) | (apply Q0d; (iterate 4 exact rfl); exact at1; exact rfl) | (apply Q0x; (iterate 4 exact rfl); intro _)))
 rename_i b2 b3
 refine Q09 (by first | trivial | exact ⟨rfl, rfl⟩) rfl (by first | rfl | exact ⟨rfl, rfl⟩) rfl (fun w hk _ => Q1f w _ a (ha0.mono hk) hl) fun w v w' _ _ _ hc0 => ?_
 obtain ⟨y1, rfl, hy1⟩ := hc0
 (repeat' (first | refine JC.seq ?_ | refine JC.ops ?_ | refine JO.nil ?_ | refine Q00 ?_ | (apply Q02; (iterate 3 exact rfl)) | (apply Q0d; (iterate 4 exact rfl); exact at0; exact rfl)))
 refine Q09 (by first | trivial | exact ⟨rfl, rfl⟩) rfl (by first | rfl | exact ⟨rfl, rfl⟩) rfl (fun w hk _ => Q1f w _ b (hb0.mono hk) hl') fun w v w' _ _ _ hc0 => ?_
 obtain ⟨y2, rfl, hy2⟩ := hc0
 cases y1 <;> cases y2
 ·(repeat' (first | refine JC.seq ?_ | refine JC.ops ?_ | refine JO.nil ?_ | refine Q00 ?_ | (apply Q04; (iterate 3 exact rfl)) | (apply Q02; (iterate 3 exact rfl)) | (apply Q0n; (iterate 4 exact rfl)) | (apply Q1e; (iterate 3 exact rfl)) | refine Q0o ?_ | refine JC.ret ?_ | refine Q08 rfl ?_ | (apply Q10; exact rfl; exact rfl; (first | (intro h; cases h; done) | (intro _; rfl)))))
  exact Q0j rfl (fun a w' st => ⟨st.kp, Q2s (fun h => by cases hy1.2 h.1)⟩)
 ·(repeat' (first | refine JC.seq ?_ | refine JC.ops ?_ | refine JO.nil ?_ | refine Q00 ?_ | (apply Q04; (iterate 3 exact rfl)) | (apply Q02; (iterate 3 exact rfl)) | (apply Q0n; (iterate 4 exact rfl)) | (apply Q1e; (iterate 3 exact rfl)) | refine Q0o ?_ | refine JC.ret ?_ | refine Q08 rfl ?_ | (apply Q10; exact rfl; exact rfl; (first | (intro h; cases h; done) | (intro _; rfl)))))
  exact Q0j rfl (fun a w' st => ⟨st.kp, Q2s (fun h => by cases hy1.2 h.1)⟩)
 ·(repeat' (first | refine JC.seq ?_ | refine JC.ops ?_ | refine JO.nil ?_ | refine Q00 ?_ | (apply Q04; (iterate 3 exact rfl)) | (apply Q02; (iterate 3 exact rfl)) | (apply Q0n; (iterate 4 exact rfl)) | (apply Q0q; (iterate 4 exact rfl)) | (apply Q1e; (iterate 3 exact rfl)) | refine Q0o ?_ | refine JC.ret ?_ | refine Q08 rfl ?_ | (apply Q10; exact rfl; exact rfl; (first | (intro h; cases h; done) | (intro _; rfl)))))
  exact Q0j rfl (fun a w' st => ⟨st.kp, Q2s (fun h => by cases hy2.2 (h.2 ▸ h.1))⟩)
 ·have g1 := (hy1.1 rfl)
  have g2 := (hy2.1 rfl)
  (repeat' (first | refine JC.seq ?_ | refine JC.ops ?_ | refine JO.nil ?_ | refine Q00 ?_ | (apply Q04; (iterate 3 exact rfl)) | (apply Q06; (iterate 3 exact rfl)) | (apply Q02; (iterate 3 exact rfl)) | (apply Q0g; (iterate 4 exact rfl); (first | exact at0 | exact at1); exact rfl) | (apply Q0n; (iterate 4 exact rfl)) | (apply Q0q; (iterate 4 exact rfl)) | (apply Q1e; (iterate 3 exact rfl)) | (apply Q3h; (iterate 4 exact rfl); all_goals intro hc; all_goals try (exfalso; omega)) | refine Q0o ?_ | refine JC.skip ?_ | refine JC.ret ?_ | refine Q08 rfl ?_ | refine Q07 rfl ?_ | refine JC.block ?_ | (apply Q10; exact rfl; exact rfl; (first | (intro h; cases h; done) | (intro _; rfl)))))
  all_goals first
   | exact Q0j rfl (fun a w' st => ⟨st.kp, Q2s fun h => by have h2 := h.2; subst h2; omega⟩)
   | skip
  have hRC : a.R = b.R ∧ a.C = b.C := ⟨by omega, by omega⟩
  have hn : a.E.length = b.E.length := by
   obtain ⟨m, hm, rfl⟩ := g1
   obtain ⟨n, hn, rfl⟩ := g2
   have e1 : m.r = n.r := by have : (m.r : Int) = n.r := hRC.1; omega
   have e2 : m.c = n.c := by have : (m.c : Int) = n.c := hRC.2; omega
   show (m.e.map wz).length = (n.e.map wz).length
   rw [List.length_map, List.length_map, hm.len, hn.len, e1, e2]
  refine Q0k (ι := Nat) ⟨fun i => [(7, nv i), (2, .pointer (some ⟨b2, 0, none⟩)), (3, .pointer (some ⟨b3, 0, none⟩))], fun _ => [(b3, .cells #[iv b.R, iv b.C, E'] 29), (b2, .cells #[iv a.R, iv a.C, E] 29)],
   fun i => i ≤ a.E.length ∧ ∀ j, j < i → a.E.getD j w0x = b.E.getD j w0x, fun i => a.E.length - i⟩ 0 ⟨by omega, fun j h => by omega⟩ (by repeat first | exact trivial | refine ⟨rfl, ?_⟩) (HSub.refl _) (fun i hi => ?_)
  obtain ⟨hin, hpr⟩ := hi
  dsimp only at hin hpr ⊢
  by_cases hlt : i < a.E.length
  ·have hlt2 : i < b.E.length := by omega
   (repeat' (first | refine JC.seq ?_ | refine JC.ops ?_ | refine JC.opsD ?_ | refine JO.nil ?_ | refine Q00 ?_ | (apply Q04; (iterate 3 exact rfl)) | (apply Q06; (iterate 3 exact rfl)) | (apply Q0g; (iterate 4 exact rfl); (first | exact at0 | exact at1); exact rfl) | (apply Q4u; (iterate 4 exact rfl); (first | assumption | exact WX.rd (by assumption) rfl [] | exact OwnX.rd (by assumption)); (first | assumption | omega)) | (apply Qg1; (iterate 4 exact rfl); (first | assumption | exact WX.rd (by assumption) rfl [] | exact OwnX.rd (by assumption)); (repeat' first | exact HSub.nil _ | exact HSub.hd | exact Q03 | exact HSub.refl _ | refine HSub.skip ?_ | refine Q01 ?_); (first | assumption | omega)) | (apply Q3r; (iterate 3 exact rfl); (first | assumption | exact WX.rd (by assumption) rfl [] | exact OwnX.rd (by assumption))) | (apply Q0m; (iterate 4 exact rfl); all_goals intro hc; all_goals try (exfalso; omega)) | refine JC.skip ?_ | refine Q08 rfl ?_ | refine JC.block ?_))
   refine Qfz rfl rfl rfl rfl ?_
   by_cases he : a.E.getD i w0x = b.E.getD i w0x
   ·rw [he]
    simp only [BEq.rfl, decide_true, Bool.and_self, Bool.not_true]
    (repeat' (first | refine JC.ops ?_ | refine JO.nil ?_ | refine Q00 ?_ | (apply Q04; (iterate 3 exact rfl)) | (apply Q02; (iterate 3 exact rfl)) | (apply Q0r; (iterate 4 exact rfl); omega) | refine JC.skip ?_ | refine Q07 rfl ?_ | refine Q0b ?_))
    refine Q0c (i + 1) ⟨by omega, fun j h => ?_⟩ (by dsimp only; omega) (by repeat first | exact trivial | refine ⟨rfl, ?_⟩) (HSub.refl _)
    rcases Nat.lt_or_ge j i with h' | h'
    ·exact hpr j h'
    ·have : j = i := by omega
     subst this; exact he
   ·have hb : (!((a.E.getD i w0x).1 == (b.E.getD i w0x).1 && decide ((a.E.getD i w0x).2 = (b.E.getD i w0x).2))) = true := by
     simp only [Bool.not_eq_true', Bool.and_eq_false_iff]
     by_cases h1 : (a.E.getD i w0x).1 = (b.E.getD i w0x).1
     ·refine .inr ?_
      simp only [decide_eq_false_iff_not]
      exact fun h2 => he (Prod.ext h1 h2)
     ·exact .inl (by simpa using h1)
    rw [hb]
    (repeat' (first | refine JC.seq ?_ | refine JC.ops ?_ | refine JO.nil ?_ | refine Q00 ?_ | (apply Q02; (iterate 3 exact rfl)) | refine Q0o ?_ | refine JC.ret ?_ | refine Q08 rfl ?_ | refine Q1b ?_))
    exact Q0j rfl (fun a w' st => ⟨st.kp, Q2s (fun h => he (by rw [h.2]))⟩)
  ·(repeat' (first | refine JC.seq ?_ | refine JC.ops ?_ | refine JO.nil ?_ | refine Q00 ?_ | (apply Q04; (iterate 3 exact rfl)) | (apply Q06; (iterate 3 exact rfl)) | (apply Q02; (iterate 3 exact rfl)) | (apply Q0g; (iterate 4 exact rfl); exact at1; exact rfl) | (apply Q3r; (iterate 3 exact rfl); (first | assumption | exact WX.rd (by assumption) rfl [] | exact OwnX.rd (by assumption))) | (apply Q0m; (iterate 4 exact rfl); all_goals intro hc; all_goals try (exfalso; omega)) | refine Q0i ?_ | refine JC.exit ?_ | refine JC.ret ?_ | refine Q07 rfl ?_ | refine Q0f ?_))
   exact Q0j rfl (fun a' w' st => ⟨st.kp, Qb6 ⟨g1, XM.ext' (by omega) (by omega) (Qar (d := w0x) hn (fun j hj => hpr j (by omega)))⟩⟩)

set_option maxHeartbeats 4000000 in
theorem Q8j (w : World) (v : Value) (a : XM) (h : ¬ RX a) (ha : IsX w v a) (hl : a.E.length < 1000000000) :
  Calls Tryz.prog 17 #[v] w (Ret fun v w' => Kp [] w w' ∧ v = zeroM) := by
 have ha0 := ha
 obtain ⟨E, rfl, hE⟩ := ha
 refine Q0a [⟨11, 2, [], []⟩] [] (by simp) [] Tryz.func17 rfl mixed (by kernel_rfl) Tryz.ntmps17 Tryz.results17 rfl ⟨by simp, by simp⟩ (by simp) ?_
 simp only [toS, textOps, toSOp, kindAt, kindOf, odAt, sopsAt, ordOf, zipF]
 (repeat' (first | refine JC.seq ?_ | refine JC.ops ?_ | refine JO.nil ?_ | refine Q00 ?_ | (apply Q0d; (iterate 4 exact rfl); exact at1; exact rfl) | (apply Q0e; (iterate 3 exact rfl); intro _) | (apply Q0x; (iterate 4 exact rfl); intro _)))
 refine Q09 (by first | trivial | exact ⟨rfl, rfl⟩) rfl (by first | rfl | exact ⟨rfl, rfl⟩) rfl (fun w hk _ => Q1f w _ a (ha0.mono hk) (by omega)) fun w v w' _ _ _ hR => ?_
 obtain ⟨b1, rfl, hb1⟩ := hR
 obtain rfl : b1 = false := by cases b1 with
  | true => exact absurd (hb1.1 rfl) h
  | false => rfl
 (repeat' (first | refine JC.seq ?_ | refine JC.ops ?_ | refine JO.nil ?_ | refine Q00 ?_ | (apply Q04; (iterate 3 exact rfl)) | (apply Q02; (iterate 3 exact rfl)) | (apply Q1e; (iterate 3 exact rfl)) | (apply Q05; exact rfl; (first | exact trivial | exact ⟨rfl, rfl⟩); exact rfl; exact rfl; exact at0; (iterate 3 exact rfl)) | (apply Q11; (iterate 5 exact rfl)) | (apply Q05; exact rfl; (first | exact trivial | exact ⟨rfl, rfl⟩); exact rfl; exact rfl; exact at0; (iterate 3 exact rfl)) | refine Q0o ?_ | refine JC.ret ?_ | refine Q08 rfl ?_))
 exact Q0z 0 rfl rfl rfl (fun a w' st => ⟨st.kp, rfl⟩)

set_option maxHeartbeats 8000000 in
theorem Q8y (w : World) (v : Value) (m : ZM) (hm : RtZ m) (hv : IsM w v m) :
  Calls Tryz.prog 17 #[v] w (Ret fun v w' => Kp [] w w' ∧ GivesM (trZ m) w v w') := by
 have hvX := hv.x
 obtain ⟨E, rfl, hE⟩ := hv
 have hl := hm.len
 have hle := hm.le
 have hbr := hm.r
 have hbc := hm.c
 have hcr := rcZ hbc hbr
 rw [hl] at hE
 refine Q0a [⟨11, 2, [], []⟩] [] (by simp) [] Tryz.func17 rfl mixed (by kernel_rfl) Tryz.ntmps17 Tryz.results17 rfl ⟨by simp, by simp⟩ (by simp) ?_
 simp only [toS, textOps, toSOp, kindAt, kindOf, odAt, sopsAt, ordOf, zipF]
 have hR := WZ.rd (c := ⟨Tryz.prog, 49, w, [], by simp⟩) hE rfl []
 (repeat' (first | refine JC.seq ?_ | refine JC.ops ?_ | refine JO.nil ?_ | refine Q00 ?_ | (apply Q0d; (iterate 4 exact rfl); exact at1; exact rfl) | (apply Q0e; (iterate 3 exact rfl); intro _) | (apply Q0x; (iterate 4 exact rfl); intro _)))
 rename_i b1 b2
 refine Q09 (by first | trivial | exact ⟨rfl, rfl⟩) rfl (by first | rfl | exact ⟨rfl, rfl⟩) rfl (fun w hk _ => Q1f w _ m.xm (hvX.mono hk) (Q75 hm)) fun w v w' _ _ _ hR => ?_
 obtain ⟨b', rfl, hb⟩ := hR
 obtain rfl := hb.2 hm.rx
 (repeat' (first | refine JC.seq ?_ | refine JC.ops ?_ | refine JO.nil ?_ | refine Q00 ?_ | (apply Q04; (iterate 3 exact rfl)) | (apply Q06; (iterate 3 exact rfl)) | (apply Q02; (iterate 3 exact rfl)) | (apply Q0g; (iterate 4 exact rfl); exact at1; exact rfl) | (apply Q1e; (iterate 3 exact rfl)) | refine JC.skip ?_ | refine Q07 rfl ?_))
 refine Q0h (A := [_, _]) (B := []) rfl (by first | trivial | exact ⟨rfl, rfl⟩) rfl (by first | rfl | exact ⟨rfl, rfl⟩) rfl (fun w _ _ => Q6i m.c m.r hbc hbr w) fun w v w' _ _ _ hR => ?_
 obtain ⟨N, Eo, hN, rfl, hO⟩ := hR
 obtain ⟨Ao, co, rfl⟩ := hO.form
 refine ⟨N, hN, ?_⟩
 (repeat' (first | refine JC.seq ?_ | refine JC.ops ?_ | refine JO.nil ?_ | refine Q00 ?_ | (apply Q02; (iterate 3 exact rfl)) | (apply Q05; exact rfl; (first | exact trivial | exact ⟨rfl, rfl⟩); exact rfl; exact rfl; exact at0; (iterate 3 exact rfl)) | (apply Q0e; (iterate 3 exact rfl); intro _) | (apply Q05; exact rfl; (first | exact trivial | exact ⟨rfl, rfl⟩); exact rfl; exact rfl; exact at0; (iterate 3 exact rfl)) | refine JC.block ?_))
 rename_i b4
 refine Q0k (ι := Nat × SHeap) ⟨fun z => [(5, nv z.1), (4, .pointer (some ⟨b4, 0, none⟩)), (2, .pointer (some ⟨b2, 0, none⟩)), (1, .pointer (some ⟨b1, 0, none⟩))],
  fun z => [(b4, .cells #[nv m.c, nv m.r, .slice Ao (m.c * m.r) co] 29), (b2, .cells #[iv 0, iv 0, .slice none 0 0] 29), (b1, .cells #[nv m.r, nv m.c, E] 29)] ++ (z.2 ++ []),
  fun z => z.1 ≤ m.r ∧ OwnZ z.2 (.slice Ao (m.c * m.r) co) (m.c * m.r) (trS m (List.range z.1) 0 0), fun z => m.r - z.1⟩ (0, N) ⟨by dsimp only; omega, by rw [List.range_zero, Qd6]; exact hO⟩ (by repeat first | exact trivial | refine ⟨rfl, ?_⟩) (by (first | exact HSub.refl _ | (repeat' first | exact HSub.nil _ | exact HSub.refl _ | refine HSub.at 0 rfl ?_ | refine HSub.at 1 rfl ?_ | refine HSub.at 2 rfl ?_ | refine HSub.at 3 rfl ?_ | refine HSub.at 4 rfl ?_ | refine HSub.at 5 rfl ?_ | refine HSub.at 6 rfl ?_ | refine HSub.at 7 rfl ?_))) (fun z hz => ?_)
 clear hO
 obtain ⟨i, N⟩ := z
 obtain ⟨hi, hO⟩ := hz
 dsimp only at hi hO ⊢
 by_cases hir : i < m.r
 ·have him : i * m.c ≤ 40000 := Nat.le_trans (Nat.mul_le_mul_right _ (show i ≤ m.r by omega)) (by omega)
  (repeat' (first | refine JC.seq ?_ | refine JC.ops ?_ | refine JO.nil ?_ | refine Q00 ?_ | (apply Q04; (iterate 3 exact rfl)) | (apply Q06; (iterate 3 exact rfl)) | (apply Q02; (iterate 3 exact rfl)) | (apply Q0g; (iterate 4 exact rfl); exact at2; exact rfl) | (apply Q0m; (iterate 4 exact rfl); all_goals intro hc; all_goals try (exfalso; omega)) | refine JC.skip ?_ | refine Q08 rfl ?_ | refine JC.block ?_))
  refine Q0k (ι := Nat × SHeap) ⟨fun z => [(6, nv z.1), (5, nv i), (4, .pointer (some ⟨b4, 0, none⟩)), (2, .pointer (some ⟨b2, 0, none⟩)), (1, .pointer (some ⟨b1, 0, none⟩))],
   fun z => [(b4, .cells #[nv m.c, nv m.r, .slice Ao (m.c * m.r) co] 29), (b2, .cells #[iv 0, iv 0, .slice none 0 0] 29), (b1, .cells #[nv m.r, nv m.c, E] 29)] ++ (z.2 ++ []),
   fun z => z.1 ≤ m.c ∧ OwnZ z.2 (.slice Ao (m.c * m.r) co) (m.c * m.r) (trS m (List.range i) i z.1), fun z => m.c - z.1⟩ (0, N) ⟨by dsimp only; omega, by rw [Qbc m _ i 0]; exact hO⟩ (by repeat first | exact trivial | refine ⟨rfl, ?_⟩) (HSub.refl _) (fun z hz => ?_)
  clear hO
  obtain ⟨j, N⟩ := z
  obtain ⟨hj, hO⟩ := hz
  dsimp only at hj hO ⊢
  by_cases hjc : j < m.c
  ·have hlt := Q3y hjc hir
   have hlt2 := Q3y hir hjc
   have hjr : j * m.r ≤ 40000 := by omega
   (repeat' (first | refine JC.seq ?_ | refine JC.ops ?_ | refine JC.opsD ?_ | refine JO.nil ?_ | refine Q00 ?_ | (apply Q04; (iterate 3 exact rfl)) | (apply Q06; (iterate 3 exact rfl)) | (apply Q0g; (iterate 4 exact rfl); (first | exact at0 | exact at2); exact rfl) | (apply Q1m; (iterate 4 exact rfl); (first | assumption | exact WZ.rd (by assumption) rfl [] | exact OwnZ.rd (by assumption)); (first | assumption | omega)) | (apply Q52; (iterate 4 exact rfl); (first | assumption | exact WZ.rd (by assumption) rfl [] | exact OwnZ.rd (by assumption)); (repeat' first | exact HSub.nil _ | exact HSub.hd | exact Q03 | exact HSub.refl _ | refine HSub.skip ?_ | refine Q01 ?_); (first | assumption | omega)) | (apply Q1a; (iterate 4 exact rfl); omega) | (apply Q1q; (iterate 4 exact rfl); (first | assumption | omega)) | (apply Q0m; (iterate 4 exact rfl); all_goals intro hc; all_goals try (exfalso; omega)) | refine JC.skip ?_ | refine Q08 rfl ?_ | refine JC.block ?_))
   refine Q5s (A := [_, _, _]) (u := m.at i j) hO rfl rfl (by first | trivial | exact ⟨rfl, rfl⟩) rfl rfl hlt (fun N' hO' => ?_)
   rw [Qf7 hir] at hO'
   (repeat' (first | refine JC.ops ?_ | refine JO.nil ?_ | refine Q00 ?_ | (apply Q04; (iterate 3 exact rfl)) | (apply Q02; (iterate 3 exact rfl)) | (apply Q0r; (iterate 4 exact rfl); omega) | refine Q0b ?_))
   exact Q0c (j + 1, N') ⟨by dsimp only; omega, hO'⟩ (by dsimp only; omega) (by repeat first | exact trivial | refine ⟨rfl, ?_⟩) (HSub.refl _)
  ·(repeat' (first | refine JC.seq ?_ | refine JC.ops ?_ | refine JO.nil ?_ | refine Q00 ?_ | (apply Q04; (iterate 3 exact rfl)) | (apply Q06; (iterate 3 exact rfl)) | (apply Q02; (iterate 3 exact rfl)) | (apply Q0g; (iterate 4 exact rfl); exact at2; exact rfl) | (apply Q0r; (iterate 4 exact rfl); omega) | (apply Q0m; (iterate 4 exact rfl); all_goals intro hc; all_goals try (exfalso; omega)) | refine Q0i ?_ | refine JC.exit ?_ | refine Q07 rfl ?_ | refine Q0b ?_ | refine Q0f ?_))
   obtain rfl : j = m.c := by omega
   rw [Qd7, ← List.range_succ] at hO
   exact Q0c (i + 1, N) ⟨by dsimp only; omega, hO⟩ (by dsimp only; omega) (by repeat first | exact trivial | refine ⟨rfl, ?_⟩) (HSub.refl _)
 ·(repeat' (first | refine JC.seq ?_ | refine JC.ops ?_ | refine JO.nil ?_ | refine Q00 ?_ | (apply Q04; (iterate 3 exact rfl)) | (apply Q06; (iterate 3 exact rfl)) | (apply Q0g; (iterate 4 exact rfl); (first | exact at0 | exact at1 | exact at2); exact rfl) | (apply Q0d; (iterate 4 exact rfl); (first | exact at0 | exact at1 | exact at2); exact rfl) | (apply Q05; exact rfl; (first | exact trivial | exact ⟨rfl, rfl⟩); exact rfl; exact rfl; (first | exact at0 | exact at1 | exact at2); (iterate 3 exact rfl)) | (apply Q0m; (iterate 4 exact rfl); all_goals intro hc; all_goals try (exfalso; omega)) | (apply Q05; exact rfl; (first | exact trivial | exact ⟨rfl, rfl⟩); exact rfl; exact rfl; (first | exact at0 | exact at1 | exact at2); (iterate 3 exact rfl)) | refine Q0i ?_ | refine JC.exit ?_ | refine JC.ret ?_ | refine Q07 rfl ?_ | refine Q0f ?_))
  obtain rfl : i = m.r := by omega
  rw [Qf8] at hO
  exact Q0z 1 rfl rfl rfl (fun a w' st => ⟨st.kp, N, st.newOf rfl (by (repeat' first | exact HSub.nil _ | exact HSub.hd | exact Q03 | exact HSub.refl _ | refine HSub.skip ?_ | refine Q01 ?_)), OwnM.mk' hO⟩)

theorem Qkn {a : XM} (hB : BX 2 a) : ∃ m, RtZ m ∧ (∀ w v, IsX w v a → Gives2 16 #[v] w (GivesM m)) ∧ (∀ w v, IsX w v a → Gives2 17 #[v] w (GivesM m)) := by
 by_cases h : RX a
 ·obtain ⟨m, hm, rfl, hb, h1, h2, h3⟩ := hB.zm h
  exact ⟨trZ m, Q74 hm.c hm.r, fun w v hv => Qct w v m hm hv.m, fun w v hv => Q8y w v m hm hv.m⟩
 ·exact ⟨zM, Qea, fun w v hv => Q14 (Qc3 w v a h hv (hB.len (by omega))) fun v w' h => ⟨h.1, [], New.nil _ _, by rw [h.2]; exact OwnM.zero⟩, fun w v hv => Q14 (Q8j w v a h hv (hB.len (by omega))) fun v w' h => ⟨h.1, [], New.nil _ _, by rw [h.2]; exact OwnM.zero⟩⟩
theorem Qlr {a b : XM} (hA : BX 2 a) (hB : BX 2 b) : ∃ t : Bool, (∀ w v u, IsX w v a → IsX w u b → Gives2 22 #[v, u] w fun _ v _ => v = .bool t) ∧ (∀ w v u, IsX w v a → IsX w u b → Gives2 23 #[v, u] w fun _ v _ => v = .bool t) := by
 classical
 have hb : decide (RX a ∧ a = b) = true ↔ RX a ∧ a = b := decide_eq_true_iff
 exact ⟨decide (RX a ∧ a = b), fun w v u hv hu => Q14 (Qe4 w v u a b hv hu (hA.len (by omega)) (hB.len (by omega))) fun v w' h => ⟨h.1, Q7m hb h.2⟩, fun w v u hv hu => Q14 (Qcq w v u a b hv hu (hA.len (by omega)) (hB.len (by omega))) fun v w' h => ⟨h.1, Q7m hb h.2⟩⟩


def OwnXM (N : SHeap) (v : Value) (a : XM) : Prop := ∃ E, v = .agg #[iv a.R, iv a.C, E] ∧ OwnX N E a.E.length a.E
theorem Qin (b : Nat) : OwnX [(b, .cells #[] 34)] (.slice (some ⟨b, 0, none⟩) 0 0) 0 [] := by
 have := OwnRow.mk' (e := 34) (sz := 2) (n := 0) (b := b) (cs := #[]) rfl (by simp only [maxLen]; omega)
 exact this

theorem Qim (b : Nat) (x : WR) : OwnX [(b, .cells ⟨[.bool x.1, sv x.2]⟩ 34)] (.slice (some ⟨b, 0, none⟩) 1 1) 1 [x] := by
 have h := OwnRow.mk' (e := 34) (sz := 2) (n := 1) (b := b) (cs := ⟨[.bool x.1, sv x.2]⟩) (by simp) (by simp only [maxLen]; omega)
 exact h
section
variable {c : Cx} {Q : Exit → Act → World → Prop} {m : Mode} {F : SFrame} {H : SHeap} {r : List SOp} {g : Option (Option Tmp × Bool)} {ns : Bool} {d : Tmp} {ty t : TypeId} {x : Operand}
theorem Qjr {i : Int} (hd : dstOk c.n (some d) = true) (hg : guardF F g = some true) (hx : ev F x = some (iv i)) (hb : -9223372036854775808 < i ∧ i ≤ 9223372036854775807)
  (h : JO c Q m r ((d, iv (-i)) :: F) H) : JO c Q m (⟨some d, .unOp .neg t x, ty, g, .mov, ns⟩ :: r) F H :=
 Q23 (v := iv (-i)) hd hg (fun a w fr => by
  have e : IntKind.i64.wrap (0 - i) = -i := by rw [in64 (by omega)]; omega
  simp [execOp, fr.ev hx, Op.unary, Op.intArith, iv] at e ⊢
  simp [e]) h
end

theorem Qhq {N : SHeap} {x y z : Nat × Obj} : HSub (x :: y :: z :: (N ++ [])) (N ++ [x, y, z]) := ⟨[], by
 have : (N ++ [x, y, z]).Perm ([x, y, z] ++ N) := List.perm_append_comm
 simpa using this⟩

set_option maxHeartbeats 16000000 in
theorem Qk7 (w : World) (v : Value) (i : Nat) (a : XM) (p q : Int) (hp : I64 p) (hq : I64 q) (hB : BX i a) (hi : i ≤ 1) (ha : IsX w v a) :
  Calls Tryz.prog 6 #[v, .agg #[iv p, iv q]] w (Ret fun v w' => Kp [] w w' ∧ ∃ b, BX (i + 1) b ∧ ∃ N, New N w w' ∧ OwnXM N v b) := by
 obtain ⟨E, rfl, hE⟩ := ha
 have hr := hB.r
 have hc0 := hB.c
 have hl := hB.l
 unfold I64 at hp hq
 refine Q0a [⟨1, 1, [0, 1, 2, 3, 5, 6, 4, 7, 8, 9, 10], []⟩, ⟨9, 2, [], []⟩, ⟨15, 2, [], []⟩] [] (by simp) [] Tryz.func6 rfl mixed (by kernel_rfl) Tryz.ntmps6 Tryz.results6 rfl ⟨by simp, by simp⟩ (by simp) ?_
 simp only [toS, textOps, toSOp, kindAt, kindOf, odAt, sopsAt, ordOf, zipF]
 have hRE := WX.rd (c := ⟨Tryz.prog, 97, w, [], by simp⟩) hE rfl []
 (repeat' (first | refine JC.seq ?_ | refine JC.ops ?_ | refine JO.nil ?_ | refine Q00 ?_ | (apply Q0e; (iterate 3 exact rfl); intro _) | (apply Q0x; (iterate 4 exact rfl); intro _)))
 rename_i b2 b3 b4
 refine Q36 [(b2, .cells #[iv a.R, iv a.C, E] 29)] (by (first | exact HSub.refl _ | (repeat' first | exact HSub.nil _ | exact HSub.refl _ | refine HSub.at 0 rfl ?_ | refine HSub.at 1 rfl ?_ | refine HSub.at 2 rfl ?_ | refine HSub.at 3 rfl ?_ | refine HSub.at 4 rfl ?_ | refine HSub.at 5 rfl ?_ | refine HSub.at 6 rfl ?_ | refine HSub.at 7 rfl ?_))) ?_
 (repeat' (first | (apply Q06; (iterate 3 exact rfl)) | (apply Q0g; (iterate 4 exact rfl); exact at0; exact rfl)))
 refine Q33 rfl rfl rfl (fun b => ?_)
 skip
 have hO := Qin b
 refine Q6w (A := []) hO hRE (by (repeat' first | exact HSub.nil _ | exact HSub.hd | exact Q03 | exact HSub.refl _ | refine HSub.skip ?_ | refine Q01 ?_)) rfl (by (first | exact HSub.refl _ | (repeat' first | exact HSub.nil _ | exact HSub.refl _ | refine HSub.at 0 rfl ?_ | refine HSub.at 1 rfl ?_ | refine HSub.at 2 rfl ?_ | refine HSub.at 3 rfl ?_ | refine HSub.at 4 rfl ?_ | refine HSub.at 5 rfl ?_ | refine HSub.at 6 rfl ?_ | refine HSub.at 7 rfl ?_))) rfl rfl rfl rfl (by omega) (fun v6 N hO6 => ?_)
 rw [Nat.zero_add, List.nil_append] at hO6
 obtain ⟨A6, c6, rfl⟩ := hO6.form
 (repeat' (first | refine JO.nil ?_ | (apply Q05; exact rfl; (first | exact trivial | exact ⟨rfl, rfl⟩); exact rfl; exact rfl; exact at0; (iterate 3 exact rfl)) | (apply Q0e; (iterate 3 exact rfl); intro _) | (apply Q11; (iterate 5 exact rfl)) | (apply Q05; exact rfl; (first | exact trivial | exact ⟨rfl, rfl⟩); exact rfl; exact rfl; exact at0; (iterate 3 exact rfl))))
 rename_i b5
 generalize hn : a.E.length = n at *
 clear hO hE
 refine JX.part (F' := [(5, .pointer (some ⟨b5, 0, none⟩)), (4, .pointer (some ⟨b4, 0, none⟩)), (3, .pointer (some ⟨b3, 0, none⟩)), (2, .pointer (some ⟨b2, 0, none⟩))]) (H' := [(b5, .cells #[iv a.R, iv a.C, .slice A6 n c6] 29), (b4, .cells #[iv 0, iv 0, .slice none 0 0] 29), (b3, .cells #[iv p, iv q] 25), (b2, .cells #[iv a.R, iv a.C, E] 29)] ++ (N ++ [])) (by repeat first | exact trivial | refine ⟨rfl, ?_⟩) (HSub.at 0 rfl Qhq) ?_
 refine Q00 ?_
 refine JC.seq ?_
 refine JC.ops ?_
 refine Qac (j := 1) rfl rfl rfl rfl (by omega) ?_
 (repeat' (first | (apply Q06; (iterate 3 exact rfl)) | (apply Q0g; (iterate 4 exact rfl); (first | exact at2 | exact at3); exact rfl) | (apply Q3r; (iterate 3 exact rfl); (first | assumption | exact WX.rd (by assumption) rfl [] | exact OwnX.rd (by assumption))) | (apply Ql2; (iterate 4 exact rfl))))
 have hmx : (if (n : Int) < 1 then (1 : Int) else n) = ((max n 1 : Nat) : Int) := by split <;> omega
 rw [hmx]
 refine Q09 (by first | trivial | exact ⟨rfl, rfl⟩) rfl (by first | rfl | exact ⟨rfl, rfl⟩) rfl (fun w hk hs => Qo1 w q (max n 1) (by omega) (by omega)) fun w v w' _ _ _ hR => ?_
 obtain ⟨rfl, hK⟩ := hR
 generalize hKq : (q % ((max n 1 : Nat) : Int)).toNat = K at hK
 (repeat' (first | refine JC.seq ?_ | refine JC.ops ?_ | refine JO.nil ?_ | refine Q00 ?_ | (apply Q02; (iterate 3 exact rfl))))
 refine Qac (j := 0) rfl rfl rfl rfl (by omega) ?_
 (repeat' (first | (apply Q0g; (iterate 4 exact rfl); exact at2; exact rfl)))
 refine Q09 (by first | trivial | exact ⟨rfl, rfl⟩) rfl (by first | rfl | exact ⟨rfl, rfl⟩) rfl (fun w hk hs => Qo1 w p 8 (by omega) (by omega)) fun w v w' _ _ _ hR => ?_
 obtain ⟨rfl, hJ⟩ := hR
 generalize (p % ((8 : Nat) : Int)).toNat = J at hJ
 (repeat' (first | refine JC.seq ?_ | refine JC.ops ?_ | refine JO.nil ?_ | refine Q00 ?_ | (apply Q04; (iterate 3 exact rfl)) | (apply Q06; (iterate 3 exact rfl)) | (apply Q02; (iterate 3 exact rfl)) | (apply Q0g; (iterate 4 exact rfl); (first | exact at0 | exact at1); exact rfl) | (apply Q0d; (iterate 4 exact rfl); (first | exact at0 | exact at1); exact rfl) | (apply Q3r; (iterate 3 exact rfl); (first | assumption | exact WX.rd (by assumption) rfl [] | exact OwnX.rd (by assumption))) | (apply Qii; (iterate 4 exact rfl); omega) | (apply Q3b; (iterate 4 exact rfl); omega) | (apply Q05; exact rfl; (first | exact trivial | exact ⟨rfl, rfl⟩); exact rfl; exact rfl; (first | exact at0 | exact at1); (iterate 3 exact rfl)) | (apply Q1l; (iterate 4 exact rfl); all_goals intro hc; all_goals try (exfalso; omega)) | (apply Q2f; (iterate 4 exact rfl); all_goals intro hc; all_goals try (exfalso; omega)) | (apply Q05; exact rfl; (first | exact trivial | exact ⟨rfl, rfl⟩); exact rfl; exact rfl; (first | exact at0 | exact at1); (iterate 3 exact rfl)) | (apply Q28; exact rfl; (first | exact trivial | exact ⟨rfl, rfl⟩); exact rfl; exact rfl; (first | exact at0 | exact at1); exact rfl; exact rfl; (first | exact Nat.le_of_ble_eq_true rfl | (simp; done) | omega)) | refine JC.skip ?_ | refine JC.ret ?_ | refine Q08 rfl ?_ | refine Q07 rfl ?_ | refine JC.block ?_ | refine Q0b ?_))
 ·exact Q0z 1 rfl rfl rfl (fun a' w' st => ⟨st.kp, ⟨a.R + 1, a.C, a.E⟩, hB.rc (by omega) (by omega), N, st.newOf rfl (by (repeat' first | exact HSub.nil _ | exact HSub.hd | exact Q03 | exact HSub.refl _ | refine HSub.skip ?_ | refine Q01 ?_)), _, rfl, by dsimp only; rw [hn]; exact hO6⟩)
 ·exact Q0z 1 rfl rfl rfl (fun a' w' st => ⟨st.kp, ⟨a.R, a.C - 1, a.E⟩, hB.rc (by omega) (by omega), N, st.newOf rfl (by (repeat' first | exact HSub.nil _ | exact HSub.hd | exact Q03 | exact HSub.refl _ | refine HSub.skip ?_ | refine Q01 ?_)), _, rfl, by dsimp only; rw [hn]; exact hO6⟩)
 ·refine Q36 [(b5, .cells #[iv a.R, iv a.C, .slice A6 n c6] 29), (b3, .cells #[iv p, iv q] 25)] (by (first | exact HSub.refl _ | (repeat' first | exact HSub.nil _ | exact HSub.refl _ | refine HSub.at 0 rfl ?_ | refine HSub.at 1 rfl ?_ | refine HSub.at 2 rfl ?_ | refine HSub.at 3 rfl ?_ | refine HSub.at 4 rfl ?_ | refine HSub.at 5 rfl ?_ | refine HSub.at 6 rfl ?_ | refine HSub.at 7 rfl ?_))) ?_
  (repeat' (first | (apply Q06; (iterate 3 exact rfl)) | (apply Q0g; (iterate 4 exact rfl); exact at0; exact rfl)))
  refine Qac (j := 1) rfl rfl rfl rfl (by omega) ?_
  (repeat' (first | (apply Q0g; (iterate 4 exact rfl); exact at1; exact rfl)))
  refine Q09 (by first | trivial | exact ⟨rfl, rfl⟩) rfl (by first | rfl | exact ⟨rfl, rfl⟩) rfl (fun w _ _ => Qaz w q hq.1 hq.2) fun w v w' _ _ _ hR => ?_
  subst hR
  skip
  refine Q7j (sz := 2) (vs := [Wv q]) (cl := [.bool (wz q).1, sv (wz q).2]) rfl rfl (by first | rfl | trivial | exact ⟨rfl, rfl⟩) rfl rfl (fun v hv => by
   cases List.mem_singleton.1 hv; rfl) rfl (by decide) (by decide) (fun b6 => ?_)
  have h1 := Qim b6 (wz q)
  skip
  refine Q6w (A := [_, _, _, _, _]) hO6 h1.rd (by (repeat' first | exact HSub.nil _ | exact HSub.hd | exact Q03 | exact HSub.refl _ | refine HSub.skip ?_ | refine Q01 ?_)) rfl (by (first | exact HSub.refl _ | (repeat' first | exact HSub.nil _ | exact HSub.refl _ | refine HSub.at 0 rfl ?_ | refine HSub.at 1 rfl ?_ | refine HSub.at 2 rfl ?_ | refine HSub.at 3 rfl ?_ | refine HSub.at 4 rfl ?_ | refine HSub.at 5 rfl ?_ | refine HSub.at 6 rfl ?_ | refine HSub.at 7 rfl ?_))) rfl rfl rfl rfl (by omega) (fun v8 N8 hO8 => ?_)
  obtain ⟨A8, c8, rfl⟩ := hO8.form
  (repeat' (first | refine JC.seq ?_ | refine JC.ops ?_ | refine JO.nil ?_ | refine Q00 ?_ | (apply Q06; (iterate 3 exact rfl)) | (apply Q0d; (iterate 4 exact rfl); (first | exact at1 | exact at2); exact rfl) | (apply Q05; exact rfl; (first | exact trivial | exact ⟨rfl, rfl⟩); exact rfl; exact rfl; (first | exact at1 | exact at2); (iterate 3 exact rfl)) | (apply Q05; exact rfl; (first | exact trivial | exact ⟨rfl, rfl⟩); exact rfl; exact rfl; (first | exact at1 | exact at2); (iterate 3 exact rfl)) | (apply Q28; exact rfl; (first | exact trivial | exact ⟨rfl, rfl⟩); exact rfl; exact rfl; (first | exact at1 | exact at2); exact rfl; exact rfl; (first | exact Nat.le_of_ble_eq_true rfl | (simp; done) | omega)) | refine JC.ret ?_ | refine Q0b ?_))
  exact Q0z 2 rfl rfl rfl (fun a' w' st => ⟨st.kp, ⟨a.R, a.C, a.E ++ [wz q]⟩, hB.app hq, N8, st.newOf rfl (by (repeat' first | exact HSub.nil _ | exact HSub.hd | exact Q03 | exact HSub.refl _ | refine HSub.skip ?_ | refine Q01 ?_)), _, rfl, by simp only [List.length_append, List.length_singleton, hn]; exact hO8⟩)
 ·refine Qjr rfl rfl rfl (by omega) ?_
  (repeat' (first | refine JC.ops ?_ | refine JO.nil ?_ | refine Q00 ?_ | (apply Q06; (iterate 3 exact rfl)) | (apply Q0g; (iterate 4 exact rfl); exact at0; exact rfl) | (apply Q28; exact rfl; (first | exact trivial | exact ⟨rfl, rfl⟩); exact rfl; exact rfl; exact at0; exact rfl; exact rfl; (first | exact Nat.le_of_ble_eq_true rfl | (simp; done) | omega))))
  refine Qjr rfl rfl rfl (by omega) ?_
  (repeat' (first | refine JC.seq ?_ | refine JC.ops ?_ | refine JO.nil ?_ | refine Q00 ?_ | (apply Q06; (iterate 3 exact rfl)) | (apply Q0d; (iterate 4 exact rfl); (first | exact at0 | exact at1); exact rfl) | (apply Q05; exact rfl; (first | exact trivial | exact ⟨rfl, rfl⟩); exact rfl; exact rfl; (first | exact at0 | exact at1); (iterate 3 exact rfl)) | (apply Q05; exact rfl; (first | exact trivial | exact ⟨rfl, rfl⟩); exact rfl; exact rfl; (first | exact at0 | exact at1); (iterate 3 exact rfl)) | (apply Q28; exact rfl; (first | exact trivial | exact ⟨rfl, rfl⟩); exact rfl; exact rfl; (first | exact at0 | exact at1); exact rfl; exact rfl; (first | exact Nat.le_of_ble_eq_true rfl | (simp; done) | omega)) | refine JC.ret ?_ | refine Q0b ?_))
  exact Q0z 1 rfl rfl rfl (fun a' w' st => ⟨st.kp, ⟨-a.R, -a.C, a.E⟩, hB.rc (by omega) (by omega), N, st.newOf rfl (by (repeat' first | exact HSub.nil _ | exact HSub.hd | exact Q03 | exact HSub.refl _ | refine HSub.skip ?_ | refine Q01 ?_)), _, rfl, by dsimp only; rw [hn]; exact hO6⟩)
 ·have hel := hB.elt (k := K)
  (repeat' (first | refine JC.opsD ?_ | (apply Q04; (iterate 3 exact rfl)) | (apply Q06; (iterate 3 exact rfl)) | (apply Q0g; (iterate 4 exact rfl); exact at0; exact rfl) | (apply Q4u; (iterate 4 exact rfl); (first | assumption | exact WX.rd (by assumption) rfl [] | exact OwnX.rd (by assumption)); (first | assumption | omega)) | (apply Q9e; (iterate 4 exact rfl); (first | assumption | exact WX.rd (by assumption) rfl [] | exact OwnX.rd (by assumption)); (repeat' first | exact HSub.nil _ | exact HSub.hd | exact Q03 | exact HSub.refl _ | refine HSub.skip ?_ | refine Q01 ?_); (first | assumption | omega)) | (apply Qjv; (iterate 4 exact rfl); (first | assumption | exact WX.rd (by assumption) rfl [] | exact OwnX.rd (by assumption)); (repeat' first | exact HSub.nil _ | exact HSub.hd | exact Q03 | exact HSub.refl _ | refine HSub.skip ?_ | refine Q01 ?_); (first | assumption | omega)) | (apply Q4j; (iterate 3 exact rfl); (first | assumption | exact WX.rd (by assumption) rfl [] | exact OwnX.rd (by assumption)); omega)))
  refine Qnh (l := [0]) rfl rfl rfl rfl (by simp only [List.length_singleton]; omega) ?_
  (repeat' (first | (apply Q4u; (iterate 4 exact rfl); (first | assumption | exact WX.rd (by assumption) rfl [] | exact OwnX.rd (by assumption)); (first | assumption | omega)) | (apply Q11; (iterate 5 exact rfl))))
  refine Qky (A := [_, _, _, _]) (u := ((a.E.getD K w0x).1, 0 :: (a.E.getD K w0x).2)) hO6 rfl rfl (by first | trivial | exact ⟨rfl, rfl⟩) rfl rfl (by omega) (fun N8 hO8 => ?_)
  (repeat' (first | refine JC.seq ?_ | refine JC.ops ?_ | refine JO.nil ?_ | refine Q00 ?_ | (apply Q0d; (iterate 4 exact rfl); (first | exact at0 | exact at1); exact rfl) | (apply Q05; exact rfl; (first | exact trivial | exact ⟨rfl, rfl⟩); exact rfl; exact rfl; (first | exact at0 | exact at1); (iterate 3 exact rfl)) | (apply Q05; exact rfl; (first | exact trivial | exact ⟨rfl, rfl⟩); exact rfl; exact rfl; (first | exact at0 | exact at1); (iterate 3 exact rfl)) | refine JC.ret ?_ | refine Q0b ?_))
  exact Q0z 1 rfl rfl rfl (fun a' w' st => ⟨st.kp, ⟨a.R, a.C, a.E.set K ((a.E.getD K w0x).1, 0 :: (a.E.getD K w0x).2)⟩, hB.set (by simp only [List.length_cons]; omega), N8, st.newOf rfl (by (repeat' first | exact HSub.nil _ | exact HSub.hd | exact Q03 | exact HSub.refl _ | refine HSub.skip ?_ | refine Q01 ?_)), _, rfl, by simp only [List.length_set, hn]; exact hO8⟩)
 ·exact Q0z 1 rfl rfl rfl (fun a' w' st => ⟨st.kp, ⟨a.R, a.C, a.E⟩, hB.up, N, st.newOf rfl (by (repeat' first | exact HSub.nil _ | exact HSub.hd | exact Q03 | exact HSub.refl _ | refine HSub.skip ?_ | refine Q01 ?_)), _, rfl, by dsimp only; rw [hn]; exact hO6⟩)
 ·refine Qci (l := [(0, .bool true)]) (cs := #[.bool true, .string ⟨#[]⟩]) rfl rfl rfl rfl ?_
  (repeat' (first | (apply Q4u; (iterate 4 exact rfl); (first | assumption | exact WX.rd (by assumption) rfl [] | exact OwnX.rd (by assumption)); (first | assumption | omega))))
  refine Qky (A := [_, _, _, _]) (u := (true, [])) hO6 rfl rfl (by first | trivial | exact ⟨rfl, rfl⟩) rfl rfl (by omega) (fun N8 hO8 => ?_)
  (repeat' (first | refine JC.seq ?_ | refine JC.ops ?_ | refine JO.nil ?_ | refine Q00 ?_ | (apply Q0d; (iterate 4 exact rfl); (first | exact at0 | exact at1); exact rfl) | (apply Q05; exact rfl; (first | exact trivial | exact ⟨rfl, rfl⟩); exact rfl; exact rfl; (first | exact at0 | exact at1); (iterate 3 exact rfl)) | (apply Q05; exact rfl; (first | exact trivial | exact ⟨rfl, rfl⟩); exact rfl; exact rfl; (first | exact at0 | exact at1); (iterate 3 exact rfl)) | refine JC.ret ?_ | refine Q0b ?_))
  exact Q0z 1 rfl rfl rfl (fun a' w' st => ⟨st.kp, ⟨a.R, a.C, a.E.set K (true, [])⟩, hB.set (by simp only [List.length_nil]; omega), N8, st.newOf rfl (by (repeat' first | exact HSub.nil _ | exact HSub.hd | exact Q03 | exact HSub.refl _ | refine HSub.skip ?_ | refine Q01 ?_)), _, rfl, by simp only [List.length_set, hn]; exact hO8⟩)
 ·exact Q0z 1 rfl rfl rfl (fun a' w' st => ⟨st.kp, ⟨a.R, a.C, a.E⟩, hB.up, N, st.newOf rfl (by (repeat' first | exact HSub.nil _ | exact HSub.hd | exact Q03 | exact HSub.refl _ | refine HSub.skip ?_ | refine Q01 ?_)), _, rfl, by dsimp only; rw [hn]; exact hO6⟩)
 ·exact Q0z 1 rfl rfl rfl (fun a' w' st => ⟨st.kp, ⟨a.R, 4611686018427387904, a.E⟩, hB.rc (by omega) (by omega), N, st.newOf rfl (by (repeat' first | exact HSub.nil _ | exact HSub.hd | exact Q03 | exact HSub.refl _ | refine HSub.skip ?_ | refine Q01 ?_)), _, rfl, by dsimp only; rw [hn]; exact hO6⟩)
 ·exact Q0z 1 rfl rfl rfl (fun a' w' st => ⟨st.kp, ⟨a.R, a.C, a.E⟩, hB.up, N, st.newOf rfl (by (repeat' first | exact HSub.nil _ | exact HSub.hd | exact Q03 | exact HSub.refl _ | refine HSub.skip ?_ | refine Q01 ?_)), _, rfl, by dsimp only; rw [hn]; exact hO6⟩)

end Go.Proofs.YtdlmnloikakjpaaGreatDoor

