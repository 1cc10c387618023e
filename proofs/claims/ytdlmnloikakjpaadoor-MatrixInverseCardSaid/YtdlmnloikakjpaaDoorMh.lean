import Derived.Test.YtdlmnloikakjpaaDoorMg
import Derived.Test.YtdlmnloikakjpaaDoorRows
import Derived.WalkKit
import Derived.ProofKit
import Derived.OpenShut
import Derived.ShutString
import Derived.ChangeOld
import Derived.Below
import Derived.Lib.SmallJoins
import Derived.SizedLaws
namespace Go.Proofs.YtdlmnloikakjpaaDoor
open Go Go.RowKit Go.ChangeShapes Go.WideShapes Go.ChangeAt
set_option linter.unusedSimpArgs false
set_option linter.unusedVariables false
set_option linter.unusedSectionVars false

theorem own : ownKnob Tryd.prog.godebug = none := by kernel_rfl
theorem laidOut : laidOutB Tryd.prog = true := by kernel_rfl
theorem cellsS : Tryd.prog.cellsOf 24 = 3 := by kernel_rfl

theorem u8_nat {n : Int} (h : (Lit.int .u8 n).wf = true) : ∃ m : Nat, n = m ∧ m < 256 := by
  have h1 : 0 ≤ n ∧ n < 256 := by
    have hmin : IntKind.u8.min = 0 := by decide
    have hmax : IntKind.u8.max = 255 := by decide
    simp only [Lit.wf, Bool.and_eq_true, decide_eq_true_eq, hmin, hmax] at h
    omega
  exact ⟨n.toNat, by omega, by omega⟩
theorem i64_wf {n : Int} (h : (Lit.int .i64 n).wf = true) : I64 n := by
  have hmin : IntKind.i64.min = -9223372036854775808 := by decide
  have hmax : IntKind.i64.max = 9223372036854775807 := by decide
  simp only [Lit.wf, Bool.and_eq_true, decide_eq_true_eq, hmin, hmax] at h
  unfold I64
  omega
theorem i64_getD {l : List Int} (h : ∀ n ∈ l, I64 n) (i : Nat) : I64 (l.getD i 0) := by
  rw [List.getD]
  cases hi : l[i]? with
  | none => exact ⟨by decide, by decide⟩
  | some x => exact h x (List.mem_of_getElem? hi)

theorem WI.of_row {w : World} {a : Addr} {len cap : Nat} {zs : List Int} (hl : len ≤ cap) (hz : zs.length = cap) (hc : ∀ i, i < zs.length → w.cell? (a.add i) = some (.int .i64 (zs.getD i 0))) : WI w (.slice (some a) len cap) len (zs.take len) := by
  refine ⟨by simp [hz]; omega, some a, cap, rfl, hl, fun h0 => ?_⟩
  obtain ⟨b, o, sp⟩ := a
  have hsp : sp = none := by
    have := hc 0 (by omega)
    cases sp with
    | none => rfl
    | some s =>
      simp only [Addr.add, if_true, World.cell?] at this
      split at this <;> simp at this
  subst hsp
  refine ⟨⟨b, o, rfl⟩, fun j u hu => ?_⟩
  simp only [vAt]
  rw [List.getElem?_map, List.getElem?_take] at hu
  split at hu
  · rename_i hj
    have hjz : j < zs.length := by omega
    rw [gD_lt (d := 0) hjz] at hu
    cases hu
    rw [← add_none]
    exact hc j hjz
  · cases hu

set_option maxRecDepth 100000 in
theorem open_shape {H : Type} {enc : TypeId × Value → H} {w : World} {r : Reach} {b0 : Nat} {held : Bool} {v : Value} {d : DataW H} {ps : List MemPlace} (hv : Value.okWide Tryd.prog w r b0 24 v)
    (h : DataW.Trod enc Tryd.prog w 0 (fun _ => true) held 24 v d ps) : ∃ R C L, IsS w v R C L := by
  obtain ⟨v0, v1, v2, y0, y1, y2, n, rfl, rfl, _, h0, h1, h2⟩ := Joins.open_agg3 Tryd.underlying24 (by kernel_rfl) cellsS hv h
  obtain ⟨n0, e0, _, w0⟩ := DataW.trod_int Tryd.underlying5 h0
  obtain ⟨n1, e1, _, w1⟩ := DataW.trod_int Tryd.underlying5 h1
  simp only [List.cons.injEq, and_true] at e0 e1
  subst e0 e1
  obtain ⟨m0, rfl, l0⟩ := u8_nat w0
  obtain ⟨m1, rfl, l1⟩ := u8_nat w1
  rcases open_ints Tryd.underlying22 Tryd.underlying3 (by kernel_rfl) h2 with ⟨hcs, _⟩ | ⟨x, l, c, zs, hcs, _, hl, hm, hz, _, hcell, hwz⟩
  · simp only [List.cons.injEq, and_true] at hcs
    subst hcs
    exact ⟨m0, m1, [], l0, l1, fun i => ⟨by simp, by simp⟩, _, rfl, ⟨rfl, none, 0, rfl, Nat.le_refl _, fun h => absurd h (Nat.lt_irrefl _)⟩⟩
  · simp only [List.cons.injEq, and_true] at hcs
    subst hcs
    have hzl : zs.length = c := by simpa using hz
    have hW := WI.of_row hl hzl hcell
    have hlen : (zs.take l).length = l := by simp [hzl]; omega
    exact ⟨m0, m1, zs.take l, l0, l1, i64_getD fun n hn => i64_wf (hwz n (List.mem_of_mem_take hn)), _, rfl, by rw [hlen]; exact hW⟩

end Go.Proofs.YtdlmnloikakjpaaDoor

namespace Go.Proofs.YtdlmnloikakjpaaDoor
open Go Go.RowKit
set_option linter.unusedSimpArgs false
set_option linter.unusedVariables false
set_option linter.unusedSectionVars false

end Go.Proofs.YtdlmnloikakjpaaDoor

namespace Go.Proofs.YtdlmnloikakjpaaDoor
open Go Go.RowKit Go.Shelf
set_option linter.unusedSimpArgs false
set_option linter.unusedVariables false
set_option linter.unusedSectionVars false

attribute [local go_sem] Oper.semAt_some

def rowV (A : Option Addr) (cap c i : Nat) : Value := .slice (if cap = i * c then A else A.map (·.add (i * c * 2))) ((i + 1) * c - i * c) (cap - i * c)

set_option maxRecDepth 100000 in
set_option maxHeartbeats 4000000 in
theorem rows1_in (n : Nat) (hn : 1 ≤ n) (l bx r c k cap : Nat) (A : Option Addr) (hr : r ≤ 200) (hc : c ≤ 200) (hl : r * c ≤ k) (hk : k ≤ cap) (J Jx : List {i : Nat // i < r} → World → Prop)
    (hY : ∀ pre (x : {i : Nat // i < r}) W, J pre W → pre.length < r → YieldAt Fence.wide (n - 1) Tryd.prog l #[nv x.1, rowV A cap c x.1] W fun e W' =>
      (e = .returned (.bool true) ∧ J (pre ++ [x]) W' ∧ KB [bx] W W') ∨ (e = .returned (.bool false) ∧ Jx (pre ++ [x]) W'))
    (W : World) (hB : W.heap[bx]? = some (.cells #[nv r, nv c, .slice A k cap] 29)) (h0 : J [] W) :
    CallsIn Fence.wide n Tryd.prog 85 #[.func (.yield l) #[] #[], .pointer (some ⟨bx, 0, none⟩)] W fun e W' => (∃ v, e = .returned v) ∧
      ((∃ ys : List {i : Nat // i < r}, ys.map (·.1) = List.range r ∧ J ys W') ∨ (∃ pre, True ∧ Jx pre W')) := by
  have hb0 : W.cell? ⟨bx, 0, none⟩ = some (nv r) := cell_of_blk hB rfl
  have hb1 : W.cell? ⟨bx, 1, none⟩ = some (nv c) := cell_of_blk hB rfl
  have hb2 : W.cell? ⟨bx, 2, none⟩ = some (.slice A k cap) := cell_of_blk hB rfl
  refine callsIn_of_wp Tryd.func85 rfl trivial ?_ rfl
  simp only [Tryd.ntmps85, List.size_toArray, List.length_cons, List.length_nil, Nat.reduceAdd, Nat.reduceSub, Array.replicate_succ, Array.replicate_zero, List.push_toArray, List.append_toArray, List.nil_append, List.cons_append]
  gi_wp2
  gi_loopw [6] (fun i wr => ∃ q : Nat, q ≤ r ∧ i = .int .i64 (q : Int) ∧ (∃ ys : List {i : Nat // i < r}, ys.map (·.1) = List.range q ∧ J ys wr) ∧ KB [bx] W wr)
    (fun i _ => (r - intOf i).toNat)
  case atStart => exact ⟨0, Nat.zero_le _, by simp, ⟨[], rfl, h0⟩, KB.refl _ _⟩
  case round =>
    obtain ⟨q, hq, rfl, ⟨ys, hys, hJs⟩, hnx⟩ := hrel
    have hw0 : wr.cell? ⟨bx, 0, none⟩ = some (nv r) := (hnx.cell (p := ⟨bx, 0, none⟩) (by simp)).trans hb0
    have hw1 : wr.cell? ⟨bx, 1, none⟩ = some (nv c) := (hnx.cell (p := ⟨bx, 1, none⟩) (by simp)).trans hb1
    have hw2 : wr.cell? ⟨bx, 2, none⟩ = some (.slice A k cap) := (hnx.cell (p := ⟨bx, 2, none⟩) (by simp)).trans hb2
    by_cases hlt : q < r
    · obtain ⟨fn, tmps, assign, body, hy, hR⟩ := hY ys ⟨q, hlt⟩ wr hJs (by have := congrArg List.length hys; rw [List.length_map, List.length_range] at this; omega)
      dsimp only at hy
      have hqc : q * c ≤ 40000 := Nat.mul_le_mul (show q ≤ 200 by omega) hc
      have hqc1 : (q + 1) * c ≤ r * c := zx_row hlt
      have hqc2 : (q + 1) * c ≤ 40000 := Nat.le_trans hqc1 (rcZ hr hc)
      have e : ((q : Int) + 1) * (c : Int) = (((q + 1) * c : Nat) : Int) := by simp
      have hI0 : 0 ≤ ((q : Int) + 1) * (c : Int) := by rw [e]; exact Int.natCast_nonneg _
      have hI1 : ((q : Int) + 1) * (c : Int) ≤ (cap : Int) := by rw [e]; omega
      have hI3 : ((q : Int) + 1) * (c : Int) ≤ 40000 := by rw [e]; omega
      have hI2 : (q : Int) * (c : Int) ≤ ((q : Int) + 1) * (c : Int) := by rw [Int.add_mul]; omega
      have e2 : (q + 1) * c = (((q : Int) + 1) * (c : Int)).toNat := by rw [e]; rfl
      by_cases hcc : cap = q * c
      · subst hcc
        simp only [rowV, if_true, Nat.sub_self] at hy
        clear e e2
        gi_wp2
        refine hR.mono ?_
        rintro e W3 (⟨rfl, hJ3, hk3⟩ | ⟨rfl, hJx3⟩)
        · gi_wp2
          go_roundw
          case rel => exact ⟨q + 1, by omega, by simp, ⟨_, by rw [List.map_append, hys, List.range_succ]; rfl, hJ3⟩, hnx.trans hk3⟩
          case measure => first | (simp [intOf]; done) | (simp [intOf]; omega)
        · gi_wp2
          refine bodyPost_ret (results_none rfl _ _ _) rfl ?_
          exact ⟨⟨_, rfl⟩, .inr ⟨_, trivial, hJx3⟩⟩
      · simp only [rowV, if_neg hcc] at hy; clear e e2
        gi_wp2
        refine hR.mono ?_
        rintro e W3 (⟨rfl, hJ3, hk3⟩ | ⟨rfl, hJx3⟩)
        · gi_wp2
          go_roundw
          case rel => exact ⟨q + 1, by omega, by simp, ⟨_, by rw [List.map_append, hys, List.range_succ]; rfl, hJ3⟩, hnx.trans hk3⟩
          case measure => first | (simp [intOf]; done) | (simp [intOf]; omega)
        · gi_wp2
          refine bodyPost_ret (results_none rfl _ _ _) rfl ?_
          exact ⟨⟨_, rfl⟩, .inr ⟨_, trivial, hJx3⟩⟩
    · obtain rfl : q = r := by omega
      gi_wp2
      go_end0
      exact ⟨⟨_, rfl⟩, .inl ⟨ys, hys, hJs⟩⟩

theorem rows_iter {r c k cap bx : Nat} {A : Option Addr} (hr : r ≤ 200) (hc : c ≤ 200) (hl : r * c ≤ k) (hk : k ≤ cap) :
    IterOf Tryd.prog 85 #[.pointer (some ⟨bx, 0, none⟩)] (fun i => nv i) (rowV A cap c) r bx (.cells #[nv r, nv c, .slice A k cap] 29) := fun n w hn hb l J Jx W hW _ _ hY h0 =>
  rows1_in n hn l bx r c k cap A hr hc hl hk J Jx hY W ((hW.block bx (Array.getElem?_eq_some_iff.1 hb).1).trans hb) h0

end Go.Proofs.YtdlmnloikakjpaaDoor

namespace Go.Proofs.YtdlmnloikakjpaaDoor
open Go Go.RowKit
set_option linter.unusedSimpArgs false
set_option linter.unusedVariables false
set_option linter.unusedSectionVars false

theorem c_rows (w : World) (r c k cap : Nat) (A : Option Addr) : Calls Tryd.prog 52 #[.agg #[nv r, nv c, .slice A k cap]] w (Ret fun v w' => Kp [] w w' ∧ ∃ bx, v = .func (.func 85) #[] #[.pointer (some ⟨bx, 0, none⟩)] ∧ New [(bx, .cells #[nv r, nv c, .slice A k cap] 29 (0, 0))] w w') := by
  refine calls_of_S [] [] (by simp) [] Tryd.func52 rfl mixed (by kernel_rfl) Tryd.ntmps52 Tryd.results52 rfl ⟨by simp, by simp⟩ (by simp) ?_
  simp only [toS, textOps, toSOp, kindAt, kindOf, odAt, sopsAt, ordOf, zipF]
  (repeat' (first | refine JC.seq ?_ | refine JC.ops ?_ | refine JO.nil ?_ | refine JX.thenN ?_ | (apply r_assign; (iterate 3 exact rfl)) | (apply r_boxA; (iterate 4 exact rfl); intro _) | (apply r_makeFunc; (iterate 4 exact rfl)) | refine JC.ret ?_))
  exact JX.ret1 rfl (fun a w' st => ⟨st.kp, _, rfl, st.newOf rfl HSub.hd⟩)

theorem wz_block {w : World} {v : Value} {n : Nat} {zs : List Int} (h : WZ w v n zs) (hn : 0 < n) : (vAt v 0).block < w.heap.size := by
  have hl : (xcs (zs.map wz)).length = n * 2 := h.1
  obtain ⟨_, A, cap, rfl, _, hA⟩ := h
  obtain ⟨_, h2⟩ := hA hn
  have h3 := h2 0 _ (List.getElem?_eq_getElem (by omega))
  exact lt_of_cell h3
theorem rd_body {wb : World} {c2 : Cx} {v : Value} {n : Nat} {zs : List Int} (hv : WZ wb v n zs) (hk : Kp [] wb c2.w0) (hge : ∀ k ∈ c2.M, wb.heap.size ≤ k) (N : SHeap) : RdZ c2 N v n zs :=
  WZ.rdM (hv.mono hk) (fun hn hm => by have := wz_block hv hn; have := hge _ hm; omega) N
theorem keys_ge {H : SHeap} {n : Nat} (h : ∀ p ∈ H, n ≤ p.1) : ∀ k ∈ keys H, n ≤ k := fun k hk => by
  obtain ⟨p, hp, rfl⟩ := List.mem_map.1 hk
  exact h p hp

def rowI (m : ZM) (i : Nat) : List Int := (m.e.drop (i * m.c)).take m.c
theorem rowI_get {m : ZM} {i j : Nat} (hj : j < m.c) : (rowI m i).getD j 0 = m.at i j := row_enz hj
theorem rowI_len {m : ZM} {i : Nat} (hm : RtZ m) (hi : i < m.r) : (rowI m i).length = m.c := by
  unfold rowI
  rw [List.length_take, List.length_drop, hm.len]
  have := zx_row (c := m.c) hi
  rw [Nat.add_mul] at this; omega
theorem rowI_tab {m : ZM} {i : Nat} (hm : RtZ m) (hi : i < m.r) : rowI m i = tab m.c (m.at i) := by
  refine tab_ext (rowI_len hm hi) (fun j hj => ?_)
  rw [gD_lt (d := 0) (by rw [rowI_len hm hi]; exact hj), rowI_get hj]

theorem wz_cap {w : World} {A : Option Addr} {n cap : Nat} {zs : List Int} (h : WZ w (.slice A n cap) n zs) : n ≤ cap := by
  obtain ⟨_, A', cap', he, h, _⟩ := h
  cases he
  exact h
theorem row_wz {w : World} {m : ZM} {A : Option Addr} {cap i : Nat} (hm : RtZ m) (h : WZ w (.slice A (m.r * m.c) cap) (m.r * m.c) m.e) (hi : i < m.r) : WZ w (rowV A cap m.c i) m.c (rowI m i) := by
  have hrow := zx_row (c := m.c) hi
  have e1 : (i + 1) * m.c - i * m.c = m.c := by rw [Nat.add_mul]; omega
  have e2 : (i + 1) * m.c = i * m.c + m.c := by rw [Nat.add_mul]; omega
  have hlen := rowI_len hm hi
  obtain ⟨hl, A', cap', he, hcap, hA⟩ := h
  simp only [Value.slice.injEq] at he
  obtain ⟨rfl, _, rfl⟩ := he
  refine ⟨by rw [xcs_len, List.length_map, hlen], _, _, by unfold rowV; rw [e1], by omega, fun hc => ?_⟩
  obtain ⟨⟨b, o, rfl⟩, h2⟩ := hA (by omega)
  have hne : cap ≠ i * m.c := by omega
  rw [if_neg hne]
  refine ⟨⟨b, o + i * m.c * 2, by simp [add_none]⟩, fun j u hu => ?_⟩
  have hx : xcs ((rowI m i).map wz) = ((xcs (m.e.map wz)).drop (i * m.c * 2)).take (m.c * 2) := by
    unfold rowI
    rw [List.map_take, List.map_drop, ← xcs_take, ← xcs_drop]
  rw [hx, List.getElem?_take] at hu
  split at hu
  · rw [List.getElem?_drop] at hu
    have := h2 _ u hu
    unfold rowV
    rw [if_neg hne]
    simpa [Nat.add_assoc, add_none, vAt] using this
  · cases hu

set_option maxHeartbeats 2000000 in
theorem c_CloneZ (w : World) (v : Value) (n : Nat) (xs : List Int) (hv : WZ w v n xs) (hn : n ≤ 1000000) :
    Calls Tryd.prog 91 #[v] w (Ret fun u w' => Kp [] w w' ∧ ∃ N, New N w w' ∧ OwnZ N u n xs) := by
  obtain ⟨A, cap, rfl⟩ := hv.form
  cases A with
  | none =>
    have h0 : n = 0 ∧ xs = [] := by
      have h1 := hv.len
      rcases Nat.eq_zero_or_pos n with h | h
      · subst h; exact ⟨rfl, List.eq_nil_of_length_eq_zero h1⟩
      · obtain ⟨_, A, cap', he, _, hA⟩ := hv
        cases he
        obtain ⟨⟨_, _, h2⟩, _⟩ := hA (by omega)
        cases h2
    obtain ⟨rfl, rfl⟩ := h0
    refine calls_of_S [] [] (by simp) [] Tryd.func91 rfl mixed (by kernel_rfl) Tryd.ntmps91 Tryd.results91 rfl ⟨by simp, by simp⟩ (by simp) ?_
    simp only [toS, textOps, toSOp, kindAt, kindOf, odAt, sopsAt, ordOf, zipF]
    (repeat' (first | refine JC.seq ?_ | refine JC.ops ?_ | refine JO.nil ?_ | refine JX.thenN ?_ | (apply r_move; (iterate 3 exact rfl)) | (apply r_assign; (iterate 3 exact rfl)) | (apply r_eqNil; (iterate 4 exact rfl)) | refine JX.thenR ?_ | refine JC.ret ?_ | refine JC.condT rfl ?_))
    exact JX.ret1 rfl (fun a w' st => ⟨st.kp, [], New.nil _ _, OwnZ.nil⟩)
  | some ad =>
    refine calls_of_S [] [] (by simp) [] Tryd.func91 rfl mixed (by kernel_rfl) Tryd.ntmps91 Tryd.results91 rfl ⟨by simp, by simp⟩ (by simp) ?_
    simp only [toS, textOps, toSOp, kindAt, kindOf, odAt, sopsAt, ordOf, zipF]
    (repeat' (first | refine JC.seq ?_ | refine JC.ops ?_ | refine JO.nil ?_ | refine JX.thenN ?_ | (apply r_move; (iterate 3 exact rfl)) | (apply r_assign; (iterate 3 exact rfl)) | (apply r_eqNil; (iterate 4 exact rfl)) | refine JC.skip ?_ | refine JC.condF rfl ?_))
    refine r_buildSlice0 rfl rfl rfl (fun b => ?_)
    (repeat' (first | (apply r_move; (iterate 3 exact rfl))))
    have hO : OwnZ [(b, .cells #[] 41)] (.slice (some ⟨b, 0, none⟩) 0 0) 0 [] := by
      have := OwnRow.mk' (e := 41) (sz := 2) (n := 0) (b := b) (cs := #[]) rfl (by simp only [maxLen]; omega)
      exact this
    refine r_appendZ (A := []) hO (WZ.rd hv rfl []) (by (repeat' first | exact HSub.nil _ | exact HSub.hd | exact HSub.in0 | exact HSub.refl _ | refine HSub.skip ?_ | refine HSub.skipN ?_)) rfl trivial rfl rfl rfl rfl (by omega) (fun v' N' hO' => ?_)
    rw [Nat.zero_add, List.nil_append] at hO'
    (repeat' (first | refine JO.nil ?_ | refine JX.thenN ?_ | (apply r_assign; (iterate 3 exact rfl)) | refine JC.ret ?_))
    exact JX.ret1 rfl (fun a w' st => ⟨st.kp, N', st.newOf rfl (by (repeat' first | exact HSub.nil _ | exact HSub.hd | exact HSub.in0 | exact HSub.refl _ | refine HSub.skip ?_ | refine HSub.skipN ?_)), hO'⟩)


theorem tab_append {n k : Nat} {f g : Nat → Int} : tab n f ++ tab k g = tab (n + k) fun j => if j < n then f j else g (j - n) := by
  refine tab_ext (by simp [tab]) (fun i hi => ?_)
  rw [List.getElem?_append]
  by_cases h : i < n
  · rw [if_pos (by simpa [tab] using h), if_pos h, tab_get h]
  · rw [if_neg (by simpa [tab] using h), if_neg h]
    have : (tab n f).length = n := by simp [tab]
    rw [this, tab_get (by omega)]
theorem tbz_rows (c : Nat) (g : Mi) : ∀ r, tbz r c g = (List.range r).flatMap fun i => tab c (g i)
  | 0 => by simp [tbz, tab]
  | r + 1 => by
    rw [List.range_succ, List.flatMap_append, ← tbz_rows c g r]
    refine zm_ext (r := r + 1) (c := c) (tbz_len _ _ _) (by simp [tbz_len, tab, Nat.add_mul]) (fun i j hi hj => ?_)
    rw [enz_tbz hi hj]
    unfold enz
    simp only [List.getD, List.getElem?_append, tbz_len, List.flatMap_cons, List.flatMap_nil, List.append_nil]
    by_cases h : i < r
    · rw [if_pos (zx_lt h hj)]
      have := tbz_get (g := g) h hj
      simp only [List.getD] at this
      exact this.symm
    · obtain rfl : i = r := by omega
      rw [if_neg (by omega), show i * c + j - i * c = j by omega, tab_get hj]
      rfl

def joinS (m n : ZM) (pre : List Nat) : List Int := pre.flatMap fun i => rowI m i ++ rowI n i
theorem joinS_next (m n : ZM) (pre : List Nat) (i : Nat) : joinS m n (pre ++ [i]) = joinS m n pre ++ rowI m i ++ rowI n i := by simp [joinS]
theorem joinS_end {m n : ZM} (hm : RtZ m) (hn : RtZ n) (hr : m.r = n.r) : joinS m n (List.range m.r) = (joinZ m n).e := by
  show joinS m n (List.range m.r) = tbz m.r (m.c + n.c) (fun i j => if j < m.c then m.at i j else n.at i (j - m.c))
  rw [tbz_rows]
  unfold joinS
  have : ∀ (l : List Nat), (∀ i ∈ l, i < m.r) → (l.flatMap fun i => rowI m i ++ rowI n i) = l.flatMap fun i => tab (m.c + n.c) fun j => if j < m.c then m.at i j else n.at i (j - m.c) := fun l => by
    induction l with
    | nil => intro _; rfl
    | cons i l ih =>
      intro h
      have hi := h i (by simp)
      rw [List.flatMap_cons, List.flatMap_cons, ih (fun j hj => h j (by simp [hj])), rowI_tab hm hi, rowI_tab hn (hr ▸ hi), tab_append]
  exact this _ (fun i hi => List.mem_range.1 hi)

set_option maxHeartbeats 8000000 in
theorem c_Join (w : World) (v u : Value) (m n : ZM) (hm : RtZ m) (hn : RtZ n) (hr : m.r = n.r) (hcc : m.c + n.c ≤ 200) (hv : IsM w v m) (hu : IsM w u n) :
    Calls Tryd.prog 16 #[v, u] w (Ret fun v w' => Kp [] w w' ∧ GivesMB (joinZ m n) true w v w') := by
  have hvX := hv.x
  have huX := hu.x
  obtain ⟨E, rfl, hE⟩ := hv
  obtain ⟨E', rfl, hE'⟩ := hu
  have hl := hm.len
  have hle := hm.le
  have hl' := hn.len
  have hle' := hn.le
  have hbr := hm.r
  have hbc := hm.c
  have hbc' := hn.c
  rw [hl] at hE
  rw [hl'] at hE'
  obtain ⟨A, cap, rfl⟩ := hE.form
  obtain ⟨A', cap', rfl⟩ := hE'.form
  have hcap : m.r * m.c ≤ cap := wz_cap hE
  refine calls_of_Z 5 [⟨7, 2, [0, 1, 2, 4, 5, 6, 7, 8, 9, 10, 11, 12, 13, 14, 15, 3, 16, 17, 18], []⟩] Tryd.func16 rfl mixed (by kernel_rfl) Tryd.ntmps16 (by simp) ?_
  simp only [toZ, hasRF, Bool.or_false, Bool.false_or, Bool.or_self, Bool.true_or, cond_true, cond_false, toS, textOps, toSOp, kindAt, kindOf, odAt, sopsAt, ordOf, zipF]
  (repeat' (first | refine JC.seq ?_ | refine JC.ops ?_ | refine JO.nil ?_ | refine JX.thenN ?_ | (apply r_assign; (iterate 3 exact rfl)) | (apply r_loadN; (iterate 4 exact rfl); exact at2; exact rfl) | (apply r_allocZ; (iterate 3 exact rfl); intro _) | (apply r_boxA; (iterate 4 exact rfl); intro _)))
  rename_i b2 b3 b4
  refine r_call0 trivial rfl rfl rfl (fun w hk _ => c_Right w _ m.xm (hvX.mono hk) (by simp [ZM.xm]; omega)) fun w v w' _ _ _ hR => ?_
  obtain ⟨b', rfl, hb⟩ := hR
  obtain rfl := hb.2 hm.rx
  (repeat' (first | (apply r_move; (iterate 3 exact rfl)) | (apply r_loadN; (iterate 4 exact rfl); exact at1; exact rfl) | (apply r_not; (iterate 3 exact rfl))))
  refine r_call0 trivial rfl rfl rfl (fun w hk _ => c_Right w _ n.xm (huX.mono hk) (by simp [ZM.xm]; omega)) fun w v w' _ _ _ hR => ?_
  obtain ⟨b', rfl, hb⟩ := hR
  obtain rfl := hb.2 hn.rx
  (repeat' (first | refine JC.seq ?_ | refine JC.ops ?_ | refine JO.nil ?_ | refine JX.thenN ?_ | (apply r_move; (iterate 3 exact rfl)) | (apply r_fieldAddr; (iterate 3 exact rfl)) | (apply r_load; (iterate 4 exact rfl); (first | exact at0 | exact at1 | exact at2 | exact at3); exact rfl) | (apply r_loadN; (iterate 4 exact rfl); (first | exact at0 | exact at1 | exact at2 | exact at3); exact rfl) | (apply r_build2; (iterate 4 exact rfl)) | (apply r_addN; (iterate 4 exact rfl); omega) | (apply r_pickF; (iterate 4 exact rfl)) | (apply r_not; (iterate 3 exact rfl)) | (apply r_storeN; exact rfl; (first | exact trivial | exact ⟨rfl, rfl⟩); exact rfl; exact rfl; (first | exact at0 | exact at1 | exact at2 | exact at3); (iterate 3 exact rfl)) | (apply r_gtr; (iterate 4 exact rfl); all_goals intro hc; all_goals try (exfalso; omega)) | (apply r_neq; (iterate 4 exact rfl); all_goals intro hc; all_goals try (exfalso; omega)) | (apply r_allocZ; (iterate 3 exact rfl); intro _) | (apply r_storeN; exact rfl; (first | exact trivial | exact ⟨rfl, rfl⟩); exact rfl; exact rfl; (first | exact at0 | exact at1 | exact at2 | exact at3); (iterate 3 exact rfl)) | refine JC.skip ?_ | refine JC.condF rfl ?_))
  rename_i b6
  refine r_callA (A := []) rfl trivial rfl rfl rfl (fun w hk _ => c_rows w m.r m.c (m.r * m.c) cap A) fun w v w' _ _ _ hR => ?_
  obtain ⟨bx, rfl, hNx⟩ := hR
  refine ⟨_, hNx, ?_⟩
  (repeat' (first | refine JO.nil ?_ | refine JX.thenN ?_ | refine JC.block ?_))
  have hbx : ∀ (v : Value) (N : SHeap), (bx, Obj.cells #[nv m.r, nv m.c, .slice A (m.r * m.c) cap] 29 (0, 0)) ∈ ([(bx, Obj.cells #[nv m.r, nv m.c, .slice A (m.r * m.c) cap] 29 (0, 0)), (b6, .cells #[nv m.r, nv (m.c + n.c), v] 29 (0, 0)), (b4, .cells #[iv 0, iv 0, .slice none 0 0] 29 (0, 0)), (b3, .cells #[nv n.r, nv n.c, .slice A' (n.r * n.c) cap'] 29 (0, 0)), (b2, .cells #[nv m.r, nv m.c, .slice A (m.r * m.c) cap] 29 (0, 0))] ++ (N ++ [])) := fun v N => by simp
  refine JC.rangeOut (od := [⟨7, 2, [0, 1, 2, 4, 5, 6, 7, 8, 9, 10, 11, 12, 13, 14, 15, 3, 16, 17, 18], []⟩]) _ rfl mixed rfl rfl (enters_of Tryd.func85 (by kernel_rfl) rfl) (rows_iter hbr hbc (Nat.le_refl _) hcap)
    (fun pre H' => ∃ v N, H' = [(bx, Obj.cells #[nv m.r, nv m.c, .slice A (m.r * m.c) cap] 29 (0, 0)), (b6, .cells #[nv m.r, nv (m.c + n.c), v] 29 (0, 0)), (b4, .cells #[iv 0, iv 0, .slice none 0 0] 29 (0, 0)), (b3, .cells #[nv n.r, nv n.c, .slice A' (n.r * n.c) cap'] 29 (0, 0)), (b2, .cells #[nv m.r, nv m.c, .slice A (m.r * m.c) cap] 29 (0, 0))] ++ (N ++ []) ∧ OwnZ N v (pre.length * (m.c + n.c)) (joinS m n pre))
    (by rintro pre _ ⟨v, N, rfl, _⟩; exact hbx v N) (by rintro pre _ ⟨v, N, rfl, hO⟩; exact Cells.cons (Cells.cons (Cells.cons (Cells.cons (Cells.cons (hO.cells.app Cells.nil)))))) _ ⟨.slice none 0 0, [], rfl, by simp only [List.length_nil, Nat.zero_mul]; exact OwnZ.nil⟩ (by (first | exact HSub.refl _ | (repeat' first | exact HSub.nil _ | exact HSub.refl _ | refine HSub.at 0 rfl ?_ | refine HSub.at 1 rfl ?_ | refine HSub.at 2 rfl ?_ | refine HSub.at 3 rfl ?_ | refine HSub.at 4 rfl ?_ | refine HSub.at 5 rfl ?_ | refine HSub.at 6 rfl ?_ | refine HSub.at 7 rfl ?_)))
    (fun i _ => [(7, nv i), (8, rowV A cap m.c i), (6, .pointer (some ⟨b6, 0, none⟩)), (3, .pointer (some ⟨b3, 0, none⟩)), (2, .pointer (some ⟨b2, 0, none⟩))]) (fun _ => none) (fun _ _ h => by cases h) rfl rfl (by kernel_rfl) (by kernel_rfl) rfl (fun _ _ h => h) ?_ ?_ ?_
  · intro l i W hW
    simp only [toB, textOps, toSOp, kindAt, kindOf, odAt, sopsAt, ordOf, exH, List.nil_append, List.cons_append]
    (repeat' (first | refine JC.seq ?_ | refine JC.ops ?_ | refine JO.nil ?_ | refine JX.thenN ?_ | (apply r_assign; (iterate 3 exact rfl))))
    exact JX.asgEnd0 rfl (by repeat first | exact trivial | refine ⟨rfl, ?_⟩)
  · rintro l i pre _ _ W1 hM' hi hpl ⟨v, N, rfl, hO⟩ hl hln hkb hge
    simp only [toB, textOps, toSOp, kindAt, kindOf, odAt, sopsAt, ordOf, exH, List.nil_append, List.cons_append]
    have hrow := rd_body (c2 := ⟨Tryd.prog, 64, W1, _, hM'⟩) (row_wz hm hE hi) hkb (keys_ge hge) []
    have hoth := rd_body (c2 := ⟨Tryd.prog, 64, W1, _, hM'⟩) hE' hkb (keys_ge hge) []
    have hlr := rowI_len hm hi
    have hrow1 := zx_row (c := n.c) (hr ▸ hi)
    have hic : i * n.c ≤ 40000 := Nat.mul_le_mul (show i ≤ 200 by omega) hbc'
    have hic1 : (i + 1) * n.c ≤ 40200 := by rw [Nat.add_mul]; omega
    have hplc : pre.length * (m.c + n.c) ≤ 40000 := Nat.mul_le_mul (show pre.length ≤ 200 by omega) hcc
    obtain ⟨A2, c2, rfl⟩ := hO.form
    (repeat' (first | refine JC.block ?_))
    refine JC.opsDs [(b6, .cells #[nv m.r, nv (m.c + n.c), .slice A2 (pre.length * (m.c + n.c)) c2] 29 (0, 0)), (b3, .cells #[nv n.r, nv n.c, .slice A' (n.r * n.c) cap'] 29 (0, 0))] (by (first | exact HSub.refl _ | (repeat' first | exact HSub.nil _ | exact HSub.refl _ | refine HSub.at 0 rfl ?_ | refine HSub.at 1 rfl ?_ | refine HSub.at 2 rfl ?_ | refine HSub.at 3 rfl ?_ | refine HSub.at 4 rfl ?_ | refine HSub.at 5 rfl ?_ | refine HSub.at 6 rfl ?_ | refine HSub.at 7 rfl ?_))) ?_
    (repeat' (first | (apply r_move; (iterate 3 exact rfl)) | (apply r_fieldAddr; (iterate 3 exact rfl)) | (apply r_load; (iterate 4 exact rfl); (first | exact at0 | exact at1); exact rfl) | (apply r_add1; (iterate 4 exact rfl); omega) | (apply r_mulN; (iterate 4 exact rfl); (first | assumption | omega))))
    refine r_rowZ rfl rfl rfl hoth rfl rfl hrow1 (fun v3 hv3 _ => ?_)
    skip
    refine r_appendZL (A := [_, _, _, _, _]) hO hrow (by (repeat' first | exact HSub.nil _ | exact HSub.hd | exact HSub.in0 | exact HSub.refl _ | refine HSub.skip ?_ | refine HSub.skipN ?_)) rfl (by (first | exact HSub.refl _ | (repeat' first | exact HSub.nil _ | exact HSub.refl _ | refine HSub.at 0 rfl ?_ | refine HSub.at 1 rfl ?_ | refine HSub.at 2 rfl ?_ | refine HSub.at 3 rfl ?_ | refine HSub.at 4 rfl ?_ | refine HSub.at 5 rfl ?_ | refine HSub.at 6 rfl ?_ | refine HSub.at 7 rfl ?_))) rfl rfl rfl rfl (by omega) (fun v4 N4 hO4 => ?_)
    skip
    refine r_appendZL (A := [_, _, _, _, _]) hO4 hv3 (by (repeat' first | exact HSub.nil _ | exact HSub.hd | exact HSub.in0 | exact HSub.refl _ | refine HSub.skip ?_ | refine HSub.skipN ?_)) rfl (by (first | exact HSub.refl _ | (repeat' first | exact HSub.nil _ | exact HSub.refl _ | refine HSub.at 0 rfl ?_ | refine HSub.at 1 rfl ?_ | refine HSub.at 2 rfl ?_ | refine HSub.at 3 rfl ?_ | refine HSub.at 4 rfl ?_ | refine HSub.at 5 rfl ?_ | refine HSub.at 6 rfl ?_ | refine HSub.at 7 rfl ?_))) rfl rfl rfl rfl (by omega) (fun v5 N5 hO5 => ?_)
    obtain ⟨A5, c5, rfl⟩ := hO5.form
    (repeat' (first | refine JO.nil ?_ | (apply r_fieldAddr; (iterate 3 exact rfl)) | (apply r_store; exact rfl; (first | exact trivial | exact ⟨rfl, rfl⟩); exact rfl; exact rfl; exact at1; exact rfl; exact rfl; (first | exact Nat.le_of_ble_eq_true rfl | (simp; done) | omega)) | refine JX.blockN ?_))
    have el : pre.length * (m.c + n.c) + m.c + n.c = (pre ++ [i]).length * (m.c + n.c) := by rw [List.length_append, List.length_singleton, Nat.add_mul, Nat.one_mul]; omega
    refine JX.bodyEnd (H' := [(bx, Obj.cells #[nv m.r, nv m.c, .slice A (m.r * m.c) cap] 29 (0, 0)), (b6, .cells #[nv m.r, nv (m.c + n.c), .slice A5 (pre.length * (m.c + n.c) + m.c + n.c) c5] 29 (0, 0)), (b4, .cells #[iv 0, iv 0, .slice none 0 0] 29 (0, 0)), (b3, .cells #[nv n.r, nv n.c, .slice A' (n.r * n.c) cap'] 29 (0, 0)), (b2, .cells #[nv m.r, nv m.c, .slice A (m.r * m.c) cap] 29 (0, 0))] ++ (N5 ++ [])) ⟨_, N5, rfl, ?_⟩ (Cells.cons (Cells.cons (Cells.cons (Cells.cons (Cells.cons (hO5.cells.app Cells.nil)))))) (HSub.refl _)
    rw [joinS_next, ← el]
    exact hO5
  · rintro D _ ⟨v, N, rfl, hO⟩ hD
    obtain ⟨A2, c2, rfl⟩ := hO.form
    simp only [toS, textOps, toSOp, kindAt, kindOf, odAt, sopsAt, ordOf]
    (repeat' (first | refine JC.seq ?_ | refine JC.ops ?_ | refine JO.nil ?_ | refine JX.thenN ?_ | (apply r_assign; (iterate 3 exact rfl)) | (apply r_loadN; (iterate 4 exact rfl); (first | exact at2 | exact at3); exact rfl) | (apply r_storeN; exact rfl; (first | exact trivial | exact ⟨rfl, rfl⟩); exact rfl; exact rfl; (first | exact at2 | exact at3); (iterate 3 exact rfl)) | (apply r_storeN; exact rfl; (first | exact trivial | exact ⟨rfl, rfl⟩); exact rfl; exact rfl; (first | exact at2 | exact at3); (iterate 3 exact rfl)) | refine JC.ret ?_))
    rw [joinS_end hm hn hr] at hO
    refine JX.leaveM 0 rfl hD rfl ?_
    exact JX.retCT 2 rfl rfl rfl rfl (fun a w' st => ⟨st.kp, N, _, rfl, st.newOf rfl (by exact HSub.skip (HSub.skip (HSub.skip (HSub.skip (HSub.skip HSub.in0))))), OwnM.mk' hO⟩)

def partS (m : ZM) (i0 j0 r c : Nat) (pre : List Nat) : List Int := pre.flatMap fun i => if i0 ≤ i ∧ i < i0 + r then ((rowI m i).drop j0).take c else []
theorem partS_in {m : ZM} {i0 j0 r c i : Nat} (pre : List Nat) (h : i0 ≤ i ∧ i < i0 + r) : partS m i0 j0 r c (pre ++ [i]) = partS m i0 j0 r c pre ++ ((rowI m i).drop j0).take c := by simp [partS, h]
theorem partS_out {m : ZM} {i0 j0 r c i : Nat} (pre : List Nat) (h : ¬ (i0 ≤ i ∧ i < i0 + r)) : partS m i0 j0 r c (pre ++ [i]) = partS m i0 j0 r c pre := by simp [partS, h]
theorem rowI_part {m : ZM} {i j0 c : Nat} (hm : RtZ m) (hi : i < m.r) (hj : j0 + c ≤ m.c) : ((rowI m i).drop j0).take c = tab c fun j => m.at i (j0 + j) := by
  have hl := rowI_len hm hi
  refine tab_ext (by rw [List.length_take, List.length_drop, hl]; omega) (fun j hj' => ?_)
  rw [List.getElem?_take_of_lt hj', List.getElem?_drop, gD_lt (d := 0) (by rw [hl]; omega), rowI_get (by omega)]
theorem partS_end {m : ZM} {i0 j0 r c : Nat} (hm : RtZ m) (hi : i0 + r ≤ m.r) (hj : j0 + c ≤ m.c) : partS m i0 j0 r c (List.range m.r) = (partZ m i0 j0 r c).e := by
  show _ = tbz r c (fun a b => m.at (i0 + a) (j0 + b))
  rw [tbz_rows]
  have h0 : List.range m.r = List.range i0 ++ ((List.range r).map (i0 + ·) ++ (List.range (m.r - (i0 + r))).map (i0 + r + ·)) := by
    rw [← List.append_assoc, ← List.range_add, ← List.range_add]
    congr 1; omega
  have hz : ∀ l : List Nat, (∀ i ∈ l, ¬ (i0 ≤ i ∧ i < i0 + r)) → partS m i0 j0 r c l = [] := fun l h => by
    unfold partS
    rw [List.flatMap_eq_nil_iff]
    intro i hi
    rw [if_neg (h i hi)]
  have happ : ∀ a b : List Nat, partS m i0 j0 r c (a ++ b) = partS m i0 j0 r c a ++ partS m i0 j0 r c b := fun a b => by unfold partS; rw [List.flatMap_append]
  rw [h0, happ, happ, hz (List.range i0) (fun i hi => by have := List.mem_range.1 hi; omega), hz ((List.range (m.r - (i0 + r))).map (i0 + r + ·)) (fun i hi => by obtain ⟨k, _, rfl⟩ := List.mem_map.1 hi; omega), List.nil_append, List.append_nil]
  unfold partS
  rw [List.flatMap_map]
  have : ∀ l : List Nat, (∀ i ∈ l, i < r) → (l.flatMap fun a => if i0 ≤ i0 + a ∧ i0 + a < i0 + r then ((rowI m (i0 + a)).drop j0).take c else []) = l.flatMap fun a => tab c fun j => m.at (i0 + a) (j0 + j) := fun l => by
    induction l with
    | nil => intro _; rfl
    | cons a l ih =>
      intro h
      have ha := h a (by simp)
      rw [List.flatMap_cons, List.flatMap_cons, ih (fun j hj => h j (by simp [hj])), if_pos ⟨by omega, by omega⟩, rowI_part hm (by omega) hj]
  exact this _ (fun i hi => List.mem_range.1 hi)

set_option maxHeartbeats 8000000 in
theorem c_Part (w : World) (v : Value) (m : ZM) (i0 j0 r c : Nat) (hm : RtZ m) (hi0 : i0 + r ≤ m.r) (hj0 : j0 + c ≤ m.c) (hv : IsM w v m) :
    Calls Tryd.prog 17 #[v, nv i0, nv j0, nv r, nv c] w (Ret fun v w' => Kp [] w w' ∧ GivesMB (partZ m i0 j0 r c) true w v w') := by
  have hvX := hv.x
  obtain ⟨E, rfl, hE⟩ := hv
  have hl := hm.len
  have hle := hm.le
  have hbr := hm.r
  have hbc := hm.c
  rw [hl] at hE
  obtain ⟨A, cap, rfl⟩ := hE.form
  have hcap : m.r * m.c ≤ cap := wz_cap hE
  refine calls_of_Z 5 [⟨8, 2, [], []⟩] Tryd.func17 rfl mixed (by kernel_rfl) Tryd.ntmps17 (by simp) ?_
  simp only [toZ, hasRF, Bool.or_false, Bool.false_or, Bool.or_self, Bool.true_or, cond_true, cond_false, toS, textOps, toSOp, kindAt, kindOf, odAt, sopsAt, ordOf, zipF]
  (repeat' (first | refine JC.seq ?_ | refine JC.ops ?_ | refine JO.nil ?_ | refine JX.thenN ?_ | (apply r_assign; (iterate 3 exact rfl)) | (apply r_loadN; (iterate 4 exact rfl); exact at5; exact rfl) | (apply r_allocZ; (iterate 3 exact rfl); intro _) | (apply r_boxA; (iterate 4 exact rfl); intro _) | (apply r_box; (iterate 5 exact rfl); intro _)))
  rename_i b5 b6 b7 b8 b9 b10
  refine r_call0 trivial rfl rfl rfl (fun w hk _ => c_Right w _ m.xm (hvX.mono hk) (by simp [ZM.xm]; omega)) fun w v w' _ _ _ hR => ?_
  obtain ⟨b', rfl, hb⟩ := hR
  obtain rfl := hb.2 hm.rx
  (repeat' (first | refine JC.seq ?_ | refine JC.ops ?_ | refine JO.nil ?_ | refine JX.thenN ?_ | (apply r_move; (iterate 3 exact rfl)) | (apply r_fieldAddr; (iterate 3 exact rfl)) | (apply r_load; (iterate 4 exact rfl); (first | exact at0 | exact at1 | exact at2 | exact at3 | exact at4 | exact at5 | exact at6); exact rfl) | (apply r_loadN; (iterate 4 exact rfl); (first | exact at0 | exact at1 | exact at2 | exact at3 | exact at4 | exact at5 | exact at6); exact rfl) | (apply r_build2; (iterate 4 exact rfl)) | (apply r_min4; (iterate 6 exact rfl); intro q hq1 hq2) | (apply r_subN; (iterate 4 exact rfl); omega) | (apply r_pickF; (iterate 4 exact rfl)) | (apply r_not; (iterate 3 exact rfl)) | (apply r_storeN; exact rfl; (first | exact trivial | exact ⟨rfl, rfl⟩); exact rfl; exact rfl; (first | exact at0 | exact at1 | exact at2 | exact at3 | exact at4 | exact at5 | exact at6); (iterate 3 exact rfl)) | (apply r_lss; (iterate 4 exact rfl); all_goals intro hc; all_goals try (exfalso; omega)) | (apply r_gtr; (iterate 4 exact rfl); all_goals intro hc; all_goals try (exfalso; omega)) | (apply r_allocZ; (iterate 3 exact rfl); intro _) | (apply r_storeN; exact rfl; (first | exact trivial | exact ⟨rfl, rfl⟩); exact rfl; exact rfl; (first | exact at0 | exact at1 | exact at2 | exact at3 | exact at4 | exact at5 | exact at6); (iterate 3 exact rfl)) | refine JC.skip ?_ | refine JC.condF rfl ?_))
  rename_i b12
  refine r_callA (A := []) rfl trivial rfl rfl rfl (fun w hk _ => c_rows w m.r m.c (m.r * m.c) cap A) fun w v w' _ _ _ hR => ?_
  obtain ⟨bx, rfl, hNx⟩ := hR
  refine ⟨_, hNx, ?_⟩
  (repeat' (first | refine JO.nil ?_ | refine JX.thenN ?_ | refine JC.block ?_))
  have hbx : ∀ (v : Value) (N : SHeap), (bx, Obj.cells #[nv m.r, nv m.c, .slice A (m.r * m.c) cap] 29 (0, 0)) ∈ ([(bx, Obj.cells #[nv m.r, nv m.c, .slice A (m.r * m.c) cap] 29 (0, 0)), (b12, .cells #[nv r, nv c, v] 29 (0, 0)), (b10, .cells #[iv 0, iv 0, .slice none 0 0] 29 (0, 0)), (b9, .cells (nv c).cells 3 (0, 0)), (b8, .cells (nv r).cells 3 (0, 0)), (b7, .cells (nv j0).cells 3 (0, 0)), (b6, .cells (nv i0).cells 3 (0, 0)), (b5, .cells #[nv m.r, nv m.c, .slice A (m.r * m.c) cap] 29 (0, 0))] ++ (N ++ [])) := fun v N => by simp
  refine JC.rangeOut (od := [⟨8, 2, [], []⟩]) _ rfl mixed rfl rfl (enters_of Tryd.func85 (by kernel_rfl) rfl) (rows_iter hbr hbc (Nat.le_refl _) hcap)
    (fun pre H' => ∃ k v N, H' = [(bx, Obj.cells #[nv m.r, nv m.c, .slice A (m.r * m.c) cap] 29 (0, 0)), (b12, .cells #[nv r, nv c, v] 29 (0, 0)), (b10, .cells #[iv 0, iv 0, .slice none 0 0] 29 (0, 0)), (b9, .cells (nv c).cells 3 (0, 0)), (b8, .cells (nv r).cells 3 (0, 0)), (b7, .cells (nv j0).cells 3 (0, 0)), (b6, .cells (nv i0).cells 3 (0, 0)), (b5, .cells #[nv m.r, nv m.c, .slice A (m.r * m.c) cap] 29 (0, 0))] ++ (N ++ []) ∧ OwnZ N v k (partS m i0 j0 r c pre) ∧ k ≤ pre.length * c)
    (by rintro pre _ ⟨k, v, N, rfl, _⟩; exact hbx v N) (by rintro pre _ ⟨k, v, N, rfl, hO, _⟩; exact (Cells.cons (Cells.cons (Cells.cons (Cells.cons (Cells.cons (Cells.cons (Cells.cons (Cells.cons (hO.cells.app Cells.nil)))))))))) _ ⟨0, .slice none 0 0, [], rfl, OwnZ.nil, Nat.zero_le _⟩ (by (first | exact HSub.refl _ | (repeat' first | exact HSub.nil _ | exact HSub.refl _ | refine HSub.at 0 rfl ?_ | refine HSub.at 1 rfl ?_ | refine HSub.at 2 rfl ?_ | refine HSub.at 3 rfl ?_ | refine HSub.at 4 rfl ?_ | refine HSub.at 5 rfl ?_ | refine HSub.at 6 rfl ?_ | refine HSub.at 7 rfl ?_)))
    (fun i _ => [(13, nv i), (14, rowV A cap m.c i), (12, .pointer (some ⟨b12, 0, none⟩)), (9, .pointer (some ⟨b9, 0, none⟩)), (8, .pointer (some ⟨b8, 0, none⟩)), (7, .pointer (some ⟨b7, 0, none⟩)), (6, .pointer (some ⟨b6, 0, none⟩))]) (fun _ => none) (fun _ _ h => by cases h) rfl rfl (by kernel_rfl) (by kernel_rfl) rfl (fun _ _ h => h) ?_ ?_ ?_
  · intro l i W hW
    simp only [toB, textOps, toSOp, kindAt, kindOf, odAt, sopsAt, ordOf, exH, List.nil_append, List.cons_append]
    (repeat' (first | refine JC.seq ?_ | refine JC.ops ?_ | refine JO.nil ?_ | refine JX.thenN ?_ | (apply r_assign; (iterate 3 exact rfl))))
    exact JX.asgEnd0 rfl (by repeat first | exact trivial | refine ⟨rfl, ?_⟩)
  · rintro l i pre _ _ W1 hM' hi hpl ⟨k, v, N, rfl, hO, hkl⟩ hl hln hkb hge
    simp only [toB, textOps, toSOp, kindAt, kindOf, odAt, sopsAt, ordOf, exH, List.nil_append, List.cons_append]
    have hrow := rd_body (c2 := ⟨Tryd.prog, 83, W1, _, hM'⟩) (row_wz hm hE hi) hkb (keys_ge hge) []
    have hlr := rowI_len hm hi
    have hplc : pre.length * c ≤ 40000 := Nat.mul_le_mul (show pre.length ≤ 200 by omega) (show c ≤ 200 by omega)
    have hpc1 : (pre ++ [i]).length * c = pre.length * c + c := by rw [List.length_append, List.length_singleton, Nat.add_mul, Nat.one_mul]
    obtain ⟨A2, c2, rfl⟩ := hO.form
    by_cases hin : i0 ≤ i ∧ i < i0 + r
    · (repeat' (first | refine JC.seq ?_ | refine JC.ops ?_ | refine JO.nil ?_ | refine JX.thenN ?_ | (apply r_move; (iterate 3 exact rfl)) | (apply r_load; (iterate 4 exact rfl); (first | exact at4 | exact at6); exact rfl) | (apply r_addN; (iterate 4 exact rfl); omega) | (apply r_pickT; (iterate 4 exact rfl)) | (apply r_lss; (iterate 4 exact rfl); all_goals intro hc; all_goals try (exfalso; omega)) | (apply r_geq; (iterate 4 exact rfl); all_goals intro hc; all_goals try (exfalso; omega)) | refine JC.condT rfl ?_ | refine JC.block ?_))
      refine JC.opsDs [(b12, .cells #[nv r, nv c, .slice A2 k c2] 29 (0, 0)), (b9, .cells (nv c).cells 3 (0, 0)), (b7, .cells (nv j0).cells 3 (0, 0))] (by (first | exact HSub.refl _ | (repeat' first | exact HSub.nil _ | exact HSub.refl _ | refine HSub.at 0 rfl ?_ | refine HSub.at 1 rfl ?_ | refine HSub.at 2 rfl ?_ | refine HSub.at 3 rfl ?_ | refine HSub.at 4 rfl ?_ | refine HSub.at 5 rfl ?_ | refine HSub.at 6 rfl ?_ | refine HSub.at 7 rfl ?_))) ?_
      (repeat' (first | (apply r_move; (iterate 3 exact rfl)) | (apply r_fieldAddr; (iterate 3 exact rfl)) | (apply r_load; (iterate 4 exact rfl); (first | exact at0 | exact at1 | exact at2); exact rfl) | (apply r_addN; (iterate 4 exact rfl); omega)))
      refine r_sliceZ (l := j0) (h' := j0 + c) rfl rfl rfl hrow rfl rfl (.inl rfl) rfl rfl (.inl rfl) (by omega) (by omega) (fun v3 hv3 _ => ?_)
      rw [Nat.add_sub_cancel_left] at hv3
      skip
      refine r_appendZL (A := [_, _, _, _, _, _, _, _]) hO hv3 (by (repeat' first | exact HSub.nil _ | exact HSub.hd | exact HSub.in0 | exact HSub.refl _ | refine HSub.skip ?_ | refine HSub.skipN ?_)) rfl (by (first | exact HSub.refl _ | (repeat' first | exact HSub.nil _ | exact HSub.refl _ | refine HSub.at 0 rfl ?_ | refine HSub.at 1 rfl ?_ | refine HSub.at 2 rfl ?_ | refine HSub.at 3 rfl ?_ | refine HSub.at 4 rfl ?_ | refine HSub.at 5 rfl ?_ | refine HSub.at 6 rfl ?_ | refine HSub.at 7 rfl ?_))) rfl rfl rfl rfl (by omega) (fun v4 N4 hO4 => ?_)
      obtain ⟨A4, c4, rfl⟩ := hO4.form
      (repeat' (first | refine JO.nil ?_ | (apply r_fieldAddr; (iterate 3 exact rfl)) | (apply r_store; exact rfl; (first | exact trivial | exact ⟨rfl, rfl⟩); exact rfl; exact rfl; exact at1; exact rfl; exact rfl; (first | exact Nat.le_of_ble_eq_true rfl | (simp; done) | omega)) | refine JX.blockN ?_))
      rw [← partS_in pre hin] at hO4
      exact JX.bodyEnd (H' := [(bx, Obj.cells #[nv m.r, nv m.c, .slice A (m.r * m.c) cap] 29 (0, 0)), (b12, .cells #[nv r, nv c, .slice A4 (k + c) c4] 29 (0, 0)), (b10, .cells #[iv 0, iv 0, .slice none 0 0] 29 (0, 0)), (b9, .cells (nv c).cells 3 (0, 0)), (b8, .cells (nv r).cells 3 (0, 0)), (b7, .cells (nv j0).cells 3 (0, 0)), (b6, .cells (nv i0).cells 3 (0, 0)), (b5, .cells #[nv m.r, nv m.c, .slice A (m.r * m.c) cap] 29 (0, 0))] ++ (N4 ++ [])) ⟨k + c, _, N4, rfl, hO4, by omega⟩ (Cells.cons (Cells.cons (Cells.cons (Cells.cons (Cells.cons (Cells.cons (Cells.cons (Cells.cons (hO4.cells.app Cells.nil))))))))) (HSub.refl _)
    · (repeat' (first | refine JC.seq ?_ | refine JC.ops ?_ | refine JO.nil ?_ | refine JX.thenN ?_ | (apply r_move; (iterate 3 exact rfl)) | (apply r_load; (iterate 4 exact rfl); (first | exact at4 | exact at6); exact rfl) | (apply r_addN; (iterate 4 exact rfl); omega) | (apply r_pickT; (iterate 4 exact rfl)) | (apply r_pickF; (iterate 4 exact rfl)) | (apply r_lss; (iterate 4 exact rfl); all_goals intro hc; all_goals try (exfalso; omega)) | (apply r_geq; (iterate 4 exact rfl); all_goals intro hc; all_goals try (exfalso; omega)) | refine JC.skip ?_ | refine JC.condF rfl ?_ | refine JC.block ?_ | refine JX.blockN ?_ | (apply r_skip; exact rfl; exact rfl; (first | (intro h; cases h; done) | (intro _; rfl)))))
      all_goals
        rw [← partS_out pre hin] at hO
        exact JX.bodyEnd ⟨k, _, N, rfl, hO, by omega⟩ (Cells.cons (Cells.cons (Cells.cons (Cells.cons (Cells.cons (Cells.cons (Cells.cons (Cells.cons (hO.cells.app Cells.nil))))))))) (HSub.refl _)
  · rintro D _ ⟨k, v, N, rfl, hO, hkl⟩ hD
    obtain ⟨A2, c2, rfl⟩ := hO.form
    simp only [toS, textOps, toSOp, kindAt, kindOf, odAt, sopsAt, ordOf]
    (repeat' (first | refine JC.seq ?_ | refine JC.ops ?_ | refine JO.nil ?_ | refine JX.thenN ?_ | (apply r_assign; (iterate 3 exact rfl)) | (apply r_loadN; (iterate 4 exact rfl); (first | exact at2 | exact at3); exact rfl) | (apply r_storeN; exact rfl; (first | exact trivial | exact ⟨rfl, rfl⟩); exact rfl; exact rfl; (first | exact at2 | exact at3); (iterate 3 exact rfl)) | (apply r_storeN; exact rfl; (first | exact trivial | exact ⟨rfl, rfl⟩); exact rfl; exact rfl; (first | exact at2 | exact at3); (iterate 3 exact rfl)) | refine JC.ret ?_))
    rw [partS_end hm hi0 hj0] at hO
    refine JX.leaveM 0 rfl hD rfl ?_
    exact JX.retCT 2 rfl rfl rfl rfl (fun a w' st => ⟨st.kp, N, _, rfl, st.newOf rfl (by exact HSub.skip (HSub.skip (HSub.skip (HSub.skip (HSub.skip (HSub.skip (HSub.skip (HSub.skip HSub.in0)))))))), OwnM.mk' hO⟩)


abbrev TR := SHeap × Value × List Int
def tH (ts : List TR) : SHeap := (ts.map (·.1)).flatten
theorem tH_append (a b : List TR) : tH (a ++ b) = tH a ++ tH b := by simp [tH]
theorem tH_one (t : TR) : tH [t] = t.1 := by simp [tH]
structure OwnT (N : SHeap) (v : Value) (c : Nat) (ts : List TR) : Prop where
  outer : OwnRow 27 1 N v ts.length (ts.map (·.2.1))
  rows : ∀ t ∈ ts, OwnZ t.1 t.2.1 c t.2.2
theorem OwnT.cells {N : SHeap} {v : Value} {c : Nat} {ts : List TR} (h : OwnT N v c ts) : Cells (N ++ tH ts) := h.outer.cells'.app fun p hp => by
  obtain ⟨l, hl, hp⟩ := List.mem_flatten.1 hp
  obtain ⟨t, ht, rfl⟩ := List.mem_map.1 hl
  exact (h.rows t ht).cells p hp
theorem OwnT.form {N : SHeap} {v : Value} {c : Nat} {ts : List TR} (h : OwnT N v c ts) : ∃ A cap, v = .slice A ts.length cap := by
  obtain ⟨_, ⟨h1, h2, _⟩ | ⟨b, cap, cur, h1, _⟩⟩ := h.outer
  · exact ⟨none, 0, by rw [h1, h2]⟩
  · exact ⟨_, _, h1⟩

set_option maxHeartbeats 8000000 in
theorem c_table (w : World) (v : Value) (m : ZM) (hm : RtZ m) (hv : IsM w v m) :
    Calls Tryd.prog 61 #[v] w (Ret fun v w' => Kp [] w w' ∧ ∃ N ts, New (N ++ tH ts) w w' ∧ OwnT N v m.c ts ∧ ts.map (·.2.2) = (List.range m.r).map (rowI m)) := by
  have hvX := hv.x
  obtain ⟨E, rfl, hE⟩ := hv
  have hl := hm.len
  have hle := hm.le
  have hbr := hm.r
  have hbc := hm.c
  rw [hl] at hE
  obtain ⟨A, cap, rfl⟩ := hE.form
  have hcap : m.r * m.c ≤ cap := wz_cap hE
  refine calls_of_Z 5 [⟨4, 2, [], []⟩] Tryd.func61 rfl mixed (by kernel_rfl) Tryd.ntmps61 (by simp) ?_
  simp only [toZ, hasRF, Bool.or_false, Bool.false_or, Bool.or_self, Bool.true_or, cond_true, cond_false, toS, textOps, toSOp, kindAt, kindOf, odAt, sopsAt, ordOf, zipF]
  (repeat' (first | refine JC.seq ?_ | refine JC.ops ?_ | refine JO.nil ?_ | refine JX.thenN ?_ | (apply r_assign; (iterate 3 exact rfl)) | (apply r_loadN; (iterate 4 exact rfl); exact at1; exact rfl) | (apply r_allocZ; (iterate 3 exact rfl); intro _) | (apply r_boxA; (iterate 4 exact rfl); intro _)))
  rename_i b1 b3
  refine r_callA (A := []) rfl trivial rfl rfl rfl (fun w hk _ => c_rows w m.r m.c (m.r * m.c) cap A) fun w v w' _ _ _ hR => ?_
  obtain ⟨bx, rfl, hNx⟩ := hR
  refine ⟨_, hNx, ?_⟩
  (repeat' (first | refine JO.nil ?_ | refine JX.thenN ?_ | refine JC.block ?_))
  have hbx : ∀ (v : Value) (N : SHeap), (bx, Obj.cells #[nv m.r, nv m.c, .slice A (m.r * m.c) cap] 29 (0, 0)) ∈ ([(bx, Obj.cells #[nv m.r, nv m.c, .slice A (m.r * m.c) cap] 29 (0, 0)), (b3, .cells #[v] 70 (0, 0)), (b1, .cells #[nv m.r, nv m.c, .slice A (m.r * m.c) cap] 29 (0, 0))] ++ N) := fun v N => by simp
  refine JC.rangeOut (od := [⟨4, 2, [], []⟩]) _ rfl mixed rfl rfl (enters_of Tryd.func85 (by kernel_rfl) rfl) (rows_iter hbr hbc (Nat.le_refl _) hcap)
    (fun pre H' => ∃ v N ts, H' = [(bx, Obj.cells #[nv m.r, nv m.c, .slice A (m.r * m.c) cap] 29 (0, 0)), (b3, .cells #[v] 70 (0, 0)), (b1, .cells #[nv m.r, nv m.c, .slice A (m.r * m.c) cap] 29 (0, 0))] ++ (N ++ tH ts) ∧ OwnT N v m.c ts ∧ ts.map (·.2.2) = pre.map (rowI m))
    (by rintro pre _ ⟨v, N, ts, rfl, _⟩; exact hbx v _) (by rintro pre _ ⟨v, N, ts, rfl, hO, _⟩; exact Cells.cons (Cells.cons (Cells.cons hO.cells))) _ ⟨.slice none 0 0, [], [], rfl, ⟨OwnRow.nil _ 1, fun t ht => by cases ht⟩, rfl⟩ (by (first | exact HSub.refl _ | (repeat' first | exact HSub.nil _ | exact HSub.refl _ | refine HSub.at 0 rfl ?_ | refine HSub.at 1 rfl ?_ | refine HSub.at 2 rfl ?_ | refine HSub.at 3 rfl ?_ | refine HSub.at 4 rfl ?_ | refine HSub.at 5 rfl ?_ | refine HSub.at 6 rfl ?_ | refine HSub.at 7 rfl ?_)))
    (fun i _ => [(5, rowV A cap m.c i), (3, .pointer (some ⟨b3, 0, none⟩))]) (fun _ => none) (fun _ _ h => by cases h) rfl rfl (by kernel_rfl) (by kernel_rfl) rfl (fun _ _ h => h) ?_ ?_ ?_
  · intro l i W hW
    simp only [toB, textOps, toSOp, kindAt, kindOf, odAt, sopsAt, ordOf, exH, List.nil_append, List.cons_append]
    (repeat' (first | refine JC.ops ?_ | refine JO.nil ?_ | (apply r_assign; (iterate 3 exact rfl))))
    exact JX.asgEnd0 rfl (by repeat first | exact trivial | refine ⟨rfl, ?_⟩)
  · rintro l i pre _ _ W1 hM' hi hpl ⟨v, N, ts, rfl, hO, hts⟩ hl hln hkb hge
    simp only [toB, textOps, toSOp, kindAt, kindOf, odAt, sopsAt, ordOf, exH, List.nil_append, List.cons_append]
    have htl : ts.length = pre.length := by have := congrArg List.length hts; simpa using this
    have hrow := rd_body (c2 := ⟨Tryd.prog, 16, W1, _, hM'⟩) (row_wz hm hE hi) hkb (keys_ge hge) []
    have hlr := rowI_len hm hi
    obtain ⟨A2, c2, rfl⟩ := hO.form
    (repeat' (first | refine JC.block ?_))
    refine JC.opsDs [(b3, .cells #[.slice A2 ts.length c2] 70 (0, 0))] (by (first | exact HSub.refl _ | (repeat' first | exact HSub.nil _ | exact HSub.refl _ | refine HSub.at 0 rfl ?_ | refine HSub.at 1 rfl ?_ | refine HSub.at 2 rfl ?_ | refine HSub.at 3 rfl ?_ | refine HSub.at 4 rfl ?_ | refine HSub.at 5 rfl ?_ | refine HSub.at 6 rfl ?_ | refine HSub.at 7 rfl ?_))) ?_
    (repeat' (first | (apply r_move; (iterate 3 exact rfl)) | (apply r_load; (iterate 4 exact rfl); exact at0; exact rfl)))
    refine r_callA (A := [_, _, _]) rfl (by first | trivial | exact ⟨rfl, rfl⟩) rfl rfl rfl (fun w hk hs => c_CloneZ w _ _ _ (hrow.at hk hs (HSub.nil _)) (by omega)) fun w v w' _ _ _ hR => ?_
    obtain ⟨N2, hN2, hO2⟩ := hR
    obtain ⟨A3, c3, rfl⟩ := hO2.form
    refine ⟨N2, hN2, ?_⟩
    (repeat' (first | (apply r_build1; (iterate 5 exact rfl); (repeat first | exact trivial | refine ⟨rfl, ?_⟩); decide; decide; intro _)))
    rename_i b13
    refine r_appendL (e := 27) (sz := 1) (bytes := 24) (zc := #[.slice none 0 0]) (A := (b13, _) :: (bx, _) :: (b3, _) :: (b1, _) :: N2) (N := N) (B := tH ts) (n := ts.length) (mm := 1) (xs := ts.map (·.2.1)) (news := [.slice A3 m.c c3]) (N2 := [(b13, .cells #[.slice A3 m.c c3] 27)]) rfl hO.outer ?_ (by (repeat' first | exact HSub.nil _ | exact HSub.hd | exact HSub.in0 | exact HSub.refl _ | refine HSub.skip ?_ | refine HSub.skipN ?_)) rfl (by (first | exact HSub.refl _ | (repeat' first | exact HSub.nil _ | exact HSub.refl _ | refine HSub.at 0 rfl ?_ | refine HSub.at 1 rfl ?_ | refine HSub.at 2 rfl ?_ | refine HSub.at 3 rfl ?_ | refine HSub.at 4 rfl ?_ | refine HSub.at 5 rfl ?_ | refine HSub.at 6 rfl ?_ | refine HSub.at 7 rfl ?_))) rfl rfl rfl rfl (fun u hu => by cases List.mem_singleton.1 hu; rfl) (by simp only [maxLen]; omega) (by omega) (fun v4 N4 hO4 => ?_)
    · have := OwnRow.mk' (e := 27) (sz := 1) (n := 1) (b := b13) (cs := #[.slice A3 m.c c3]) rfl (by simp only [maxLen]; omega)
      exact this.rd
    have hT : OwnT N4 v4 m.c (ts ++ [(N2, .slice A3 m.c c3, rowI m i)]) := ⟨by simpa using hO4, fun t ht => by
      rcases List.mem_append.1 ht with ht | ht
      · exact hO.rows t ht
      · cases List.mem_singleton.1 ht; exact hO2⟩
    obtain ⟨A4, c4, rfl⟩ := hT.form
    (repeat' (first | refine JO.nil ?_ | (apply r_store; exact rfl; (first | exact trivial | exact ⟨rfl, rfl⟩); exact rfl; exact rfl; exact at2; exact rfl; exact rfl; (first | exact Nat.le_of_ble_eq_true rfl | (simp; done) | omega)) | refine JX.blockN ?_))
    refine JX.bodyEnd (H' := [(bx, Obj.cells #[nv m.r, nv m.c, .slice A (m.r * m.c) cap] 29 (0, 0)), (b3, .cells #[.slice A4 (ts ++ [(N2, Value.slice A3 m.c c3, rowI m i)]).length c4] 70 (0, 0)), (b1, .cells #[nv m.r, nv m.c, .slice A (m.r * m.c) cap] 29 (0, 0))] ++ (N4 ++ tH (ts ++ [(N2, .slice A3 m.c c3, rowI m i)]))) ⟨_, N4, _, rfl, hT, by simp [hts]⟩ (Cells.cons (Cells.cons (Cells.cons (by exact hT.cells)))) ?_
    rw [tH_append, tH_one]
    refine HSub.skip ⟨[], ?_⟩
    rw [List.append_nil]
    refine ((List.Perm.cons _ (List.Perm.cons _ (List.Perm.cons _ ?_))))
    show (N2 ++ (N4 ++ tH ts)).Perm (N4 ++ (tH ts ++ N2))
    refine List.perm_append_comm.trans ?_
    rw [List.append_assoc]
  · rintro D _ ⟨v, N, ts, rfl, hO, hts⟩ hD
    obtain ⟨A2, c2, rfl⟩ := hO.form
    simp only [toS, textOps, toSOp, kindAt, kindOf, odAt, sopsAt, ordOf]
    (repeat' (first | refine JC.seq ?_ | refine JC.ops ?_ | refine JO.nil ?_ | refine JX.thenN ?_ | (apply r_assign; (iterate 3 exact rfl)) | (apply r_load; (iterate 4 exact rfl); exact at2; exact rfl) | refine JC.ret ?_))
    refine JX.leaveM 0 rfl hD rfl ?_
    exact JX.ret1 rfl (fun a w' st => ⟨st.kp, N, ts, st.newOf rfl (by exact HSub.skip (HSub.skip (HSub.skip (HSub.refl _)))), hO, hts⟩)


def sumL (ks : List Nat) (f : Nat → Int) : Int := (ks.map f).sum
theorem sumL_snoc (ks : List Nat) (k : Nat) (f : Nat → Int) : sumL (ks ++ [k]) f = sumL ks f + f k := by simp [sumL]
theorem sumL_range (f : Nat → Int) : ∀ n, sumL (List.range n) f = smI n f
  | 0 => rfl
  | n + 1 => by rw [List.range_succ, sumL_snoc, sumL_range f n, smI]
theorem sumL_bd {B : Nat} {f : Nat → Int} (h : ∀ k, (f k).natAbs ≤ B) : ∀ ks : List Nat, (sumL ks f).natAbs ≤ ks.length * B
  | [] => by simp [sumL]
  | k :: ks => by
    have h1 := sumL_bd h ks
    have h2 := h k
    have h3 := Int.natAbs_add_le (f k) (sumL ks f)
    have e : sumL (k :: ks) f = f k + sumL ks f := by simp [sumL]
    rw [e, List.length_cons, Nat.add_mul, Nat.one_mul]
    omega

def muF (m n : ZM) (pre : List Nat) (i : Nat) (ks : List Nat) (k j : Nat) : Mi := fun a b => (pre.count a : Int) * mmI m.c m.at n.at a b + if a = i then sumL ks (fun t => m.at i t * n.at t b) + (if b < j then m.at i k * n.at k b else 0) else 0
def muS (m n : ZM) (pre : List Nat) (i : Nat) (ks : List Nat) (k j : Nat) : List Int := tbz m.r n.c (muF m n pre i ks k j)
def muE (m n : ZM) (pre : List Nat) : List Int := tbz m.r n.c fun a b => (pre.count a : Int) * mmI m.c m.at n.at a b
theorem muE_zero (m n : ZM) : muE m n [] = tab (m.r * n.c) fun _ => 0 := by
  rw [← tbz_zero]
  exact tbz_congr fun i j _ _ => by simp
theorem muS_start (m n : ZM) (pre : List Nat) (i k : Nat) : muS m n pre i [] k 0 = muE m n pre := tbz_congr fun a b _ _ => by simp [muF, sumL]
theorem muS_k (m n : ZM) (pre : List Nat) (i : Nat) (ks : List Nat) (k k' : Nat) : muS m n pre i ks k 0 = muS m n pre i ks k' 0 := tbz_congr fun a b _ _ => by simp [muF]
theorem muS_set {m n : ZM} {pre ks : List Nat} {i k j : Nat} (hi : i < m.r) (hj : j < n.c) : (muS m n pre i ks k j).set (i * n.c + j) (enz n.c (muS m n pre i ks k j) i j + m.at i k * n.at k j) = muS m n pre i ks k (j + 1) := by
  have e : enz n.c (muS m n pre i ks k j) i j = muF m n pre i ks k j i j := enz_tbz hi hj
  rw [e]
  unfold muS
  rw [tbz_set hj]
  refine tbz_congr fun a b ha hb => ?_
  by_cases h : a = i ∧ b = j
  · obtain ⟨rfl, rfl⟩ := h
    simp only [muF, and_self, if_true, Nat.lt_irrefl, if_false, Nat.lt_succ_self]
    omega
  · rw [if_neg h]
    simp only [muF]
    by_cases h1 : a = i
    · rw [if_pos h1, if_pos h1]
      have : (b < j + 1) ↔ (b < j) := by
        have : ¬ b = j := fun e => h ⟨h1, e⟩
        omega
      simp only [this]
    · rw [if_neg h1, if_neg h1]
theorem muS_skip {m n : ZM} {pre ks : List Nat} {i k j : Nat} (h0 : m.at i k * n.at k j = 0) : muS m n pre i ks k j = muS m n pre i ks k (j + 1) := tbz_congr fun a b ha hb => by
  simp only [muF]
  by_cases hb : b = j
  · subst hb
    rw [if_neg (Nat.lt_irrefl b), if_pos (Nat.lt_succ_self b), h0]
  · have : (b < j + 1) ↔ (b < j) := by omega
    simp only [this]
theorem muS_next {m n : ZM} {pre ks : List Nat} {i k : Nat} : muS m n pre i ks k n.c = muS m n pre i (ks ++ [k]) 0 0 := tbz_congr fun a b ha hb => by
  simp only [muF]
  rw [if_pos hb, sumL_snoc]
  simp
theorem muS_jump {m n : ZM} {pre ks : List Nat} {i k : Nat} (h0 : m.at i k = 0) : muS m n pre i ks 0 0 = muS m n pre i (ks ++ [k]) 0 0 := tbz_congr fun a b ha hb => by
  simp only [muF]
  rw [sumL_snoc, h0]
  simp
theorem muS_row {m n : ZM} {pre : List Nat} {i : Nat} : muS m n pre i (List.range m.c) 0 0 = muE m n (pre ++ [i]) := tbz_congr fun a b ha hb => by
  simp only [muF]
  rw [List.count_append]
  by_cases h : a = i
  · subst h
    rw [if_pos rfl, sumL_range]
    simp only [List.count_singleton_self, Nat.not_lt_zero, if_false]
    show _ + (mmI m.c m.at n.at a b + 0) = _
    simp only [Int.natCast_add, Int.add_mul]
    simp
  · rw [if_neg h, List.count_singleton]
    have : (i == a) = false := by simpa using fun e => h e.symm
    simp [this]
theorem muE_end (m n : ZM) : muE m n (List.range m.r) = (mulZ m n).e := tbz_congr fun a b ha hb => by
  have : (List.range m.r).count a = 1 := by
    have h1 := List.nodup_iff_count.1 (List.nodup_range (n := m.r)) a
    have h2 := List.count_pos_iff.2 (List.mem_range.2 ha)
    omega
  rw [this]
  simp
theorem muF_bd {K L : Nat} {m n : ZM} {pre ks : List Nat} {i k j a b : Nat} (hc : m.c ≤ 200) (hm : BdZ K m) (hn : BdZ L n) (hp : pre.length ≤ 200) (hk : ks.length ≤ 200) : (muF m n pre i ks k j a b).natAbs < 256 ^ (K + L + 2) := by
  have hB : ∀ t, (m.at i t * n.at t b).natAbs ≤ 256 ^ (K + L) := fun t => Nat.le_of_lt (mul_bd (hm.at i t) (hn.at t b))
  have h1 : (mmI m.c m.at n.at a b).natAbs ≤ 200 * 256 ^ (K + L) := Nat.le_trans (smI_bd (n := m.c) (f := fun t => m.at a t * n.at t b) (B := 256 ^ (K + L)) (fun t _ => Nat.le_of_lt (mul_bd (hm.at a t) (hn.at t b)))) (Nat.mul_le_mul_right _ hc)
  have h2 : ((pre.count a : Int) * mmI m.c m.at n.at a b).natAbs ≤ 200 * (200 * 256 ^ (K + L)) := by
    rw [Int.natAbs_mul, Int.natAbs_natCast]
    exact Nat.mul_le_mul (Nat.le_trans List.count_le_length hp) h1
  have h3 : (sumL ks (fun t => m.at i t * n.at t b)).natAbs ≤ 200 * 256 ^ (K + L) := Nat.le_trans (sumL_bd hB ks) (Nat.mul_le_mul_right _ hk)
  have h4 := hB k
  have h5 := pos256 (K + L)
  have e : 256 ^ (K + L + 2) = 65536 * 256 ^ (K + L) := by rw [Nat.pow_succ, Nat.pow_succ]; omega
  rw [e]
  unfold muF
  generalize (pre.count a : Int) * mmI m.c m.at n.at a b = x at h2 ⊢
  generalize sumL ks (fun t => m.at i t * n.at t b) = y at h3 ⊢
  generalize m.at i k * n.at k b = z at h4 ⊢
  generalize 256 ^ (K + L) = P at *
  split
  · split <;> omega
  · omega

theorem OwnX.ptr {N : SHeap} {A : Option Addr} {n cap : Nat} {xs : List WR} (h : OwnX N (.slice A n cap) n xs) : ∃ b, (0 < n → A = some ⟨b, 0, none⟩) ∧ n ≤ cap := by
  obtain ⟨_, ⟨h1, h2, _⟩ | ⟨b, cap', cur, h1, _, h3, _⟩⟩ := h
  · refine ⟨0, fun h => by omega, by omega⟩
  · cases h1
    exact ⟨b, fun _ => rfl, h3⟩

theorem sub_rd {cx : Cx} {N : SHeap} {A A' : Option Addr} {b n co c l k : Nat} {xs : List Int} (hO : OwnZ N (.slice A n co) n xs) (hA0 : 0 < n → A = some ⟨b, 0, none⟩) (hA : 0 < c → A' = some ⟨b, 0 + l * 2, none⟩) (hl : l + c ≤ n) (hc : c ≤ k) : RdZ cx N (.slice A' c k) c ((xs.drop l).take c) := by
  have hlen := hO.len
  obtain ⟨_, _, _, he, _, h2⟩ := hO.rd (c := cx)
  cases he
  refine ⟨by rw [xcs_len, List.length_map, List.length_take, List.length_drop]; omega, _, _, rfl, hc, fun h0 => ?_⟩
  obtain ⟨_, h3⟩ := h2 (by omega)
  obtain rfl := hA h0
  obtain rfl := hA0 (by omega)
  refine ⟨⟨_, _, rfl⟩, fun w hw j u hu => ?_⟩
  rw [List.map_take, List.map_drop, ← xcs_take, ← xcs_drop, List.getElem?_take] at hu
  split at hu
  · rw [List.getElem?_drop] at hu
    have := h3 w hw _ u hu
    simpa [Nat.add_assoc, vAt] using this
  · cases hu

theorem OwnZ.ty {N : SHeap} {v : Value} {n : Nat} {xs : List Int} (h : OwnZ N v n xs) : ∀ p ∈ N, ∃ cs fz, p.2 = .cells cs 41 fz := by
  obtain ⟨_, ⟨_, _, rfl⟩ | ⟨b, cap, cur, _, rfl, _⟩⟩ := h
  · intro p hp; cases hp
  · intro p hp; cases List.mem_singleton.1 hp; exact ⟨_, _, rfl⟩


set_option maxHeartbeats 16000000 in
theorem c_MMul (K L : Nat) (w : World) (v u : Value) (m n : ZM) (hm : RtZ m) (hn : RtZ n) (hr : m.c = n.r) (hK : K + L ≤ 90000000) (hx : BdZ K m) (hy : BdZ L n) (hv : IsM w v m) (hu : IsM w u n) :
    Calls Tryd.prog 25 #[v, u] w (Ret fun v w' => Kp [] w w' ∧ GivesMB (mulZ m n) true w v w') := by
  have hvX := hv.x
  have huX := hu.x
  obtain ⟨E, rfl, hE⟩ := hv
  obtain ⟨E', rfl, hE'⟩ := hu
  have hl := hm.len
  have hle := hm.le
  have hl' := hn.len
  have hle' := hn.le
  have hbr := hm.r
  have hbc := hm.c
  have hbr' := hn.r
  have hbc' := hn.c
  have hrc := rcZ hbr hbc'
  rw [hl] at hE
  rw [hl'] at hE'
  obtain ⟨A, cap, rfl⟩ := hE.form
  obtain ⟨A', cap', rfl⟩ := hE'.form
  have hcap : m.r * m.c ≤ cap := wz_cap hE
  have hcap' : n.r * n.c ≤ cap' := wz_cap hE'
  refine calls_of_Z 5 [⟨16, 2, [], []⟩] Tryd.func25 rfl mixed (by kernel_rfl) Tryd.ntmps25 (by simp) ?_
  simp only [toZ, hasRF, Bool.or_false, Bool.false_or, Bool.or_self, Bool.true_or, cond_true, cond_false, toS, textOps, toSOp, kindAt, kindOf, odAt, sopsAt, ordOf, zipF]
  (repeat' (first | refine JC.seq ?_ | refine JC.ops ?_ | refine JO.nil ?_ | refine JX.thenN ?_ | (apply r_assign; (iterate 3 exact rfl)) | (apply r_loadN; (iterate 4 exact rfl); exact at2; exact rfl) | (apply r_allocZ; (iterate 3 exact rfl); intro _) | (apply r_boxA; (iterate 4 exact rfl); intro _)))
  rename_i b2 b3 b4
  refine r_call0 trivial rfl rfl rfl (fun w hk _ => c_Right w _ m.xm (hvX.mono hk) (by simp [ZM.xm]; omega)) fun w v w' _ _ _ hR => ?_
  obtain ⟨b', rfl, hb⟩ := hR
  obtain rfl := hb.2 hm.rx
  (repeat' (first | (apply r_move; (iterate 3 exact rfl)) | (apply r_loadN; (iterate 4 exact rfl); exact at1; exact rfl) | (apply r_not; (iterate 3 exact rfl))))
  refine r_call0 trivial rfl rfl rfl (fun w hk _ => c_Right w _ n.xm (huX.mono hk) (by simp [ZM.xm]; omega)) fun w v w' _ _ _ hR => ?_
  obtain ⟨b', rfl, hb⟩ := hR
  obtain rfl := hb.2 hn.rx
  (repeat' (first | refine JC.seq ?_ | refine JC.ops ?_ | refine JO.nil ?_ | refine JX.thenN ?_ | (apply r_move; (iterate 3 exact rfl)) | (apply r_fieldAddr; (iterate 3 exact rfl)) | (apply r_load; (iterate 4 exact rfl); (first | exact at1 | exact at2); exact rfl) | (apply r_pickF; (iterate 4 exact rfl)) | (apply r_not; (iterate 3 exact rfl)) | (apply r_neq; (iterate 4 exact rfl); all_goals intro hc; all_goals try (exfalso; omega)) | refine JC.skip ?_ | refine JC.condF rfl ?_))
  refine r_callA (A := [_, _, _]) (B := []) rfl trivial rfl rfl rfl (fun w hk _ => c_Zero m.r n.c hbr hbc' w) fun w v w' _ _ _ hR => ?_
  obtain ⟨N, Eo, hN, rfl, hO⟩ := hR
  obtain ⟨Ao, co, rfl⟩ := hO.form
  refine ⟨N, hN, ?_⟩
  (repeat' (first | refine JC.seq ?_ | refine JC.ops ?_ | refine JO.nil ?_ | refine JX.thenN ?_ | (apply r_loadN; (iterate 4 exact rfl); (first | exact at0 | exact at3); exact rfl) | (apply r_storeN; exact rfl; (first | exact trivial | exact ⟨rfl, rfl⟩); exact rfl; exact rfl; (first | exact at0 | exact at3); (iterate 3 exact rfl)) | (apply r_allocZ; (iterate 3 exact rfl); intro _) | (apply r_storeN; exact rfl; (first | exact trivial | exact ⟨rfl, rfl⟩); exact rfl; exact rfl; (first | exact at0 | exact at3); (iterate 3 exact rfl))))
  rename_i b6
  refine r_callA (A := []) rfl trivial rfl rfl rfl (fun w hk _ => c_rows w m.r m.c (m.r * m.c) cap A) fun w v w' _ _ _ hR => ?_
  obtain ⟨bx, rfl, hNx⟩ := hR
  refine ⟨_, hNx, ?_⟩
  (repeat' (first | refine JO.nil ?_ | refine JX.thenN ?_ | refine JC.block ?_))
  obtain ⟨b0, hAo, hco⟩ := OwnX.ptr hO
  have hbx : ∀ (N : SHeap), (bx, Obj.cells #[nv m.r, nv m.c, .slice A (m.r * m.c) cap] 29 (0, 0)) ∈ ([(bx, Obj.cells #[nv m.r, nv m.c, .slice A (m.r * m.c) cap] 29 (0, 0)), (b6, .cells #[nv m.r, nv n.c, .slice Ao (m.r * n.c) co] 29 (0, 0)), (b4, .cells #[iv 0, iv 0, .slice none 0 0] 29 (0, 0)), (b3, .cells #[nv n.r, nv n.c, .slice A' (n.r * n.c) cap'] 29 (0, 0)), (b2, .cells #[nv m.r, nv m.c, .slice A (m.r * m.c) cap] 29 (0, 0))] ++ (N ++ [])) := fun N => by simp
  refine JC.rangeOut (od := [⟨16, 2, [], []⟩]) _ rfl mixed rfl rfl (enters_of Tryd.func85 (by kernel_rfl) rfl) (rows_iter hbr hbc (Nat.le_refl _) hcap)
    (fun pre H' => ∃ N, H' = [(bx, Obj.cells #[nv m.r, nv m.c, .slice A (m.r * m.c) cap] 29 (0, 0)), (b6, .cells #[nv m.r, nv n.c, .slice Ao (m.r * n.c) co] 29 (0, 0)), (b4, .cells #[iv 0, iv 0, .slice none 0 0] 29 (0, 0)), (b3, .cells #[nv n.r, nv n.c, .slice A' (n.r * n.c) cap'] 29 (0, 0)), (b2, .cells #[nv m.r, nv m.c, .slice A (m.r * m.c) cap] 29 (0, 0))] ++ (N ++ []) ∧ OwnZ N (.slice Ao (m.r * n.c) co) (m.r * n.c) (muE m n pre))
    (by rintro pre _ ⟨N, rfl, _⟩; exact hbx N) (by rintro pre _ ⟨N, rfl, hO⟩; exact (Cells.cons (Cells.cons (Cells.cons (Cells.cons (Cells.cons (hO.cells.app Cells.nil))))))) _ ⟨N, rfl, by rw [muE_zero]; exact hO⟩ (by (first | exact HSub.refl _ | (repeat' first | exact HSub.nil _ | exact HSub.refl _ | refine HSub.at 0 rfl ?_ | refine HSub.at 1 rfl ?_ | refine HSub.at 2 rfl ?_ | refine HSub.at 3 rfl ?_ | refine HSub.at 4 rfl ?_ | refine HSub.at 5 rfl ?_ | refine HSub.at 6 rfl ?_ | refine HSub.at 7 rfl ?_)))
    (fun i b => [(7, nv i), (8, .pointer (some ⟨b, 0, none⟩)), (6, .pointer (some ⟨b6, 0, none⟩)), (3, .pointer (some ⟨b3, 0, none⟩))]) (fun i => some (.cells #[rowV A cap m.c i] 27 (0, 0))) ?_ rfl rfl (by kernel_rfl) (by kernel_rfl) rfl (fun _ _ h => h) ?_ ?_ ?_
  · rintro i _ ⟨⟩ pre _ ⟨N, rfl, hO⟩ p hp e
    simp only [List.mem_append, List.mem_cons, List.mem_nil_iff, or_false] at hp
    rcases hp with (rfl | rfl | rfl | rfl | rfl) | hp
    · cases e
    · cases e
    · cases e
    · cases e
    · cases e
    · obtain ⟨cs, fz, h⟩ := hO.ty p hp
      rw [h] at e
      cases e
  · intro l i W hW
    simp only [toB, textOps, toSOp, kindAt, kindOf, odAt, sopsAt, ordOf, exH, List.nil_append, List.cons_append]
    (repeat' (first | refine JC.seq ?_ | refine JC.ops ?_ | refine JO.nil ?_ | refine JX.thenN ?_ | (apply r_assign; (iterate 3 exact rfl)) | (apply r_allocZ; (iterate 3 exact rfl); intro _) | (apply r_store; exact rfl; (first | exact trivial | exact ⟨rfl, rfl⟩); exact rfl; exact rfl; exact at0; exact rfl; exact rfl; (first | exact Nat.le_of_ble_eq_true rfl | (simp; done) | omega))))
    exact JX.asgEnd1 0 rfl rfl rfl (by repeat first | exact trivial | refine ⟨rfl, ?_⟩)
  · rintro l i pre b8 _ W1 hM' hi hpl ⟨N, rfl, hO⟩ hl hln hkb hge
    simp only [toB, textOps, toSOp, kindAt, kindOf, odAt, sopsAt, ordOf, exH, List.nil_append, List.cons_append]
    have hrow1 := zx_row (c := n.c) hi
    have hrow2 : (i + 1) * n.c = i * n.c + n.c := by rw [Nat.add_mul]; omega
    have hic : i * n.c ≤ 40000 := by omega
    (repeat' (first | refine JC.seq ?_ | refine JC.ops ?_ | (apply r_move; (iterate 3 exact rfl)) | (apply r_fieldAddr; (iterate 3 exact rfl)) | (apply r_load; (iterate 4 exact rfl); (first | exact at2 | exact at4); exact rfl) | (apply r_add1; (iterate 4 exact rfl); omega) | (apply r_mulN; (iterate 4 exact rfl); (first | assumption | omega)) | refine JC.block ?_))
    refine r_slice (b := b0) (o := 0) (l := i * n.c) (h' := (i + 1) * n.c) rfl rfl rfl hAo rfl rfl (.inl rfl) rfl rfl (.inl rfl) (by omega) (by omega) hco (fun A9 hA9 => ?_)
    rw [show (i + 1) * n.c - i * n.c = n.c by omega]
    have hA9 : 0 < n.c → A9 = some ⟨b0, 0 + i * n.c * 2, none⟩ := fun h => hA9 (by omega)
    (repeat' (first | refine JC.seq ?_ | refine JC.ops ?_ | refine JO.nil ?_ | refine JX.thenN ?_ | (apply r_loadN; (iterate 4 exact rfl); (first | exact at0 | exact at5); exact rfl) | (apply r_allocZ; (iterate 3 exact rfl); intro _) | (apply r_store; exact rfl; (first | exact trivial | exact ⟨rfl, rfl⟩); exact rfl; exact rfl; (first | exact at0 | exact at5); exact rfl; exact rfl; (first | exact Nat.le_of_ble_eq_true rfl | (simp; done) | omega))))
    rename_i b9
    refine r_callA (A := []) rfl trivial rfl rfl rfl (fun w hk _ => c_rows w n.r n.c (n.r * n.c) cap' A') fun w v w' _ _ _ hR => ?_
    obtain ⟨by_, rfl, hNy⟩ := hR
    refine ⟨_, hNy, ?_⟩
    (repeat' (first | refine JO.nil ?_ | refine JX.thenN ?_ | refine JC.block ?_))
    have hby : ∀ (N : SHeap), (by_, Obj.cells #[nv n.r, nv n.c, .slice A' (n.r * n.c) cap'] 29 (0, 0)) ∈ ((by_, Obj.cells #[nv n.r, nv n.c, .slice A' (n.r * n.c) cap'] 29 (0, 0)) :: (b9, .cells #[.slice A9 n.c (co - i * n.c)] 27 (0, 0)) :: (b8, .cells #[rowV A cap m.c i] 27 (0, 0)) :: ([(bx, Obj.cells #[nv m.r, nv m.c, .slice A (m.r * m.c) cap] 29 (0, 0)), (b6, .cells #[nv m.r, nv n.c, .slice Ao (m.r * n.c) co] 29 (0, 0)), (b4, .cells #[iv 0, iv 0, .slice none 0 0] 29 (0, 0)), (b3, .cells #[nv n.r, nv n.c, .slice A' (n.r * n.c) cap'] 29 (0, 0)), (b2, .cells #[nv m.r, nv m.c, .slice A (m.r * m.c) cap] 29 (0, 0))] ++ (N ++ []))) := fun N => List.mem_cons_self ..
    refine JC.rangeIn (od := [⟨16, 2, [], []⟩]) _ mixed hl hln rfl (enters_of Tryd.func85 (by kernel_rfl) rfl) (rows_iter hbr' hbc' (Nat.le_refl _) hcap') hkb (keys_ge hge)
      (fun ks H' => ∃ N, H' = (by_, Obj.cells #[nv n.r, nv n.c, .slice A' (n.r * n.c) cap'] 29 (0, 0)) :: (b9, .cells #[.slice A9 n.c (co - i * n.c)] 27 (0, 0)) :: (b8, .cells #[rowV A cap m.c i] 27 (0, 0)) :: ([(bx, Obj.cells #[nv m.r, nv m.c, .slice A (m.r * m.c) cap] 29 (0, 0)), (b6, .cells #[nv m.r, nv n.c, .slice Ao (m.r * n.c) co] 29 (0, 0)), (b4, .cells #[iv 0, iv 0, .slice none 0 0] 29 (0, 0)), (b3, .cells #[nv n.r, nv n.c, .slice A' (n.r * n.c) cap'] 29 (0, 0)), (b2, .cells #[nv m.r, nv m.c, .slice A (m.r * m.c) cap] 29 (0, 0))] ++ (N ++ [])) ∧ OwnZ N (.slice Ao (m.r * n.c) co) (m.r * n.c) (muS m n pre i ks 0 0))
      (by rintro ks _ ⟨N, rfl, _⟩; exact hby N) (by rintro ks _ ⟨N, rfl, hO⟩; exact (Cells.cons (Cells.cons (Cells.cons (Cells.cons (Cells.cons (Cells.cons (Cells.cons (Cells.cons (hO.cells.app Cells.nil)))))))))) _ ⟨N, rfl, by rw [muS_start]; exact hO⟩ (HSub.refl _)
      (fun k _ => [(10, nv k), (11, rowV A' cap' n.c k), (9, .pointer (some ⟨b9, 0, none⟩)), (8, .pointer (some ⟨b8, 0, none⟩))]) (fun _ => none) (fun _ _ h => by cases h) rfl rfl (by kernel_rfl) (by kernel_rfl) ?_ ?_ ?_
    · intro l2 k W2 hW2
      simp only [toB, textOps, toSOp, kindAt, kindOf, odAt, sopsAt, ordOf, exH, List.nil_append, List.cons_append]
      (repeat' (first | refine JC.seq ?_ | refine JC.ops ?_ | refine JO.nil ?_ | refine JX.thenN ?_ | (apply r_assign; (iterate 3 exact rfl))))
      exact JX.asgEnd0 rfl (by repeat first | exact trivial | refine ⟨rfl, ?_⟩)
    · rintro l2 k ks _ _ W2 hM2 hk hkl ⟨N, rfl, hO⟩ hln2 hkb2 hge2
      simp only [toB, textOps, toSOp, kindAt, kindOf, odAt, sopsAt, ordOf, exH, List.nil_append, List.cons_append]
      have hra := rd_body (c2 := ⟨Tryd.prog, 86, W2, _, hM2⟩) (row_wz hm hE hi) hkb2 (keys_ge hge2) []
      have hrb := rd_body (c2 := ⟨Tryd.prog, 86, W2, _, hM2⟩) (row_wz hn hE' hk) hkb2 (keys_ge hge2) []
      have hkc : k < m.c := by omega
      have ea : (rowI m i).getD k 0 = m.at i k := rowI_get hkc
      (repeat' (first | refine JC.seq ?_ | refine JC.ops ?_ | (apply r_move; (iterate 3 exact rfl)) | (apply r_load; (iterate 4 exact rfl); exact at2; exact rfl) | (apply r_idxZ; (iterate 4 exact rfl); (first | assumption | exact WZ.rd (by assumption) rfl [] | exact OwnZ.rd (by assumption)); (first | assumption | omega)) | (apply r_ldZ; (iterate 4 exact rfl); (first | assumption | exact WZ.rd (by assumption) rfl [] | exact OwnZ.rd (by assumption)); (repeat' first | exact HSub.nil _ | exact HSub.hd | exact HSub.in0 | exact HSub.refl _ | refine HSub.skip ?_ | refine HSub.skipN ?_); (first | assumption | omega)) | refine JC.block ?_))
      refine r_call0 (by first | trivial | exact ⟨rfl, rfl⟩) rfl rfl rfl (fun w _ _ => c_zeroZ w ((rowI m i).getD k 0)) fun w v w' _ _ _ hR => ?_
      by_cases hz : (rowI m i).getD k 0 = 0
      · rw [decide_eq_true hz] at hR
        subst hR
        (repeat' (first | refine JO.nil ?_ | refine JX.thenN ?_ | refine JX.thenE ?_ | refine JC.exit ?_ | refine JC.condT rfl ?_ | refine JX.blockE ?_))
        rw [muS_jump (show m.at i k = 0 by rw [← ea]; exact hz)] at hO
        exact JX.bodyEnd ⟨N, rfl, hO⟩ (Cells.cons (Cells.cons (Cells.cons (Cells.cons (Cells.cons (Cells.cons (Cells.cons (Cells.cons (hO.cells.app Cells.nil))))))))) (HSub.refl _)
      · rw [decide_eq_false hz] at hR
        subst hR
        (repeat' (first | refine JC.seq ?_ | refine JC.ops ?_ | refine JO.nil ?_ | refine JX.thenN ?_ | (apply r_move; (iterate 3 exact rfl)) | (apply r_lenZ; (iterate 3 exact rfl); (first | assumption | exact WZ.rd (by assumption) rfl [] | exact OwnZ.rd (by assumption))) | refine JC.skip ?_ | refine JC.condF rfl ?_ | refine JC.block ?_))
        refine JC.loopH (ι := Nat × SHeap) ⟨fun z => [(62, nv z.1), (61, nv n.c), (60, rowV A' cap' n.c k), (10, nv k), (9, .pointer (some ⟨b9, 0, none⟩)), (8, .pointer (some ⟨b8, 0, none⟩))],
          fun z => (by_, Obj.cells #[nv n.r, nv n.c, .slice A' (n.r * n.c) cap'] 29 (0, 0)) :: (b9, .cells #[.slice A9 n.c (co - i * n.c)] 27 (0, 0)) :: (b8, .cells #[rowV A cap m.c i] 27 (0, 0)) :: ([(bx, Obj.cells #[nv m.r, nv m.c, .slice A (m.r * m.c) cap] 29 (0, 0)), (b6, .cells #[nv m.r, nv n.c, .slice Ao (m.r * n.c) co] 29 (0, 0)), (b4, .cells #[iv 0, iv 0, .slice none 0 0] 29 (0, 0)), (b3, .cells #[nv n.r, nv n.c, .slice A' (n.r * n.c) cap'] 29 (0, 0)), (b2, .cells #[nv m.r, nv m.c, .slice A (m.r * m.c) cap] 29 (0, 0))] ++ (z.2 ++ [])),
          fun z => z.1 ≤ n.c ∧ OwnZ z.2 (.slice Ao (m.r * n.c) co) (m.r * n.c) (muS m n pre i ks k z.1), fun z => n.c - z.1⟩ (0, N) ⟨by omega, by rw [muS_k m n pre i ks k 0]; exact hO⟩ (by repeat first | exact trivial | refine ⟨rfl, ?_⟩) (HSub.refl _) (fun j hj => ?_)
        obtain ⟨j, N⟩ := j
        obtain ⟨hjn, hO⟩ := hj
        dsimp only at hjn hO ⊢
        by_cases hj : j < n.c
        · have eb : (rowI n k).getD j 0 = n.at k j := rowI_get hj
          have hlt := zx_lt hi hj
          obtain rfl := hAo (by omega)
          obtain rfl := hA9 (by omega)
          have hat : vAt (.slice (some ⟨b0, 0 + i * n.c * 2, none⟩) n.c (co - i * n.c)) (j * 2) = vAt (.slice (some ⟨b0, 0, none⟩) (m.r * n.c) co) ((i * n.c + j) * 2) := by
            simp only [vAt_lit]
            congr 1
            rw [Nat.add_mul]; omega
          have hsub : RdZ ⟨Tryd.prog, 86, W2, _, hM2⟩ N (.slice (some ⟨b0, 0 + i * n.c * 2, none⟩) n.c (co - i * n.c)) n.c _ := sub_rd (l := i * n.c) hO (fun _ => rfl) (fun _ => rfl) (by omega) (by omega)
          have es : (((muS m n pre i ks k j).drop (i * n.c)).take n.c).getD j 0 = enz n.c (muS m n pre i ks k j) i j := row_enz hj
          (repeat' (first | refine JC.seq ?_ | refine JC.ops ?_ | refine JO.nil ?_ | refine JX.thenN ?_ | (apply r_move; (iterate 3 exact rfl)) | (apply r_assign; (iterate 3 exact rfl)) | (apply r_loadN; (iterate 4 exact rfl); exact at0; exact rfl) | (apply r_idxZ; (iterate 4 exact rfl); (first | assumption | exact WZ.rd (by assumption) rfl [] | exact OwnZ.rd (by assumption)); (first | assumption | omega)) | (apply r_ldZ; (iterate 4 exact rfl); (first | assumption | exact WZ.rd (by assumption) rfl [] | exact OwnZ.rd (by assumption)); (repeat' first | exact HSub.nil _ | exact HSub.hd | exact HSub.in0 | exact HSub.refl _ | refine HSub.skip ?_ | refine HSub.skipN ?_); (first | assumption | omega)) | (apply r_storeN; exact rfl; (first | exact trivial | exact ⟨rfl, rfl⟩); exact rfl; exact rfl; exact at0; (iterate 3 exact rfl)) | (apply r_lss; (iterate 4 exact rfl); all_goals intro hc; all_goals try (exfalso; omega)) | (apply r_allocZ; (iterate 3 exact rfl); intro _) | (apply r_storeN; exact rfl; (first | exact trivial | exact ⟨rfl, rfl⟩); exact rfl; exact rfl; exact at0; (iterate 3 exact rfl)) | refine JC.skip ?_ | refine JC.condT rfl ?_ | refine JC.block ?_))
          refine r_call0 (by first | trivial | exact ⟨rfl, rfl⟩) rfl rfl rfl (fun w _ _ => c_zeroZ w ((rowI n k).getD j 0)) fun w v w' _ _ _ hR => ?_
          by_cases hz2 : (rowI n k).getD j 0 = 0
          · rw [decide_eq_true hz2] at hR
            subst hR
            (repeat' (first | refine JC.ops ?_ | refine JO.nil ?_ | refine JX.thenN ?_ | (apply r_move; (iterate 3 exact rfl)) | (apply r_add1; (iterate 4 exact rfl); omega) | (apply r_not; (iterate 3 exact rfl)) | refine JC.skip ?_ | refine JC.condF rfl ?_ | refine JX.blockN ?_))
            rw [muS_skip (show m.at i k * n.at k j = 0 by rw [← eb, hz2, Int.mul_zero])] at hO
            exact JX.roundH (j + 1, N) ⟨by dsimp only; omega, hO⟩ (by dsimp only; omega) (by repeat first | exact trivial | refine ⟨rfl, ?_⟩) (HSub.skip (HSub.refl _))
          · rw [decide_eq_false hz2] at hR
            subst hR
            (repeat' (first | refine JC.opsD ?_ | refine JO.nil ?_ | refine JX.thenN ?_ | (apply r_move; (iterate 3 exact rfl)) | (apply r_load; (iterate 4 exact rfl); (first | exact at0 | exact at2 | exact at3); exact rfl) | (apply r_loadN; (iterate 4 exact rfl); (first | exact at0 | exact at2 | exact at3); exact rfl) | (apply r_idxZ; (iterate 4 exact rfl); (first | assumption | exact WZ.rd (by assumption) rfl [] | exact OwnZ.rd (by assumption)); (first | assumption | omega)) | (apply r_ldZ; (iterate 4 exact rfl); (first | assumption | exact WZ.rd (by assumption) rfl [] | exact OwnZ.rd (by assumption)); (repeat' first | exact HSub.nil _ | exact HSub.hd | exact HSub.in0 | exact HSub.refl _ | refine HSub.skip ?_ | refine HSub.skipN ?_); (first | assumption | omega)) | (apply r_not; (iterate 3 exact rfl)) | refine JC.condT rfl ?_))
            refine r_call0 (by first | trivial | exact ⟨rfl, rfl⟩) rfl rfl rfl (fun w _ _ => c_Mul w _ _ ((rowI m i).getD k 0) ((rowI n k).getD j 0) (K + L) (IsZ.can (by rw [ea]; exact bd_up (hx.at i k) (by omega))) (IsZ.can (by rw [eb]; exact bd_up (hy.at k j) (by omega))) (by omega)) fun w v w' _ _ _ hR => ?_
            subst hR
            skip
            refine r_call0 (by first | trivial | exact ⟨rfl, rfl⟩) rfl rfl rfl (fun w _ _ => c_Add w _ _ ((((muS m n pre i ks k j).drop (i * n.c)).take n.c).getD j 0) ((rowI m i).getD k 0 * (rowI n k).getD j 0) (K + L + 2) (IsZ.can (by rw [es, show enz n.c (muS m n pre i ks k j) i j = muF m n pre i ks k j i j from enz_tbz hi hj]; exact muF_bd hbc hx hy (by omega) (by omega))) (IsZ.can (by rw [ea, eb]; exact bd_up (mul_bd (hx.at i k) (hy.at k j)) (by omega))) (by omega)) fun w v w' _ _ _ hR => ?_
            subst hR
            (repeat' (first | (apply r_idxZ; (iterate 4 exact rfl); (first | assumption | exact WZ.rd (by assumption) rfl [] | exact OwnZ.rd (by assumption)); (first | assumption | omega))))
            refine r_stZ (A := [_, _, _, _, _, _, _, _, _]) hO rfl rfl (by first | trivial | exact ⟨rfl, rfl⟩) (congrArg (fun a => some (Value.pointer (some a))) hat) rfl hlt (fun N' hO' => ?_)
            rw [es, ea, eb, muS_set hi hj] at hO'
            (repeat' (first | refine JC.ops ?_ | refine JO.nil ?_ | refine JX.thenN ?_ | (apply r_move; (iterate 3 exact rfl)) | (apply r_add1; (iterate 4 exact rfl); omega) | refine JX.blockN ?_))
            exact JX.roundH (j + 1, N') ⟨by dsimp only; omega, hO'⟩ (by dsimp only; omega) (by repeat first | exact trivial | refine ⟨rfl, ?_⟩) (HSub.skip (HSub.refl _))
        · (repeat' (first | refine JC.seq ?_ | refine JC.ops ?_ | refine JO.nil ?_ | refine JX.thenN ?_ | (apply r_lss; (iterate 4 exact rfl); all_goals intro hc; all_goals try (exfalso; omega)) | refine JX.thenE ?_ | refine JC.exit ?_ | refine JC.condF rfl ?_ | refine JX.blockN ?_ | refine JX.blockE ?_))
          obtain rfl : j = n.c := by omega
          rw [muS_next] at hO
          exact JX.bodyEnd ⟨N, rfl, hO⟩ (Cells.cons (Cells.cons (Cells.cons (Cells.cons (Cells.cons (Cells.cons (Cells.cons (Cells.cons (hO.cells.app Cells.nil))))))))) (HSub.refl _)
    · rintro _ ⟨N, rfl, hO⟩
      (repeat' (first | refine JX.blockN ?_))
      rw [← hr, muS_row] at hO
      exact JX.bodyEnd ⟨N, rfl, hO⟩ (Cells.cons (Cells.cons (Cells.cons (Cells.cons (Cells.cons (hO.cells.app Cells.nil)))))) (HSub.skip (HSub.skip (HSub.skip (HSub.refl _))))
  · rintro D _ ⟨N, rfl, hO⟩ hD
    simp only [toS, textOps, toSOp, kindAt, kindOf, odAt, sopsAt, ordOf]
    (repeat' (first | refine JC.seq ?_ | refine JC.ops ?_ | refine JO.nil ?_ | refine JX.thenN ?_ | (apply r_assign; (iterate 3 exact rfl)) | (apply r_loadN; (iterate 4 exact rfl); (first | exact at2 | exact at3); exact rfl) | (apply r_storeN; exact rfl; (first | exact trivial | exact ⟨rfl, rfl⟩); exact rfl; exact rfl; (first | exact at2 | exact at3); (iterate 3 exact rfl)) | (apply r_storeN; exact rfl; (first | exact trivial | exact ⟨rfl, rfl⟩); exact rfl; exact rfl; (first | exact at2 | exact at3); (iterate 3 exact rfl)) | refine JC.ret ?_))
    rw [muE_end] at hO
    refine JX.leaveM 0 rfl hD rfl ?_
    exact JX.retCT 2 rfl rfl rfl rfl (fun a w' st => ⟨st.kp, N, _, rfl, st.newOf rfl (by exact HSub.skip (HSub.skip (HSub.skip (HSub.skip (HSub.skip HSub.in0))))), OwnM.mk' hO⟩)



def dT : TR := ([], undef, [])
def tv (ts : List TR) (i : Nat) : Value := (ts.getD i dT).2.1
def tr' (ts : List TR) (i : Nat) : List Int := (ts.getD i dT).2.2
def tM (ts : List TR) : Mi := fun i j => (tr' ts i).getD j 0
theorem tv_get {ts : List TR} {i : Nat} (h : i < ts.length) : (ts.map (·.2.1))[i]? = some (tv ts i) := by
  rw [List.getElem?_map, gD_lt (d := dT) h]
  rfl
theorem tg_mem {ts : List TR} {i : Nat} (h : i < ts.length) : ts.getD i dT ∈ ts := mem_getD h
theorem OwnT.row {N : SHeap} {v : Value} {c : Nat} {ts : List TR} (h : OwnT N v c ts) {i : Nat} (hi : i < ts.length) : OwnZ (ts.getD i dT).1 (tv ts i) c (tr' ts i) := h.rows _ (tg_mem hi)
theorem tH_sub : ∀ {ts : List TR} {t : TR}, t ∈ ts → HSub t.1 (tH ts)
  | [], _, h => by cases h
  | x :: ts, t, h => by
    have e : tH (x :: ts) = x.1 ++ tH ts := by simp [tH]
    rw [e]
    rcases List.mem_cons.1 h with rfl | h
    · exact HSub.in0
    · exact HSub.skipN (tH_sub h)
theorem tH_cut {ts : List TR} {i : Nat} (hi : i < ts.length) : tH ts = tH (ts.take i) ++ ((ts.getD i dT).1 ++ tH (ts.drop (i + 1))) := by
  have h1 : ts = ts.take i ++ (ts.getD i dT :: ts.drop (i + 1)) := by
    conv => lhs; rw [← List.take_append_drop i ts]
    congr 1
    rw [List.drop_eq_getElem_cons hi]
    congr 1
    simp only [List.getD, List.getElem?_eq_getElem hi, Option.getD_some]
  conv => lhs; rw [h1]
  rw [tH_append]
  simp [tH]
theorem tH_set {ts : List TR} {i : Nat} (hi : i < ts.length) (t : TR) : tH (ts.set i t) = tH (ts.take i) ++ (t.1 ++ tH (ts.drop (i + 1))) := by
  rw [tH_cut (ts := ts.set i t) (i := i) (by simpa using hi)]
  rw [List.take_set_of_le (Nat.le_refl _), List.drop_set_of_lt (by omega)]
  congr 2
  simp [List.getD, hi]
theorem tM_set {ts : List TR} {i j : Nat} {N : SHeap} {v : Value} {u : Int} (hi : i < ts.length) (hj : j < (tr' ts i).length) (a b : Nat) : tM (ts.set i (N, v, (tr' ts i).set j u)) a b = if a = i ∧ b = j then u else tM ts a b := by
  unfold tM tr'
  by_cases ha : a = i
  · subst ha
    rw [set_getD (d := dT) hi, if_pos rfl]
    show ((tr' ts a).set j u).getD b 0 = _
    rw [set_getD (d := 0) hj]
    by_cases hb : b = j
    · rw [if_pos hb, if_pos ⟨rfl, hb⟩]
    · rw [if_neg hb, if_neg (fun h => hb h.2)]; rfl
  · rw [set_getD (d := dT) hi, if_neg ha, if_neg (fun h => ha h.1)]
theorem tv_set {ts : List TR} {i : Nat} {N : SHeap} {l : List Int} (hi : i < ts.length) (a : Nat) : tv (ts.set i (N, tv ts i, l)) a = tv ts a := by
  unfold tv
  rw [set_getD (d := dT) hi]
  split
  · rename_i h; subst h; rfl
  · rfl
theorem tvs_set {ts : List TR} {i : Nat} {N : SHeap} {l : List Int} (hi : i < ts.length) : (ts.set i (N, tv ts i, l)).map (·.2.1) = ts.map (·.2.1) := by
  rw [List.map_set]
  refine List.ext_getElem? (fun k => ?_)
  rw [List.getElem?_set]
  split
  · rename_i h
    subst h
    rw [if_pos (by simpa using hi), tv_get hi]
  · rfl

section
variable {c : Cx} {Q : Exit → Act → World → Prop} {m : Mode} {F : SFrame} {H : SHeap} {r : List SOp} {g : Option (Option Tmp × Bool)} {ns : Bool} {d : Tmp} {ty t t' : TypeId} {x y : Operand} {N : SHeap} {v : Value} {cc : Nat} {ts : List TR}
theorem OwnT.rd (h : OwnT N v cc ts) : Rd c N 1 v ts.length (ts.map (·.2.1)) := OwnRow.rd h.outer
theorem r_lenT {e : TypeId} {n : Nat} [TSl c.P t e] (hd : dstOk c.n (some d) = true) (hg : guardF F g = some true) (hx : ev F x = some v) (hT : OwnT N v cc ts) (hn : ts.length = n)
    (h : JO c Q m r ((d, .int .i64 n) :: F) H) : JO c Q m (⟨some d, .call ⟨.builtin .len, #[x], #[t]⟩, ty, g, .mov, ns⟩ :: r) F H := r_lenR hd hg hx hT.rd (by rw [hn]; exact h)
theorem r_idxT {e : TypeId} {j : Nat} {k : IntKind} [TSl c.P t e] [TSz c.P e 1] (hd : dstOk c.n (some d) = true) (hg : guardF F g = some true) (hx : ev F x = some v) (hy : ev F y = some (.int k j)) (hT : OwnT N v cc ts) (hj : j < ts.length)
    (h : JO c Q m r ((d, .pointer (some (vAt v j))) :: F) H) : JO c Q m (⟨some d, .indexAddr t x y, ty, g, .mov, ns⟩ :: r) F H := r_idxR1 hd hg hx hy hT.rd hj h
theorem r_ldT {i : Nat} {V : Nat → Value} [T1 c.P t] (hd : dstOk c.n (some d) = true) (hg : guardF F g = some true) (hx : ev F x = some (.pointer (some (vAt v i)))) (hl : m.live = true) (hT : OwnT N v cc ts) (hV : ∀ a, tv ts a = V a) (hN : HSub N (m.src H)) (hi : i < ts.length)
    (h : JO c Q m r ((d, V i) :: F) H) : JO c Q m (⟨some d, .load t x, ty, g, .ld, ns⟩ :: r) F H := r_ldR hd hg hx hl hT.rd hN (tv_get hi) (by rw [hV]; exact h)
theorem r_lenTr {e : TypeId} {i : Nat} {V : Nat → Value} [TSl c.P t e] (hd : dstOk c.n (some d) = true) (hg : guardF F g = some true) (hx : ev F x = some (V i)) (hV : ∀ a, tv ts a = V a) (hT : OwnT N v cc ts) (hi : i < ts.length)
    (h : JO c Q m r ((d, .int .i64 cc) :: F) H) : JO c Q m (⟨some d, .call ⟨.builtin .len, #[x], #[t]⟩, ty, g, .mov, ns⟩ :: r) F H := r_lenZ hd hg (by rw [hx, hV]) (hT.row hi).rd h
theorem r_idxTr {e : TypeId} {i j : Nat} {V : Nat → Value} {k : IntKind} [TSl c.P t e] [TSz c.P e 2] (hd : dstOk c.n (some d) = true) (hg : guardF F g = some true) (hx : ev F x = some (V i)) (hy : ev F y = some (.int k j)) (hV : ∀ a, tv ts a = V a) (hT : OwnT N v cc ts) (hi : i < ts.length) (hj : j < cc)
    (h : JO c Q m r ((d, .pointer (some (vAt (V i) (j * 2)))) :: F) H) : JO c Q m (⟨some d, .indexAddr t x y, ty, g, .mov, ns⟩ :: r) F H := r_idxZ hd hg (by rw [hx, hV]) hy (hT.row hi).rd hj (by rw [hV]; exact h)
theorem r_ldTr {i j : Nat} {V : Nat → Value} [TN c.P t 2] (hd : dstOk c.n (some d) = true) (hg : guardF F g = some true) (hx : ev F x = some (.pointer (some (vAt (V i) (j * 2))))) (hl : m.live = true) (hV : ∀ a, tv ts a = V a) (hT : OwnT N v cc ts) (hN : HSub (tH ts) (m.src H)) (hi : i < ts.length) (hj : j < cc)
    (h : JO c Q m r ((d, Wv (tM ts i j)) :: F) H) : JO c Q m (⟨some d, .load t x, ty, g, .ld, ns⟩ :: r) F H := r_ldZ hd hg (by rw [hx, hV]) hl (hT.row hi).rd ((tH_sub (tg_mem hi)).trans hN) hj h
theorem r_stTr {A B : SHeap} {i j : Nat} {u : Int} {V : Nat → Value} [TN c.P t 2] (hV : ∀ a, tv ts a = V a) (hT : OwnT N v cc ts) (hH : H = A ++ (N ++ (tH ts ++ B))) (hg : guardF F g = some true) (hm : m.mayStore ns r) (hx : ev F x = some (.pointer (some (vAt (V i) (j * 2))))) (hy : ev F y = some (Wv u))
    (hi : i < ts.length) (hj : j < cc) (h : ∀ ts', OwnT N v cc ts' → ts'.length = ts.length → (∀ a, tv ts' a = V a) → (∀ a b, tM ts' a b = if a = i ∧ b = j then u else tM ts a b) → JO c Q m.spent r F (A ++ (N ++ (tH ts' ++ B)))) : JO c Q m (⟨none, .store t x y, ty, g, .seq, ns⟩ :: r) F H := by
  refine r_stZ (A := A ++ (N ++ tH (ts.take i))) (B := tH (ts.drop (i + 1)) ++ B) (hT.row hi) (by rw [hH, tH_cut hi]; simp only [List.append_assoc]) hg hm (by rw [hx, hV]) hy hj (fun N' hO' => ?_)
  have h1 := h (ts.set i (N', tv ts i, (tr' ts i).set j u)) ⟨by rw [List.length_set, tvs_set hi]; exact hT.outer, fun q hq => by
    rcases List.mem_or_eq_of_mem_set hq with hq | rfl
    · exact hT.rows q hq
    · exact hO'⟩ (by simp) (fun a => by rw [tv_set hi]; exact hV a) (tM_set hi (by rw [(hT.row hi).len]; exact hj))
  rw [tH_set hi] at h1
  simpa only [List.append_assoc] using h1
theorem tv_one (hT : OwnT N v cc ts) {i : Nat} (hi : i < ts.length) : (tv ts i).cells.toList = [tv ts i] ∧ (tv ts i).oneCell' = true := by
  obtain ⟨A, cap, e⟩ := (hT.row hi).form
  rw [e]
  exact ⟨rfl, rfl⟩
end

section
variable {c : Cx} {Q : Exit → Act → World → Prop} {m : Mode} {F : SFrame} {H : SHeap} {r : List SOp} {g : Option (Option Tmp × Bool)} {ns : Bool} {d : Tmp} {ty t t' : TypeId} {x y : Operand}
theorem r_ldRs {N : SHeap} {sz n i : Nat} {v u : Value} {cs : List Value} [T1 c.P t] (hm : m.mayCall ns r) (hd : dstOk c.n (some d) = true) (hg : guardF F g = some true) (hx : ev F x = some (.pointer (some (vAt v i)))) (hv : Rd c N sz v n cs) (hN : HSub N H) (hu : cs[i]? = some u)
    (h : JO c Q m r ((d, u) :: F) H) : JO c Q m (⟨some d, .load t x, ty, g, .seq, ns⟩ :: r) F H := by
  refine r_seqR (v := u) (dd := some d) hm hd hg (fun a w fr hs => ?_) h
  have hi := (List.getElem?_eq_some_iff.1 hu).1
  obtain ⟨hlen, A, cap, rfl, _, hv⟩ := hv
  have h0 : 0 < n := by
    rcases Nat.eq_zero_or_pos n with h | h
    · subst h; simp at hlen; simp [hlen] at hi
    · exact h
  have := (hv h0).2 w (hs.part hN) i u hu
  simp only [execOp, fr.ev hx, Sem.run_bind, run_load1 this, Result.andThen_ok, Sem.run_pure]
theorem r_stOK {e : TypeId} {N A B Hs : SHeap} {sz n i : Nat} {v u : Value} {cs : List Value} [T1 c.P t] (hO : OwnRow e sz N v n cs) (hH : H = A ++ (N ++ B)) (hHs : HSub Hs (A ++ B)) (hg : guardF F g = some true) (hx : ev F x = some (.pointer (some (vAt v i)))) (hy : ev F y = some u)
    (hc : u.cells.toList = [u]) (hv : u.oneCell' = true) (hi : i < n * sz) (h : ∀ N', OwnRow e sz N' v n (cs.set i u) → JO c Q (.draw Hs true) r F (A ++ (N' ++ B))) :
    JO c Q (.draw Hs true) (⟨none, .store t x y, ty, g, .seq, ns⟩ :: r) F H := by
  obtain ⟨b, cap, cur, rfl, rfl, h1, h2⟩ := hO.set hi
  subst hH
  simp only [vAt_lit, Nat.zero_add] at hx
  have hb : (A ++ ([(b, Obj.cells cur e (0, 0))] ++ B))[A.length]? = some (b, .cells cur e (0, 0)) := by simp
  have hk := h _ (h2 u)
  have hset : (A ++ ([(b, Obj.cells cur e (0, 0))] ++ B)).set A.length (b, .cells (cur.setIfInBounds i u) e (0, 0)) = A ++ ([(b, .cells (cur.setIfInBounds i u) e (0, 0))] ++ B) := by simp
  refine ⟨⟨rfl, .inr ⟨hg, fun a w st _ => ?_⟩⟩⟩
  have hm' : (b, Obj.cells cur e (0, 0)) ∈ A ++ ([(b, Obj.cells cur e (0, 0))] ++ B) := List.mem_of_getElem? hb
  have hcs : u.cells.size = 1 := by rw [← Array.length_toList, hc]; rfl
  obtain ⟨w', h1', h2', h3, h4, h5, h6, h7⟩ := run_storeAt (P := c.P) (t := t) (n := 1) T1.size (o := i) (v := u) (w := w) hcs (by rw [hc]; intro q hq; cases List.mem_singleton.1 hq; exact hv) (st.hs.blk _ hm') (by omega)
  rw [hc] at h2'
  have h2'' : w'.heap[b]? = some (.cells (cur.setIfInBounds i u) e (0, 0)) := h2'
  obtain ⟨st', hstep⟩ := setBlk st hb h2'' h3 h4 h5 h6 h7
  rw [hset] at st'
  unfold Oper.wp SOp.oper
  simp only [execOp, st.fr.ev hx, st.fr.ev hy, Sem.run_bind, h1', Result.andThen_ok, Sem.run_pure]
  have hs2 : HSub Hs (A ++ ([(b, Obj.cells (cur.setIfInBounds i u) e (0, 0))] ++ B)) := hHs.trans (HSub.sub (List.Sublist.append_left (List.sublist_append_right _ _) A))
  exact ⟨hstep, F, _, .draw Hs true, st', fun j hj => .inl (by rw [← hset] at hj; exact keys_set hb j hj), ⟨rfl, fun _ => ⟨rfl, hs2.hsat st'.hs⟩, fun _ => rfl, .inl rfl⟩, hk.h⟩
end

def swT (ts : List TR) (p q : Nat) : List TR := (ts.set p (ts.getD q dT)).set q (ts.getD p dT)
theorem swT_len (ts : List TR) (p q : Nat) : (swT ts p q).length = ts.length := by simp [swT]
theorem swT_get {ts : List TR} {p q : Nat} (hp : p < ts.length) (hq : q < ts.length) (i : Nat) : (swT ts p q).getD i dT = if i = q then ts.getD p dT else if i = p then ts.getD q dT else ts.getD i dT := by
  unfold swT
  rw [set_getD (d := dT) (by simpa using hq), set_getD (d := dT) hp]
theorem swT_M {ts : List TR} {p q : Nat} (hp : p < ts.length) (hq : q < ts.length) (i j : Nat) : tM (swT ts p q) i j = if i = q then tM ts p j else if i = p then tM ts q j else tM ts i j := by
  unfold tM tr'
  rw [swT_get hp hq]
  split
  · rfl
  · split <;> rfl
theorem swT_perm {ts : List TR} {p q : Nat} (hp : p < ts.length) (hq : q < ts.length) : (swT ts p q).Perm ts := by
  have h := Array.swap_perm (xs := ts.toArray) (i := p) (j := q) (by simpa using hp) (by simpa using hq)
  have e : (ts.toArray.swap p q (by simpa using hp) (by simpa using hq)).toList = swT ts p q := by
    unfold swT
    simp [Array.swap, List.getD, hp, hq]
  have h2 := Array.perm_iff_toList_perm.1 h
  rw [e] at h2
  exact h2
theorem tH_perm {a b : List TR} (h : a.Perm b) : (tH a).Perm (tH b) := (h.map _).flatten
theorem swT_vs {ts : List TR} {p q : Nat} (hp : p < ts.length) (hq : q < ts.length) : (swT ts p q).map (·.2.1) = ((ts.map (·.2.1)).set p (tv ts q)).set q (tv ts p) := by
  unfold swT
  rw [List.map_set, List.map_set]
  rfl


theorem OwnRow.keys_eq {e : TypeId} {sz n : Nat} {N N' : SHeap} {v : Value} {cs cs' : List Value} (h : OwnRow e sz N v n cs) (h' : OwnRow e sz N' v n cs') : keys N = keys N' := by
  obtain ⟨_, ⟨h1, _, h3⟩ | ⟨b, cap, cur, h1, h3, _⟩⟩ := h
  · obtain ⟨_, ⟨_, _, k3⟩ | ⟨b, cap, cur, k1, _⟩⟩ := h'
    · rw [h3, k3]
    · rw [h1] at k1; cases k1
  · obtain ⟨_, ⟨k1, _, _⟩ | ⟨b', cap', cur', k1, k3, _⟩⟩ := h'
    · rw [h1] at k1; cases k1
    · rw [h1] at k1
      cases k1
      rw [h3, k3]
      rfl

theorem JX.end0r {c : Cx} {R : Value → World → Prop} {F : SFrame} {H : SHeap} (hR : ∀ a w, St c F H a w → R (.tuple #[]) w) : JX c (endPost c.P #[] (Ret R)) .ret F H := ⟨fun a w st => (JX.end0 (c := c) (F := F) (H := H) hR).h a w st⟩

theorem sub_step {xs ys : List Int} {t : Int} {n k : Nat} (hl : xs.length = n) (hk : k < n) : (tab n fun j => if j < k then xs.getD j 0 - t * ys.getD j 0 else xs.getD j 0).set k (xs.getD k 0 - t * ys.getD k 0) = tab n fun j => if j < k + 1 then xs.getD j 0 - t * ys.getD j 0 else xs.getD j 0 := by
  rw [tab_set]
  refine tab_congr fun i hi => ?_
  by_cases h : i = k
  · subst h; simp
  · by_cases h' : i < k
    · rw [if_neg h, if_pos h', if_pos (by omega)]
    · rw [if_neg h, if_neg h', if_neg (by omega)]

set_option maxHeartbeats 4000000 in
theorem c_subtract (K : Nat) (w : World) (v u : Value) (n : Nat) (xs ys : List Int) (t : Int) (N : SHeap) (hO : OwnZ N v n xs) (hs : Hsat N w) (hu : WZ w u n ys) (hd : 0 < n → (vAt u 0).block ∉ keys N) (hn : n ≤ 1000000)
    (hK : 2 * K + 1 ≤ 100000000) (hx : BdL K xs) (hy : BdL K ys) (ht : t.natAbs < 256 ^ K) :
    Calls Tryd.prog 65 #[v, u, Wv t] w (Ret fun _ w' => Kp (keys N) w w' ∧ ∃ N', keys N' = keys N ∧ InW N' w' ∧ OwnZ N' v n (tab n fun j => xs.getD j 0 - t * ys.getD j 0)) := by
  have hl := hO.len
  have hM := keys_lt hs
  have hS : OwnZ N v n (tab n fun j => if j < 0 then xs.getD j 0 - t * ys.getD j 0 else xs.getD j 0) := by
    rw [tab_congr (g' := fun j => xs.getD j 0) (fun i _ => if_neg (Nat.not_lt_zero i)), tab_of hl]
    exact hO
  refine calls_of_S [⟨5, 2, [], []⟩] (keys N) hM N Tryd.func65 rfl mixed (by kernel_rfl) Tryd.ntmps65 Tryd.results65 rfl hs (fun p hp => List.mem_map.2 ⟨p, hp, rfl⟩) ?_
  simp only [toS, textOps, toSOp, kindAt, kindOf, odAt, sopsAt, ordOf, zipF]
  have hru : RdZ ⟨Tryd.prog, 29, w, keys N, hM⟩ [] u n ys := WZ.rdM hu hd []
  (repeat' (first | refine JC.seq ?_ | refine JC.ops ?_ | refine JO.nil ?_ | refine JX.thenN ?_ | (apply r_loadN; (iterate 4 exact rfl); exact at0; exact rfl) | (apply r_boxA; (iterate 4 exact rfl); intro _)))
  rename_i b5
  refine r_call0 trivial rfl rfl rfl (fun w _ _ => c_zeroZ w t) fun w v w' _ _ _ hR => ?_
  by_cases hz : t = 0
  · rw [decide_eq_true hz] at hR
    subst hR
    (repeat' (first | refine JO.nil ?_ | refine JX.thenN ?_ | refine JX.thenR ?_ | refine JC.ret ?_ | refine JC.condT rfl ?_))
    refine JX.end0r (fun a w' st => ⟨st.kp, N, rfl, fun p hp => st.hs.blk p (List.mem_cons_of_mem _ hp), ?_⟩)
    rw [tab_congr (g' := fun j => xs.getD j 0) (fun i _ => by rw [hz, Int.zero_mul, Int.sub_zero]), tab_of hl]
    exact hO
  · rw [decide_eq_false hz] at hR
    subst hR
    (repeat' (first | refine JC.seq ?_ | refine JC.ops ?_ | refine JO.nil ?_ | refine JX.thenN ?_ | (apply r_move; (iterate 3 exact rfl)) | (apply r_lenZ; (iterate 3 exact rfl); (first | assumption | exact WZ.rd (by assumption) rfl [] | exact OwnZ.rd (by assumption))) | refine JC.skip ?_ | refine JC.condF rfl ?_ | refine JC.block ?_))
    refine JC.loopH (ι := Nat × SHeap) ⟨fun z => [(11, nv z.1), (10, nv n), (0, v), (1, u), (5, .pointer (some ⟨b5, 0, none⟩))],
      fun z => [(b5, .cells (wc t) 41)] ++ (z.2 ++ []),
      fun z => z.1 ≤ n ∧ OwnZ z.2 v n (tab n fun j => if j < z.1 then xs.getD j 0 - t * ys.getD j 0 else xs.getD j 0), fun z => n - z.1⟩ (0, N) ⟨by omega, hS⟩ (by repeat first | exact trivial | refine ⟨rfl, ?_⟩) (by simp only [List.append_nil]; exact HSub.refl _) (fun z hz' => ?_)
    obtain ⟨k, N1⟩ := z
    obtain ⟨hkn, hO1⟩ := hz'
    dsimp only at hkn hO1 ⊢
    by_cases hlt : k < n
    · have ex : (tab n fun j => if j < k then xs.getD j 0 - t * ys.getD j 0 else xs.getD j 0).getD k 0 = xs.getD k 0 := by rw [tab_getD hlt, if_neg (Nat.lt_irrefl k)]
      (repeat' (first | refine JC.seq ?_ | refine JC.ops ?_ | refine JC.opsD ?_ | refine JO.nil ?_ | refine JX.thenN ?_ | (apply r_move; (iterate 3 exact rfl)) | (apply r_assign; (iterate 3 exact rfl)) | (apply r_loadN; (iterate 4 exact rfl); exact at0; exact rfl) | (apply r_idxZ; (iterate 4 exact rfl); (first | assumption | exact WZ.rd (by assumption) rfl [] | exact OwnZ.rd (by assumption)); (first | assumption | omega)) | (apply r_ldZ; (iterate 4 exact rfl); (first | assumption | exact WZ.rd (by assumption) rfl [] | exact OwnZ.rd (by assumption)); (repeat' first | exact HSub.nil _ | exact HSub.hd | exact HSub.in0 | exact HSub.refl _ | refine HSub.skip ?_ | refine HSub.skipN ?_); (first | assumption | omega)) | (apply r_lss; (iterate 4 exact rfl); all_goals intro hc; all_goals try (exfalso; omega)) | refine JC.skip ?_ | refine JC.condT rfl ?_ | refine JC.block ?_))
      refine r_call0 (by first | trivial | exact ⟨rfl, rfl⟩) rfl rfl rfl (fun w _ _ => c_Mul w _ _ t (ys.getD k 0) K (IsZ.can ht) (IsZ.can (hy k)) (by omega)) fun w v w' _ _ _ hR => ?_
      subst hR
      skip
      refine r_call0 (by first | trivial | exact ⟨rfl, rfl⟩) rfl rfl rfl (fun w _ _ => c_Sub w _ _ ((tab n fun j => if j < k then xs.getD j 0 - t * ys.getD j 0 else xs.getD j 0).getD k 0) (t * ys.getD k 0) (K + K) (IsZ.can (by rw [ex]; exact bd_up (hx k) (by omega))) (IsZ.can (mul_bd ht (hy k))) (by omega)) fun w v w' _ _ _ hR => ?_
      rw [ex] at hR
      subst hR
      (repeat' (first | (apply r_idxZ; (iterate 4 exact rfl); (first | assumption | exact WZ.rd (by assumption) rfl [] | exact OwnZ.rd (by assumption)); (first | assumption | omega))))
      refine r_stZ (A := [_]) hO1 rfl rfl (by first | trivial | exact ⟨rfl, rfl⟩) rfl rfl hlt (fun N2 hO2 => ?_)
      rw [sub_step hl hlt] at hO2
      (repeat' (first | refine JC.ops ?_ | refine JO.nil ?_ | refine JX.thenN ?_ | (apply r_move; (iterate 3 exact rfl)) | (apply r_add1; (iterate 4 exact rfl); omega) | refine JX.blockN ?_))
      exact JX.roundH (k + 1, N2) ⟨by dsimp only; omega, hO2⟩ (by dsimp only; omega) (by repeat first | exact trivial | refine ⟨rfl, ?_⟩) (HSub.refl _)
    · (repeat' (first | refine JC.seq ?_ | refine JC.ops ?_ | refine JO.nil ?_ | refine JX.thenN ?_ | (apply r_lss; (iterate 4 exact rfl); all_goals intro hc; all_goals try (exfalso; omega)) | refine JX.thenE ?_ | refine JC.exit ?_ | refine JC.condF rfl ?_ | refine JX.blockE ?_))
      refine JX.end0 (fun a w' st => ⟨st.kp, N1, OwnRow.keys_eq hO1 hO, fun p hp => st.hs.blk p (List.mem_append_right _ (List.mem_append_left _ hp)), ?_⟩)
      rw [tab_congr (g' := fun j => xs.getD j 0 - t * ys.getD j 0) (fun i hi => if_pos (by omega))] at hO1
      exact hO1


theorem c_Det1 (w : World) (v : Value) (b n k : Nat) (zs : List Int) (hb : w.heap[b]? = some (.cells #[nv k] 3 (0, 0))) (hv : WZ w v n zs) (hk : k < n) :
    Calls Tryd.prog 69 #[v, .pointer (some ⟨b, 0, none⟩)] w (Ret fun u w' => Kp [] w w' ∧ u = .bool (decide (zs.getD k 0 ≠ 0))) := by
  have hc0 : w.cell? ⟨b, 0, none⟩ = some (nv k) := cell_of_blk hb rfl
  refine calls_of_S [] [] (by simp) [] Tryd.func69 rfl mixed (by kernel_rfl) Tryd.ntmps69 Tryd.results69 rfl ⟨by simp, by simp⟩ (by simp) ?_
  simp only [toS, textOps, toSOp, kindAt, kindOf, odAt, sopsAt, ordOf, zipF]
  have hR := WZ.rd (c := ⟨Tryd.prog, 10, w, [], by simp⟩) hv rfl []
  (repeat' (first | refine JC.seq ?_ | refine JC.ops ?_ | refine JO.nil ?_ | refine JX.thenN ?_ | (apply r_move; (iterate 3 exact rfl)) | (apply r_assign; (iterate 3 exact rfl)) | (apply r_idxZ; (iterate 4 exact rfl); (first | assumption | exact WZ.rd (by assumption) rfl [] | exact OwnZ.rd (by assumption)); (first | assumption | omega)) | (apply r_ldZ; (iterate 4 exact rfl); (first | assumption | exact WZ.rd (by assumption) rfl [] | exact OwnZ.rd (by assumption)); (repeat' first | exact HSub.nil _ | exact HSub.hd | exact HSub.in0 | exact HSub.refl _ | refine HSub.skip ?_ | refine HSub.skipN ?_); (first | assumption | omega)) | (apply r_ldW; (iterate 4 exact rfl); assumption; (first | assumption | exact (by simp)))))
  refine r_call0 trivial rfl rfl rfl (fun w _ _ => c_zeroZ w (zs.getD k 0)) fun w v w' _ _ _ hR => ?_
  subst hR
  (repeat' (first | refine JO.nil ?_ | refine JX.thenN ?_ | (apply r_assign; (iterate 3 exact rfl)) | (apply r_not; (iterate 3 exact rfl)) | refine JC.ret ?_))
  exact JX.ret1 rfl (fun a w' st => ⟨st.kp, by simp⟩)

set_option maxHeartbeats 1000000 in
theorem c_IndexFuncT {f : FuncId} [TF Tryd.prog f] {fst cap : Array Value} (pred : Nat → Bool) (w : World) (E : Value) (n : Nat) (vs : List Value) (V : Nat → Value) (hE : RdW w 1 E n vs) (hV : ∀ i, i < n → vs[i]? = some (V i)) (hn : n < 9223372036854775807)
    (hcl : ∀ i w', i < n → Kp [] w w' → Calls Tryd.prog f (fst ++ #[V i] ++ cap) w' (Ret fun v w'' => Kp [] w' w'' ∧ v = .bool (pred i))) :
    Calls Tryd.prog 68 #[E, .func (.func f) fst cap] w (Ret fun v w' => Kp [] w w' ∧ ((∃ p : Nat, v = nv p ∧ p < n ∧ pred p = true) ∨ (v = iv (-1) ∧ ∀ i, i < n → pred i = false))) := by
  refine calls_of_S [] [] (by simp) [] Tryd.func68 rfl mixed (by kernel_rfl) Tryd.ntmps68 Tryd.results68 rfl ⟨by simp, by simp⟩ (by simp) ?_
  simp only [toS, textOps, toSOp, kindAt, kindOf, odAt, sopsAt, ordOf, zipF]
  have hR := RdW.rd (c := ⟨Tryd.prog, 19, w, [], by simp⟩) hE rfl []
  (repeat' (first | refine JC.seq ?_ | refine JC.ops ?_ | refine JO.nil ?_ | refine JX.thenN ?_ | (apply r_move; (iterate 3 exact rfl)) | (apply r_assign; (iterate 3 exact rfl))))
  refine r_lenR rfl rfl rfl hR ?_
  (repeat' (first | refine JO.nil ?_ | refine JX.thenN ?_ | (apply r_move; (iterate 3 exact rfl)) | refine JC.block ?_))
  refine JC.loopH (ι := Nat) ⟨fun k => [(8, nv k), (7, nv n), (0, E), (1, .func (.func f) fst cap)], fun _ => [], fun k => k ≤ n ∧ ∀ i, i < k → pred i = false, fun k => n - k⟩ 0 ⟨by omega, fun i h => by omega⟩ ⟨rfl, rfl, rfl, rfl, trivial⟩ (HSub.nil _) (fun k hk => ?_)
  obtain ⟨hkn, hpr⟩ := hk
  dsimp only
  by_cases hlt : k < n
  · (repeat' (first | refine JC.seq ?_ | refine JC.ops ?_ | refine JO.nil ?_ | refine JX.thenN ?_ | (apply r_move; (iterate 3 exact rfl)) | (apply r_assign; (iterate 3 exact rfl)) | (apply r_lss; (iterate 4 exact rfl); all_goals intro hc; all_goals try (exfalso; omega)) | refine JC.skip ?_ | refine JC.condT rfl ?_ | refine JC.block ?_))
    refine r_idxR1 rfl rfl rfl rfl hR hlt ?_
    skip
    refine r_ldR rfl rfl rfl rfl hR (HSub.nil _) (hV k hlt) ?_
    skip
    refine r_callV0 trivial rfl rfl rfl rfl (fun w' hk _ => hcl k w' hlt hk) fun w v w' _ _ _ hv => ?_
    subst hv
    cases hp : pred k
    · (repeat' (first | refine JC.ops ?_ | refine JO.nil ?_ | refine JX.thenN ?_ | (apply r_move; (iterate 3 exact rfl)) | (apply r_add1; (iterate 4 exact rfl); omega) | refine JC.skip ?_ | refine JC.condF rfl ?_ | refine JX.blockN ?_))
      refine JX.roundH (k + 1) ⟨by omega, fun i h => ?_⟩ (by dsimp only; omega) ⟨rfl, rfl, rfl, rfl, trivial⟩ (HSub.nil _)
      rcases Nat.lt_or_ge i k with h' | h'
      · exact hpr i h'
      · have : i = k := by omega
        subst this; exact hp
    · (repeat' (first | refine JC.seq ?_ | refine JC.ops ?_ | refine JO.nil ?_ | refine JX.thenN ?_ | (apply r_move; (iterate 3 exact rfl)) | (apply r_assign; (iterate 3 exact rfl)) | refine JX.thenR ?_ | refine JC.ret ?_ | refine JC.condT rfl ?_ | refine JX.blockR ?_))
      exact JX.ret1 rfl (fun a w' st => ⟨st.kp, .inl ⟨k, rfl, hlt, hp⟩⟩)
  · (repeat' (first | refine JC.seq ?_ | refine JC.ops ?_ | refine JO.nil ?_ | refine JX.thenN ?_ | (apply r_assign; (iterate 3 exact rfl)) | (apply r_lss; (iterate 4 exact rfl); all_goals intro hc; all_goals try (exfalso; omega)) | refine JX.thenE ?_ | refine JC.exit ?_ | refine JC.ret ?_ | refine JC.condF rfl ?_ | refine JX.blockE ?_))
    exact JX.ret1 rfl (fun a w' st => ⟨st.kp, .inr ⟨rfl, fun i hi => hpr i (by omega)⟩⟩)

theorem smI_bd' {B : Nat} : ∀ {n : Nat} {f : Nat → Int}, (∀ i, i < n → (f i).natAbs ≤ B) → (smI n f).natAbs ≤ n * B
  | 0, f, _ => by simp [smI]
  | n + 1, f, h => by
    rw [smI]
    have h1 := smI_bd' (n := n) (f := f) (fun i hi => h i (by omega))
    have h2 := h n (by omega)
    have h3 := Int.natAbs_add_le (smI n f) (f n)
    rw [Nat.add_mul, Nat.one_mul]
    omega
theorem det_bd {K : Nat} : ∀ {n : Nat} {A : Mi}, n ≤ 256 → (∀ i j, (A i j).natAbs < 256 ^ K) → (det n A).natAbs ≤ 256 ^ (n * (K + 1))
  | 0, A, _, _ => by simp [det]
  | n + 1, A, hn, h => by
    rw [det]
    have h1 := smI_bd' (n := n + 1) (f := fun i => sg i * A i 0 * det n (fun a b => A (sk i a) (b + 1))) (B := 256 ^ K * 256 ^ (n * (K + 1))) (fun i hi => by
      have h2 := det_bd (n := n) (A := fun a b => A (sk i a) (b + 1)) (by omega) (fun a b => h _ _)
      have h3 : (sg i * A i 0).natAbs ≤ 256 ^ K := by
        have := h i 0
        unfold sg
        split
        · rw [Int.one_mul]; omega
        · rw [show (-1 : Int) * A i 0 = -(A i 0) by omega, Int.natAbs_neg]; omega
      rw [Int.natAbs_mul]
      exact Nat.mul_le_mul h3 h2)
    refine Nat.le_trans h1 ?_
    have e : 256 ^ ((n + 1) * (K + 1)) = 256 * (256 ^ K * 256 ^ (n * (K + 1))) := by
      rw [← Nat.pow_add, ← Nat.pow_succ']
      congr 1
      rw [Nat.add_mul]; omega
    rw [e]
    exact Nat.mul_le_mul_right _ hn
theorem bm_bd {K k n : Nat} {A : Mi} {i j : Nat} (hk : k < n) (hn : n ≤ 200) (h : ∀ i j, (A i j).natAbs < 256 ^ K) : (bm k A i j).natAbs < 256 ^ (n * (K + 1) + 1) := by
  have h1 := det_bd (K := K) (n := k + 1) (A := bd k A i j) (by omega) (fun a b => h _ _)
  unfold bm
  refine Nat.lt_of_le_of_lt h1 (Nat.pow_lt_pow_right (by decide) ?_)
  have := Nat.mul_le_mul_right (K + 1) (show k + 1 ≤ n from hk)
  omega

end Go.Proofs.YtdlmnloikakjpaaDoor

