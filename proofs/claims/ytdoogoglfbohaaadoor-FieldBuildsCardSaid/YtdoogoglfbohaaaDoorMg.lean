import Derived.Test.YtdoogoglfbohaaaDoorMf
import Derived.Shelf.Abstract
import Derived.Laws.StructEq
namespace Go.Proofs.YtdoogoglfbohaaaDoor
open Go Go.RowKit
set_option linter.unusedSimpArgs false
set_option linter.unusedVariables false
set_option linter.unusedSectionVars false

structure WAt (w0 : World) (b4 b5 bx : Nat) (sx : Value) (pre : List (Nat × Nat)) (W : World) : Prop where
  ex : ∃ v N, OwnY N v (4 * pre.length) (wbs pre) ∧ Hsat ((b5, .cells #[v] 102 (0, 0)) :: (b4, .cells #[.bool false, .string ⟨#[]⟩] 56 (0, 0)) :: (bx, .cells #[sx] 74 (0, 0)) :: N) W ∧ ∀ p ∈ N, w0.heap.size ≤ p.1
  kp : Kp [] w0 W

theorem OwnY.cells {N : SHeap} {v : Value} {n : Nat} {xs : List Nat} (h : OwnY N v n xs) : ∀ p ∈ N, p.2.isCells = true := by
  obtain ⟨_, ⟨_, _, rfl⟩ | ⟨b, cap, cur, _, rfl, _⟩⟩ := h
  · intro p hp; cases hp
  · intro p hp; cases List.mem_singleton.1 hp; rfl

theorem WAt.own {w0 : World} {b4 b5 bx B : Nat} {sx : Value} (hB : w0.heap.size ≤ B) : OwnFrom B (WAt w0 b4 b5 bx sx) := by
  rintro pre W W' row ⟨⟨v, N, hO, hs, hN⟩, hk⟩ hg hr
  have key : ∀ (k : Nat) (o : Obj), W.heap[k]? = some o → o.isCells = true → W'.heap[k]? = some o := fun k o h hc => by
    refine (hg.block k (Array.getElem?_eq_some_iff.1 h).1 (fun e => ?_)).trans h
    obtain ⟨_, o', h1, h2⟩ := hr k e.symm
    rw [h] at h1
    cases h1
    rw [hc] at h2; cases h2
  refine ⟨⟨v, N, hO, ⟨hs.nd, fun p hp => key _ _ (hs.blk p hp) ?_⟩, hN⟩, ⟨hg.os.trans hk.os, hg.tape.trans hk.tape, hg.output.trans hk.output, Nat.le_trans hk.size hg.size, fun k hk' hm => (hg.block k (Nat.lt_of_lt_of_le hk' hk.size) (fun e => ?_)).trans (hk.block k hk' hm)⟩⟩
  · rcases List.mem_cons.1 hp with rfl | hp
    · rfl
    · rcases List.mem_cons.1 hp with rfl | hp
      · rfl
      · rcases List.mem_cons.1 hp with rfl | hp
        · rfl
        · exact hO.cells p hp
  · have := (hr k e.symm).1
    omega

theorem WAt.same {w0 W W' : World} {b4 b5 bx : Nat} {sx : Value} {pre : List (Nat × Nat)} (h : WAt w0 b4 b5 bx sx pre W) (hk : Kp [] W W') : WAt w0 b4 b5 bx sx pre W' := by
  obtain ⟨⟨v, N, hO, hs, hN⟩, hk0⟩ := h
  exact ⟨⟨v, N, hO, hs.kp hk (by simp), hN⟩, hk0.trans hk⟩
theorem Kp.keeps {W W' : World} (hk : Kp [] W W') (B : Nat) : KeepsFrom B W W' := ⟨hk.size, fun k o _ h _ => (hk.block k (Array.getElem?_eq_some_iff.1 h).1 (by simp)).trans h⟩

def WAx (b5 : Nat) (x : Nat × Nat) (a : Act) (_ : World) : Prop := FrOK 43 [(7, uv x.2), (5, .pointer (some ⟨b5, 0, none⟩))] a

theorem FrOK.set {n : Nat} {F : SFrame} {a : Act} (h : FrOK n F a) {d : Nat} (v : Value) (hd : d < n) : FrOK n ((d, v) :: F) { a with tmps := a.tmps.setIfInBounds d v } := by
  have := h.put (d := some d) v (by simpa [dstOk] using hd)
  exact this

theorem FrOK.sub {n : Nat} {F F' : SFrame} {a : Act} (h : FrOK n F a) (hc : cov F F') : FrOK n F' a := ⟨h.defers, h.size, fun i v hl => h.fr i v (cov_look hc i v hl)⟩

theorem Hsat.ltp {H : SHeap} {w : World} (h : Hsat H w) {p : Nat × Obj} (hp : p ∈ H) : p.1 < w.heap.size := (Array.getElem?_eq_some_iff.1 (h.blk p hp)).1

theorem WAt.kb {w0 W W' : World} {b4 b5 bx : Nat} {sx : Value} {pre : List (Nat × Nat)} {S M : List Nat} (h : WAt w0 b4 b5 bx sx pre W) (hS : ∀ q ∈ S, q = bx ∨ q < w0.heap.size) (hM : ∀ q ∈ S, q ∉ M) (hk : Kp M W W') : KB S W W' := fun q hq => by
  refine hk.block q ?_ (hM q hq)
  rcases hS q hq with rfl | h1
  · obtain ⟨⟨v, N, hO, hs, hN⟩, _⟩ := h
    exact hs.ltp (p := (q, _)) (List.mem_cons_of_mem _ (List.mem_cons_of_mem _ (List.mem_cons_self ..)))
  · exact Nat.lt_of_lt_of_le h1 h.kp.size

theorem WAt.turned {w0 W W' : World} {b4 b5 bx bl : Nat} {sx v v' : Value} {ol : Obj} {pre : List (Nat × Nat)} {x : Nat × Nat} {N N' : SHeap} {S : List Nat} (B : Nat) (hO : OwnY N v (4 * pre.length) (wbs pre)) (hs : Hsat ((b5, .cells #[v] 102 (0, 0)) :: (b4, .cells #[.bool false, .string ⟨#[]⟩] 56 (0, 0)) :: (bx, .cells #[sx] 74 (0, 0)) :: N) W) (hN : ∀ p ∈ N, w0.heap.size ≤ p.1) (hk0 : Kp [] w0 W)
    (h5 : w0.heap.size ≤ b5) (hS : ∀ q ∈ S, q = bx ∨ q < w0.heap.size) (hO' : OwnY N' v' (4 * pre.length + 4) (wbs (pre ++ [x]))) (hk : Kp (b5 :: N.map (·.1)) W W')
    (hs' : Hsat ((bl, ol) :: (b5, .cells #[v'] 102 (0, 0)) :: N') W') (hwr : ∀ p ∈ N', W.heap.size ≤ p.1 ∨ p.1 ∈ b5 :: N.map (·.1)) : KeepsFrom B W W' ∧ KB S W W' ∧ WAt w0 b4 b5 bx sx (pre ++ [x]) W' := by
  have hnd := hs.nd
  simp only [List.map_cons, List.nodup_cons, List.mem_cons, not_or] at hnd
  obtain ⟨⟨e54, e5x, e5N⟩, ⟨e4x, e4N⟩, exN, hNn⟩ := hnd
  have hnd' := hs'.nd
  simp only [List.map_cons, List.nodup_cons, List.mem_cons, not_or] at hnd'
  obtain ⟨_, e5N', hNn'⟩ := hnd'
  have hb5 := hs.blk (b5, _) (List.mem_cons_self ..)
  have hb4 := hs.blk (b4, _) (List.mem_cons_of_mem _ (List.mem_cons_self ..))
  have hbx := hs.blk (bx, _) (List.mem_cons_of_mem _ (List.mem_cons_of_mem _ (List.mem_cons_self ..)))
  have l4 := (Array.getElem?_eq_some_iff.1 hb4).1
  have lx := (Array.getElem?_eq_some_iff.1 hbx).1
  dsimp only at hb5 hb4 hbx l4 lx
  have n4 : b4 ∉ b5 :: N.map (·.1) := by simp only [List.mem_cons, not_or]; exact ⟨Ne.symm e54, e4N⟩
  have nx : bx ∉ b5 :: N.map (·.1) := by simp only [List.mem_cons, not_or]; exact ⟨Ne.symm e5x, exN⟩
  have hMge : ∀ q ∈ b5 :: N.map (·.1), w0.heap.size ≤ q := fun q hq => by
    rcases List.mem_cons.1 hq with rfl | hq
    · exact h5
    · obtain ⟨p, hp, rfl⟩ := List.mem_map.1 hq
      exact hN p hp
  have hfar : ∀ q, q < W.heap.size → q ∉ b5 :: N.map (·.1) → q ∉ N'.map (·.1) := fun q hq hn hm => by
    obtain ⟨p, hp, rfl⟩ := List.mem_map.1 hm
    rcases hwr p hp with h | h
    · omega
    · exact hn h
  have hSM : ∀ q ∈ S, q ∉ b5 :: N.map (·.1) := fun q hq hm => by
    rcases hS q hq with rfl | h1
    · exact nx hm
    · have := hMge q hm; omega
  refine ⟨⟨hk.size, fun q o _ h hc => (hk.block q (Array.getElem?_eq_some_iff.1 h).1 (fun hm => ?_)).trans h⟩, ?_, ⟨⟨v', N', ?_, ⟨?_, fun p hp => ?_⟩, fun p hp => ?_⟩, ⟨hk.os.trans hk0.os, hk.tape.trans hk0.tape, hk.output.trans hk0.output, Nat.le_trans hk0.size hk.size, fun q hq hm => (hk.block q (Nat.lt_of_lt_of_le hq hk0.size) (fun hm' => ?_)).trans (hk0.block q hq hm)⟩⟩⟩
  · rcases List.mem_cons.1 hm with rfl | hm
    · rw [hb5] at h; cases h; cases hc
    · obtain ⟨p, hp, rfl⟩ := List.mem_map.1 hm
      have h2 := hs.blk p (List.mem_cons_of_mem _ (List.mem_cons_of_mem _ (List.mem_cons_of_mem _ hp)))
      rw [h2] at h; cases h
      rw [hO.cells p hp] at hc; cases hc
  · exact WAt.kb ⟨⟨v, N, hO, hs, hN⟩, hk0⟩ hS hSM hk
  · rw [List.length_append, List.length_singleton, Nat.mul_add, Nat.mul_one]; exact hO'
  · simp only [List.map_cons, List.nodup_cons, List.mem_cons, not_or]
    exact ⟨⟨e54, e5x, e5N'⟩, ⟨e4x, hfar _ l4 n4⟩, hfar _ lx nx, hNn'⟩
  · rcases List.mem_cons.1 hp with rfl | hp
    · exact hs'.blk _ (List.mem_cons_of_mem _ (List.mem_cons_self ..))
    · rcases List.mem_cons.1 hp with rfl | hp
      · exact (hk.block _ l4 n4).trans hb4
      · rcases List.mem_cons.1 hp with rfl | hp
        · exact (hk.block _ lx nx).trans hbx
        · exact hs'.blk _ (List.mem_cons_of_mem _ (List.mem_cons_of_mem _ hp))
  · rcases hwr p hp with h | h
    · have := hk0.size; omega
    · exact hMge _ h
  · have := hMge q hm'; omega

set_option maxHeartbeats 16000000 in
theorem c_wide (w0 : World) (v : Value) (n : Nat) (xs : List Nat) (p : Bool) (hv : WU w0 v n xs) (hx : ∀ x ∈ xs, x < W32) (hn : n ≤ 1000000000) :
    Calls Tryd.prog 51 #[v, .bool p] w0 (Ret fun r w' => Kp [] w0 w' ∧ r = Wv (sgn p (val W32 xs))) := by
  obtain ⟨A, cap, rfl⟩ := hv.form
  refine calls_of_Z 3 [⟨6, 0, [], [(1, .seq)]⟩] Tryd.func51 rfl mixed (by kernel_rfl) Tryd.ntmps51 (by simp) ?_
  simp only [toZ, hasRF, Bool.or_false, Bool.false_or, Bool.or_self, Bool.true_or, cond_true, cond_false, toS, textOps, toSOp, kindAt, kindOf, odAt, sopsAt, ordOf, zipF]

  (repeat' (first | refine JC.seq ?_ | refine JC.ops ?_ | refine JO.nil ?_ | refine JX.thenN ?_ | (apply r_move; (iterate 3 exact rfl)) | (apply r_allocZ; (iterate 3 exact rfl); intro _)))
  rename_i b4
  refine r_call0 trivial rfl rfl rfl (fun w hk hs => c_norm w _ _ _ _ (hv.mono hk) (by omega)) fun w v w' _ _ _ hR => ?_
  obtain ⟨k, hk, rfl, hnk⟩ := hR
  have hvk := hv.hd hk
  rw [← hnk] at hvk
  have hlk : (nrm xs).length = k := hvk.len
  (repeat' (first | refine JC.seq ?_ | refine JC.ops ?_ | refine JO.nil ?_ | refine JX.thenN ?_ | (apply r_move; (iterate 3 exact rfl)) | (apply r_assign; (iterate 3 exact rfl)) | (apply r_len; (iterate 3 exact rfl)) | (apply r_mulN (i := 4); (iterate 4 exact rfl); (first | assumption | omega))))
  refine r_makeC (n := 0) (k := 4 * k) rfl rfl rfl rfl rfl (by omega) (by omega) (by omega) (fun bb => ?_)
  (repeat' (first | refine JC.seq ?_ | refine JC.ops ?_ | refine JO.nil ?_ | refine JX.thenN ?_ | (apply r_move; (iterate 3 exact rfl)) | (apply r_allocZ; (iterate 3 exact rfl); intro _) | (apply r_store; exact rfl; (first | exact trivial | exact ⟨rfl, rfl⟩); exact rfl; exact rfl; exact at0; exact rfl; exact rfl; (first | exact Nat.le_of_ble_eq_true rfl | (simp; done) | omega))))
  rename_i b5
  refine r_callA (A := []) rfl trivial rfl rfl rfl (fun w hk hs => c_Back w _ A k cap rfl) fun w v w' _ _ _ hR => ?_
  obtain ⟨bx, rfl, hNx⟩ := hR
  refine ⟨_, hNx, ?_⟩
  (repeat' (first | refine JO.nil ?_ | refine JX.thenN ?_ | refine JC.block ?_))
  refine JC.part (F' := [(16, .func (.func 88) #[] #[.pointer (some ⟨bx, 0, none⟩)]), (5, .pointer (some ⟨b5, 0, none⟩)), (4, .pointer (some ⟨b4, 0, none⟩)), (1, .bool p)]) (H' := [(b5, .cells #[.slice (some ⟨bb, 0, none⟩) 0 (4 * k)] 102 (0, 0)), (b4, .cells #[.bool false, .string ⟨#[]⟩] 56 (0, 0)), (bx, .cells #[.slice A k cap] 74 (0, 0)), (bb, .cells (zerosOf #[Value.int IntKind.u8 0] (4 * k * 1)) 5 (0, 0))]) (by repeat first | exact trivial | refine ⟨rfl, ?_⟩) (by exact HSub.at 1 rfl (HSub.at 2 rfl (HSub.at 0 rfl (HSub.at 0 rfl (HSub.nil _))))) ?_
  refine JC.raw (fun a W st => ?_)
  obtain ⟨tm, df⟩ := a
  obtain rfl : df = [] := st.fr.defers
  have hge : ∀ q ∈ [b5, b4, bx, bb], w0.heap.size ≤ q := fun q hq => by
    have : ∃ o, (q, o) ∈ [(b5, Obj.cells #[.slice (some ⟨bb, 0, none⟩) 0 (4 * k)] 102 (0, 0)), (b4, .cells #[.bool false, .string ⟨#[]⟩] 56 (0, 0)), (bx, .cells #[.slice A k cap] 74 (0, 0)), (bb, .cells (zerosOf #[Value.int IntKind.u8 0] (4 * k * 1)) 5 (0, 0))] := by
      simp only [List.mem_cons, List.mem_nil_iff, or_false] at hq
      rcases hq with rfl | rfl | rfl | rfl
      · exact ⟨_, List.mem_cons_self ..⟩
      · exact ⟨_, List.mem_cons_of_mem _ (List.mem_cons_self ..)⟩
      · exact ⟨_, List.mem_cons_of_mem _ (List.mem_cons_of_mem _ (List.mem_cons_self ..))⟩
      · exact ⟨_, List.mem_cons_of_mem _ (List.mem_cons_of_mem _ (List.mem_cons_of_mem _ (List.mem_cons_self ..)))⟩
    obtain ⟨o, ho⟩ := this
    rcases st.wr _ ho with h | h
    · exact h
    · cases h
  have h5 : w0.heap.size ≤ b5 := hge b5 (by simp)
  have hWs : w0.heap.size ≤ W.heap.size := st.kp.size
  have hI0 : WAt w0 b4 b5 bx (.slice A k cap) [] W := by
    refine ⟨⟨_, [(bb, .cells (zerosOf #[Value.int IntKind.u8 0] (4 * k * 1)) 5 (0, 0))], ⟨rfl, .inr ⟨bb, 4 * k, _, rfl, rfl, Nat.zero_le _, by simp only [maxLen]; omega, by rw [zeros1]; simp, rfl⟩⟩, st.hs, fun p hp => ?_⟩, st.kp⟩
    cases List.mem_singleton.1 hp
    exact hge bb (by simp)
  obtain ⟨S, hSx, hS, hWd⟩ : ∃ S : List Nat, bx ∈ S ∧ (∀ q ∈ S, q = bx ∨ q < w0.heap.size) ∧ Wds S W (.slice A k cap) (nrm xs) := by
    rcases Nat.eq_zero_or_pos k with h0 | h0
    · refine ⟨[bx], by simp, fun q hq => .inl (by simpa using hq), .inl ⟨List.eq_nil_of_length_eq_zero (by omega), A, cap, by rw [h0]⟩⟩
    · obtain ⟨_, A', cap', h1, _, h2⟩ := hvk
      simp only [Value.slice.injEq] at h1
      obtain ⟨rfl, _, rfl⟩ := h1
      obtain ⟨⟨ab, ao, rfl⟩, h3⟩ := h2 h0
      have hcell : ∀ j, j < k → w0.cell? ⟨ab, ao + j, none⟩ = some (uv ((nrm xs).getD j 0)) := fun j hj => h3 j _ (by rw [List.getElem?_map, gD_lt (d := 0) (by omega)]; rfl)
      have hab : ab < w0.heap.size := lt_of_cell (hcell 0 h0)
      refine ⟨[bx, ab], by simp, fun q hq => ?_, .inr ⟨ab, ao, cap, by rw [hlk], by simp, Nat.lt_of_lt_of_le hab st.kp.size, fun j hj => ?_⟩⟩
      · simp only [List.mem_cons, List.mem_nil_iff, or_false] at hq
        rcases hq with rfl | rfl
        · exact .inl rfl
        · exact .inr hab
      · have := hcell j (by omega)
        rw [World.cell?_of_block (w := w0) (st.kp.block ab hab (by simp))]
        exact this
  have hbxW : bx < W.heap.size := st.hs.ltp (p := (bx, _)) (List.mem_cons_of_mem _ (List.mem_cons_of_mem _ (List.mem_cons_self ..)))
  have hcx : W.cell? ⟨bx, 0, none⟩ = some (.slice A k cap) := cell_of_blk (st.hs.blk (bx, _) (List.mem_cons_of_mem _ (List.mem_cons_of_mem _ (List.mem_cons_self ..)))) rfl
  refine wpIn_wide.1 (wpIn_rangeFunc_ownH (F := Fence.wide) (n := 3) rfl (by omega) (gf := 88) (lb := #[.pointer (some ⟨bx, 0, none⟩)]) (st.fr.ev rfl) trivial (enters_of Tryd.func88 (by kernel_rfl) rfl)
    (back_stops Fence.wide 2 trivial rfl (by omega) bx S (.slice A k cap) (nrm xs) (by omega) W hbxW hSx hcx hWd) KB.trans (fun W' l o o' hl ho _ _ q hq => ?_) (Below.refl _ _) (fun _ => rfl)
    (WAt w0 b4 b5 bx (.slice A k cap)) (fun _ _ _ => False) (WAt.own st.kp.size) (fun _ _ _ _ _ hs _ _ => hs) hI0 (WAx b5) (fun _ _ _ _ _ _ hs _ _ => hs) ?assign ?body ?done ?stop)
  · refine World.putObj_heap_other (fun e => ?_)
    subst e
    rcases hS q hq with rfl | h
    · omega
    · omega
  case assign =>
    intro l pre x W1 K hI hK
    have stx : St ⟨Tryd.prog, 43, W1, [], by simp⟩ [(18, uv x.2), (5, .pointer (some ⟨b5, 0, none⟩))] [] { tmps := (tm.setIfInBounds 17 (Value.int .i64 (x.1 : Int))).setIfInBounds 18 (uv x.2), defers := [] } W1 :=
      ⟨((st.fr.set (d := 17) (Value.int .i64 (x.1 : Int)) (show 17 < 43 by decide)).set (d := 18) (uv x.2) (show 18 < 43 by decide)).sub (by repeat first | exact trivial | refine ⟨rfl, ?_⟩), Kp.refl _ _, ⟨by simp, by simp⟩, fun p hp => by cases hp⟩
    have e : (Array.zip (#[17, 18] : Array Tmp) #[Value.int .i64 (x.1 : Int), Value.int .u64 (x.2 : Int)]).foldl (fun t (p, v) => t.setIfInBounds p v) tm = (tm.setIfInBounds 17 (Value.int .i64 (x.1 : Int))).setIfInBounds 18 (uv x.2) := by simp
    rw [e]
    refine wpIn_mono (wpIn_region_JO (c := ⟨Tryd.prog, 43, W1, [], by simp⟩) (ov := []) (F := [(18, uv x.2), (5, .pointer (some ⟨b5, 0, none⟩))]) (H := []) (K := K) rfl ?_ _ _ stx) (fun e a w hq => by cases e <;> first | exact hq | exact hq.elim)
    simp only [textOps, toSOp, kindAt, kindOf]
    (repeat' (first | refine JO.nil ?_ | (apply r_assign; (iterate 3 exact rfl))))
    exact ⟨fun a' W' st' => hK a' W' (st'.kp.keeps _) (hI.kb hS (by simp) st'.kp) (hI.same st'.kp) (st'.fr.sub (by repeat first | exact trivial | refine ⟨rfl, ?_⟩))⟩
  case body =>
    intro l pre x a' W1 hl hr hI hA hlen
    have hI' := hI
    obtain ⟨⟨v, N, hO, hs, hN⟩, hk0⟩ := hI
    have hMlt : ∀ q ∈ b5 :: N.map (·.1), q < W1.heap.size := fun q hq => by
      rcases List.mem_cons.1 hq with rfl | hq
      · exact hs.ltp (p := (q, _)) (List.mem_cons_self ..)
      · obtain ⟨p, hp, rfl⟩ := List.mem_map.1 hq
        exact hs.ltp (List.mem_cons_of_mem _ (List.mem_cons_of_mem _ (List.mem_cons_of_mem _ hp)))
    have hs1 : Hsat ((b5, .cells #[v] 102 (0, 0)) :: (N ++ [])) W1 := by
      rw [List.append_nil]
      exact hs.sub (fun q hq => by
        rcases List.mem_cons.1 hq with rfl | hq
        · exact List.mem_cons_self ..
        · exact List.mem_cons_of_mem _ (List.mem_cons_of_mem _ (List.mem_cons_of_mem _ hq))) (by
        have := hs.nd
        simp only [List.map_cons, List.nodup_cons, List.mem_cons, not_or] at this ⊢
        exact ⟨this.1.2.2, this.2.2.2⟩)
    have st1 : St ⟨Tryd.prog, 43, W1, b5 :: N.map (·.1), hMlt⟩ [(7, uv x.2), (5, .pointer (some ⟨b5, 0, none⟩))] ((b5, .cells #[v] 102 (0, 0)) :: (N ++ [])) a' W1 :=
      ⟨hA, Kp.refl _ _, hs1, fun q hq => .inr (by
        rw [List.append_nil] at hq
        rcases List.mem_cons.1 hq with rfl | hq
        · exact List.mem_cons_self ..
        · exact List.mem_cons_of_mem _ (List.mem_map.2 ⟨q, hq, rfl⟩))⟩
    refine wpIn_block (wpIn_mono (wpIn_region_JO (c := ⟨Tryd.prog, 43, W1, b5 :: N.map (·.1), hMlt⟩) (ov := []) (F := [(7, uv x.2), (5, .pointer (some ⟨b5, 0, none⟩))]) (H := (b5, .cells #[v] 102 (0, 0)) :: (N ++ [])) (K := fun _ W' => KeepsFrom W.heap.size W1 W' ∧ KB S W1 W' ∧ WAt w0 b4 b5 bx (.slice A k cap) (pre ++ [x]) W') rfl ?_ _ _ st1) (fun e a w hq => by cases e <;> first | exact hq | exact hq.elim))
    simp only [textOps, toSOp, kindAt, kindOf]
    (repeat' (first | (apply r_move; (iterate 3 exact rfl)) | (apply r_load; (iterate 4 exact rfl); exact at0; exact rfl) | (apply r_toU8; (iterate 3 exact rfl)) | (apply r_shr24; (iterate 4 exact rfl)) | (apply r_shr16; (iterate 4 exact rfl)) | (apply r_shr8; (iterate 4 exact rfl)) | (apply r_build1; (iterate 5 exact rfl); (repeat first | exact trivial | refine ⟨rfl, ?_⟩); decide; decide; intro _)))
    rename_i bl
    have hOl : OwnY [(bl, .cells ⟨[yv (x.2 / 16777216 % 256), yv (x.2 / 65536 % 256), yv (x.2 / 256 % 256), yv (x.2 % 256)]⟩ 5)] (.slice (some ⟨bl, 0, none⟩) 4 4) 4 [x.2 / 16777216 % 256, x.2 / 65536 % 256, x.2 / 256 % 256, x.2 % 256] := own_litY bl 4 _ _ rfl rfl (by omega)
    refine r_appendY (A := [_, _]) hO hOl.rd (by (repeat' first | exact HSub.nil _ | exact HSub.hd | exact HSub.in0 | exact HSub.refl _ | refine HSub.skip ?_ | refine HSub.skipN ?_)) rfl trivial rfl rfl rfl rfl (by omega) (fun v' N' hO' => ?_)
    obtain ⟨A3, c3, rfl⟩ := hO'.form
    (repeat' (first | refine JO.nil ?_ | (apply r_store; exact rfl; (first | exact trivial | exact ⟨rfl, rfl⟩); exact rfl; exact rfl; exact at1; exact rfl; exact rfl; (first | exact Nat.le_of_ble_eq_true rfl | (simp; done) | omega))))
    refine ⟨fun a2 W2 st2 => WAt.turned (bl := bl) (ol := .cells ⟨[yv (x.2 / 16777216 % 256), yv (x.2 / 65536 % 256), yv (x.2 / 256 % 256), yv (x.2 % 256)]⟩ 5) _ hO hs hN hk0 h5 hS (by rw [wbs_snoc]; exact hO') st2.kp ?_ (fun q hq => ?_)⟩
    · have h := st2.hs
      exact ⟨by have := h.nd; simpa using this, fun q hq => h.blk q (by simpa using hq)⟩
    · exact st2.wr q (by simp [hq])
  case done =>
    intro D ys W1 hD hys hI hDd
    obtain ⟨⟨v, N, hO, hs, hN⟩, hk0⟩ := hI
    subst hys
    rw [bk_len] at hO
    have hB := bval_wbs (xs := nrm xs) (fun x hx' => hx x (nrm_mem x hx')) (nrm xs).length (Nat.le_refl _)
    rw [Nat.sub_self, List.drop_zero, show val 4294967296 (nrm xs) = val W32 xs from val_nrm W32 xs] at hB
    have hDc : ∀ q ∈ (b5, Obj.cells #[v] 102 (0, 0)) :: (b4, .cells #[.bool false, .string ⟨#[]⟩] 56 (0, 0)) :: (bx, .cells #[.slice A k cap] 74 (0, 0)) :: N, D ≠ q.1 := fun q hq e => by
      have h1 := hs.blk q hq
      rw [← e, hDd] at h1
      have hc : q.2.isCells = true := by
        rcases List.mem_cons.1 hq with rfl | hq
        · rfl
        · rcases List.mem_cons.1 hq with rfl | hq
          · rfl
          · rcases List.mem_cons.1 hq with rfl | hq
            · rfl
            · exact hO.cells q hq
      rw [← Option.some.inj h1] at hc
      cases hc
    have hnd := hs.nd
    simp only [List.map_cons, List.nodup_cons, List.mem_cons, not_or] at hnd
    have st1 : St ⟨Tryd.prog, 43, w0, [], by simp⟩ [(5, .pointer (some ⟨b5, 0, none⟩)), (4, .pointer (some ⟨b4, 0, none⟩)), (1, .bool p)] ((b5, .cells #[v] 102 (0, 0)) :: (b4, .cells #[.bool false, .string ⟨#[]⟩] 56 (0, 0)) :: (D, .deferred (some [])) :: (N ++ [])) { tmps := tm, defers := [] } W1 := by
      refine ⟨st.fr.sub (by repeat first | exact trivial | refine ⟨rfl, ?_⟩), hk0, ⟨?_, fun q hq => ?_⟩, fun q hq => .inl ?_⟩
      · simp only [List.append_nil, List.map_cons, List.nodup_cons, List.mem_cons, not_or]
        exact ⟨⟨hnd.1.1, (hDc _ (List.mem_cons_self ..)).symm, hnd.1.2.2⟩, ⟨(hDc _ (List.mem_cons_of_mem _ (List.mem_cons_self ..))).symm, hnd.2.1.2⟩, fun hm => by
          obtain ⟨q, hq, e⟩ := List.mem_map.1 hm
          exact hDc q (List.mem_cons_of_mem _ (List.mem_cons_of_mem _ (List.mem_cons_of_mem _ hq))) e.symm, hnd.2.2.2⟩
      · rw [List.append_nil] at hq
        rcases List.mem_cons.1 hq with rfl | hq
        · exact hs.blk _ (List.mem_cons_self ..)
        · rcases List.mem_cons.1 hq with rfl | hq
          · exact hs.blk _ (List.mem_cons_of_mem _ (List.mem_cons_self ..))
          · rcases List.mem_cons.1 hq with rfl | hq
            · exact hDd
            · exact hs.blk _ (List.mem_cons_of_mem _ (List.mem_cons_of_mem _ (List.mem_cons_of_mem _ hq)))
      · rw [List.append_nil] at hq
        rcases List.mem_cons.1 hq with rfl | hq
        · exact h5
        · rcases List.mem_cons.1 hq with rfl | hq
          · exact hge b4 (by simp)
          · rcases List.mem_cons.1 hq with rfl | hq
            · exact Nat.le_trans hWs hD
            · exact hN q hq
    refine wp_of_toS_ad (c := ⟨Tryd.prog, 43, w0, [], by simp⟩) [⟨6, 0, [], [(1, .seq)]⟩] [{ target := .collected D, args := #[] }] _ (fun e a w => bodyPostM Fence.wide 3 Tryd.prog Tryd.f51 (Ret fun r w' => Kp [] w0 w' ∧ r = Wv (sgn p (val W32 xs))) e (ad [{ target := .collected D, args := #[] }] a) w) _ rfl (fun e a w h => h) { tmps := tm, defers := [] } W1 (JC.h ?_ _ _ st1)
    simp only [toS, textOps, toSOp, kindAt, kindOf, odAt, sopsAt, ordOf]
    (repeat' (first | refine JC.seq ?_ | refine JC.ops ?_ | (apply r_load; (iterate 4 exact rfl); exact at0; exact rfl)))
    refine r_toStr (wbs_lt _) hO.rd (by (repeat' first | exact HSub.nil _ | exact HSub.hd | exact HSub.in0 | exact HSub.refl _ | refine HSub.skip ?_ | refine HSub.skipN ?_)) trivial rfl rfl rfl (fun l hl => ?_)
    have hll : l.length ≤ 10000000000 := by rw [← bts_len, hl, wbs_len, bk_len]; omega
    refine r_call0 trivial rfl rfl rfl (fun w hk hs => c_TrimLeft w l hll) fun w v w' _ _ _ hR => ?_
    rw [magU_of, hl, hB] at hR
    subst hR
    have hfin : ∀ (vs : Array Value) (a2 : Act) (W2 : World), St ⟨Tryd.prog, 43, w0, [], by simp⟩ [(4, .pointer (some ⟨b4, 0, none⟩))] [(b4, .cells vs 56 (0, 0)), (D, .deferred (some []))] a2 W2 → vs.size = 2 → .agg vs = Wv (sgn p (val W32 xs)) → bodyPostM Fence.wide 3 Tryd.prog Tryd.f51 (Ret fun r w' => Kp [] w0 w' ∧ r = Wv (sgn p (val W32 xs))) .ret (ad [{ target := .collected D, args := #[] }] a2) W2 := by
      intro vs a2 W2 st2 hvs he
      have hK : W2.heap[D]? = some (.deferred (some [])) := st2.hs.blk (D, _) (by simp)
      have hd2 : a2.defers = [] := st2.fr.defers
      have h4D : b4 ≠ D := by have := st2.hs.nd; simpa using this
      have hk2 : Kp [] w0 (W2.putObj D (.deferred none)) := ⟨st2.kp.os, st2.kp.tape, st2.kp.output, by simpa using st2.kp.size, fun q hq hm => (World.putObj_heap_other (fun e => by subst e; omega)).trans (st2.kp.block q hq hm)⟩
      have st3 : St ⟨Tryd.prog, 43, w0, [], by simp⟩ [(4, .pointer (some ⟨b4, 0, none⟩))] [(b4, .cells vs 56 (0, 0))] a2 (W2.putObj D (.deferred none)) :=
        ⟨st2.fr, hk2, ⟨by simp, fun q hq => by cases List.mem_singleton.1 hq; exact (World.putObj_heap_other h4D).trans (st2.hs.blk (b4, _) (by simp))⟩, fun q hq => st2.wr q (by simp at hq; simp [hq])⟩
      show LeavesInM Fence.wide 3 _ _ _ _ (a2.defers ++ _) _ _
      rw [hd2]
      refine ⟨by simp, .inl ⟨D, _, rfl, run_takeDeferred hK, ?_⟩⟩
      have hr := run_resultsA (fn := Tryd.f51) (vs := [.agg vs]) st3 (JR.cellN 0 rfl rfl hvs JR.nil)
      exact ⟨_, hr, hk2, he⟩
    cases p with
    | false =>
      (repeat' (first | refine JC.seq ?_ | refine JC.ops ?_ | refine JO.nil ?_ | refine JX.thenN ?_ | (apply r_move; (iterate 3 exact rfl)) | (apply r_assign; (iterate 3 exact rfl)) | (apply r_pickF; (iterate 4 exact rfl)) | (apply r_storeN; exact rfl; (first | exact trivial | exact ⟨rfl, rfl⟩); exact rfl; exact rfl; exact at1; (iterate 3 exact rfl)) | (apply r_buildL; (iterate 5 exact rfl)) | (apply r_storeN; exact rfl; (first | exact trivial | exact ⟨rfl, rfl⟩); exact rfl; exact rfl; exact at1; (iterate 3 exact rfl)) | refine JC.ret ?_ | (apply r_skip; exact rfl; exact rfl; (first | (intro h; cases h; done) | (intro _; rfl)))))
      exact ⟨fun a2 W2 st2 => hfin #[.bool false, sv (magU (val W32 xs))] a2 W2 (st2.part (by repeat first | exact trivial | refine ⟨rfl, ?_⟩) (HSub.at 1 rfl (HSub.at 1 rfl (HSub.nil _)))) rfl (by rw [Wv_sgn]; rfl)⟩
    | true =>
      (repeat' (first | refine JC.seq ?_ | refine JC.ops ?_ | refine JO.nil ?_ | refine JX.thenN ?_ | (apply r_move; (iterate 3 exact rfl)) | (apply r_assign; (iterate 3 exact rfl)) | (apply r_pickT; (iterate 4 exact rfl)) | (apply r_storeN; exact rfl; (first | exact trivial | exact ⟨rfl, rfl⟩); exact rfl; exact rfl; exact at1; (iterate 3 exact rfl)) | (apply r_neS; (iterate 4 exact rfl)) | (apply r_buildL; (iterate 5 exact rfl)) | (apply r_storeN; exact rfl; (first | exact trivial | exact ⟨rfl, rfl⟩); exact rfl; exact rfl; exact at1; (iterate 3 exact rfl)) | refine JC.ret ?_))
      exact ⟨fun a2 W2 st2 => hfin #[.bool (decide (magU (val W32 xs) ≠ [])), sv (magU (val W32 xs))] a2 W2 (st2.part (by repeat first | exact trivial | refine ⟨rfl, ?_⟩) (HSub.at 1 rfl (HSub.at 1 rfl (HSub.nil _)))) rfl (by rw [Wv_sgn]; rfl)⟩
  case stop =>
    intro D c pre W1 _ _ h _
    exact h.elim


theorem low_shift (a n : Nat) (hn : n ≤ 32) : a * 2 ^ n % 4294967296 = 2 ^ n * (a % 2 ^ (32 - n)) := by
  have e : (4294967296 : Nat) = 2 ^ (32 - n) * 2 ^ n := by rw [← Nat.pow_add, show 32 - n + n = 32 by omega]
  rw [e, Nat.mul_mod_mul_right, Nat.mul_comm]
theorem or_low {c n a : Nat} (hn : n ≤ 32) (hc : c < 2 ^ n) : c ||| a * 2 ^ n % 4294967296 = c + a * 2 ^ n % 4294967296 := by
  rw [low_shift a n hn, Nat.or_comm, ← Nat.two_pow_add_eq_or_of_lt hc, Nat.add_comm]
theorem or32_lt {a b : Nat} (ha : a < 4294967296) (hb : b < 4294967296) : a ||| b < 4294967296 := Nat.or_lt_two_pow (n := 32) (by simpa using ha) (by simpa using hb)
theorem pow31 {n : Nat} (hn : n ≤ 31) : 2 ^ n ≤ 2147483648 := by
  have := Nat.pow_le_pow_right (n := 2) (by decide) hn
  simpa using this

set_option maxHeartbeats 8000000 in
theorem c_shift (w : World) (v : Value) (n s : Nat) (xs : List Nat) (hv : WU w v n xs) (hx : ∀ x ∈ xs, x < W32) (hs31 : s ≤ 31) (hn : n ≤ 10000000000) :
    Calls Tryd.prog 81 #[v, nv s] w (Ret fun v w' => Kp [] w w' ∧ ∃ N zs, New N w w' ∧ OwnU N v (n + 1) zs ∧ (∀ x ∈ zs, x < W32) ∧ zs.getD n 0 < 2 ^ s ∧ val W32 zs = 2 ^ s * val W32 xs) := by
  have hlx := hv.len
  have hp := pow31 hs31
  have hp0 : 0 < 2 ^ s := Nat.pow_pos (by decide)
  refine calls_of_S [] [] (by simp) [] Tryd.func81 rfl mixed (by kernel_rfl) Tryd.ntmps81 Tryd.results81 rfl ⟨by simp, by simp⟩ (by simp) ?_
  simp only [toS, textOps, toSOp, kindAt, kindOf, odAt, sopsAt, ordOf, zipF]
  (repeat' (first | refine JC.seq ?_ | refine JC.ops ?_ | refine JO.nil ?_ | refine JX.thenN ?_ | (apply r_move; (iterate 3 exact rfl)) | (apply r_assign; (iterate 3 exact rfl)) | (apply r_add1; (iterate 4 exact rfl); omega) | (apply r_lenU; (iterate 3 exact rfl); (first | assumption | exact WU.rd (by assumption) rfl [] | exact OwnU.rd (by assumption)))))
  refine r_make (n := n + 1) rfl rfl rfl rfl rfl (by omega) (by omega) (fun b5 => ?_)
  have hO := own_zerosU b5 (n + 1) (by simp only [maxLen]; omega)
  (repeat' (first | refine JC.seq ?_ | refine JC.ops ?_ | refine JO.nil ?_ | refine JX.thenN ?_ | (apply r_move; (iterate 3 exact rfl)) | (apply r_assign; (iterate 3 exact rfl)) | (apply r_lenU; (iterate 3 exact rfl); (first | assumption | exact WU.rd (by assumption) rfl [] | exact OwnU.rd (by assumption))) | refine JC.block ?_))
  refine JC.loopH (ι := Nat × SHeap × List Nat) ⟨fun z => [(14, nv z.1), (13, nv n), (12, v), (5, .slice (some ⟨b5, 0, none⟩) (n + 1) (n + 1)), (0, v), (1, nv s)], fun z => z.2.1 ++ [],
    fun z => z.1 ≤ n ∧ OwnU z.2.1 (.slice (some ⟨b5, 0, none⟩) (n + 1) (n + 1)) (n + 1) z.2.2 ∧ (∀ x ∈ z.2.2, x < W32) ∧ z.2.2.getD z.1 0 < 2 ^ s ∧ val W32 z.2.2 = 2 ^ s * val W32 (xs.take z.1) ∧ ∀ j, z.1 < j → z.2.2.getD j 0 = 0, fun z => n - z.1⟩
    (0, _, _) ⟨Nat.zero_le _, hO, fun x hx => by obtain ⟨a, _, rfl⟩ := List.mem_map.1 hx; decide, by
      show (tab (n + 1) fun _ => 0).getD 0 0 < 2 ^ s
      rw [tab_zero]; exact hp0, by
      show val W32 (tab (n + 1) fun _ => 0) = _
      rw [val_zeros]; simp [val], fun j _ => tab_zero _ j⟩ (by repeat first | exact trivial | refine ⟨rfl, ?_⟩) (by (first | exact HSub.refl _ | (repeat' first | exact HSub.nil _ | exact HSub.refl _ | refine HSub.at 0 rfl ?_ | refine HSub.at 1 rfl ?_ | refine HSub.at 2 rfl ?_ | refine HSub.at 3 rfl ?_ | refine HSub.at 4 rfl ?_ | refine HSub.at 5 rfl ?_ | refine HSub.at 6 rfl ?_ | refine HSub.at 7 rfl ?_))) (fun z hz => ?_)
  clear hO
  obtain ⟨i, N, zs⟩ := z
  obtain ⟨hi, hO, hz, hci, hval, hzero⟩ := hz
  dsimp only at hi hO hz hci hval hzero ⊢
  have hlz := hO.len
  by_cases hin : i < n
  · have hxi : xs.getD i 0 < 4294967296 := mem_getD_lt (b := W32) (by decide) hx i
    have hzi : zs.getD i 0 < 4294967296 := mem_getD_lt (b := W32) (by decide) hz i
    have hwb : xs.getD i 0 * 2 ^ s < 9223372036854775808 := by
      have := Nat.mul_le_mul (show xs.getD i 0 ≤ 4294967295 by omega) hp
      omega
    have hlow : xs.getD i 0 * 2 ^ s % 4294967296 < 4294967296 := Nat.mod_lt _ (by decide)
    have hor := or_low (c := zs.getD i 0) (n := s) (a := xs.getD i 0) (by omega) hci
    have horlt : zs.getD i 0 + xs.getD i 0 * 2 ^ s % 4294967296 < 4294967296 := by rw [← hor]; exact or32_lt hzi hlow
    (repeat' (first | refine JC.seq ?_ | refine JC.ops ?_ | refine JO.nil ?_ | refine JX.thenN ?_ | (apply r_move; (iterate 3 exact rfl)) | (apply r_assign; (iterate 3 exact rfl)) | (apply r_idxU; (iterate 4 exact rfl); (first | assumption | exact WU.rd (by assumption) rfl [] | exact OwnU.rd (by assumption)); (first | assumption | omega)) | (apply r_ldU; (iterate 4 exact rfl); (first | assumption | exact WU.rd (by assumption) rfl [] | exact OwnU.rd (by assumption)); (repeat' first | exact HSub.nil _ | exact HSub.hd | exact HSub.in0 | exact HSub.refl _ | refine HSub.skip ?_ | refine HSub.skipN ?_); (first | assumption | omega)) | (apply r_maskU; (iterate 4 exact rfl); (first | assumption | omega)) | (apply r_shlU; (iterate 4 exact rfl); (first | assumption | omega)) | (apply r_lss; (iterate 4 exact rfl); all_goals intro hc; all_goals try (exfalso; omega)) | refine JC.skip ?_ | refine JC.condT rfl ?_ | refine JC.block ?_))
    rw [Nat.mod_eq_of_lt (show xs.getD i 0 * 2 ^ s < 18446744073709551616 by omega)]
    refine r_orV (zs.getD i 0 + xs.getD i 0 * 2 ^ s % 4294967296) rfl rfl rfl rfl (by omega) hor ?_
    (repeat' (first | (apply r_idxU; (iterate 4 exact rfl); (first | assumption | exact WU.rd (by assumption) rfl [] | exact OwnU.rd (by assumption)); (first | assumption | omega))))
    refine r_stU (A := []) hO rfl rfl trivial rfl rfl (by omega) (fun N1 hO1 => ?_)
    (repeat' (first | refine JC.ops ?_ | refine JO.nil ?_ | refine JX.thenN ?_ | (apply r_move; (iterate 3 exact rfl)) | (apply r_add1; (iterate 4 exact rfl); omega) | (apply r_shr32; (iterate 4 exact rfl)) | (apply r_idxU; (iterate 4 exact rfl); (first | assumption | exact WU.rd (by assumption) rfl [] | exact OwnU.rd (by assumption)); (first | assumption | omega))))
    refine r_stU (A := []) hO1 rfl rfl trivial rfl rfl (by omega) (fun N2 hO2 => ?_)
    (repeat' (first | refine JC.ops ?_ | refine JO.nil ?_ | refine JX.thenN ?_ | (apply r_move; (iterate 3 exact rfl)) | (apply r_add1; (iterate 4 exact rfl); omega) | refine JX.blockN ?_))
    refine JX.roundH (i + 1, N2, _) ⟨by dsimp only; omega, hO2, set_lt (set_lt hz horlt) (by show _ < 4294967296; omega), ?_, ?_, fun j hj => ?_⟩ (by dsimp only; omega) (by repeat first | exact trivial | refine ⟨rfl, ?_⟩) (by (first | exact HSub.refl _ | (repeat' first | exact HSub.nil _ | exact HSub.refl _ | refine HSub.at 0 rfl ?_ | refine HSub.at 1 rfl ?_ | refine HSub.at 2 rfl ?_ | refine HSub.at 3 rfl ?_ | refine HSub.at 4 rfl ?_ | refine HSub.at 5 rfl ?_ | refine HSub.at 6 rfl ?_ | refine HSub.at 7 rfl ?_)))
    · dsimp only
      rw [getD_set_self (by simp; omega)]
      refine (Nat.div_lt_iff_lt_mul (by decide)).2 ?_
      rw [Nat.mul_comm]
      exact Nat.mul_lt_mul_of_pos_left hxi hp0
    · dsimp only
      have e1 := val_set (b := W32) (l := zs) (j := i) (u := zs.getD i 0 + xs.getD i 0 * 2 ^ s % 4294967296) (by omega)
      have e2 := val_set (b := W32) (l := zs.set i (zs.getD i 0 + xs.getD i 0 * 2 ^ s % 4294967296)) (j := i + 1) (u := xs.getD i 0 * 2 ^ s / 4294967296) (by simp; omega)
      rw [getD_set_ne (by omega), hzero (i + 1) (by omega), Nat.mul_zero, Nat.add_zero] at e2
      rw [e2, val_take, Nat.mul_add, ← hval]
      have e3 : W32 ^ i * (xs.getD i 0 * 2 ^ s % 4294967296) + W32 ^ (i + 1) * (xs.getD i 0 * 2 ^ s / 4294967296) = W32 ^ i * (xs.getD i 0 * 2 ^ s) := by
        rw [Nat.pow_succ, Nat.mul_assoc, ← Nat.mul_add, Nat.mod_add_div]
      have e4 : 2 ^ s * (W32 ^ i * xs.getD i 0) = W32 ^ i * (xs.getD i 0 * 2 ^ s) := by
        rw [Nat.mul_left_comm, Nat.mul_comm (2 ^ s)]
      rw [e4, ← e3]
      rw [Nat.mul_add] at e1
      omega
    · dsimp only at hj ⊢
      rw [getD_set_ne (by omega), getD_set_ne (by omega)]
      exact hzero j (by omega)
  · (repeat' (first | refine JC.seq ?_ | refine JC.ops ?_ | refine JO.nil ?_ | refine JX.thenN ?_ | (apply r_move; (iterate 3 exact rfl)) | (apply r_assign; (iterate 3 exact rfl)) | (apply r_lss; (iterate 4 exact rfl); all_goals intro hc; all_goals try (exfalso; omega)) | refine JX.thenE ?_ | refine JC.exit ?_ | refine JC.ret ?_ | refine JC.condF rfl ?_ | refine JX.blockE ?_))
    obtain rfl : i = n := by omega
    exact JX.ret1 rfl (fun a w' st => ⟨st.kp, N, zs, st.newOf rfl (by (repeat' first | exact HSub.nil _ | exact HSub.hd | exact HSub.in0 | exact HSub.refl _ | refine HSub.skip ?_ | refine HSub.skipN ?_)), hO, hz, hci, by rw [hval, List.take_of_length_le (by omega)]⟩)


section
variable {c : Cx} {Q : Exit → Act → World → Prop} {m : Mode} {F : SFrame} {H : SHeap} {r : List SOp} {g : Option (Option Tmp × Bool)} {ns : Bool} {d : Tmp} {ty t t' : TypeId} {x y : Operand} {i : Nat}
theorem r_toU64 {k : IntKind} [TI c.P t k] [TI c.P t' .u64] (hd : dstOk c.n (some d) = true) (hg : guardF F g = some true) (hx : ev F x = some (.int k i)) (hi : i < 18446744073709551616) (h : JO c Q m r ((d, uv i) :: F) H) : JO c Q m (⟨some d, .convert t t' x, ty, g, .mov, ns⟩ :: r) F H :=
  r_convK (k' := .u64) (i : Int) hd hg hx (u64_in hi) h
end

theorem pow8 (r : Nat) : 2 ^ (8 * r) = 256 ^ r := by rw [Nat.pow_mul]
theorem pow32 (j : Nat) : W32 ^ j = 256 ^ (4 * j) := by rw [Nat.pow_mul]
theorem abs_or {z b r : Nat} (hz : 256 ^ (r + 1) ∣ z) (hb : b < 256) : z ||| b * 256 ^ r = z + b * 256 ^ r := by
  obtain ⟨a, rfl⟩ := hz
  have h1 : b * 256 ^ r < 2 ^ (8 * (r + 1)) := by
    rw [pow8, Nat.pow_succ, Nat.mul_comm]
    exact Nat.mul_lt_mul_of_pos_left hb (Nat.pow_pos (by decide))
  have := Nat.two_pow_add_eq_or_of_lt h1 a
  rw [pow8] at this
  exact this.symm
theorem pow3_le {r : Nat} (hr : r < 4) : 256 ^ r ≤ 16777216 := by
  have := Nat.pow_le_pow_right (n := 256) (by decide) (show r ≤ 3 by omega)
  simpa using this

set_option maxHeartbeats 8000000 in
theorem c_abs (w : World) (p : Bool) (l : List UInt8) (hl : l.length ≤ 3000000000) :
    Calls Tryd.prog 52 #[wv p l] w (Ret fun v w' => Kp [] w w' ∧ ∃ N zs, New N w w' ∧ OwnU N v zs.length zs ∧ Dig W32 zs ∧ val W32 zs = bval (bts l)) := by
  have hbl := bts_len l
  refine calls_of_S [⟨6, 2, [], []⟩] [] (by simp) [] Tryd.func52 rfl mixed (by kernel_rfl) Tryd.ntmps52 Tryd.results52 rfl ⟨by simp, by simp⟩ (by simp) ?_
  simp only [toS, textOps, toSOp, kindAt, kindOf, odAt, sopsAt, ordOf, zipF]
  (repeat' (first | refine JC.seq ?_ | refine JC.ops ?_ | refine JO.nil ?_ | refine JX.thenN ?_ | (apply r_fieldAddr; (iterate 3 exact rfl)) | (apply r_assign; (iterate 3 exact rfl)) | (apply r_load; (iterate 4 exact rfl); exact at0; exact rfl) | (apply r_addN (j := 4); (iterate 4 exact rfl); omega) | (apply r_divN (j := 4); (iterate 4 exact rfl); omega) | (apply r_sub1; (iterate 4 exact rfl); omega) | (apply r_lenS; (iterate 3 exact rfl)) | (apply r_boxA; (iterate 4 exact rfl); intro _)))
  rename_i b1
  refine r_make (n := (l.length + 4 - 1) / 4) rfl rfl rfl rfl rfl (by omega) (by omega) (fun b5 => ?_)
  have hO := own_zerosU b5 ((l.length + 4 - 1) / 4) (by simp only [maxLen]; omega)
  generalize hnw : (l.length + 4 - 1) / 4 = nw at hO ⊢
  (repeat' (first | refine JC.seq ?_ | refine JC.ops ?_ | refine JO.nil ?_ | refine JX.thenN ?_ | (apply r_move; (iterate 3 exact rfl)) | (apply r_fieldAddr; (iterate 3 exact rfl)) | (apply r_assign; (iterate 3 exact rfl)) | (apply r_load; (iterate 4 exact rfl); exact at1; exact rfl) | (apply r_lenS; (iterate 3 exact rfl)) | refine JC.block ?_))
  refine JC.loopH (ι := Nat × SHeap × List Nat) ⟨fun z => [(16, nv z.1), (15, nv l.length), (3, .slice (some ⟨b5, 0, none⟩) nw nw), (1, .pointer (some ⟨b1, 0, none⟩))], fun z => (b1, .cells #[.bool p, sv l] 56) :: (z.2.1 ++ []),
    fun z => z.1 ≤ l.length ∧ OwnU z.2.1 (.slice (some ⟨b5, 0, none⟩) nw nw) nw z.2.2 ∧ (∀ x ∈ z.2.2, x < W32) ∧ (∀ j, 256 ^ min 4 (l.length - z.1 - 4 * j) ∣ z.2.2.getD j 0) ∧ val W32 z.2.2 = 256 ^ (l.length - z.1) * bval ((bts l).take z.1), fun z => l.length - z.1⟩
    (0, _, _) ⟨Nat.zero_le _, hO, fun x hx => by obtain ⟨a, _, rfl⟩ := List.mem_map.1 hx; decide, fun j => by
      show _ ∣ (tab nw fun _ => 0).getD j 0
      rw [tab_zero]; exact Nat.dvd_zero _, by
      show val W32 (tab nw fun _ => 0) = _
      rw [val_zeros, List.take_zero, bval_nil, Nat.mul_zero]⟩ (by repeat first | exact trivial | refine ⟨rfl, ?_⟩) (by exact HSub.at 1 rfl (HSub.at 0 rfl (HSub.nil _))) (fun z hz => ?_)
  clear hO
  obtain ⟨i, N, zs⟩ := z
  obtain ⟨hi, hO, hz, hdv, hval⟩ := hz
  dsimp only at hi hO hz hdv hval ⊢
  have hlz := hO.len
  by_cases hin : i < l.length
  · have hb256 : (bts l).getD i 0 < 256 := bts_lt
    have hbb : (bts l).getD i 0 < 18446744073709551616 := by omega
    obtain ⟨k, hk⟩ : ∃ k, k = l.length - 1 - i := ⟨_, rfl⟩
    have hki : l.length - i = k + 1 := by omega
    have hzk : zs.getD (k / 4) 0 < 4294967296 := mem_getD_lt (b := W32) (by decide) hz _
    have hr4 : k % 4 < 4 := Nat.mod_lt _ (by decide)
    have hp3 := pow3_le hr4
    have hsh : (bts l).getD i 0 * 256 ^ (k % 4) < 4294967296 := by
      have := Nat.mul_le_mul (show (bts l).getD i 0 ≤ 255 by omega) hp3
      omega
    have hdk : 256 ^ (k % 4 + 1) ∣ zs.getD (k / 4) 0 := by
      have := hdv (k / 4)
      rwa [hki, show min 4 (k + 1 - 4 * (k / 4)) = k % 4 + 1 by omega] at this
    have hor := abs_or hdk hb256
    have horlt : zs.getD (k / 4) 0 + (bts l).getD i 0 * 256 ^ (k % 4) < 4294967296 := by rw [← hor]; exact or32_lt hzk hsh
    have hkn : k / 4 < nw := by omega
    (repeat' (first | refine JC.seq ?_ | refine JC.ops ?_ | refine JC.opsD ?_ | refine JO.nil ?_ | refine JX.thenN ?_ | (apply r_move; (iterate 3 exact rfl)) | (apply r_fieldAddr; (iterate 3 exact rfl)) | (apply r_assign; (iterate 3 exact rfl)) | (apply r_load; (iterate 4 exact rfl); exact at0; exact rfl) | (apply r_divN (j := 4); (iterate 4 exact rfl); omega) | (apply r_modN (j := 4); (iterate 4 exact rfl); omega) | (apply r_mulN (i := 8); (iterate 4 exact rfl); (first | assumption | omega)) | (apply r_sub1; (iterate 4 exact rfl); omega) | (apply r_subN; (iterate 4 exact rfl); omega) | (apply r_toU64; (iterate 3 exact rfl); (first | assumption | omega)) | (apply r_idxU; (iterate 4 exact rfl); (first | assumption | exact WU.rd (by assumption) rfl [] | exact OwnU.rd (by assumption)); (first | assumption | omega)) | (apply r_ldU; (iterate 4 exact rfl); (first | assumption | exact WU.rd (by assumption) rfl [] | exact OwnU.rd (by assumption)); (repeat' first | exact HSub.nil _ | exact HSub.hd | exact HSub.in0 | exact HSub.refl _ | refine HSub.skip ?_ | refine HSub.skipN ?_); (first | assumption | omega)) | (apply r_lenS; (iterate 3 exact rfl)) | (apply r_idxS; (iterate 4 exact rfl); (first | assumption | omega)) | (apply r_shlU; (iterate 4 exact rfl); (first | assumption | omega)) | (apply r_lss; (iterate 4 exact rfl); all_goals intro hc; all_goals try (exfalso; omega)) | refine JC.skip ?_ | refine JC.condT rfl ?_ | refine JC.block ?_))
    rw [← hk, pow8, Nat.mod_eq_of_lt (show (bts l).getD i 0 * 256 ^ (k % 4) < 18446744073709551616 by omega)]
    refine r_orV (zs.getD (k / 4) 0 + (bts l).getD i 0 * 256 ^ (k % 4)) rfl rfl rfl rfl (by omega) hor ?_
    (repeat' (first | (apply r_idxU; (iterate 4 exact rfl); (first | assumption | exact WU.rd (by assumption) rfl [] | exact OwnU.rd (by assumption)); (first | assumption | omega))))
    refine r_stU (A := [_]) hO rfl rfl (by first | trivial | exact ⟨rfl, rfl⟩) rfl rfl (by omega) (fun N1 hO1 => ?_)
    (repeat' (first | refine JC.ops ?_ | refine JO.nil ?_ | refine JX.thenN ?_ | (apply r_move; (iterate 3 exact rfl)) | (apply r_add1; (iterate 4 exact rfl); omega) | refine JX.blockN ?_))
    refine JX.roundH (i + 1, N1, _) ⟨by dsimp only; omega, hO1, set_lt hz horlt, fun j => ?_, ?_⟩ (by dsimp only; omega) (by repeat first | exact trivial | refine ⟨rfl, ?_⟩) (by (first | exact HSub.refl _ | (repeat' first | exact HSub.nil _ | exact HSub.refl _ | refine HSub.at 0 rfl ?_ | refine HSub.at 1 rfl ?_ | refine HSub.at 2 rfl ?_ | refine HSub.at 3 rfl ?_ | refine HSub.at 4 rfl ?_ | refine HSub.at 5 rfl ?_ | refine HSub.at 6 rfl ?_ | refine HSub.at 7 rfl ?_)))
    · dsimp only
      by_cases hj : k / 4 = j
      · subst hj
        rw [getD_set_self (by omega), show min 4 (l.length - (i + 1) - 4 * (k / 4)) = k % 4 by omega]
        exact Nat.dvd_add (Nat.dvd_trans (Nat.pow_dvd_pow 256 (Nat.le_succ _)) hdk) (Nat.dvd_mul_left _ _)
      · rw [getD_set_ne hj]
        exact Nat.dvd_trans (Nat.pow_dvd_pow 256 (by omega)) (hdv j)
    · dsimp only
      have e := val_set (b := W32) (l := zs) (j := k / 4) (u := zs.getD (k / 4) 0 + (bts l).getD i 0 * 256 ^ (k % 4)) (by omega)
      rw [Nat.mul_add] at e
      have e2 : W32 ^ (k / 4) * ((bts l).getD i 0 * 256 ^ (k % 4)) = 256 ^ k * (bts l).getD i 0 := by
        rw [pow32, Nat.mul_left_comm, ← Nat.pow_add, show 4 * (k / 4) + k % 4 = k by omega, Nat.mul_comm]
      rw [bval_take _ _ (by omega), show l.length - (i + 1) = k by omega, Nat.mul_add, ← Nat.mul_assoc]
      rw [hki, Nat.pow_succ] at hval
      omega
  · (repeat' (first | refine JC.seq ?_ | refine JC.ops ?_ | refine JO.nil ?_ | refine JX.thenN ?_ | (apply r_move; (iterate 3 exact rfl)) | (apply r_lss; (iterate 4 exact rfl); all_goals intro hc; all_goals try (exfalso; omega)) | refine JX.thenE ?_ | refine JC.exit ?_ | refine JC.condF rfl ?_ | refine JX.blockE ?_))
    refine r_call0 trivial rfl rfl rfl (fun w hk hs => c_norm w _ _ _ _ (hO.rd.at hk hs (by (repeat' first | exact HSub.nil _ | exact HSub.hd | exact HSub.in0 | exact HSub.refl _ | refine HSub.skip ?_ | refine HSub.skipN ?_))) (by omega)) fun w v w' _ _ _ hR => ?_
    obtain ⟨q, hq, rfl, hnq⟩ := hR
    (repeat' (first | refine JO.nil ?_ | refine JX.thenN ?_ | (apply r_assign; (iterate 3 exact rfl)) | refine JC.ret ?_))
    have hown := hO.hd hq
    rw [← hnq] at hown
    have hql : (nrm zs).length = q := hown.len
    refine JX.ret1 rfl (fun a w' st => ⟨st.kp, N, nrm zs, st.newOf rfl (by (repeat' first | exact HSub.nil _ | exact HSub.hd | exact HSub.in0 | exact HSub.refl _ | refine HSub.skip ?_ | refine HSub.skipN ?_)), by rw [hql]; exact hown, Dig.of hz, ?_⟩)
    obtain rfl : i = l.length := by omega
    rw [val_nrm, hval, Nat.sub_self, Nat.pow_zero, Nat.one_mul, List.take_of_length_le (by omega)]


theorem small_round {d W r x Z cur : Nat} (hc : cur = r * W + x) : x + W * (d * Z + r) = d * (cur / d + W * Z) + cur % d := by
  have h1 := Nat.div_add_mod cur d
  rw [Nat.mul_add, Nat.mul_add, Nat.mul_left_comm W d Z, Nat.mul_comm W r]
  omega
theorem drop_set {l : List Nat} {i u : Nat} : (l.set i u).drop (i + 1) = l.drop (i + 1) := by
  apply List.ext_getElem?
  intro j
  rw [List.getElem?_drop, List.getElem?_drop, List.getElem?_set_ne (by omega)]

set_option maxHeartbeats 8000000 in
theorem c_small (w : World) (v : Value) (n d : Nat) (xs : List Nat) (hv : WU w v n xs) (hx : ∀ x ∈ xs, x < W32) (hd0 : 0 < d) (hd1 : d < 4294967296) (hn : n ≤ 10000000000) :
    Calls Tryd.prog 80 #[v, uv d] w (Ret fun v w' => Kp [] w w' ∧ ∃ v1 N zs, v = .tuple #[v1, uv (val W32 xs % d)] ∧ New N w w' ∧ OwnU N v1 zs.length zs ∧ Dig W32 zs ∧ val W32 zs = val W32 xs / d) := by
  have hlx := hv.len
  refine calls_of_S [⟨7, 11, [], []⟩] [] (by simp) [] Tryd.func80 rfl mixed (by kernel_rfl) Tryd.ntmps80 Tryd.results80 rfl ⟨by simp, by simp⟩ (by simp) ?_
  simp only [toS, textOps, toSOp, kindAt, kindOf, odAt, sopsAt, ordOf, zipF]
  (repeat' (first | refine JC.seq ?_ | refine JC.ops ?_ | refine JO.nil ?_ | refine JX.thenN ?_ | (apply r_move; (iterate 3 exact rfl)) | (apply r_assign; (iterate 3 exact rfl)) | (apply r_lenU; (iterate 3 exact rfl); (first | assumption | exact WU.rd (by assumption) rfl [] | exact OwnU.rd (by assumption)))))
  refine r_make (n := n) rfl rfl rfl rfl rfl (by omega) (by omega) (fun b5 => ?_)
  have hO := own_zerosU b5 n (by simp only [maxLen]; omega)
  (repeat' (first | refine JC.seq ?_ | refine JC.ops ?_ | refine JO.nil ?_ | refine JX.thenN ?_ | (apply r_move; (iterate 3 exact rfl)) | (apply r_assign; (iterate 3 exact rfl)) | (apply r_sub; (iterate 4 exact rfl); omega) | (apply r_lenU; (iterate 3 exact rfl); (first | assumption | exact WU.rd (by assumption) rfl [] | exact OwnU.rd (by assumption))) | refine JC.block ?_))
  refine JC.loopH (ι := Nat × Nat × SHeap × List Nat) ⟨fun z => [(8, iv ((z.1 : Int) - 1)), (7, uv z.2.1), (6, .slice (some ⟨b5, 0, none⟩) n n), (0, v), (1, uv d)], fun z => z.2.2.1 ++ [],
    fun z => z.1 ≤ n ∧ OwnU z.2.2.1 (.slice (some ⟨b5, 0, none⟩) n n) n z.2.2.2 ∧ (∀ x ∈ z.2.2.2, x < W32) ∧ z.2.1 < d ∧ val W32 (xs.drop z.1) = d * val W32 (z.2.2.2.drop z.1) + z.2.1, fun z => z.1⟩
    (n, 0, _, _) ⟨Nat.le_refl _, hO, fun x hx => by obtain ⟨a, _, rfl⟩ := List.mem_map.1 hx; decide, hd0, by
      show val W32 (xs.drop n) = d * val W32 ((tab n fun _ => 0).drop n) + 0
      rw [val_drop_nil (by omega), val_drop_nil (by simp [tab])]; rfl⟩ (by repeat first | exact trivial | refine ⟨rfl, ?_⟩) (by (first | exact HSub.refl _ | (repeat' first | exact HSub.nil _ | exact HSub.refl _ | refine HSub.at 0 rfl ?_ | refine HSub.at 1 rfl ?_ | refine HSub.at 2 rfl ?_ | refine HSub.at 3 rfl ?_ | refine HSub.at 4 rfl ?_ | refine HSub.at 5 rfl ?_ | refine HSub.at 6 rfl ?_ | refine HSub.at 7 rfl ?_))) (fun z hz => ?_)
  clear hO
  obtain ⟨j, r, N, zs⟩ := z
  obtain ⟨hj, hO, hz, hr, hval⟩ := hz
  dsimp only at hj hO hz hr hval ⊢
  have hlz := hO.len
  rcases j with _ | q
  · (repeat' (first | refine JC.seq ?_ | refine JC.ops ?_ | refine JO.nil ?_ | refine JX.thenN ?_ | (apply r_move; (iterate 3 exact rfl)) | (apply r_geq; (iterate 4 exact rfl); all_goals intro hc; all_goals try (exfalso; omega)) | refine JX.thenE ?_ | refine JC.exit ?_ | refine JC.condF rfl ?_ | refine JX.blockE ?_))
    refine r_call0 trivial rfl rfl rfl (fun w hk hs => c_norm w _ _ _ _ (hO.rd.at hk hs (by (repeat' first | exact HSub.nil _ | exact HSub.hd | exact HSub.in0 | exact HSub.refl _ | refine HSub.skip ?_ | refine HSub.skipN ?_))) (by omega)) fun w v w' _ _ _ hR => ?_
    obtain ⟨q, hq, rfl, hnq⟩ := hR
    (repeat' (first | refine JO.nil ?_ | refine JX.thenN ?_ | (apply r_move; (iterate 3 exact rfl)) | (apply r_assign; (iterate 3 exact rfl)) | refine JC.ret ?_))
    have hown := hO.hd hq
    rw [← hnq] at hown
    have hql : (nrm zs).length = q := hown.len
    rw [List.drop_zero, List.drop_zero] at hval
    have hmod : val W32 xs % d = r := by rw [hval, Nat.mul_add_mod, Nat.mod_eq_of_lt hr]
    have hdiv : val W32 xs / d = val W32 zs := by rw [hval, Nat.mul_add_div hd0, Nat.div_eq_of_lt hr, Nat.add_zero]
    refine JX.ret2 rfl rfl (fun a w' st => ⟨st.kp, _, N, nrm zs, by rw [hmod], st.newOf rfl (by (repeat' first | exact HSub.nil _ | exact HSub.hd | exact HSub.in0 | exact HSub.refl _ | refine HSub.skip ?_ | refine HSub.skipN ?_)), by rw [hql]; exact hown, Dig.of hz, by rw [val_nrm, hdiv]⟩)
  · have hiv : iv (((q + 1 : Nat) : Int) - 1) = nv q := by
      show iv _ = iv _
      congr 1
      omega
    rw [hiv]
    have hxq : xs.getD q 0 < 4294967296 := mem_getD_lt (b := W32) (by decide) hx q
    (repeat' (first | refine JC.seq ?_ | refine JC.ops ?_ | refine JC.opsD ?_ | refine JO.nil ?_ | refine JX.thenN ?_ | (apply r_move; (iterate 3 exact rfl)) | (apply r_assign; (iterate 3 exact rfl)) | (apply r_shl32; (iterate 4 exact rfl); (first | assumption | omega)) | (apply r_or32; (iterate 4 exact rfl); (first | assumption | omega | exact ⟨by assumption, by assumption⟩)) | (apply r_idxU; (iterate 4 exact rfl); (first | assumption | exact WU.rd (by assumption) rfl [] | exact OwnU.rd (by assumption)); (first | assumption | omega)) | (apply r_ldU; (iterate 4 exact rfl); (first | assumption | exact WU.rd (by assumption) rfl [] | exact OwnU.rd (by assumption)); (repeat' first | exact HSub.nil _ | exact HSub.hd | exact HSub.in0 | exact HSub.refl _ | refine HSub.skip ?_ | refine HSub.skipN ?_); (first | assumption | omega)) | (apply r_quoU; (iterate 4 exact rfl); (first | assumption | omega)) | (apply r_remU; (iterate 4 exact rfl); (first | assumption | omega)) | (apply r_geq; (iterate 4 exact rfl); all_goals intro hc; all_goals try (exfalso; omega)) | refine JC.skip ?_ | refine JC.condT rfl ?_ | refine JC.block ?_))
    refine r_stU (A := []) hO rfl rfl (by first | trivial | exact ⟨rfl, rfl⟩) rfl rfl (by omega) (fun N' hO' => ?_)
    (repeat' (first | refine JC.ops ?_ | refine JO.nil ?_ | refine JX.thenN ?_ | (apply r_move; (iterate 3 exact rfl)) | (apply r_assign; (iterate 3 exact rfl)) | (apply r_sub; (iterate 4 exact rfl); omega) | refine JX.blockN ?_))
    refine JX.roundH (q, _, N', _) ⟨by dsimp only; omega, hO', set_lt hz ?_, Nat.mod_lt _ hd0, ?_⟩ (by dsimp only; omega) (by repeat first | exact trivial | refine ⟨rfl, ?_⟩) (by (first | exact HSub.refl _ | (repeat' first | exact HSub.nil _ | exact HSub.refl _ | refine HSub.at 0 rfl ?_ | refine HSub.at 1 rfl ?_ | refine HSub.at 2 rfl ?_ | refine HSub.at 3 rfl ?_ | refine HSub.at 4 rfl ?_ | refine HSub.at 5 rfl ?_ | refine HSub.at 6 rfl ?_ | refine HSub.at 7 rfl ?_)))
    · refine (Nat.div_lt_iff_lt_mul hd0).2 ?_
      show _ < 4294967296 * d
      omega
    · dsimp only
      rw [val_drop (by omega), val_drop (l := zs.set q _) (by simp; omega), drop_set, getD_set_self (by omega), hval]
      exact small_round rfl


theorem un_low {s : Nat} (hs : s ≤ 31) (x : Nat) (hx : x < 4294967296) : x * 2 ^ (32 - s) % 18446744073709551616 % 4294967296 = 2 ^ (32 - s) * (x % 2 ^ s) := by
  have h1 : x * 2 ^ (32 - s) < 18446744073709551616 := by
    have h2 : 2 ^ (32 - s) ≤ 4294967296 := by
      have := Nat.pow_le_pow_right (n := 2) (by decide) (show 32 - s ≤ 32 by omega)
      simpa using this
    have := Nat.mul_le_mul (show x ≤ 4294967295 by omega) h2
    omega
  rw [Nat.mod_eq_of_lt h1, low_shift x (32 - s) (by omega), show 32 - (32 - s) = s by omega]
theorem un_round {s P A x : Nat} (hs : s ≤ 31) : (A + P * 4294967296 * x) / 2 ^ s = A / 2 ^ s + P * (2 ^ (32 - s) * (x % 2 ^ s)) + P * 4294967296 * (x / 2 ^ s) := by
  have hp : 0 < 2 ^ s := Nat.pow_pos (by decide)
  have e : (4294967296 : Nat) = 2 ^ (32 - s) * 2 ^ s := by rw [← Nat.pow_add, show 32 - s + s = 32 by omega]
  have e2 : A + P * 4294967296 * x = A + 2 ^ s * (P * (2 ^ (32 - s) * (x % 2 ^ s)) + P * 4294967296 * (x / 2 ^ s)) := by
    have h1 : x = x % 2 ^ s + 2 ^ s * (x / 2 ^ s) := (Nat.mod_add_div x (2 ^ s)).symm
    have h2 : P * 4294967296 * x = P * 4294967296 * (x % 2 ^ s) + 2 ^ s * (P * 4294967296 * (x / 2 ^ s)) := by
      conv => lhs; rw [h1]
      rw [Nat.mul_add, Nat.mul_left_comm]
    have h3 : P * 4294967296 * (x % 2 ^ s) = 2 ^ s * (P * (2 ^ (32 - s) * (x % 2 ^ s))) := by
      conv => lhs; rw [e]
      simp only [Nat.mul_left_comm, Nat.mul_comm, Nat.mul_assoc]
    rw [h2, h3, Nat.mul_add]
  rw [e2, Nat.add_mul_div_left _ _ hp, Nat.add_assoc]
set_option maxHeartbeats 8000000 in
theorem c_unshift (w : World) (v : Value) (n s : Nat) (xs : List Nat) (hv : WU w v n xs) (hx : ∀ x ∈ xs, x < W32) (hs31 : s ≤ 31) (hn : n ≤ 10000000000) :
    Calls Tryd.prog 84 #[v, nv s] w (Ret fun v w' => Kp [] w w' ∧ ∃ N zs, New N w w' ∧ OwnU N v zs.length zs ∧ Dig W32 zs ∧ val W32 zs = val W32 xs / 2 ^ s) := by
  have hlx := hv.len
  have hp0 : 0 < 2 ^ s := Nat.pow_pos (by decide)
  refine calls_of_S [⟨5, 3, [], []⟩, ⟨7, 3, [], []⟩] [] (by simp) [] Tryd.func84 rfl mixed (by kernel_rfl) Tryd.ntmps84 Tryd.results84 rfl ⟨by simp, by simp⟩ (by simp) ?_
  simp only [toS, textOps, toSOp, kindAt, kindOf, odAt, sopsAt, ordOf, zipF]
  (repeat' (first | refine JC.seq ?_ | refine JC.ops ?_ | refine JO.nil ?_ | refine JX.thenN ?_ | (apply r_move; (iterate 3 exact rfl)) | (apply r_assign; (iterate 3 exact rfl)) | (apply r_lenU; (iterate 3 exact rfl); (first | assumption | exact WU.rd (by assumption) rfl [] | exact OwnU.rd (by assumption)))))
  refine r_make (n := n) rfl rfl rfl rfl rfl (by omega) (by omega) (fun b5 => ?_)
  have hO := own_zerosU b5 n (by simp only [maxLen]; omega)
  (repeat' (first | refine JC.seq ?_ | refine JC.ops ?_ | refine JO.nil ?_ | refine JX.thenN ?_ | (apply r_move; (iterate 3 exact rfl)) | (apply r_assign; (iterate 3 exact rfl)) | (apply r_lenU; (iterate 3 exact rfl); (first | assumption | exact WU.rd (by assumption) rfl [] | exact OwnU.rd (by assumption))) | refine JC.block ?_))
  refine JC.loopH (ι := Nat × SHeap × List Nat) ⟨fun z => [(13, nv z.1), (12, nv n), (11, v), (5, .slice (some ⟨b5, 0, none⟩) n n), (0, v), (1, nv s)], fun z => z.2.1 ++ [],
    fun z => z.1 ≤ n ∧ OwnU z.2.1 (.slice (some ⟨b5, 0, none⟩) n n) n z.2.2 ∧ (∀ x ∈ z.2.2, x < W32) ∧ (0 < z.1 → z.2.2.getD (z.1 - 1) 0 < 2 ^ (32 - s)) ∧ val W32 z.2.2 = val W32 (xs.take z.1) / 2 ^ s ∧ ∀ j, z.1 ≤ j → z.2.2.getD j 0 = 0, fun z => n - z.1⟩
    (0, _, _) ⟨Nat.zero_le _, hO, fun x hx => by obtain ⟨a, _, rfl⟩ := List.mem_map.1 hx; decide, fun h => absurd h (Nat.lt_irrefl 0), by
      show val W32 (tab n fun _ => 0) = _
      rw [val_zeros]; simp [val], fun j _ => tab_zero _ j⟩ (by repeat first | exact trivial | refine ⟨rfl, ?_⟩) (by (first | exact HSub.refl _ | (repeat' first | exact HSub.nil _ | exact HSub.refl _ | refine HSub.at 0 rfl ?_ | refine HSub.at 1 rfl ?_ | refine HSub.at 2 rfl ?_ | refine HSub.at 3 rfl ?_ | refine HSub.at 4 rfl ?_ | refine HSub.at 5 rfl ?_ | refine HSub.at 6 rfl ?_ | refine HSub.at 7 rfl ?_))) (fun z hz => ?_)
  clear hO
  obtain ⟨i, N, zs⟩ := z
  obtain ⟨hi, hO, hz, hci, hval, hzero⟩ := hz
  dsimp only at hi hO hz hci hval hzero ⊢
  have hlz := hO.len
  by_cases hin : i < n
  · have hxi : xs.getD i 0 < 4294967296 := mem_getD_lt (b := W32) (by decide) hx i
    have hsh : xs.getD i 0 / 2 ^ s < 4294967296 := Nat.lt_of_le_of_lt (Nat.div_le_self _ _) hxi
    have hlt32 : xs.getD i 0 / 2 ^ s < 2 ^ (32 - s) := by
      refine (Nat.div_lt_iff_lt_mul hp0).2 ?_
      rw [← Nat.pow_add, show 32 - s + s = 32 by omega]
      exact hxi
    have hor1 : zs.getD i 0 ||| xs.getD i 0 / 2 ^ s = xs.getD i 0 / 2 ^ s := by rw [hzero i (Nat.le_refl _), Nat.zero_or]
    have hzi : zs.getD i 0 < 4294967296 := mem_getD_lt (b := W32) (by decide) hz i
    (repeat' (first | refine JC.seq ?_ | refine JC.ops ?_ | refine JC.opsD ?_ | refine JO.nil ?_ | refine JX.thenN ?_ | (apply r_move; (iterate 3 exact rfl)) | (apply r_assign; (iterate 3 exact rfl)) | (apply r_idxU; (iterate 4 exact rfl); (first | assumption | exact WU.rd (by assumption) rfl [] | exact OwnU.rd (by assumption)); (first | assumption | omega)) | (apply r_ldU; (iterate 4 exact rfl); (first | assumption | exact WU.rd (by assumption) rfl [] | exact OwnU.rd (by assumption)); (repeat' first | exact HSub.nil _ | exact HSub.hd | exact HSub.in0 | exact HSub.refl _ | refine HSub.skip ?_ | refine HSub.skipN ?_); (first | assumption | omega)) | (apply r_shrU; (iterate 4 exact rfl); (first | assumption | omega)) | (apply r_lss; (iterate 4 exact rfl); all_goals intro hc; all_goals try (exfalso; omega)) | refine JC.skip ?_ | refine JC.condT rfl ?_ | refine JC.block ?_))
    refine r_orV (xs.getD i 0 / 2 ^ s) rfl rfl rfl rfl (by omega) hor1 ?_
    (repeat' (first | (apply r_idxU; (iterate 4 exact rfl); (first | assumption | exact WU.rd (by assumption) rfl [] | exact OwnU.rd (by assumption)); (first | assumption | omega))))
    refine r_stU (A := []) hO rfl rfl (by first | trivial | exact ⟨rfl, rfl⟩) rfl rfl (by omega) (fun N1 hO1 => ?_)
    have e1 := val_set (b := W32) (l := zs) (j := i) (u := xs.getD i 0 / 2 ^ s) (by omega)
    rw [hzero i (Nat.le_refl _), Nat.mul_zero, Nat.add_zero] at e1
    by_cases hi0 : 0 < i
    · have hzp : zs.getD (i - 1) 0 < 4294967296 := mem_getD_lt (b := W32) (by decide) hz (i - 1)
      have hul := un_low hs31 _ hxi
      have hul2 : 2 ^ (32 - s) * (xs.getD i 0 % 2 ^ s) < 4294967296 := by rw [← hul]; exact Nat.mod_lt _ (by decide)
      have hor2 : zs.getD (i - 1) 0 ||| 2 ^ (32 - s) * (xs.getD i 0 % 2 ^ s) = zs.getD (i - 1) 0 + 2 ^ (32 - s) * (xs.getD i 0 % 2 ^ s) := by
        rw [Nat.or_comm, ← Nat.two_pow_add_eq_or_of_lt (hci hi0), Nat.add_comm]
      have hor3 : zs.getD (i - 1) 0 + 2 ^ (32 - s) * (xs.getD i 0 % 2 ^ s) < 4294967296 := by rw [← hor2]; exact or32_lt hzp hul2
      have hget : (zs.set i (xs.getD i 0 / 2 ^ s)).getD (i - 1) 0 = zs.getD (i - 1) 0 := getD_set_ne (by omega)
      have hsub : ((32 : Int) - (s : Int)) = ((32 - s : Nat) : Int) := by omega
      (repeat' (first | refine JC.seq ?_ | refine JC.ops ?_ | refine JC.opsD ?_ | refine JO.nil ?_ | refine JX.thenN ?_ | (apply r_move; (iterate 3 exact rfl)) | (apply r_sub1; (iterate 4 exact rfl); omega) | (apply r_sub; (iterate 4 exact rfl); omega) | (apply r_idxU; (iterate 4 exact rfl); (first | assumption | exact WU.rd (by assumption) rfl [] | exact OwnU.rd (by assumption)); (first | assumption | omega)) | (apply r_ldU; (iterate 4 exact rfl); (first | assumption | exact WU.rd (by assumption) rfl [] | exact OwnU.rd (by assumption)); (repeat' first | exact HSub.nil _ | exact HSub.hd | exact HSub.in0 | exact HSub.refl _ | refine HSub.skip ?_ | refine HSub.skipN ?_); (first | assumption | omega)) | (apply r_gtr; (iterate 4 exact rfl); all_goals intro hc; all_goals try (exfalso; omega)) | refine JC.condT rfl ?_))
      refine r_shlU (j := 32 - s) rfl rfl rfl (by first | rfl | exact congrArg (fun z => some (Value.int .i64 z)) hsub) (by omega) ?_
      (repeat' (first | (apply r_maskU; (iterate 4 exact rfl); (first | assumption | omega))))
      refine r_orV (zs.getD (i - 1) 0 + 2 ^ (32 - s) * (xs.getD i 0 % 2 ^ s)) rfl rfl rfl rfl (by rw [hget, hul]; omega) (by rw [hget, hul]; exact hor2) ?_
      (repeat' (first | (apply r_idxU; (iterate 4 exact rfl); (first | assumption | exact WU.rd (by assumption) rfl [] | exact OwnU.rd (by assumption)); (first | assumption | omega))))
      refine r_stU (A := []) hO1 rfl rfl (by first | trivial | exact ⟨rfl, rfl⟩) rfl rfl (by omega) (fun N2 hO2 => ?_)
      (repeat' (first | refine JC.ops ?_ | refine JO.nil ?_ | refine JX.thenN ?_ | (apply r_move; (iterate 3 exact rfl)) | (apply r_add1; (iterate 4 exact rfl); omega) | refine JX.blockN ?_))
      refine JX.roundH (i + 1, N2, _) ⟨by dsimp only; omega, hO2, set_lt (set_lt hz hsh) hor3, fun _ => ?_, ?_, fun j hj => ?_⟩ (by dsimp only; omega) (by repeat first | exact trivial | refine ⟨rfl, ?_⟩) (by (first | exact HSub.refl _ | (repeat' first | exact HSub.nil _ | exact HSub.refl _ | refine HSub.at 0 rfl ?_ | refine HSub.at 1 rfl ?_ | refine HSub.at 2 rfl ?_ | refine HSub.at 3 rfl ?_ | refine HSub.at 4 rfl ?_ | refine HSub.at 5 rfl ?_ | refine HSub.at 6 rfl ?_ | refine HSub.at 7 rfl ?_)))
      · dsimp only
        rw [Nat.add_sub_cancel, getD_set_ne (by omega), getD_set_self (by omega)]
        exact hlt32
      · dsimp only
        have e2 := val_set (b := W32) (l := zs.set i (xs.getD i 0 / 2 ^ s)) (j := i - 1) (u := zs.getD (i - 1) 0 + 2 ^ (32 - s) * (xs.getD i 0 % 2 ^ s)) (by simp; omega)
        rw [hget] at e2
        have e3 := un_round (s := s) (P := W32 ^ (i - 1)) (A := val W32 (xs.take i)) (x := xs.getD i 0) hs31
        have e4 : W32 ^ (i - 1) * 4294967296 = W32 ^ i := by
          conv => rhs; rw [show i = i - 1 + 1 by omega, Nat.pow_succ]
        rw [e4] at e3
        rw [val_take, e3, ← hval]
        rw [Nat.mul_add] at e2
        omega
      · dsimp only at hj ⊢
        rw [getD_set_ne (by omega), getD_set_ne (by omega)]
        exact hzero j (by omega)
    · obtain rfl : i = 0 := by omega
      (repeat' (first | refine JC.seq ?_ | refine JC.ops ?_ | refine JO.nil ?_ | refine JX.thenN ?_ | (apply r_move; (iterate 3 exact rfl)) | (apply r_add1; (iterate 4 exact rfl); omega) | (apply r_gtr; (iterate 4 exact rfl); all_goals intro hc; all_goals try (exfalso; omega)) | refine JC.skip ?_ | refine JC.condF rfl ?_ | refine JX.blockN ?_))
      refine JX.roundH (0 + 1, N1, _) ⟨by dsimp only; omega, hO1, set_lt hz hsh, fun _ => ?_, ?_, fun j hj => ?_⟩ (by dsimp only; omega) (by repeat first | exact trivial | refine ⟨rfl, ?_⟩) (by (first | exact HSub.refl _ | (repeat' first | exact HSub.nil _ | exact HSub.refl _ | refine HSub.at 0 rfl ?_ | refine HSub.at 1 rfl ?_ | refine HSub.at 2 rfl ?_ | refine HSub.at 3 rfl ?_ | refine HSub.at 4 rfl ?_ | refine HSub.at 5 rfl ?_ | refine HSub.at 6 rfl ?_ | refine HSub.at 7 rfl ?_)))
      · dsimp only
        rw [getD_set_self (by omega)]
        exact hlt32
      · dsimp only
        rw [e1, hval, val_take]
        simp [val]
      · dsimp only at hj ⊢
        rw [getD_set_ne (by omega)]
        exact hzero j (by omega)
  · (repeat' (first | refine JC.seq ?_ | refine JC.ops ?_ | refine JO.nil ?_ | refine JX.thenN ?_ | (apply r_move; (iterate 3 exact rfl)) | (apply r_lss; (iterate 4 exact rfl); all_goals intro hc; all_goals try (exfalso; omega)) | refine JX.thenE ?_ | refine JC.exit ?_ | refine JC.condF rfl ?_ | refine JX.blockE ?_))
    refine r_call0 trivial rfl rfl rfl (fun w hk hs => c_norm w _ _ _ _ (hO.rd.at hk hs (by (repeat' first | exact HSub.nil _ | exact HSub.hd | exact HSub.in0 | exact HSub.refl _ | refine HSub.skip ?_ | refine HSub.skipN ?_))) (by omega)) fun w v w' _ _ _ hR => ?_
    obtain ⟨q, hq, rfl, hnq⟩ := hR
    (repeat' (first | refine JO.nil ?_ | refine JX.thenN ?_ | (apply r_assign; (iterate 3 exact rfl)) | refine JC.ret ?_))
    have hown := hO.hd hq
    rw [← hnq] at hown
    have hql : (nrm zs).length = q := hown.len
    refine JX.ret1 rfl (fun a w' st => ⟨st.kp, N, nrm zs, st.newOf rfl (by (repeat' first | exact HSub.nil _ | exact HSub.hd | exact HSub.in0 | exact HSub.refl _ | refine HSub.skip ?_ | refine HSub.skipN ?_)), by rw [hql]; exact hown, Dig.of hz, ?_⟩)
    rw [val_nrm, hval, List.take_of_length_le (by omega)]


structure GivesD (v : Value) (xs ys : List Nat) (w : World) (r : Value) (w' : World) : Prop where
  ex : ∃ N1 N2 v1 v2 zs rs, r = .tuple #[v1, v2] ∧ New (N1 ++ N2) w w' ∧ OwnU N1 v1 zs.length zs ∧ (OwnU N2 v2 rs.length rs ∨ (N2 = [] ∧ v2 = v ∧ rs = xs)) ∧ Dig W32 zs ∧ Dig W32 rs ∧ val W32 xs = val W32 zs * val W32 ys + val W32 rs ∧ val W32 rs < val W32 ys

theorem val_len1 {b : Nat} {ys : List Nat} (h : ys.length = 1) : val b ys = ys.getD 0 0 := by
  match ys, h with
  | [y], _ => simp [val]

theorem kn_inv {A P z V D W Z T U : Nat} (hU : U = z + V * D) (h : A + P * U + V * (P * W * Z) = T) : A + P * z + V * (P * (D + W * Z)) = T := by
  subst hU
  rw [← h]
  simp only [Nat.mul_add, Nat.mul_assoc, Nat.mul_left_comm P V D]
  omega

set_option maxHeartbeats 16000000 in
theorem c_div (w : World) (v u : Value) (n k : Nat) (xs ys : List Nat) (hv : WU w v n xs) (hu : WU w u k ys) (hx : Dig W32 xs) (hy : Dig W32 ys) (h0 : 0 < val W32 ys) (hn : n ≤ 1000000000) (hk : k ≤ 1000000000) :
    Calls Tryd.prog 53 #[v, u] w (Ret fun r w' => Kp [] w w' ∧ GivesD v xs ys w r w') := by
  have hlx := hv.len
  have hly := hu.len
  have hk0 : 0 < k := by
    rcases Nat.eq_zero_or_pos k with h | h
    · subst h
      rw [List.eq_nil_of_length_eq_zero hly] at h0
      exact absurd h0 (Nat.lt_irrefl 0)
    · exact h
  refine calls_of_S [⟨11, 1, [], []⟩, ⟨16, 1, [], []⟩, ⟨17, 8, [], []⟩] [] (by simp) [] Tryd.func53 rfl mixed (by kernel_rfl) Tryd.ntmps53 Tryd.results53 rfl ⟨by simp, by simp⟩ (by simp) ?_
  simp only [toS, textOps, toSOp, kindAt, kindOf, odAt, sopsAt, ordOf, zipF]
  (repeat' (first | refine JC.seq ?_ | refine JC.ops ?_ | refine JO.nil ?_ | refine JX.thenN ?_ | (apply r_move; (iterate 3 exact rfl)) | (apply r_assign; (iterate 3 exact rfl))))
  refine r_call0 trivial rfl rfl rfl (fun w hk' hs => c_cmp w _ _ _ _ _ _ (hv.mono hk') (hu.mono hk') hx hy (by omega) (by omega)) fun w v w' _ _ _ hR => ?_
  subst hR
  by_cases hlt : val W32 xs < val W32 ys
  · have hneg := cmpV_neg.2 hlt
    (repeat' (first | refine JC.seq ?_ | refine JC.ops ?_ | refine JO.nil ?_ | refine JX.thenN ?_ | (apply r_move; (iterate 3 exact rfl)) | (apply r_assign; (iterate 3 exact rfl)) | (apply r_lss; (iterate 4 exact rfl); all_goals intro hc; all_goals try (exfalso; omega)) | refine JX.thenR ?_ | refine JC.ret ?_ | refine JC.condT rfl ?_))
    exact JX.ret2 rfl rfl (fun a w' st => ⟨st.kp, ⟨[], [], _, _, [], xs, rfl, New.nil _ _, OwnU.nil, .inr ⟨rfl, rfl, rfl⟩, Dig.nil _, hx, by simp [val], hlt⟩⟩)
  have hneg : ¬ cmpV (val W32 xs) (val W32 ys) < 0 := fun h => hlt (cmpV_neg.1 h)
  have hkn : k ≤ n := by
    refine Decidable.byContradiction fun h => hlt ?_
    exact len_cmp (by decide) hx hy (by omega)
  by_cases hk1 : k = 1
  · subst hk1
    have hd1 : ys.getD 0 0 < 4294967296 := mem_getD_lt (b := W32) (by decide) hy.lt 0
    have hvy := val_len1 (b := W32) hly
    rw [hvy] at h0
    (repeat' (first | refine JC.seq ?_ | refine JC.ops ?_ | refine JO.nil ?_ | refine JX.thenN ?_ | (apply r_move; (iterate 3 exact rfl)) | (apply r_idxU; (iterate 4 exact rfl); (first | assumption | exact WU.rd (by assumption) rfl [] | exact OwnU.rd (by assumption)); (first | assumption | omega)) | (apply r_ldU; (iterate 4 exact rfl); (first | assumption | exact WU.rd (by assumption) rfl [] | exact OwnU.rd (by assumption)); (repeat' first | exact HSub.nil _ | exact HSub.hd | exact HSub.in0 | exact HSub.refl _ | refine HSub.skip ?_ | refine HSub.skipN ?_); (first | assumption | omega)) | (apply r_lenU; (iterate 3 exact rfl); (first | assumption | exact WU.rd (by assumption) rfl [] | exact OwnU.rd (by assumption))) | (apply r_lss; (iterate 4 exact rfl); all_goals intro hc; all_goals try (exfalso; omega)) | (apply r_eql; (iterate 4 exact rfl); all_goals intro hc; all_goals try (exfalso; omega)) | refine JC.skip ?_ | refine JC.condT rfl ?_ | refine JC.condF rfl ?_))
    refine r_callA (A := []) rfl trivial rfl rfl rfl (fun w hk hs => c_small w _ _ _ _ (hv.mono hk) hx.lt h0 hd1 (by omega)) fun w v w' _ _ _ hR => ?_
    obtain ⟨v1, N1, zs, rfl, hN1, hO1, hz1, hval1⟩ := hR
    refine ⟨N1, hN1, ?_⟩
    (repeat' (first | refine JC.seq ?_ | refine JC.ops ?_ | refine JO.nil ?_ | refine JX.thenN ?_ | (apply r_move; (iterate 3 exact rfl)) | (apply r_assign; (iterate 3 exact rfl)) | (apply r_extract; (iterate 4 exact rfl)) | (apply r_build1; (iterate 5 exact rfl); (repeat first | exact trivial | refine ⟨rfl, ?_⟩); decide; decide; intro _)))
    rename_i b3
    have hO3 : OwnU [(b3, .cells ⟨[uv (val W32 xs % ys.getD 0 0)]⟩ 71)] (.slice (some ⟨b3, 0, none⟩) 1 1) 1 [val W32 xs % ys.getD 0 0] := own_litU b3 1 [val W32 xs % ys.getD 0 0] _ rfl rfl (by omega)
    refine r_call0 trivial rfl rfl rfl (fun w hk hs => c_norm w _ _ _ _ (hO3.rd.at hk hs (by (repeat' first | exact HSub.nil _ | exact HSub.hd | exact HSub.in0 | exact HSub.refl _ | refine HSub.skip ?_ | refine HSub.skipN ?_))) (by omega)) fun w v w' _ _ _ hR => ?_
    obtain ⟨k3, hk3, rfl, hn3⟩ := hR
    have hO3' := hO3.hd hk3
    rw [← hn3] at hO3'
    have hl3 : (nrm [val W32 xs % ys.getD 0 0]).length = k3 := hO3'.len
    have hmod := Nat.mod_lt (val W32 xs) h0
    (repeat' (first | refine JO.nil ?_ | refine JX.thenN ?_ | (apply r_assign; (iterate 3 exact rfl)) | refine JX.thenR ?_ | refine JC.ret ?_))
    refine JX.ret2 rfl rfl (fun a w' st => ⟨st.kp, ⟨N1, _, _, _, zs, nrm [val W32 xs % ys.getD 0 0], rfl, st.newOf (N := N1 ++ [(b3, .cells ⟨[uv (val W32 xs % ys.getD 0 0)]⟩ 71)]) rfl ?_, hO1, .inl (by rw [hl3]; exact hO3'), hz1, Dig.of fun x hx' => ?_, ?_, ?_⟩⟩)
    · refine ⟨[], ?_⟩
      simp only [List.append_nil, List.nil_append]
      exact List.perm_append_comm (l₁ := [_])
    · rw [List.mem_singleton] at hx'
      rw [hx']
      show _ < 4294967296
      omega
    · rw [hvy, val_nrm_one, hval1, Nat.mul_comm]
      exact (Nat.div_add_mod _ _).symm
    · rw [hvy, val_nrm_one]; exact hmod
  have hne : ys ≠ [] := fun e => by subst e; simp at hly; omega
  have htlt : ys.getD (k - 1) 0 < 4294967296 := mem_getD_lt (b := W32) (by decide) hy.lt (k - 1)
  have ht0 : 0 < ys.getD (k - 1) 0 := by
    refine Nat.pos_of_ne_zero fun e => ?_
    have h1 := val_ge (b := W32) (by decide) hy.nrm hne
    rw [hly] at h1
    have h2 := val_cut W32 ys (k - 1) (by omega)
    rw [val_drop (by omega), e, val_drop_nil (by omega)] at h2
    have h3 := val_take_lt hy.lt (k := k - 1) (by omega)
    simp only [Nat.mul_zero, Nat.add_zero] at h2
    omega
  (repeat' (first | refine JC.seq ?_ | refine JC.ops ?_ | refine JO.nil ?_ | refine JX.thenN ?_ | (apply r_move; (iterate 3 exact rfl)) | (apply r_assign; (iterate 3 exact rfl)) | (apply r_lenU; (iterate 3 exact rfl); (first | assumption | exact WU.rd (by assumption) rfl [] | exact OwnU.rd (by assumption))) | (apply r_lss; (iterate 4 exact rfl); all_goals intro hc; all_goals try (exfalso; omega)) | (apply r_eql; (iterate 4 exact rfl); all_goals intro hc; all_goals try (exfalso; omega)) | refine JC.skip ?_ | refine JC.condF rfl ?_ | refine JC.block ?_))
  refine JC.loopH (ι := Nat) ⟨fun s => [(8, nv s), (0, v), (1, u)], fun _ => [], fun s => s ≤ 31 ∧ ys.getD (k - 1) 0 * 2 ^ s < 4294967296, fun s => 32 - s⟩ 0 ⟨by omega, by simpa using htlt⟩ (by repeat first | exact trivial | refine ⟨rfl, ?_⟩) (by (first | exact HSub.refl _ | (repeat' first | exact HSub.nil _ | exact HSub.refl _ | refine HSub.at 0 rfl ?_ | refine HSub.at 1 rfl ?_ | refine HSub.at 2 rfl ?_ | refine HSub.at 3 rfl ?_ | refine HSub.at 4 rfl ?_ | refine HSub.at 5 rfl ?_ | refine HSub.at 6 rfl ?_ | refine HSub.at 7 rfl ?_))) (fun s hs => ?_)
  obtain ⟨hs31, hts⟩ := hs
  dsimp only at hs31 hts ⊢
  by_cases htop : ys.getD (k - 1) 0 * 2 ^ s / 2 ^ 31 = 0
  · have hsm : ys.getD (k - 1) 0 * 2 ^ s < 2147483648 := by
      have := (Nat.div_eq_zero_iff).1 htop
      omega
    have hs30 : s + 1 ≤ 31 := by
      refine Decidable.byContradiction fun h => ?_
      obtain rfl : s = 31 := by omega
      have := Nat.mul_le_mul_right (2 ^ 31) ht0
      omega
    (repeat' (first | refine JC.seq ?_ | refine JC.ops ?_ | (apply r_move; (iterate 3 exact rfl)) | (apply r_sub1; (iterate 4 exact rfl); omega) | (apply r_idxU; (iterate 4 exact rfl); (first | assumption | exact WU.rd (by assumption) rfl [] | exact OwnU.rd (by assumption)); (first | assumption | omega)) | (apply r_ldU; (iterate 4 exact rfl); (first | assumption | exact WU.rd (by assumption) rfl [] | exact OwnU.rd (by assumption)); (repeat' first | exact HSub.nil _ | exact HSub.hd | exact HSub.in0 | exact HSub.refl _ | refine HSub.skip ?_ | refine HSub.skipN ?_); (first | assumption | omega)) | (apply r_lenU; (iterate 3 exact rfl); (first | assumption | exact WU.rd (by assumption) rfl [] | exact OwnU.rd (by assumption))) | (apply r_shlU; (iterate 4 exact rfl); (first | assumption | omega))))
    rw [Nat.mod_eq_of_lt (show ys.getD (k - 1) 0 * 2 ^ s < 18446744073709551616 by omega)]
    refine r_shrU (j := 31) rfl rfl rfl rfl (by omega) ?_
    rw [htop]
    (repeat' (first | refine JC.ops ?_ | refine JO.nil ?_ | refine JX.thenN ?_ | (apply r_move; (iterate 3 exact rfl)) | (apply r_assign; (iterate 3 exact rfl)) | (apply r_add1; (iterate 4 exact rfl); omega) | (apply r_eql; (iterate 4 exact rfl); all_goals intro hc; all_goals try (exfalso; omega)) | refine JC.skip ?_ | refine JC.condT rfl ?_ | refine JC.block ?_ | refine JX.blockN ?_))
    exact JX.roundH (s + 1) ⟨hs30, by rw [Nat.pow_succ, ← Nat.mul_assoc]; omega⟩ (by dsimp only; omega) (by repeat first | exact trivial | refine ⟨rfl, ?_⟩) (by (first | exact HSub.refl _ | (repeat' first | exact HSub.nil _ | exact HSub.refl _ | refine HSub.at 0 rfl ?_ | refine HSub.at 1 rfl ?_ | refine HSub.at 2 rfl ?_ | refine HSub.at 3 rfl ?_ | refine HSub.at 4 rfl ?_ | refine HSub.at 5 rfl ?_ | refine HSub.at 6 rfl ?_ | refine HSub.at 7 rfl ?_)))
  (repeat' (first | refine JC.seq ?_ | refine JC.ops ?_ | (apply r_move; (iterate 3 exact rfl)) | (apply r_sub1; (iterate 4 exact rfl); omega) | (apply r_idxU; (iterate 4 exact rfl); (first | assumption | exact WU.rd (by assumption) rfl [] | exact OwnU.rd (by assumption)); (first | assumption | omega)) | (apply r_ldU; (iterate 4 exact rfl); (first | assumption | exact WU.rd (by assumption) rfl [] | exact OwnU.rd (by assumption)); (repeat' first | exact HSub.nil _ | exact HSub.hd | exact HSub.in0 | exact HSub.refl _ | refine HSub.skip ?_ | refine HSub.skipN ?_); (first | assumption | omega)) | (apply r_lenU; (iterate 3 exact rfl); (first | assumption | exact WU.rd (by assumption) rfl [] | exact OwnU.rd (by assumption))) | (apply r_shlU; (iterate 4 exact rfl); (first | assumption | omega))))
  rw [Nat.mod_eq_of_lt (show ys.getD (k - 1) 0 * 2 ^ s < 18446744073709551616 by omega)]
  refine r_shrU (j := 31) rfl rfl rfl rfl (by omega) ?_
  (repeat' (first | refine JC.seq ?_ | refine JC.ops ?_ | refine JO.nil ?_ | refine JX.thenN ?_ | (apply r_move; (iterate 3 exact rfl)) | (apply r_eql; (iterate 4 exact rfl); all_goals intro hc; all_goals try (exfalso; omega)) | refine JX.thenE ?_ | refine JC.exit ?_ | refine JC.condF rfl ?_ | refine JX.blockE ?_))
  refine r_callA (A := []) rfl trivial rfl rfl rfl (fun w hk hs => c_shift w _ _ _ _ (hv.mono hk) hx.lt hs31 (by omega)) fun w v w' _ _ _ hR => ?_
  obtain ⟨Nu, us0, hNu, hOu, hu0, hutop, hval0⟩ := hR
  obtain ⟨bu, capu, restu, rfl, rfl, hcu, hru, hmu⟩ := hOu.blk (by omega)
  refine ⟨_, hNu, ?_⟩
  (repeat' (first | (apply r_move; (iterate 3 exact rfl))))
  refine r_callA (A := [_]) rfl trivial rfl rfl rfl (fun w hk' hs => c_shift w _ _ _ _ (hu.mono hk') hy.lt hs31 (by omega)) fun w v w' _ _ _ hR => ?_
  obtain ⟨Nv, vs0, hNv, hOv, hv0, _, hvalv⟩ := hR
  obtain ⟨bv, capv, restv, rfl, rfl, hcv, hrv, hmv⟩ := hOv.blk (by omega)
  refine ⟨_, hNv, ?_⟩
  skip
  refine r_call0 trivial rfl rfl rfl (fun w hk hs => c_norm w _ _ _ _ (hOv.rd.at hk hs (by (repeat' first | exact HSub.nil _ | exact HSub.hd | exact HSub.in0 | exact HSub.refl _ | refine HSub.skip ?_ | refine HSub.skipN ?_))) (by omega)) fun w v w' _ _ _ hR => ?_
  obtain ⟨kv, hkv, rfl, hnv⟩ := hR
  have hOv1 := hOv.hd hkv
  rw [← hnv] at hOv1
  have hDv : Dig W32 (nrm vs0) := Dig.of hv0
  have hVv : val W32 (nrm vs0) = 2 ^ s * val W32 ys := by rw [val_nrm, hvalv]
  obtain ⟨hlv, hVge⟩ := shift_len hs31 hly hk0 hy hts hDv hVv
  obtain rfl : kv = k := by rw [← hlv]; exact hOv1.len.symm
  have hlu0 := hOu.len
  have hV0 : 0 < val W32 (nrm vs0) := by rw [hVv]; exact Nat.mul_pos (Nat.pow_pos (by decide)) h0
  have hbig := shift_top hu0 hlu0 (by omega) hkn hutop hVge
  generalize nrm vs0 = vs at hnv hOv1 hDv hVv hlv hVge hV0 hbig
  clear hvalv hnv
  (repeat' (first | refine JC.seq ?_ | refine JC.ops ?_ | refine JO.nil ?_ | refine JX.thenN ?_ | (apply r_move; (iterate 3 exact rfl)) | (apply r_assign; (iterate 3 exact rfl)) | (apply r_len; (iterate 3 exact rfl)) | (apply r_subN; (iterate 4 exact rfl); omega)))
  refine r_make (n := n + 1 - kv) rfl rfl rfl rfl rfl (by omega) (by omega) (fun bq => ?_)
  have hOq := own_zerosU bq (n + 1 - kv) (by simp only [maxLen]; omega)
  have htv : vs.getD (kv - 1) 0 < 4294967296 := mem_getD_lt (b := W32) (by decide) hDv.lt (kv - 1)
  have hsv : vs.getD (kv - 2) 0 < 4294967296 := mem_getD_lt (b := W32) (by decide) hDv.lt (kv - 2)
  have htv0 : 0 < vs.getD (kv - 1) 0 := by
    refine Nat.pos_of_ne_zero fun e => ?_
    have h2 := val_cut W32 vs (kv - 1) (by omega)
    rw [val_drop (by omega), e, val_drop_nil (by omega)] at h2
    have h3 := val_take_lt hDv.lt (k := kv - 1) (by omega)
    simp only [Nat.mul_zero, Nat.add_zero] at h2
    have := Nat.le_mul_of_pos_left (W32 ^ (kv - 1)) (Nat.pow_pos (n := s) (show 0 < 2 by decide))
    have hVge' : 2 ^ s * W32 ^ (kv - 1) ≤ val W32 vs := hVge
    omega
  (repeat' (first | refine JC.seq ?_ | refine JC.ops ?_ | refine JC.opsD ?_ | refine JO.nil ?_ | refine JX.thenN ?_ | (apply r_move; (iterate 3 exact rfl)) | (apply r_assign; (iterate 3 exact rfl)) | (apply r_len; (iterate 3 exact rfl)) | (apply r_sub1; (iterate 4 exact rfl); omega) | (apply r_sub2; (iterate 4 exact rfl); omega) | (apply r_idxU; (iterate 4 exact rfl); (first | assumption | exact WU.rd (by assumption) rfl [] | exact OwnU.rd (by assumption)); (first | assumption | omega)) | (apply r_ldU; (iterate 4 exact rfl); (first | assumption | exact WU.rd (by assumption) rfl [] | exact OwnU.rd (by assumption)); (repeat' first | exact HSub.nil _ | exact HSub.hd | exact HSub.in0 | exact HSub.refl _ | refine HSub.skip ?_ | refine HSub.skipN ?_); (first | assumption | omega)) | refine JC.block ?_))
  rw [show (Value.int IntKind.i64 ((n + 1 - kv - 1 : Nat) : Int)) = iv (((n + 1 - kv : Nat) : Int) - 1) from by congr 1; omega]
  have hvs : vs.length = kv := hlv
  refine JC.loopH (ι := Nat × List Nat × SHeap × List Nat) ⟨fun z => [(14, iv ((z.1 : Int) - 1)), (13, uv (vs.getD (kv - 2) 0)), (12, uv (vs.getD (kv - 1) 0)), (11, .slice (some ⟨bq, 0, none⟩) (n + 1 - kv) (n + 1 - kv)), (10, .slice (some ⟨bv, 0, none⟩) kv capv), (9, .slice (some ⟨bu, 0, none⟩) (n + 1) capu), (8, nv s)],
    fun z => (bu, .cells (rowCU z.2.1 restu) 71 (0, 0)) :: (bv, .cells (rowCU vs0 restv) 71 (0, 0)) :: (z.2.2.1 ++ []),
    fun z => z.1 ≤ n + 1 - kv ∧ z.2.1.length = n + 1 ∧ (∀ x ∈ z.2.1, x < W32) ∧ OwnU z.2.2.1 (.slice (some ⟨bq, 0, none⟩) (n + 1 - kv) (n + 1 - kv)) (n + 1 - kv) z.2.2.2 ∧ (∀ x ∈ z.2.2.2, x < W32) ∧ val W32 (z.2.1.drop z.1) < val W32 vs ∧ val W32 z.2.1 + val W32 vs * (W32 ^ z.1 * val W32 (z.2.2.2.drop z.1)) = 2 ^ s * val W32 xs, fun z => z.1⟩
    (n + 1 - kv, us0, _, _) ⟨Nat.le_refl _, hlu0, hu0, hOq, fun x hx => by obtain ⟨a, _, rfl⟩ := List.mem_map.1 hx; decide, hbig, by
      show val W32 us0 + val W32 vs * (W32 ^ (n + 1 - kv) * val W32 ((tab (n + 1 - kv) fun _ => 0).drop (n + 1 - kv))) = _
      rw [val_drop_nil (by simp [tab]), Nat.mul_zero, Nat.mul_zero, Nat.add_zero, hval0]⟩ (by repeat first | exact trivial | refine ⟨rfl, ?_⟩) (by exact HSub.at 1 rfl (HSub.at 1 rfl (HSub.at 0 rfl (HSub.nil _)))) (fun z hz => ?_)
  clear hOu hOq hlu0 hu0 hutop hval0 hbig hNu
  obtain ⟨j, us, Nq, qs⟩ := z
  obtain ⟨hj, hlu, hu0, hOq, hqs, hdr, hval⟩ := hz
  dsimp only at hj hlu hu0 hOq hqs hdr hval ⊢
  have hOu : OwnU [(bu, .cells (rowCU us restu) 71 (0, 0))] (.slice (some ⟨bu, 0, none⟩) (n + 1) capu) (n + 1) us := OwnU.ofNamed hlu hcu hru hmu
  have hlq := hOq.len
  rcases j with _ | i
  · (repeat' (first | refine JC.seq ?_ | refine JC.ops ?_ | refine JO.nil ?_ | refine JX.thenN ?_ | (apply r_move; (iterate 3 exact rfl)) | (apply r_geq; (iterate 4 exact rfl); all_goals intro hc; all_goals try (exfalso; omega)) | refine JX.thenE ?_ | refine JC.exit ?_ | refine JC.condF rfl ?_ | refine JX.blockE ?_))
    refine r_call0 trivial rfl rfl rfl (fun w hk hs => c_norm w _ _ _ _ (hOq.rd.at hk hs (by (repeat' first | exact HSub.nil _ | exact HSub.hd | exact HSub.in0 | exact HSub.refl _ | refine HSub.skip ?_ | refine HSub.skipN ?_))) (by omega)) fun w v w' _ _ _ hR => ?_
    obtain ⟨kq, hkq, rfl, hnq⟩ := hR
    have hOq' := hOq.hd hkq
    rw [← hnq] at hOq'
    have hql : (nrm qs).length = kq := hOq'.len
    (repeat' (first | (apply r_move; (iterate 3 exact rfl))))
    refine r_call0 trivial rfl rfl rfl (fun w hk hs => c_norm w _ _ _ _ (hOu.rd.at hk hs (by (repeat' first | exact HSub.nil _ | exact HSub.hd | exact HSub.in0 | exact HSub.refl _ | refine HSub.skip ?_ | refine HSub.skipN ?_))) (by omega)) fun w v w' _ _ _ hR => ?_
    obtain ⟨ku, hku, rfl, hnu⟩ := hR
    have hOu' := hOu.hd hku
    rw [← hnu] at hOu'
    have hDu : Dig W32 (nrm us) := Dig.of hu0
    (repeat' (first | (apply r_move; (iterate 3 exact rfl))))
    refine r_callA (A := [_, _]) rfl trivial rfl rfl rfl (fun w hk hs => c_unshift w _ _ _ _ (hOu'.rd.at hk hs (by (repeat' first | exact HSub.nil _ | exact HSub.hd | exact HSub.in0 | exact HSub.refl _ | refine HSub.skip ?_ | refine HSub.skipN ?_))) hDu.lt hs31 (by omega)) fun w v w' _ _ _ hR => ?_
    obtain ⟨Nr, rs, hNr, hOr, hr, hvr⟩ := hR
    refine ⟨Nr, hNr, ?_⟩
    rw [val_nrm] at hvr
    simp only [List.drop_zero, Nat.pow_zero, Nat.one_mul] at hdr hval
    rw [hVv] at hval hdr
    have hfin := div_final (Nat.pow_pos (by decide)) hval hdr
    (repeat' (first | refine JO.nil ?_ | refine JX.thenN ?_ | (apply r_assign; (iterate 3 exact rfl)) | refine JC.ret ?_))
    exact JX.ret2 rfl rfl (fun a w' st => ⟨st.kp, ⟨Nq, Nr, _, _, nrm qs, rs, rfl, st.newOf rfl (by
      refine HSub.trans ?_ (HSub.skip (HSub.skip (HSub.refl _)))
      exact ⟨[], by simpa using List.perm_append_comm⟩), by rw [hql]; exact hOq', .inl hOr, Dig.of hqs, hr, by rw [val_nrm, hvr]; exact hfin.1, by rw [hvr]; exact hfin.2⟩⟩)
  have hiv : iv (((i + 1 : Nat) : Int) - 1) = nv i := by
    show iv _ = iv _
    congr 1
    omega
  rw [hiv]
  have hst := kn_step (W := W32) hu0 hDv.lt hlv (by omega) (show i + kv < us.length by omega) hdr
  have ha : us.getD (i + kv) 0 < 4294967296 := mem_getD_lt (b := W32) (by decide) hu0 _
  have hb : us.getD (i + kv - 1) 0 < 4294967296 := mem_getD_lt (b := W32) (by decide) hu0 _
  have hcc : us.getD (i + kv - 2) 0 < 4294967296 := mem_getD_lt (b := W32) (by decide) hu0 _
  (repeat' (first | refine JC.seq ?_ | refine JC.ops ?_ | refine JC.opsD ?_ | refine JO.nil ?_ | refine JX.thenN ?_ | (apply r_move; (iterate 3 exact rfl)) | (apply r_assign; (iterate 3 exact rfl)) | (apply r_len; (iterate 3 exact rfl)) | (apply r_addN; (iterate 4 exact rfl); omega) | (apply r_sub1; (iterate 4 exact rfl); omega) | (apply r_shl32; (iterate 4 exact rfl); (first | assumption | omega)) | (apply r_or32; (iterate 4 exact rfl); (first | assumption | omega | exact ⟨by assumption, by assumption⟩)) | (apply r_idxU; (iterate 4 exact rfl); (first | assumption | exact WU.rd (by assumption) rfl [] | exact OwnU.rd (by assumption)); (first | assumption | omega)) | (apply r_ldU; (iterate 4 exact rfl); (first | assumption | exact WU.rd (by assumption) rfl [] | exact OwnU.rd (by assumption)); (repeat' first | exact HSub.nil _ | exact HSub.hd | exact HSub.in0 | exact HSub.refl _ | refine HSub.skip ?_ | refine HSub.skipN ?_); (first | assumption | omega)) | (apply r_quoU; (iterate 4 exact rfl); (first | assumption | omega)) | (apply r_remU; (iterate 4 exact rfl); (first | assumption | omega)) | (apply r_geq; (iterate 4 exact rfl); all_goals intro hc; all_goals try (exfalso; omega)) | refine JC.skip ?_ | refine JC.condT rfl ?_ | refine JC.block ?_))
  obtain ⟨hUlt, ⟨lv, hlv1, hVeq⟩, ⟨lu, hlu1, hUeq⟩, hhead, htail⟩ := hst
  have hq0 := kn_start htv0 hVeq hUeq hcc hlu1
  refine JC.loopH (ι := Nat × Nat) ⟨fun y => [(17, uv y.1), (18, uv y.2), (15, nv (i + kv)), (14, nv i), (13, uv (vs.getD (kv - 2) 0)), (12, uv (vs.getD (kv - 1) 0)), (11, .slice (some ⟨bq, 0, none⟩) (n + 1 - kv) (n + 1 - kv)), (10, .slice (some ⟨bv, 0, none⟩) kv capv), (9, .slice (some ⟨bu, 0, none⟩) (n + 1) capu), (8, nv s)],
    fun _ => (bu, .cells (rowCU us restu) 71 (0, 0)) :: (bv, .cells (rowCU vs0 restv) 71 (0, 0)) :: (Nq ++ []),
    fun y => us.getD (i + kv) 0 * 4294967296 + us.getD (i + kv - 1) 0 = y.1 * vs.getD (kv - 1) 0 + y.2 ∧ val W32 (us.drop i) / val W32 vs ≤ y.1, fun y => y.1⟩
    ((us.getD (i + kv) 0 * 4294967296 + us.getD (i + kv - 1) 0) / vs.getD (kv - 1) 0, (us.getD (i + kv) 0 * 4294967296 + us.getD (i + kv - 1) 0) % vs.getD (kv - 1) 0) ⟨by dsimp only; rw [Nat.mul_comm _ (vs.getD (kv - 1) 0)]; exact (Nat.div_add_mod _ _).symm, hq0⟩ (by repeat first | exact trivial | refine ⟨rfl, ?_⟩) (by (first | exact HSub.refl _ | (repeat' first | exact HSub.nil _ | exact HSub.refl _ | refine HSub.at 0 rfl ?_ | refine HSub.at 1 rfl ?_ | refine HSub.at 2 rfl ?_ | refine HSub.at 3 rfl ?_ | refine HSub.at 4 rfl ?_ | refine HSub.at 5 rfl ?_ | refine HSub.at 6 rfl ?_ | refine HSub.at 7 rfl ?_))) (fun y hyy => ?_)
  obtain ⟨G, R⟩ := y
  obtain ⟨hGR, hqG⟩ := hyy
  dsimp only at hGR hqG ⊢
  have hGle : G ≤ G * vs.getD (kv - 1) 0 := Nat.le_mul_of_pos_right _ htv0
  have hqW : val W32 (us.drop i) / val W32 vs < 4294967296 := Nat.div_lt_of_lt_mul hUlt
  have hdecr : ∀ g r, g * vs.getD (kv - 1) 0 + r = G * vs.getD (kv - 1) 0 + R → g + 1 = G → r = R + vs.getD (kv - 1) 0 := by
    intro g r h1 h2
    rw [← h2, Nat.add_mul, Nat.one_mul] at h1
    omega
  have hround : 1 ≤ G → us.getD (i + kv) 0 * 4294967296 + us.getD (i + kv - 1) 0 = (G - 1) * vs.getD (kv - 1) 0 + (R + vs.getD (kv - 1) 0) := by
    intro h1
    have : G * vs.getD (kv - 1) 0 = (G - 1) * vs.getD (kv - 1) 0 + vs.getD (kv - 1) 0 := by
      conv => lhs; rw [show G = G - 1 + 1 by omega, Nat.add_mul, Nat.one_mul]
    omega
  by_cases hg : 4294967295 < G
  · (repeat' (first | refine JC.seq ?_ | refine JC.ops ?_ | refine JO.nil ?_ | refine JX.thenN ?_ | (apply r_move; (iterate 3 exact rfl)) | (apply r_assign; (iterate 3 exact rfl)) | (apply r_pickT; (iterate 4 exact rfl)) | (apply r_addU; (iterate 4 exact rfl); (first | assumption | omega)) | (apply r_decU; (iterate 4 exact rfl); (first | assumption | omega)) | (apply r_gtr; (iterate 4 exact rfl); all_goals intro hc; all_goals try (exfalso; omega)) | refine JC.skip ?_ | refine JC.condT rfl ?_ | refine JC.block ?_ | refine JX.blockN ?_ | (apply r_skip; exact rfl; exact rfl; (first | (intro h; cases h; done) | (intro _; rfl)))))
    exact JX.roundH (G - 1, R + vs.getD (kv - 1) 0) ⟨hround (by omega), by dsimp only; omega⟩ (by dsimp only; omega) (by repeat first | exact trivial | refine ⟨rfl, ?_⟩) (by (first | exact HSub.refl _ | (repeat' first | exact HSub.nil _ | exact HSub.refl _ | refine HSub.at 0 rfl ?_ | refine HSub.at 1 rfl ?_ | refine HSub.at 2 rfl ?_ | refine HSub.at 3 rfl ?_ | refine HSub.at 4 rfl ?_ | refine HSub.at 5 rfl ?_ | refine HSub.at 6 rfl ?_ | refine HSub.at 7 rfl ?_)))
  have hgs := mul_bound (show G < 4294967296 by omega) hsv
  have hout : G * (vs.getD (kv - 1) 0 * W32 + vs.getD (kv - 2) 0) ≤ (us.getD (i + kv) 0 * W32 + us.getD (i + kv - 1) 0) * W32 + us.getD (i + kv - 2) 0 ∨ (R ≤ 4294967295 ∧ R * 4294967296 + us.getD (i + kv - 2) 0 < G * vs.getD (kv - 2) 0) := by
    by_cases h : R ≤ 4294967295 ∧ R * 4294967296 + us.getD (i + kv - 2) 0 < G * vs.getD (kv - 2) 0
    · exact .inr h
    · refine .inl (kn_out hGR (by show G < 4294967296; omega) hsv ?_)
      show 4294967296 ≤ R ∨ G * vs.getD (kv - 2) 0 ≤ R * 4294967296 + us.getD (i + kv - 2) 0
      omega
  by_cases hdec : R ≤ 4294967295 ∧ R * 4294967296 + us.getD (i + kv - 2) 0 < G * vs.getD (kv - 2) 0
  · obtain ⟨hR1, hR2⟩ := hdec
    have hG1 : 1 ≤ G := by
      rcases Nat.eq_zero_or_pos G with h | h
      · subst h; rw [Nat.zero_mul] at hR2; omega
      · exact h
    have hqlt : val W32 (us.drop i) / val W32 vs < G := by
      refine kn_dec (V2 := vs.getD (kv - 1) 0 * 4294967296 + vs.getD (kv - 2) 0) (U3 := (us.getD (i + kv) 0 * 4294967296 + us.getD (i + kv - 1) 0) * 4294967296 + us.getD (i + kv - 2) 0) hVeq hUeq hlu1 ?_
      rw [hGR, Nat.mul_add, Nat.add_mul, Nat.mul_assoc G]
      omega
    (repeat' (first | refine JC.seq ?_ | refine JC.ops ?_ | refine JO.nil ?_ | refine JX.thenN ?_ | (apply r_move; (iterate 3 exact rfl)) | (apply r_assign; (iterate 3 exact rfl)) | (apply r_sub2; (iterate 4 exact rfl); omega) | (apply r_pickT; (iterate 4 exact rfl)) | (apply r_pickF; (iterate 4 exact rfl)) | (apply r_shl32; (iterate 4 exact rfl); (first | assumption | omega)) | (apply r_or32; (iterate 4 exact rfl); (first | assumption | omega | exact ⟨by assumption, by assumption⟩)) | (apply r_idxU; (iterate 4 exact rfl); (first | assumption | exact WU.rd (by assumption) rfl [] | exact OwnU.rd (by assumption)); (first | assumption | omega)) | (apply r_ldU; (iterate 4 exact rfl); (first | assumption | exact WU.rd (by assumption) rfl [] | exact OwnU.rd (by assumption)); (repeat' first | exact HSub.nil _ | exact HSub.hd | exact HSub.in0 | exact HSub.refl _ | refine HSub.skip ?_ | refine HSub.skipN ?_); (first | assumption | omega)) | (apply r_addU; (iterate 4 exact rfl); (first | assumption | omega)) | (apply r_mulU; (iterate 4 exact rfl); (first | assumption | omega)) | (apply r_decU; (iterate 4 exact rfl); (first | assumption | omega)) | (apply r_leq; (iterate 4 exact rfl); all_goals intro hc; all_goals try (exfalso; omega)) | (apply r_gtr; (iterate 4 exact rfl); all_goals intro hc; all_goals try (exfalso; omega)) | refine JC.skip ?_ | refine JC.condT rfl ?_ | refine JC.block ?_ | refine JX.blockN ?_))
    exact JX.roundH (G - 1, R + vs.getD (kv - 1) 0) ⟨hround hG1, by dsimp only; omega⟩ (by dsimp only; omega) (by repeat first | exact trivial | refine ⟨rfl, ?_⟩) (by (first | exact HSub.refl _ | (repeat' first | exact HSub.nil _ | exact HSub.refl _ | refine HSub.at 0 rfl ?_ | refine HSub.at 1 rfl ?_ | refine HSub.at 2 rfl ?_ | refine HSub.at 3 rfl ?_ | refine HSub.at 4 rfl ?_ | refine HSub.at 5 rfl ?_ | refine HSub.at 6 rfl ?_ | refine HSub.at 7 rfl ?_)))
  have hout1 := hout.resolve_right hdec
  have hV2 : 4294967296 ≤ vs.getD (kv - 1) 0 * W32 + vs.getD (kv - 2) 0 := by
    have h1 : 1 * 4294967296 ≤ vs.getD (kv - 1) 0 * 4294967296 := Nat.mul_le_mul_right _ htv0
    exact Nat.le_trans (by omega) (Nat.le_add_right _ _)
  have hGq := kn_end (g := G) hVeq hlv1 (Nat.lt_of_lt_of_le (by decide) hV2) hUeq hout1 (Nat.le_trans (by omega) (Nat.le_succ_of_le hV2))
  by_cases hRm : R ≤ 4294967295
  · have hR2 : ¬ R * 4294967296 + us.getD (i + kv - 2) 0 < G * vs.getD (kv - 2) 0 := fun h => hdec ⟨hRm, h⟩
    (repeat' (first | refine JC.seq ?_ | refine JC.ops ?_ | refine JO.nil ?_ | refine JX.thenN ?_ | (apply r_move; (iterate 3 exact rfl)) | (apply r_sub2; (iterate 4 exact rfl); omega) | (apply r_pickT; (iterate 4 exact rfl)) | (apply r_pickF; (iterate 4 exact rfl)) | (apply r_shl32; (iterate 4 exact rfl); (first | assumption | omega)) | (apply r_or32; (iterate 4 exact rfl); (first | assumption | omega | exact ⟨by assumption, by assumption⟩)) | (apply r_idxU; (iterate 4 exact rfl); (first | assumption | exact WU.rd (by assumption) rfl [] | exact OwnU.rd (by assumption)); (first | assumption | omega)) | (apply r_ldU; (iterate 4 exact rfl); (first | assumption | exact WU.rd (by assumption) rfl [] | exact OwnU.rd (by assumption)); (repeat' first | exact HSub.nil _ | exact HSub.hd | exact HSub.in0 | exact HSub.refl _ | refine HSub.skip ?_ | refine HSub.skipN ?_); (first | assumption | omega)) | (apply r_mulU; (iterate 4 exact rfl); (first | assumption | omega)) | (apply r_leq; (iterate 4 exact rfl); all_goals intro hc; all_goals try (exfalso; omega)) | (apply r_gtr; (iterate 4 exact rfl); all_goals intro hc; all_goals try (exfalso; omega)) | refine JX.thenE ?_ | refine JC.exit ?_ | refine JC.condF rfl ?_ | refine JX.blockE ?_))
    refine r_tail (o' := i) rfl rfl rfl rfl (Nat.zero_add _) (by omega) (by omega) ?_
    (repeat' (first | (apply r_move; (iterate 3 exact rfl))))
    refine r_call0 trivial rfl rfl rfl (fun w hk hs => by
      have hw := WU.ofBlk (o := i) (k := n + 1 - i) (cc := capu - i) (hs_at hs 0 rfl) (by omega) (by omega)
      rw [List.take_of_length_le (by simp; omega)] at hw
      exact c_less w bu i (n + 1 - i) (capu - i) kv G (us.drop i) vs _ hw (hOv1.rd.at hk hs (by (repeat' first | exact HSub.nil _ | exact HSub.hd | exact HSub.in0 | exact HSub.refl _ | refine HSub.skip ?_ | refine HSub.skipN ?_))) (by omega) (fun x hx => hu0 x (List.mem_of_mem_drop hx)) hDv.lt (by omega) (by omega)) fun w v w' _ _ _ hR => ?_
    subst hR
    rw [hhead]
    by_cases hl : val W32 (us.drop i) < val W32 vs * G
    · rw [decide_eq_true hl]
      have hD : G - 1 = val W32 (us.drop i) / val W32 vs := by
        have h1 := Nat.div_lt_of_lt_mul hl
        generalize val W32 (us.drop i) / val W32 vs = q at *
        omega
      have hG1 : 1 ≤ G := by
        have h1 := Nat.div_lt_of_lt_mul hl
        generalize val W32 (us.drop i) / val W32 vs = q at *
        omega
      have hDlt : G - 1 < 4294967296 := by omega
      (repeat' (first | refine JC.seq ?_ | refine JC.ops ?_ | refine JO.nil ?_ | refine JX.thenN ?_ | (apply r_move; (iterate 3 exact rfl)) | (apply r_assign; (iterate 3 exact rfl)) | (apply r_decU; (iterate 4 exact rfl); (first | assumption | omega)) | refine JC.condT rfl ?_))
      refine r_tail (o' := i) rfl rfl rfl rfl (Nat.zero_add _) (by omega) (by omega) ?_
      (repeat' (first | (apply r_move; (iterate 3 exact rfl))))
      refine r_callO (A := []) (N := [_]) (B := (bv, .cells (rowCU vs0 restv) 71 (0, 0)) :: (Nq ++ [])) rfl trivial rfl rfl rfl (fun w hk hs => by
        have c := c_take w bu i capu kv (G - 1) capv us vs _ restu (hs_at hs 0 rfl) (by omega) (hOv1.rd.at hk hs (by (repeat' first | exact HSub.nil _ | exact HSub.hd | exact HSub.in0 | exact HSub.refl _ | refine HSub.skip ?_ | refine HSub.skipN ?_))) (fun _ => by simpa using (hs_ne hs 1 0 rfl rfl (by decide))) (by omega) hu0 hDv.lt hDlt (by omega) (by rw [hhead, hD]; exact Nat.mul_div_le _ _) (by omega)
        rw [hlu] at c
        exact c) fun w v w' _ _ _ hR => ?_
      obtain ⟨zs, hzl, hz, hvz, hbl⟩ := hR
      refine ⟨[(bu, .cells (rowCU (put i (kv + 1) zs us) restu) 71 (0, 0))], rfl, fun p hp => by cases List.mem_singleton.1 hp; exact hbl, ?_⟩
      (repeat' (first | refine JC.ops ?_ | refine JO.nil ?_ | refine JX.thenN ?_ | (apply r_move; (iterate 3 exact rfl)) | (apply r_idxU; (iterate 4 exact rfl); (first | assumption | exact WU.rd (by assumption) rfl [] | exact OwnU.rd (by assumption)); (first | assumption | omega))))
      refine r_stU (A := [_, _]) hOq rfl rfl trivial rfl rfl (by omega) (fun Nq' hOq' => ?_)
      (repeat' (first | refine JC.ops ?_ | refine JO.nil ?_ | refine JX.thenN ?_ | (apply r_move; (iterate 3 exact rfl)) | (apply r_assign; (iterate 3 exact rfl)) | (apply r_sub; (iterate 4 exact rfl); omega) | refine JX.blockN ?_))
      have hput := val_put (b := W32) (zs := zs) (show i + (kv + 1) ≤ us.length by omega) htail
      rw [hhead] at hvz
      refine JX.roundH (i, put i (kv + 1) zs us, Nq', _) ⟨by dsimp only; omega, by dsimp only; rw [put_len (by omega) hzl]; exact hlu, put_lt (by decide) hu0 hz.lt, hOq', set_lt hqs hDlt, ?_, ?_⟩ (by dsimp only; omega) (by repeat first | exact trivial | refine ⟨rfl, ?_⟩) (by (first | exact HSub.refl _ | (repeat' first | exact HSub.nil _ | exact HSub.refl _ | refine HSub.at 0 rfl ?_ | refine HSub.at 1 rfl ?_ | refine HSub.at 2 rfl ?_ | refine HSub.at 3 rfl ?_ | refine HSub.at 4 rfl ?_ | refine HSub.at 5 rfl ?_ | refine HSub.at 6 rfl ?_ | refine HSub.at 7 rfl ?_)))
      · dsimp only
        rw [hput]
        rw [hD] at hvz
        have hm := Nat.mod_lt (val W32 (us.drop i)) hV0
        have hdm := Nat.div_add_mod (val W32 (us.drop i)) (val W32 vs)
        omega
      · dsimp only
        have e1 := val_cut W32 (put i (kv + 1) zs us) i (by rw [put_len (by omega) hzl]; omega)
        rw [put_take (by omega), hput] at e1
        rw [e1, val_drop (l := qs.set i _) (by simp; omega), getD_set_self (by omega), drop_set]
        have e2 := val_cut W32 us i (by omega)
        rw [e2, Nat.pow_succ] at hval
        exact kn_inv hvz.symm hval
    · rw [decide_eq_false hl]
      have hD : G = val W32 (us.drop i) / val W32 vs := by
        have h1 : G ≤ val W32 (us.drop i) / val W32 vs := (Nat.le_div_iff_mul_le hV0).2 (by rw [Nat.mul_comm]; omega)
        exact Nat.le_antisymm h1 hqG
      have hDlt : G < 4294967296 := by omega
      (repeat' (first | refine JC.seq ?_ | refine JC.ops ?_ | refine JO.nil ?_ | refine JX.thenN ?_ | (apply r_move; (iterate 3 exact rfl)) | refine JC.skip ?_ | refine JC.condF rfl ?_))
      refine r_tail (o' := i) rfl rfl rfl rfl (Nat.zero_add _) (by omega) (by omega) ?_
      (repeat' (first | (apply r_move; (iterate 3 exact rfl))))
      refine r_callO (A := []) (N := [_]) (B := (bv, .cells (rowCU vs0 restv) 71 (0, 0)) :: (Nq ++ [])) rfl trivial rfl rfl rfl (fun w hk hs => by
        have c := c_take w bu i capu kv (G) capv us vs _ restu (hs_at hs 0 rfl) (by omega) (hOv1.rd.at hk hs (by (repeat' first | exact HSub.nil _ | exact HSub.hd | exact HSub.in0 | exact HSub.refl _ | refine HSub.skip ?_ | refine HSub.skipN ?_))) (fun _ => by simpa using (hs_ne hs 1 0 rfl rfl (by decide))) (by omega) hu0 hDv.lt hDlt (by omega) (by rw [hhead, hD]; exact Nat.mul_div_le _ _) (by omega)
        rw [hlu] at c
        exact c) fun w v w' _ _ _ hR => ?_
      obtain ⟨zs, hzl, hz, hvz, hbl⟩ := hR
      refine ⟨[(bu, .cells (rowCU (put i (kv + 1) zs us) restu) 71 (0, 0))], rfl, fun p hp => by cases List.mem_singleton.1 hp; exact hbl, ?_⟩
      (repeat' (first | refine JC.ops ?_ | refine JO.nil ?_ | refine JX.thenN ?_ | (apply r_move; (iterate 3 exact rfl)) | (apply r_idxU; (iterate 4 exact rfl); (first | assumption | exact WU.rd (by assumption) rfl [] | exact OwnU.rd (by assumption)); (first | assumption | omega))))
      refine r_stU (A := [_, _]) hOq rfl rfl trivial rfl rfl (by omega) (fun Nq' hOq' => ?_)
      (repeat' (first | refine JC.ops ?_ | refine JO.nil ?_ | refine JX.thenN ?_ | (apply r_move; (iterate 3 exact rfl)) | (apply r_assign; (iterate 3 exact rfl)) | (apply r_sub; (iterate 4 exact rfl); omega) | refine JX.blockN ?_))
      have hput := val_put (b := W32) (zs := zs) (show i + (kv + 1) ≤ us.length by omega) htail
      rw [hhead] at hvz
      refine JX.roundH (i, put i (kv + 1) zs us, Nq', _) ⟨by dsimp only; omega, by dsimp only; rw [put_len (by omega) hzl]; exact hlu, put_lt (by decide) hu0 hz.lt, hOq', set_lt hqs hDlt, ?_, ?_⟩ (by dsimp only; omega) (by repeat first | exact trivial | refine ⟨rfl, ?_⟩) (by (first | exact HSub.refl _ | (repeat' first | exact HSub.nil _ | exact HSub.refl _ | refine HSub.at 0 rfl ?_ | refine HSub.at 1 rfl ?_ | refine HSub.at 2 rfl ?_ | refine HSub.at 3 rfl ?_ | refine HSub.at 4 rfl ?_ | refine HSub.at 5 rfl ?_ | refine HSub.at 6 rfl ?_ | refine HSub.at 7 rfl ?_)))
      · dsimp only
        rw [hput]
        rw [hD] at hvz
        have hm := Nat.mod_lt (val W32 (us.drop i)) hV0
        have hdm := Nat.div_add_mod (val W32 (us.drop i)) (val W32 vs)
        omega
      · dsimp only
        have e1 := val_cut W32 (put i (kv + 1) zs us) i (by rw [put_len (by omega) hzl]; omega)
        rw [put_take (by omega), hput] at e1
        rw [e1, val_drop (l := qs.set i _) (by simp; omega), getD_set_self (by omega), drop_set]
        have e2 := val_cut W32 us i (by omega)
        rw [e2, Nat.pow_succ] at hval
        exact kn_inv hvz.symm hval
  · (repeat' (first | refine JC.seq ?_ | refine JC.ops ?_ | refine JO.nil ?_ | refine JX.thenN ?_ | (apply r_move; (iterate 3 exact rfl)) | (apply r_pickF; (iterate 4 exact rfl)) | (apply r_leq; (iterate 4 exact rfl); all_goals intro hc; all_goals try (exfalso; omega)) | (apply r_gtr; (iterate 4 exact rfl); all_goals intro hc; all_goals try (exfalso; omega)) | refine JX.thenE ?_ | refine JC.exit ?_ | refine JC.condF rfl ?_ | refine JX.blockE ?_ | (apply r_skip; exact rfl; exact rfl; (first | (intro h; cases h; done) | (intro _; rfl)))))
    refine r_tail (o' := i) rfl rfl rfl rfl (Nat.zero_add _) (by omega) (by omega) ?_
    (repeat' (first | (apply r_move; (iterate 3 exact rfl))))
    refine r_call0 trivial rfl rfl rfl (fun w hk hs => by
      have hw := WU.ofBlk (o := i) (k := n + 1 - i) (cc := capu - i) (hs_at hs 0 rfl) (by omega) (by omega)
      rw [List.take_of_length_le (by simp; omega)] at hw
      exact c_less w bu i (n + 1 - i) (capu - i) kv G (us.drop i) vs _ hw (hOv1.rd.at hk hs (by (repeat' first | exact HSub.nil _ | exact HSub.hd | exact HSub.in0 | exact HSub.refl _ | refine HSub.skip ?_ | refine HSub.skipN ?_))) (by omega) (fun x hx => hu0 x (List.mem_of_mem_drop hx)) hDv.lt (by omega) (by omega)) fun w v w' _ _ _ hR => ?_
    subst hR
    rw [hhead]
    by_cases hl : val W32 (us.drop i) < val W32 vs * G
    · rw [decide_eq_true hl]
      have hD : G - 1 = val W32 (us.drop i) / val W32 vs := by
        have h1 := Nat.div_lt_of_lt_mul hl
        generalize val W32 (us.drop i) / val W32 vs = q at *
        omega
      have hG1 : 1 ≤ G := by
        have h1 := Nat.div_lt_of_lt_mul hl
        generalize val W32 (us.drop i) / val W32 vs = q at *
        omega
      have hDlt : G - 1 < 4294967296 := by omega
      (repeat' (first | refine JC.seq ?_ | refine JC.ops ?_ | refine JO.nil ?_ | refine JX.thenN ?_ | (apply r_move; (iterate 3 exact rfl)) | (apply r_assign; (iterate 3 exact rfl)) | (apply r_decU; (iterate 4 exact rfl); (first | assumption | omega)) | refine JC.condT rfl ?_))
      refine r_tail (o' := i) rfl rfl rfl rfl (Nat.zero_add _) (by omega) (by omega) ?_
      (repeat' (first | (apply r_move; (iterate 3 exact rfl))))
      refine r_callO (A := []) (N := [_]) (B := (bv, .cells (rowCU vs0 restv) 71 (0, 0)) :: (Nq ++ [])) rfl trivial rfl rfl rfl (fun w hk hs => by
        have c := c_take w bu i capu kv (G - 1) capv us vs _ restu (hs_at hs 0 rfl) (by omega) (hOv1.rd.at hk hs (by (repeat' first | exact HSub.nil _ | exact HSub.hd | exact HSub.in0 | exact HSub.refl _ | refine HSub.skip ?_ | refine HSub.skipN ?_))) (fun _ => by simpa using (hs_ne hs 1 0 rfl rfl (by decide))) (by omega) hu0 hDv.lt hDlt (by omega) (by rw [hhead, hD]; exact Nat.mul_div_le _ _) (by omega)
        rw [hlu] at c
        exact c) fun w v w' _ _ _ hR => ?_
      obtain ⟨zs, hzl, hz, hvz, hbl⟩ := hR
      refine ⟨[(bu, .cells (rowCU (put i (kv + 1) zs us) restu) 71 (0, 0))], rfl, fun p hp => by cases List.mem_singleton.1 hp; exact hbl, ?_⟩
      (repeat' (first | refine JC.ops ?_ | refine JO.nil ?_ | refine JX.thenN ?_ | (apply r_move; (iterate 3 exact rfl)) | (apply r_idxU; (iterate 4 exact rfl); (first | assumption | exact WU.rd (by assumption) rfl [] | exact OwnU.rd (by assumption)); (first | assumption | omega))))
      refine r_stU (A := [_, _]) hOq rfl rfl trivial rfl rfl (by omega) (fun Nq' hOq' => ?_)
      (repeat' (first | refine JC.ops ?_ | refine JO.nil ?_ | refine JX.thenN ?_ | (apply r_move; (iterate 3 exact rfl)) | (apply r_assign; (iterate 3 exact rfl)) | (apply r_sub; (iterate 4 exact rfl); omega) | refine JX.blockN ?_))
      have hput := val_put (b := W32) (zs := zs) (show i + (kv + 1) ≤ us.length by omega) htail
      rw [hhead] at hvz
      refine JX.roundH (i, put i (kv + 1) zs us, Nq', _) ⟨by dsimp only; omega, by dsimp only; rw [put_len (by omega) hzl]; exact hlu, put_lt (by decide) hu0 hz.lt, hOq', set_lt hqs hDlt, ?_, ?_⟩ (by dsimp only; omega) (by repeat first | exact trivial | refine ⟨rfl, ?_⟩) (by (first | exact HSub.refl _ | (repeat' first | exact HSub.nil _ | exact HSub.refl _ | refine HSub.at 0 rfl ?_ | refine HSub.at 1 rfl ?_ | refine HSub.at 2 rfl ?_ | refine HSub.at 3 rfl ?_ | refine HSub.at 4 rfl ?_ | refine HSub.at 5 rfl ?_ | refine HSub.at 6 rfl ?_ | refine HSub.at 7 rfl ?_)))
      · dsimp only
        rw [hput]
        rw [hD] at hvz
        have hm := Nat.mod_lt (val W32 (us.drop i)) hV0
        have hdm := Nat.div_add_mod (val W32 (us.drop i)) (val W32 vs)
        omega
      · dsimp only
        have e1 := val_cut W32 (put i (kv + 1) zs us) i (by rw [put_len (by omega) hzl]; omega)
        rw [put_take (by omega), hput] at e1
        rw [e1, val_drop (l := qs.set i _) (by simp; omega), getD_set_self (by omega), drop_set]
        have e2 := val_cut W32 us i (by omega)
        rw [e2, Nat.pow_succ] at hval
        exact kn_inv hvz.symm hval
    · rw [decide_eq_false hl]
      have hD : G = val W32 (us.drop i) / val W32 vs := by
        have h1 : G ≤ val W32 (us.drop i) / val W32 vs := (Nat.le_div_iff_mul_le hV0).2 (by rw [Nat.mul_comm]; omega)
        exact Nat.le_antisymm h1 hqG
      have hDlt : G < 4294967296 := by omega
      (repeat' (first | refine JC.seq ?_ | refine JC.ops ?_ | refine JO.nil ?_ | refine JX.thenN ?_ | (apply r_move; (iterate 3 exact rfl)) | refine JC.skip ?_ | refine JC.condF rfl ?_))
      refine r_tail (o' := i) rfl rfl rfl rfl (Nat.zero_add _) (by omega) (by omega) ?_
      (repeat' (first | (apply r_move; (iterate 3 exact rfl))))
      refine r_callO (A := []) (N := [_]) (B := (bv, .cells (rowCU vs0 restv) 71 (0, 0)) :: (Nq ++ [])) rfl trivial rfl rfl rfl (fun w hk hs => by
        have c := c_take w bu i capu kv (G) capv us vs _ restu (hs_at hs 0 rfl) (by omega) (hOv1.rd.at hk hs (by (repeat' first | exact HSub.nil _ | exact HSub.hd | exact HSub.in0 | exact HSub.refl _ | refine HSub.skip ?_ | refine HSub.skipN ?_))) (fun _ => by simpa using (hs_ne hs 1 0 rfl rfl (by decide))) (by omega) hu0 hDv.lt hDlt (by omega) (by rw [hhead, hD]; exact Nat.mul_div_le _ _) (by omega)
        rw [hlu] at c
        exact c) fun w v w' _ _ _ hR => ?_
      obtain ⟨zs, hzl, hz, hvz, hbl⟩ := hR
      refine ⟨[(bu, .cells (rowCU (put i (kv + 1) zs us) restu) 71 (0, 0))], rfl, fun p hp => by cases List.mem_singleton.1 hp; exact hbl, ?_⟩
      (repeat' (first | refine JC.ops ?_ | refine JO.nil ?_ | refine JX.thenN ?_ | (apply r_move; (iterate 3 exact rfl)) | (apply r_idxU; (iterate 4 exact rfl); (first | assumption | exact WU.rd (by assumption) rfl [] | exact OwnU.rd (by assumption)); (first | assumption | omega))))
      refine r_stU (A := [_, _]) hOq rfl rfl trivial rfl rfl (by omega) (fun Nq' hOq' => ?_)
      (repeat' (first | refine JC.ops ?_ | refine JO.nil ?_ | refine JX.thenN ?_ | (apply r_move; (iterate 3 exact rfl)) | (apply r_assign; (iterate 3 exact rfl)) | (apply r_sub; (iterate 4 exact rfl); omega) | refine JX.blockN ?_))
      have hput := val_put (b := W32) (zs := zs) (show i + (kv + 1) ≤ us.length by omega) htail
      rw [hhead] at hvz
      refine JX.roundH (i, put i (kv + 1) zs us, Nq', _) ⟨by dsimp only; omega, by dsimp only; rw [put_len (by omega) hzl]; exact hlu, put_lt (by decide) hu0 hz.lt, hOq', set_lt hqs hDlt, ?_, ?_⟩ (by dsimp only; omega) (by repeat first | exact trivial | refine ⟨rfl, ?_⟩) (by (first | exact HSub.refl _ | (repeat' first | exact HSub.nil _ | exact HSub.refl _ | refine HSub.at 0 rfl ?_ | refine HSub.at 1 rfl ?_ | refine HSub.at 2 rfl ?_ | refine HSub.at 3 rfl ?_ | refine HSub.at 4 rfl ?_ | refine HSub.at 5 rfl ?_ | refine HSub.at 6 rfl ?_ | refine HSub.at 7 rfl ?_)))
      · dsimp only
        rw [hput]
        rw [hD] at hvz
        have hm := Nat.mod_lt (val W32 (us.drop i)) hV0
        have hdm := Nat.div_add_mod (val W32 (us.drop i)) (val W32 vs)
        omega
      · dsimp only
        have e1 := val_cut W32 (put i (kv + 1) zs us) i (by rw [put_len (by omega) hzl]; omega)
        rw [put_take (by omega), hput] at e1
        rw [e1, val_drop (l := qs.set i _) (by simp; omega), getD_set_self (by omega), drop_set]
        have e2 := val_cut W32 us i (by omega)
        rw [e2, Nat.pow_succ] at hval
        exact kn_inv hvz.symm hval


section
variable {c : Cx} {Q : Exit → Act → World → Prop} {m : Mode} {F : SFrame} {H Hs : SHeap} {r : List SOp} {g : Option (Option Tmp × Bool)} {ns : Bool} {d : Tmp} {ty t t' : TypeId} {x y : Operand}

theorem storeL_full {vs cs : Array Value} (h : vs.size = cs.size) : storeL cs 0 vs.toList = vs := by
  have key : ∀ (l : List Value) (cs : Array Value) (o : Nat), o + l.length = cs.size → (storeL cs o l).toList = cs.toList.take o ++ l := by
    intro l
    induction l with
    | nil =>
      intro cs o h
      simp only [List.length_nil, Nat.add_zero] at h
      rw [storeL, List.append_nil, List.take_of_length_le (by simp [h])]
    | cons v l ih =>
      intro cs o h
      simp only [List.length_cons] at h
      rw [storeL, ih _ _ (by rw [Array.size_setIfInBounds]; omega), Array.toList_setIfInBounds]
      have hlt : o < (cs.toList.set o v).length := by simp; omega
      rw [List.take_succ_eq_append_getElem hlt, List.take_set_of_le (Nat.le_refl _)]
      simp
  have := key vs.toList cs 0 (by simp; omega)
  apply Array.ext'
  simpa using this

theorem r_storeKN {b n : Nat} (k : Nat) {cs vs : Array Value} {T : TypeId} [TN c.P t n] (hg : guardF F g = some true) (hx : ev F x = some (.pointer (some ⟨b, 0, none⟩))) (hy : ev F y = some (.agg vs))
    (hb : H[k]? = some (b, .cells cs T (0, 0))) (hn : vs.size = n) (hn' : cs.size = n) (hv : (vs.toList.all (·.oneCell')) = true) (hHs : HSub Hs (H.set k (b, .cells vs T (0, 0)))) (h : JO c Q (.draw Hs true) r F (H.set k (b, .cells vs T (0, 0)))) :
    JO c Q (.draw Hs true) (⟨none, .store t x y, ty, g, .seq, ns⟩ :: r) F H := by
  refine ⟨⟨rfl, .inr ⟨hg, fun a w st _ => ?_⟩⟩⟩
  have hm' : (b, Obj.cells cs T (0, 0)) ∈ H := List.mem_of_getElem? hb
  obtain ⟨w', h1, h2, h3, h4, h5, h6, h7⟩ := run_storeAt (P := c.P) (t := t) (n := n) TN.size (o := 0) (v := .agg vs) (w := w) (by show vs.size = n; exact hn) (by show ∀ u ∈ vs.toList, _; exact List.all_eq_true.1 hv) (st.hs.blk _ hm') (by omega)
  have h2 : w'.heap[b]? = some (.cells (storeL cs 0 vs.toList) T (0, 0)) := h2
  rw [storeL_full (by omega)] at h2
  obtain ⟨st', hstep⟩ := setBlk st hb h2 h3 h4 h5 h6 h7
  unfold Oper.wp SOp.oper
  simp only [execOp, st.fr.ev hx, st.fr.ev hy, Sem.run_bind, h1, Result.andThen_ok, Sem.run_pure]
  exact ⟨hstep, F, _, .draw Hs true, st', fun j hj => .inl (keys_set hb j hj), ⟨rfl, fun _ => ⟨rfl, hHs.hsat st'.hs⟩, fun _ => rfl, .inl rfl⟩, h.h⟩

end


def IsZ (v : Value) (a : Int) (k : Nat) : Prop := ∃ p l, v = wv p l ∧ l.length ≤ k ∧ a = sgn p (bval (bts l))
theorem bts_mem {l : List UInt8} : ∀ x ∈ bts l, x < 256 := fun x hx => by
  obtain ⟨a, _, rfl⟩ := List.mem_map.1 hx
  exact UInt8.toNat_lt a
theorem bval_bts_lt {l : List UInt8} {k : Nat} (h : l.length ≤ k) : bval (bts l) < 256 ^ k := by
  have h1 := bval_lt (bts_mem (l := l))
  rw [bts_len] at h1
  exact Nat.lt_of_lt_of_le h1 (Nat.pow_le_pow_right (by decide) h)
theorem IsZ.lt {v : Value} {a : Int} {k : Nat} (h : IsZ v a k) : a.natAbs < 256 ^ k := by
  obtain ⟨p, l, rfl, hl, rfl⟩ := h
  rw [sgn_natAbs]
  exact bval_bts_lt hl
theorem IsZ.mono {v : Value} {a : Int} {k k' : Nat} (h : IsZ v a k) (hk : k ≤ k') : IsZ v a k' := by
  obtain ⟨p, l, rfl, hl, rfl⟩ := h
  exact ⟨p, l, rfl, by omega, rfl⟩
theorem IsZ.can {a : Int} {k : Nat} (h : a.natAbs < 256 ^ k) : IsZ (Wv a) a k :=
  ⟨_, _, rfl, magU_len h, by rw [bval_magU, sgn_self]⟩
theorem words_le {zs : List Nat} {l : List UInt8} {k : Nat} (hz : Dig W32 zs) (hv : val W32 zs = bval (bts l)) (hl : l.length ≤ k) : zs.length ≤ k := by
  refine hz.len_le (by decide) ?_
  rw [hv]
  exact Nat.lt_of_lt_of_le (bval_bts_lt hl) (Nat.pow_le_pow_left (by decide) k)

theorem two_pow_lt {n k : Nat} (h : n < 256 ^ k) {m : Nat} (hm : m < 256 ^ k) : n + m < 256 ^ (k + 1) := by
  rw [Nat.pow_succ]
  omega
theorem IsZ.add {a b : Int} {k : Nat} (h : a.natAbs < 256 ^ k) (h' : b.natAbs < 256 ^ k) : IsZ (Wv (a + b)) (a + b) (k + 1) := IsZ.can (Nat.lt_of_le_of_lt (Int.natAbs_add_le a b) (two_pow_lt h h'))

section
variable {c : Cx} {Q : Exit → Act → World → Prop} {m : Mode} {F : SFrame} {H : SHeap} {r : List SOp} {g : Option (Option Tmp × Bool)} {ns : Bool} {d : Tmp} {ty t t' : TypeId} {x y : Operand} {i : Nat}
theorem r_negU (hd : dstOk c.n (some d) = true) (hg : guardF F g = some true) (hx : ev F x = some (uv i)) (hb : i ≤ 18446744073709551616)
    (h : JO c Q m r ((d, uv ((18446744073709551616 - i) % 18446744073709551616)) :: F) H) : JO c Q m (⟨some d, .unOp .neg t x, ty, g, .mov, ns⟩ :: r) F H :=
  r_mov hd hg (fun a w fr => by
    have h1 : IntKind.u64.wrap (-(i : Int)) = (((18446744073709551616 - i) % 18446744073709551616 : Nat) : Int) := by rw [IntKind.wrap_u64]; omega
    simp only [execOp, fr.ev hx]
    simp [Op.unary, Op.intArith, h1, uv]) h
theorem r_i64U {n : Int} (j : Nat) [TI c.P t .i64] [TI c.P t' .u64] (hd : dstOk c.n (some d) = true) (hg : guardF F g = some true) (hx : ev F x = some (.int .i64 n)) (hj : IntKind.u64.wrap n = (j : Int))
    (h : JO c Q m r ((d, uv j) :: F) H) : JO c Q m (⟨some d, .convert t t' x, ty, g, .mov, ns⟩ :: r) F H := r_convK (k' := .u64) (j : Int) hd hg hx hj h
end

theorem val_two (m : Nat) : val W32 [m % 4294967296, m / 4294967296] = m := by
  show m % 4294967296 + 4294967296 * (m / 4294967296 + 4294967296 * 0) = m
  omega

set_option maxHeartbeats 2000000 in
theorem c_From (w : World) (n : Int) (h1 : -9223372036854775808 ≤ n) (h2 : n < 9223372036854775808) :
    Calls Tryd.prog 31 #[iv n] w (Ret fun r w' => Kp [] w w' ∧ r = Wv n) := by
  have hm : n.natAbs ≤ 9223372036854775808 := by omega
  have hm2 : n.natAbs < 18446744073709551616 := by omega
  have hlt : ∀ x ∈ [n.natAbs % 4294967296, n.natAbs / 4294967296], x < W32 := fun x hx => by
    simp only [List.mem_cons, List.mem_nil_iff, or_false] at hx
    show x < 4294967296
    omega
  by_cases hn : n < 0
  · refine calls_of_S [] [] (by simp) [] Tryd.func31 rfl mixed (by kernel_rfl) Tryd.ntmps31 Tryd.results31 rfl ⟨by simp, by simp⟩ (by simp) ?_
    simp only [toS, textOps, toSOp, kindAt, kindOf, odAt, sopsAt, ordOf, zipF]
    (repeat' (first | refine JC.seq ?_ | refine JC.ops ?_ | refine JO.nil ?_ | refine JX.thenN ?_ | (apply r_move; (iterate 3 exact rfl)) | (apply r_allocZ; (iterate 3 exact rfl); intro _)))
    refine r_i64U (18446744073709551616 - n.natAbs) rfl rfl rfl (by rw [IntKind.wrap_u64]; omega) ?_
    (repeat' (first | refine JC.seq ?_ | refine JC.ops ?_ | refine JO.nil ?_ | refine JX.thenN ?_ | (apply r_move; (iterate 3 exact rfl)) | (apply r_assign; (iterate 3 exact rfl)) | (apply r_lss; (iterate 4 exact rfl); all_goals intro hc; all_goals try (exfalso; omega)) | refine JC.condT rfl ?_))
    refine r_negU rfl rfl rfl (by omega) ?_
    rw [show (18446744073709551616 - (18446744073709551616 - n.natAbs)) % 18446744073709551616 = n.natAbs by omega]
    (repeat' (first | refine JC.seq ?_ | refine JC.ops ?_ | refine JO.nil ?_ | refine JX.thenN ?_ | (apply r_move; (iterate 3 exact rfl)) | (apply r_assign; (iterate 3 exact rfl)) | (apply r_shr32; (iterate 4 exact rfl)) | (apply r_maskU; (iterate 4 exact rfl); (first | assumption | omega)) | (apply r_lss; (iterate 4 exact rfl); all_goals intro hc; all_goals try (exfalso; omega)) | (apply r_build1; (iterate 5 exact rfl); (repeat first | exact trivial | refine ⟨rfl, ?_⟩); decide; decide; intro _)))
    rename_i b3
    have hO : OwnU [(b3, .cells ⟨[uv (n.natAbs % 4294967296), uv (n.natAbs / 4294967296)]⟩ 71)] (.slice (some ⟨b3, 0, none⟩) 2 2) 2 [n.natAbs % 4294967296, n.natAbs / 4294967296] := own_litU b3 2 _ _ rfl rfl (by omega)
    refine r_call0 trivial rfl rfl rfl (fun w hk hs => c_wide w _ _ _ true (hO.rd.at hk hs (by (repeat' first | exact HSub.nil _ | exact HSub.hd | exact HSub.in0 | exact HSub.refl _ | refine HSub.skip ?_ | refine HSub.skipN ?_))) hlt (by omega)) fun w v w' _ _ _ hR => ?_
    subst hR
    (repeat' (first | refine JO.nil ?_ | refine JX.thenN ?_ | (apply r_storeN; exact rfl; (first | exact trivial | exact ⟨rfl, rfl⟩); exact rfl; exact rfl; exact at1; (iterate 3 exact rfl)) | (apply r_storeN; exact rfl; (first | exact trivial | exact ⟨rfl, rfl⟩); exact rfl; exact rfl; exact at1; (iterate 3 exact rfl)) | refine JC.ret ?_))
    exact JX.retC 1 rfl rfl rfl (fun a w' st => ⟨st.kp, by show Wv (sgn true (val W32 _)) = _; rw [val_two]; congr 1; simp only [sgn, if_true, Bool.false_eq_true, if_false]; omega⟩)
  · refine calls_of_S [] [] (by simp) [] Tryd.func31 rfl mixed (by kernel_rfl) Tryd.ntmps31 Tryd.results31 rfl ⟨by simp, by simp⟩ (by simp) ?_
    simp only [toS, textOps, toSOp, kindAt, kindOf, odAt, sopsAt, ordOf, zipF]
    (repeat' (first | refine JC.seq ?_ | refine JC.ops ?_ | refine JO.nil ?_ | refine JX.thenN ?_ | (apply r_move; (iterate 3 exact rfl)) | (apply r_allocZ; (iterate 3 exact rfl); intro _)))
    refine r_i64U n.natAbs rfl rfl rfl (by rw [IntKind.wrap_u64]; omega) ?_
    (repeat' (first | refine JC.seq ?_ | refine JC.ops ?_ | refine JO.nil ?_ | refine JX.thenN ?_ | (apply r_move; (iterate 3 exact rfl)) | (apply r_assign; (iterate 3 exact rfl)) | (apply r_shr32; (iterate 4 exact rfl)) | (apply r_maskU; (iterate 4 exact rfl); (first | assumption | omega)) | (apply r_lss; (iterate 4 exact rfl); all_goals intro hc; all_goals try (exfalso; omega)) | (apply r_build1; (iterate 5 exact rfl); (repeat first | exact trivial | refine ⟨rfl, ?_⟩); decide; decide; intro _) | refine JC.skip ?_ | refine JC.condF rfl ?_))
    rename_i b3
    have hO : OwnU [(b3, .cells ⟨[uv (n.natAbs % 4294967296), uv (n.natAbs / 4294967296)]⟩ 71)] (.slice (some ⟨b3, 0, none⟩) 2 2) 2 [n.natAbs % 4294967296, n.natAbs / 4294967296] := own_litU b3 2 _ _ rfl rfl (by omega)
    refine r_call0 trivial rfl rfl rfl (fun w hk hs => c_wide w _ _ _ false (hO.rd.at hk hs (by (repeat' first | exact HSub.nil _ | exact HSub.hd | exact HSub.in0 | exact HSub.refl _ | refine HSub.skip ?_ | refine HSub.skipN ?_))) hlt (by omega)) fun w v w' _ _ _ hR => ?_
    subst hR
    (repeat' (first | refine JO.nil ?_ | refine JX.thenN ?_ | (apply r_storeN; exact rfl; (first | exact trivial | exact ⟨rfl, rfl⟩); exact rfl; exact rfl; exact at1; (iterate 3 exact rfl)) | (apply r_storeN; exact rfl; (first | exact trivial | exact ⟨rfl, rfl⟩); exact rfl; exact rfl; exact at1; (iterate 3 exact rfl)) | refine JC.ret ?_))
    exact JX.retC 1 rfl rfl rfl (fun a w' st => ⟨st.kp, by show Wv (sgn false (val W32 _)) = _; rw [val_two]; congr 1; simp only [sgn, if_true, Bool.false_eq_true, if_false]; omega⟩)

theorem JX.retCCT {c : Cx} {t t' t'' : Tmp} {v' : Value} {ty ty' n n' b b' : Nat} {cs cs' : Array Value} {T T' : TypeId} {fz fz' : Nat × Nat} {R : Value → World → Prop} {F : SFrame} {H : SHeap} [TN c.P ty n] [TN c.P ty' n'] (k k' : Nat) (h1 : look F t = some (.pointer (some ⟨b, 0, none⟩)))
    (h2 : H[k]? = some (b, Obj.cells cs T fz)) (hn : cs.size = n) (h1' : look F t' = some (.pointer (some ⟨b', 0, none⟩))) (h2' : H[k']? = some (b', Obj.cells cs' T' fz')) (hn' : cs'.size = n') (h' : look F t'' = some v') (hR : ∀ a w, St c F H a w → R (.tuple #[.agg cs, .agg cs', v']) w) : JX c (endPost c.P #[.cell t ty, .cell t' ty', .tmp t''] (Ret R)) .ret F H :=
  JX.ret' [.agg cs, .agg cs', v'] (JR.cellN k h1 h2 hn (JR.cellN k' h1' h2' hn' ⟨h', trivial⟩)) hR

set_option maxHeartbeats 8000000 in
theorem c_Quo (w : World) (v u : Value) (a b : Int) (k : Nat) (hv : IsZ v a k) (hu : IsZ u b k) (hk : k ≤ 100000000) :
    Calls Tryd.prog 32 #[v, u] w (Ret fun r w' => Kp [] w w' ∧ r = if b = 0 then .tuple #[Wv 0, Wv 0, .bool false] else .tuple #[Wv (a / b), Wv (a % b), .bool true]) := by
  obtain ⟨p, l, rfl, hl1, rfl⟩ := hv
  obtain ⟨q, l', rfl, hl2, rfl⟩ := hu
  refine calls_of_S [⟨1, 1, [0, 2, 1, 3, 4, 5], []⟩, ⟨3, 2, [], []⟩] [] (by simp) [] Tryd.func32 rfl mixed (by kernel_rfl) Tryd.ntmps32 Tryd.results32 rfl ⟨by simp, by simp⟩ (by simp) ?_
  simp only [toS, textOps, toSOp, kindAt, kindOf, odAt, sopsAt, ordOf, zipF]
  (repeat' (first | refine JC.seq ?_ | refine JC.ops ?_ | refine JC.opsD ?_ | refine JO.nil ?_ | refine JX.thenN ?_ | (apply r_assign; (iterate 3 exact rfl)) | (apply r_loadN; (iterate 4 exact rfl); (first | exact at2 | exact at3); exact rfl) | (apply r_allocZ; (iterate 3 exact rfl); intro _) | (apply r_boxA; (iterate 4 exact rfl); intro _)))
  refine r_callA (A := [_, _, _, _]) rfl (by first | trivial | exact ⟨rfl, rfl⟩) rfl rfl rfl (fun w hk hs => c_abs w p l (by omega)) fun w v w' _ _ _ hR => ?_
  obtain ⟨N1, zs1, hN1, hO1, hz1, hval1⟩ := hR
  refine ⟨N1, hN1, ?_⟩
  have hzl1 := words_le hz1 hval1 hl1
  skip
  refine r_callA (A := [_, _, _, _]) rfl (by first | trivial | exact ⟨rfl, rfl⟩) rfl rfl rfl (fun w hk hs => c_abs w q l' (by omega)) fun w v w' _ _ _ hR => ?_
  obtain ⟨N2, zs2, hN2, hO2, hz2, hval2⟩ := hR
  refine ⟨N2, hN2, ?_⟩
  have hzl2 := words_le hz2 hval2 hl2
  have he := hz2.eq_nil (by decide)
  rw [hval2] at he
  by_cases h0 : zs2.length = 0
  · have h1 := he.1 (List.eq_nil_of_length_eq_zero h0)
    rw [h1, if_pos (sgn_zero q)]
    (repeat' (first | refine JC.seq ?_ | refine JC.ops ?_ | refine JC.opsD ?_ | refine JO.nil ?_ | refine JX.thenN ?_ | (apply r_move; (iterate 3 exact rfl)) | (apply r_assign; (iterate 3 exact rfl)) | (apply r_loadN; (iterate 4 exact rfl); (first | exact at0 | exact at1); exact rfl) | (apply r_storeN; exact rfl; (first | exact trivial | exact ⟨rfl, rfl⟩); exact rfl; exact rfl; (first | exact at0 | exact at1); (iterate 3 exact rfl)) | (apply r_storeKN; (iterate 3 exact rfl); (first | exact at0 | exact at1); (iterate 3 exact rfl); (repeat' first | exact HSub.refl _ | exact HSub.nil _ | refine HSub.at 0 rfl ?_ | refine HSub.at 1 rfl ?_ | refine HSub.at 2 rfl ?_ | refine HSub.at 3 rfl ?_ | refine HSub.at 4 rfl ?_ | refine HSub.at 5 rfl ?_ | refine HSub.at 6 rfl ?_ | refine HSub.at 7 rfl ?_ | refine HSub.at 8 rfl ?_ | refine HSub.at 9 rfl ?_ | refine HSub.at 10 rfl ?_ | refine HSub.at 11 rfl ?_ | refine HSub.at 12 rfl ?_ | refine HSub.at 13 rfl ?_ | refine HSub.at 14 rfl ?_ | refine HSub.at 15 rfl ?_ | refine HSub.at 16 rfl ?_ | refine HSub.at 17 rfl ?_ | refine HSub.at 18 rfl ?_ | refine HSub.at 19 rfl ?_ | refine HSub.segH ?_ | refine HSub.skip ?_ | refine HSub.skipN ?_)) | (apply r_lenU; (iterate 3 exact rfl); (first | assumption | exact WU.rd (by assumption) rfl [] | exact OwnU.rd (by assumption))) | (apply r_eql; (iterate 4 exact rfl); all_goals intro hc; all_goals try (exfalso; omega)) | (apply r_storeN; exact rfl; (first | exact trivial | exact ⟨rfl, rfl⟩); exact rfl; exact rfl; (first | exact at0 | exact at1); (iterate 3 exact rfl)) | refine JX.thenR ?_ | refine JC.ret ?_ | refine JC.condT rfl ?_))
    exact JX.retCCT 1 0 rfl rfl rfl rfl rfl rfl rfl (fun a w' st => ⟨st.kp, rfl⟩)
  have hy0 : bval (bts l') ≠ 0 := fun h => h0 (by rw [he.2 h]; rfl)
  rw [if_neg (fun h => hy0 ((sgn_eq_zero _ _).1 h))]
  have hv1 : val W32 zs1 < 256 ^ k := by rw [hval1]; exact bval_bts_lt hl1
  have hv2 : val W32 zs2 < 256 ^ k := by rw [hval2]; exact bval_bts_lt hl2
  have hpw : 256 ^ k ≤ W32 ^ k := Nat.pow_le_pow_left (by decide) k
  have hpk : 0 < 256 ^ k := Nat.pow_pos (by decide)
  (repeat' (first | refine JC.seq ?_ | refine JC.ops ?_ | refine JO.nil ?_ | refine JX.thenN ?_ | (apply r_move; (iterate 3 exact rfl)) | (apply r_assign; (iterate 3 exact rfl)) | (apply r_lenU; (iterate 3 exact rfl); (first | assumption | exact WU.rd (by assumption) rfl [] | exact OwnU.rd (by assumption))) | (apply r_eql; (iterate 4 exact rfl); all_goals intro hc; all_goals try (exfalso; omega)) | refine JC.skip ?_ | refine JC.condF rfl ?_))
  refine r_callA (A := [_, _, _, _]) rfl trivial rfl rfl rfl (fun w hk hs => c_div w _ _ _ _ _ _ (hO1.rd.at hk hs (by (repeat' first | exact HSub.nil _ | exact HSub.hd | exact HSub.in0 | exact HSub.refl _ | refine HSub.skip ?_ | refine HSub.skipN ?_))) (hO2.rd.at hk hs (by (repeat' first | exact HSub.nil _ | exact HSub.hd | exact HSub.in0 | exact HSub.refl _ | refine HSub.skip ?_ | refine HSub.skipN ?_))) hz1 hz2 (by omega) (by omega) (by omega)) fun w v w' _ _ _ hR => ?_
  obtain ⟨N3, N4, v3, v4, zs3, zs4, rfl, hN34, hO3, hO4, hz3, hz4, hval3, hlt4⟩ := hR.ex
  refine ⟨_, hN34, ?_⟩
  rw [List.append_assoc N3 N4]
  have hzl4 : zs4.length ≤ k := hz4.len_le (by decide) (by omega)
  have hzl3 : zs3.length ≤ k := hz3.len_le (by decide) (by
    have h1 : val W32 zs3 ≤ val W32 zs3 * val W32 zs2 := Nat.le_mul_of_pos_right _ (by omega)
    omega)
  have hlaw := quo_law p q (val W32 zs1) (val W32 zs2) (val W32 zs3) (val W32 zs4) (by omega) hval3 hlt4
  rw [hval1, hval2] at hlaw
  have he4 := hz4.eq_nil (by decide)
  have hlaw1 := hlaw.1
  have hlaw2 := hlaw.2
  clear hlaw
  rcases hO4 with hO4 | ⟨rfl, rfl, rfl⟩
  · by_cases hp : p = true ∧ 0 < zs4.length
    · obtain ⟨rfl, hp4⟩ := hp
      have hr0 : 0 < val W32 zs4 := Nat.pos_of_ne_zero fun h => by rw [he4.2 h] at hp4; exact absurd hp4 (by simp)
      obtain ⟨hq1, hq2⟩ := hlaw1 ⟨rfl, hr0⟩
      have hlen : zs4.length ≤ zs2.length := by
        refine Decidable.byContradiction fun h => ?_
        have := len_cmp (b := W32) (by decide) hz2 hz4 (by omega)
        omega
      (repeat' (first | refine JC.seq ?_ | refine JC.ops ?_ | refine JO.nil ?_ | refine JX.thenN ?_ | (apply r_move; (iterate 3 exact rfl)) | (apply r_fieldAddr; (iterate 3 exact rfl)) | (apply r_assign; (iterate 3 exact rfl)) | (apply r_load; (iterate 4 exact rfl); exact at3; exact rfl) | (apply r_pickT; (iterate 4 exact rfl)) | (apply r_extract; (iterate 4 exact rfl)) | (apply r_lenU; (iterate 3 exact rfl); (first | assumption | exact WU.rd (by assumption) rfl [] | exact OwnU.rd (by assumption))) | (apply r_gtr; (iterate 4 exact rfl); all_goals intro hc; all_goals try (exfalso; omega)) | (apply r_build1; (iterate 5 exact rfl); (repeat first | exact trivial | refine ⟨rfl, ?_⟩); decide; decide; intro _) | refine JC.condT rfl ?_))
      rename_i b9
      have hO9 : OwnU [(b9, .cells ⟨[.int .u64 1]⟩ 71)] (.slice (some ⟨b9, 0, none⟩) 1 1) 1 [1] := own_litU b9 1 [1] _ rfl rfl (by omega)
      refine r_callA (A := [_, _, _, _, _]) rfl trivial rfl rfl rfl (fun w hk hs => c_add w _ _ _ _ _ _ (hO3.rd.at hk hs (by (repeat' first | exact HSub.nil _ | exact HSub.hd | exact HSub.in0 | exact HSub.refl _ | refine HSub.skip ?_ | refine HSub.skipN ?_))) (hO9.rd.at hk hs (by (repeat' first | exact HSub.nil _ | exact HSub.hd | exact HSub.in0 | exact HSub.refl _ | refine HSub.skip ?_ | refine HSub.skipN ?_))) hz3.lt (fun x hx => by rw [List.mem_singleton] at hx; rw [hx]; decide) (by omega) (by omega)) fun w v w' _ _ _ hR => ?_
      obtain ⟨N5, zs5, hN5, hO5, hz5, hval5⟩ := hR
      refine ⟨N5, hN5, ?_⟩
      rw [val_one] at hval5
      have hzl5 : zs5.length ≤ k + 1 := hz5.len_le (by decide) (by
        rw [hval5, Nat.pow_succ]
        have h1 : val W32 zs3 ≤ val W32 zs3 * val W32 zs2 := Nat.le_mul_of_pos_right _ (by omega)
        show _ < W32 ^ k * 4294967296
        omega)
      (repeat' (first | (apply r_move; (iterate 3 exact rfl))))
      refine r_callA (A := [_, _, _, _, _]) rfl trivial rfl rfl rfl (fun w hk hs => c_sub w _ _ _ _ _ _ (hO2.rd.at hk hs (by (repeat' first | exact HSub.nil _ | exact HSub.hd | exact HSub.in0 | exact HSub.refl _ | refine HSub.skip ?_ | refine HSub.skipN ?_))) (hO4.rd.at hk hs (by (repeat' first | exact HSub.nil _ | exact HSub.hd | exact HSub.in0 | exact HSub.refl _ | refine HSub.skip ?_ | refine HSub.skipN ?_))) hz2.lt hz4.lt (by omega) hlen (by omega)) fun w v w' _ _ _ hR => ?_
      obtain ⟨N6, zs6, hN6, hO6, hz6, hval6⟩ := hR
      refine ⟨N6, hN6, ?_⟩
      have hzl6 : zs6.length ≤ k := hz6.len_le (by decide) (by omega)
      (repeat' (first | refine JC.seq ?_ | refine JC.ops ?_ | refine JO.nil ?_ | refine JX.thenN ?_ | (apply r_move; (iterate 3 exact rfl)) | (apply r_fieldAddr; (iterate 3 exact rfl)) | (apply r_assign; (iterate 3 exact rfl)) | (apply r_load; (iterate 4 exact rfl); (first | exact at3 | exact at4); exact rfl) | (apply r_neB; (iterate 4 exact rfl))))
      refine r_call0 trivial rfl rfl rfl (fun w hk hs => c_wide w _ _ zs5 (true != q) (hO5.rd.at hk hs (by (repeat' first | exact HSub.nil _ | exact HSub.hd | exact HSub.in0 | exact HSub.refl _ | refine HSub.skip ?_ | refine HSub.skipN ?_))) hz5.lt (by omega)) fun w v w' _ _ _ hR => ?_
      subst hR
      (repeat' (first | (apply r_move; (iterate 3 exact rfl))))
      refine r_call0 trivial rfl rfl rfl (fun w hk hs => c_wide w _ _ zs6 false (hO6.rd.at hk hs (by (repeat' first | exact HSub.nil _ | exact HSub.hd | exact HSub.in0 | exact HSub.refl _ | refine HSub.skip ?_ | refine HSub.skipN ?_))) hz6.lt (by omega)) fun w v w' _ _ _ hR => ?_
      subst hR
      (repeat' (first | refine JO.nil ?_ | refine JX.thenN ?_ | (apply r_assign; (iterate 3 exact rfl)) | (apply r_storeN; exact rfl; (first | exact trivial | exact ⟨rfl, rfl⟩); exact rfl; exact rfl; (first | exact at1 | exact at2); (iterate 3 exact rfl)) | (apply r_storeN; exact rfl; (first | exact trivial | exact ⟨rfl, rfl⟩); exact rfl; exact rfl; (first | exact at1 | exact at2); (iterate 3 exact rfl)) | refine JC.ret ?_))
      refine JX.retCCT 2 1 rfl rfl rfl rfl rfl rfl rfl (fun a w' st => ⟨st.kp, ?_⟩)
      show Value.tuple #[Wv (sgn (true != q) (val W32 zs5)), Wv (sgn false (val W32 zs6)), _] = _
      rw [hval5, hq1, ← hq2, ← hval2]
      have : val W32 zs6 = val W32 zs2 - val W32 zs4 := by omega
      rw [this]
      rfl
    have hq := hlaw2 (fun ⟨h1, h2⟩ => hp ⟨h1, by
      refine Nat.pos_of_ne_zero fun h => ?_
      have := List.eq_nil_of_length_eq_zero h
      rw [this] at h2
      exact absurd h2 (by simp [val])⟩)
    obtain ⟨hq1, hq2⟩ := hq
    have hnp : p = true → zs4.length = 0 := fun h => by
      refine Decidable.byContradiction fun h' => hp ⟨h, by omega⟩
    cases p with
    | false =>
      (repeat' (first | refine JC.seq ?_ | refine JC.ops ?_ | refine JO.nil ?_ | refine JX.thenN ?_ | (apply r_move; (iterate 3 exact rfl)) | (apply r_fieldAddr; (iterate 3 exact rfl)) | (apply r_assign; (iterate 3 exact rfl)) | (apply r_load; (iterate 4 exact rfl); (first | exact at2 | exact at3); exact rfl) | (apply r_pickF; (iterate 4 exact rfl)) | (apply r_extract; (iterate 4 exact rfl)) | (apply r_neB; (iterate 4 exact rfl)) | refine JC.skip ?_ | refine JC.condF rfl ?_ | (apply r_skip; exact rfl; exact rfl; (first | (intro h; cases h; done) | (intro _; rfl)))))
      refine r_call0 trivial rfl rfl rfl (fun w hk hs => c_wide w _ _ zs3 (false != q) (hO3.rd.at hk hs (by (repeat' first | exact HSub.nil _ | exact HSub.hd | exact HSub.in0 | exact HSub.refl _ | refine HSub.skip ?_ | refine HSub.skipN ?_))) hz3.lt (by omega)) fun w v w' _ _ _ hR => ?_
      subst hR
      (repeat' (first | (apply r_move; (iterate 3 exact rfl))))
      refine r_call0 trivial rfl rfl rfl (fun w hk hs => c_wide w _ _ zs4 false (hO4.rd.at hk hs (by (repeat' first | exact HSub.nil _ | exact HSub.hd | exact HSub.in0 | exact HSub.refl _ | refine HSub.skip ?_ | refine HSub.skipN ?_))) hz4.lt (by omega)) fun w v w' _ _ _ hR => ?_
      subst hR
      (repeat' (first | refine JO.nil ?_ | refine JX.thenN ?_ | (apply r_assign; (iterate 3 exact rfl)) | (apply r_storeN; exact rfl; (first | exact trivial | exact ⟨rfl, rfl⟩); exact rfl; exact rfl; (first | exact at0 | exact at1); (iterate 3 exact rfl)) | (apply r_storeN; exact rfl; (first | exact trivial | exact ⟨rfl, rfl⟩); exact rfl; exact rfl; (first | exact at0 | exact at1); (iterate 3 exact rfl)) | refine JC.ret ?_))
      refine JX.retCCT 1 0 rfl rfl rfl rfl rfl rfl rfl (fun a w' st => ⟨st.kp, ?_⟩)
      show Value.tuple #[Wv (sgn (false != q) (val W32 zs3)), Wv (sgn false (val W32 zs4)), _] = _
      rw [hq1, ← hq2]
      rfl
    | true =>
      have hz0 := hnp rfl
      (repeat' (first | refine JC.seq ?_ | refine JC.ops ?_ | refine JO.nil ?_ | refine JX.thenN ?_ | (apply r_move; (iterate 3 exact rfl)) | (apply r_fieldAddr; (iterate 3 exact rfl)) | (apply r_assign; (iterate 3 exact rfl)) | (apply r_load; (iterate 4 exact rfl); (first | exact at2 | exact at3); exact rfl) | (apply r_pickT; (iterate 4 exact rfl)) | (apply r_extract; (iterate 4 exact rfl)) | (apply r_lenU; (iterate 3 exact rfl); (first | assumption | exact WU.rd (by assumption) rfl [] | exact OwnU.rd (by assumption))) | (apply r_gtr; (iterate 4 exact rfl); all_goals intro hc; all_goals try (exfalso; omega)) | (apply r_neB; (iterate 4 exact rfl)) | refine JC.skip ?_ | refine JC.condF rfl ?_))
      refine r_call0 trivial rfl rfl rfl (fun w hk hs => c_wide w _ _ zs3 (true != q) (hO3.rd.at hk hs (by (repeat' first | exact HSub.nil _ | exact HSub.hd | exact HSub.in0 | exact HSub.refl _ | refine HSub.skip ?_ | refine HSub.skipN ?_))) hz3.lt (by omega)) fun w v w' _ _ _ hR => ?_
      subst hR
      (repeat' (first | (apply r_move; (iterate 3 exact rfl))))
      refine r_call0 trivial rfl rfl rfl (fun w hk hs => c_wide w _ _ zs4 false (hO4.rd.at hk hs (by (repeat' first | exact HSub.nil _ | exact HSub.hd | exact HSub.in0 | exact HSub.refl _ | refine HSub.skip ?_ | refine HSub.skipN ?_))) hz4.lt (by omega)) fun w v w' _ _ _ hR => ?_
      subst hR
      (repeat' (first | refine JO.nil ?_ | refine JX.thenN ?_ | (apply r_assign; (iterate 3 exact rfl)) | (apply r_storeN; exact rfl; (first | exact trivial | exact ⟨rfl, rfl⟩); exact rfl; exact rfl; (first | exact at0 | exact at1); (iterate 3 exact rfl)) | (apply r_storeN; exact rfl; (first | exact trivial | exact ⟨rfl, rfl⟩); exact rfl; exact rfl; (first | exact at0 | exact at1); (iterate 3 exact rfl)) | refine JC.ret ?_))
      refine JX.retCCT 1 0 rfl rfl rfl rfl rfl rfl rfl (fun a w' st => ⟨st.kp, ?_⟩)
      show Value.tuple #[Wv (sgn (true != q) (val W32 zs3)), Wv (sgn false (val W32 zs4)), _] = _
      rw [hq1, ← hq2]
      rfl
  · by_cases hp : p = true ∧ 0 < zs4.length
    · obtain ⟨rfl, hp4⟩ := hp
      have hr0 : 0 < val W32 zs4 := Nat.pos_of_ne_zero fun h => by rw [he4.2 h] at hp4; exact absurd hp4 (by simp)
      obtain ⟨hq1, hq2⟩ := hlaw1 ⟨rfl, hr0⟩
      have hlen : zs4.length ≤ zs2.length := by
        refine Decidable.byContradiction fun h => ?_
        have := len_cmp (b := W32) (by decide) hz2 hz4 (by omega)
        omega
      (repeat' (first | refine JC.seq ?_ | refine JC.ops ?_ | refine JO.nil ?_ | refine JX.thenN ?_ | (apply r_move; (iterate 3 exact rfl)) | (apply r_fieldAddr; (iterate 3 exact rfl)) | (apply r_assign; (iterate 3 exact rfl)) | (apply r_load; (iterate 4 exact rfl); exact at3; exact rfl) | (apply r_pickT; (iterate 4 exact rfl)) | (apply r_extract; (iterate 4 exact rfl)) | (apply r_lenU; (iterate 3 exact rfl); (first | assumption | exact WU.rd (by assumption) rfl [] | exact OwnU.rd (by assumption))) | (apply r_gtr; (iterate 4 exact rfl); all_goals intro hc; all_goals try (exfalso; omega)) | (apply r_build1; (iterate 5 exact rfl); (repeat first | exact trivial | refine ⟨rfl, ?_⟩); decide; decide; intro _) | refine JC.condT rfl ?_))
      rename_i b9
      have hO9 : OwnU [(b9, .cells ⟨[.int .u64 1]⟩ 71)] (.slice (some ⟨b9, 0, none⟩) 1 1) 1 [1] := own_litU b9 1 [1] _ rfl rfl (by omega)
      refine r_callA (A := [_, _, _, _, _]) rfl trivial rfl rfl rfl (fun w hk hs => c_add w _ _ _ _ _ _ (hO3.rd.at hk hs (by (repeat' first | exact HSub.nil _ | exact HSub.hd | exact HSub.in0 | exact HSub.refl _ | refine HSub.skip ?_ | refine HSub.skipN ?_))) (hO9.rd.at hk hs (by (repeat' first | exact HSub.nil _ | exact HSub.hd | exact HSub.in0 | exact HSub.refl _ | refine HSub.skip ?_ | refine HSub.skipN ?_))) hz3.lt (fun x hx => by rw [List.mem_singleton] at hx; rw [hx]; decide) (by omega) (by omega)) fun w v w' _ _ _ hR => ?_
      obtain ⟨N5, zs5, hN5, hO5, hz5, hval5⟩ := hR
      refine ⟨N5, hN5, ?_⟩
      rw [val_one] at hval5
      have hzl5 : zs5.length ≤ k + 1 := hz5.len_le (by decide) (by
        rw [hval5, Nat.pow_succ]
        have h1 : val W32 zs3 ≤ val W32 zs3 * val W32 zs2 := Nat.le_mul_of_pos_right _ (by omega)
        show _ < W32 ^ k * 4294967296
        omega)
      (repeat' (first | (apply r_move; (iterate 3 exact rfl))))
      refine r_callA (A := [_, _, _, _, _]) rfl trivial rfl rfl rfl (fun w hk hs => c_sub w _ _ _ _ _ _ (hO2.rd.at hk hs (by (repeat' first | exact HSub.nil _ | exact HSub.hd | exact HSub.in0 | exact HSub.refl _ | refine HSub.skip ?_ | refine HSub.skipN ?_))) (hO1.rd.at hk hs (by (repeat' first | exact HSub.nil _ | exact HSub.hd | exact HSub.in0 | exact HSub.refl _ | refine HSub.skip ?_ | refine HSub.skipN ?_))) hz2.lt hz4.lt (by omega) hlen (by omega)) fun w v w' _ _ _ hR => ?_
      obtain ⟨N6, zs6, hN6, hO6, hz6, hval6⟩ := hR
      refine ⟨N6, hN6, ?_⟩
      have hzl6 : zs6.length ≤ k := hz6.len_le (by decide) (by omega)
      (repeat' (first | refine JC.seq ?_ | refine JC.ops ?_ | refine JO.nil ?_ | refine JX.thenN ?_ | (apply r_move; (iterate 3 exact rfl)) | (apply r_fieldAddr; (iterate 3 exact rfl)) | (apply r_assign; (iterate 3 exact rfl)) | (apply r_load; (iterate 4 exact rfl); (first | exact at3 | exact at4); exact rfl) | (apply r_neB; (iterate 4 exact rfl))))
      refine r_call0 trivial rfl rfl rfl (fun w hk hs => c_wide w _ _ zs5 (true != q) (hO5.rd.at hk hs (by (repeat' first | exact HSub.nil _ | exact HSub.hd | exact HSub.in0 | exact HSub.refl _ | refine HSub.skip ?_ | refine HSub.skipN ?_))) hz5.lt (by omega)) fun w v w' _ _ _ hR => ?_
      subst hR
      (repeat' (first | (apply r_move; (iterate 3 exact rfl))))
      refine r_call0 trivial rfl rfl rfl (fun w hk hs => c_wide w _ _ zs6 false (hO6.rd.at hk hs (by (repeat' first | exact HSub.nil _ | exact HSub.hd | exact HSub.in0 | exact HSub.refl _ | refine HSub.skip ?_ | refine HSub.skipN ?_))) hz6.lt (by omega)) fun w v w' _ _ _ hR => ?_
      subst hR
      (repeat' (first | refine JO.nil ?_ | refine JX.thenN ?_ | (apply r_assign; (iterate 3 exact rfl)) | (apply r_storeN; exact rfl; (first | exact trivial | exact ⟨rfl, rfl⟩); exact rfl; exact rfl; (first | exact at1 | exact at2); (iterate 3 exact rfl)) | (apply r_storeN; exact rfl; (first | exact trivial | exact ⟨rfl, rfl⟩); exact rfl; exact rfl; (first | exact at1 | exact at2); (iterate 3 exact rfl)) | refine JC.ret ?_))
      refine JX.retCCT 2 1 rfl rfl rfl rfl rfl rfl rfl (fun a w' st => ⟨st.kp, ?_⟩)
      show Value.tuple #[Wv (sgn (true != q) (val W32 zs5)), Wv (sgn false (val W32 zs6)), _] = _
      rw [hval5, hq1, ← hq2, ← hval2]
      have : val W32 zs6 = val W32 zs2 - val W32 zs4 := by omega
      rw [this]
      rfl
    have hq := hlaw2 (fun ⟨h1, h2⟩ => hp ⟨h1, by
      refine Nat.pos_of_ne_zero fun h => ?_
      have := List.eq_nil_of_length_eq_zero h
      rw [this] at h2
      exact absurd h2 (by simp [val])⟩)
    obtain ⟨hq1, hq2⟩ := hq
    have hnp : p = true → zs4.length = 0 := fun h => by
      refine Decidable.byContradiction fun h' => hp ⟨h, by omega⟩
    cases p with
    | false =>
      (repeat' (first | refine JC.seq ?_ | refine JC.ops ?_ | refine JO.nil ?_ | refine JX.thenN ?_ | (apply r_move; (iterate 3 exact rfl)) | (apply r_fieldAddr; (iterate 3 exact rfl)) | (apply r_assign; (iterate 3 exact rfl)) | (apply r_load; (iterate 4 exact rfl); (first | exact at2 | exact at3); exact rfl) | (apply r_pickF; (iterate 4 exact rfl)) | (apply r_extract; (iterate 4 exact rfl)) | (apply r_neB; (iterate 4 exact rfl)) | refine JC.skip ?_ | refine JC.condF rfl ?_ | (apply r_skip; exact rfl; exact rfl; (first | (intro h; cases h; done) | (intro _; rfl)))))
      refine r_call0 trivial rfl rfl rfl (fun w hk hs => c_wide w _ _ zs3 (false != q) (hO3.rd.at hk hs (by (repeat' first | exact HSub.nil _ | exact HSub.hd | exact HSub.in0 | exact HSub.refl _ | refine HSub.skip ?_ | refine HSub.skipN ?_))) hz3.lt (by omega)) fun w v w' _ _ _ hR => ?_
      subst hR
      (repeat' (first | (apply r_move; (iterate 3 exact rfl))))
      refine r_call0 trivial rfl rfl rfl (fun w hk hs => c_wide w _ _ zs4 false (hO1.rd.at hk hs (by (repeat' first | exact HSub.nil _ | exact HSub.hd | exact HSub.in0 | exact HSub.refl _ | refine HSub.skip ?_ | refine HSub.skipN ?_))) hz4.lt (by omega)) fun w v w' _ _ _ hR => ?_
      subst hR
      (repeat' (first | refine JO.nil ?_ | refine JX.thenN ?_ | (apply r_assign; (iterate 3 exact rfl)) | (apply r_storeN; exact rfl; (first | exact trivial | exact ⟨rfl, rfl⟩); exact rfl; exact rfl; (first | exact at0 | exact at1); (iterate 3 exact rfl)) | (apply r_storeN; exact rfl; (first | exact trivial | exact ⟨rfl, rfl⟩); exact rfl; exact rfl; (first | exact at0 | exact at1); (iterate 3 exact rfl)) | refine JC.ret ?_))
      refine JX.retCCT 1 0 rfl rfl rfl rfl rfl rfl rfl (fun a w' st => ⟨st.kp, ?_⟩)
      show Value.tuple #[Wv (sgn (false != q) (val W32 zs3)), Wv (sgn false (val W32 zs4)), _] = _
      rw [hq1, ← hq2]
      rfl
    | true =>
      have hz0 := hnp rfl
      (repeat' (first | refine JC.seq ?_ | refine JC.ops ?_ | refine JO.nil ?_ | refine JX.thenN ?_ | (apply r_move; (iterate 3 exact rfl)) | (apply r_fieldAddr; (iterate 3 exact rfl)) | (apply r_assign; (iterate 3 exact rfl)) | (apply r_load; (iterate 4 exact rfl); (first | exact at2 | exact at3); exact rfl) | (apply r_pickT; (iterate 4 exact rfl)) | (apply r_extract; (iterate 4 exact rfl)) | (apply r_lenU; (iterate 3 exact rfl); (first | assumption | exact WU.rd (by assumption) rfl [] | exact OwnU.rd (by assumption))) | (apply r_gtr; (iterate 4 exact rfl); all_goals intro hc; all_goals try (exfalso; omega)) | (apply r_neB; (iterate 4 exact rfl)) | refine JC.skip ?_ | refine JC.condF rfl ?_))
      refine r_call0 trivial rfl rfl rfl (fun w hk hs => c_wide w _ _ zs3 (true != q) (hO3.rd.at hk hs (by (repeat' first | exact HSub.nil _ | exact HSub.hd | exact HSub.in0 | exact HSub.refl _ | refine HSub.skip ?_ | refine HSub.skipN ?_))) hz3.lt (by omega)) fun w v w' _ _ _ hR => ?_
      subst hR
      (repeat' (first | (apply r_move; (iterate 3 exact rfl))))
      refine r_call0 trivial rfl rfl rfl (fun w hk hs => c_wide w _ _ zs4 false (hO1.rd.at hk hs (by (repeat' first | exact HSub.nil _ | exact HSub.hd | exact HSub.in0 | exact HSub.refl _ | refine HSub.skip ?_ | refine HSub.skipN ?_))) hz4.lt (by omega)) fun w v w' _ _ _ hR => ?_
      subst hR
      (repeat' (first | refine JO.nil ?_ | refine JX.thenN ?_ | (apply r_assign; (iterate 3 exact rfl)) | (apply r_storeN; exact rfl; (first | exact trivial | exact ⟨rfl, rfl⟩); exact rfl; exact rfl; (first | exact at0 | exact at1); (iterate 3 exact rfl)) | (apply r_storeN; exact rfl; (first | exact trivial | exact ⟨rfl, rfl⟩); exact rfl; exact rfl; (first | exact at0 | exact at1); (iterate 3 exact rfl)) | refine JC.ret ?_))
      refine JX.retCCT 1 0 rfl rfl rfl rfl rfl rfl rfl (fun a w' st => ⟨st.kp, ?_⟩)
      show Value.tuple #[Wv (sgn (true != q) (val W32 zs3)), Wv (sgn false (val W32 zs4)), _] = _
      rw [hq1, ← hq2]
      rfl


abbrev wc (z : Int) : Array Value := #[.bool (decide (z < 0)), sv (magU z.natAbs)]

theorem RdY.blk {c : Cx} {b cap n : Nat} {xs : List Nat} {rest : List Value} {T : TypeId} {fz : Nat × Nat} (hl : xs.length = n) (hc : n ≤ cap) : RdY c [(b, .cells (rowCY xs rest) T fz)] (.slice (some ⟨b, 0, none⟩) n cap) n xs := by
  refine ⟨by simp [hl], _, cap, rfl, hc, fun h0 => ⟨⟨b, 0, rfl⟩, fun w hw j u hu => ?_⟩⟩
  rw [vAt_lit, Nat.zero_add]
  refine cell_of_blk (hw.2.blk (b, _) (List.mem_cons_self ..)) ?_
  have e : (rowCY xs rest)[j]? = (xs.map yv ++ rest)[j]? := by simp [rowCY]
  rw [e, List.getElem?_append_left (List.getElem?_eq_some_iff.1 hu).1]
  exact hu

section
variable {c : Cx} {Q : Exit → Act → World → Prop} {m : Mode} {F : SFrame} {H : SHeap} {r : List SOp} {g : Option (Option Tmp × Bool)} {ns : Bool} {d : Tmp} {ty t t' : TypeId} {x y : Operand} {l : List UInt8} {i : Nat}
end

def body : List UInt8 → List UInt8
  | x :: l => if x == 45 then l else x :: l
  | [] => []

theorem WY.hd {w : World} {A : Option Addr} {n k cap : Nat} {xs : List Nat} (hv : WY w (.slice A n cap) n xs) (hk : k ≤ n) : WY w (.slice A k cap) k (xs.take k) := by
  have hl := hv.len
  obtain ⟨h1, A', cap', h2, h3, h4⟩ := hv
  simp only [Value.slice.injEq] at h2
  obtain ⟨rfl, _, rfl⟩ := h2
  refine ⟨by simp; omega, A, cap, rfl, by omega, fun h0 => ⟨(h4 (by omega)).1, fun j u hu => ?_⟩⟩
  obtain ⟨⟨b, o, rfl⟩, h5⟩ := h4 (by omega)
  refine h5 j u ?_
  rw [List.map_take, List.getElem?_take] at hu
  split at hu
  · exact hu
  · cases hu
theorem WY.cap {w : World} {A : Option Addr} {n cap : Nat} {xs : List Nat} (h : WY w (.slice A n cap) n xs) : n ≤ cap := by
  obtain ⟨_, A', cap', h2, h3, _⟩ := h
  simp only [Value.slice.injEq] at h2
  obtain ⟨_, _, rfl⟩ := h2
  exact h3

section
variable {c : Cx} {Q : Exit → Act → World → Prop} {m : Mode} {F : SFrame} {H : SHeap} {r : List SOp} {g : Option (Option Tmp × Bool)} {ns : Bool} {d : Tmp} {ty t t' : TypeId} {x y : Operand}
end

theorem tmod_bd (n : Int) {m : Nat} (hm : 0 < m) : -(m : Int) < n.tmod m ∧ n.tmod m < m ∧ (n.tmod m + m).tmod m = ((n % m).toNat : Int) := by
  have e := Int.mul_tdiv_add_tmod n m
  have h1 : n.tmod m < m := Int.tmod_lt_of_pos _ (by omega)
  have h2 : -(m : Int) < n.tmod m := by
    have h := Int.tmod_lt_of_pos (-n) (show (0 : Int) < m by omega)
    rw [Int.neg_tmod] at h
    omega
  refine ⟨h2, h1, ?_⟩
  rw [Int.tmod_eq_emod_of_nonneg (by omega), Int.toNat_of_nonneg (Int.emod_nonneg _ (by omega))]
  have h3 : n.tmod m + m = n + m * (1 - n.tdiv m) := by rw [Int.mul_sub]; omega
  rw [h3, Int.add_mul_emod_self_left]

set_option maxHeartbeats 2000000 in
theorem c_Mod (w : World) (n : Int) (m : Nat) (hm : 0 < m) (hm2 : m < 1000) :
    Calls Tryd.prog 30 #[iv n, nv m] w (Ret fun v w' => Kp [] w w' ∧ v = nv (n % m).toNat ∧ (n % m).toNat < m) := by
  obtain ⟨b1, b2, b3⟩ := tmod_bd n hm
  have hlt : (n % m).toNat < m := by
    have h1 := Int.emod_nonneg n (show (m : Int) ≠ 0 by omega)
    have h2 := Int.emod_lt_of_pos n (show (0 : Int) < m by omega)
    omega
  refine calls_of_S [] [] (by simp) [] Tryd.func30 rfl mixed (by kernel_rfl) Tryd.ntmps30 Tryd.results30 rfl ⟨by simp, by simp⟩ (by simp) ?_
  simp only [toS, textOps, toSOp, kindAt, kindOf, odAt, sopsAt, ordOf, zipF]
  (repeat' (first | refine JC.seq ?_ | refine JC.ops ?_ | refine JO.nil ?_ | refine JX.thenN ?_ | (apply r_move; (iterate 3 exact rfl)) | (apply r_assign; (iterate 3 exact rfl)) | (apply r_add; (iterate 4 exact rfl); omega) | (apply r_mod; (iterate 4 exact rfl); omega) | refine JC.ret ?_))
  exact JX.ret1 rfl (fun a w' st => ⟨st.kp, by rw [b3], hlt⟩)


class TWide (P : Program) (t : TypeId) : Prop where
  guard : P.eqGuardType P.depth t = false
  eql : ∀ (w : World) (p q : Bool) (l m : List UInt8), (Op.equalIn 10000 t (wv p l) (wv q m)).run P w = .ok (p == q && decide (l = m)) w

instance : TWide Tryd.prog 56 := ⟨Tryd.eqGuardType56, fun w p q l m => by
  have hf : Tryd.prog.underlying 56 = some (.struct (Tryd.prog.fieldsOf 56)) := by rw [Program.fieldsOf, Tryd.underlying56]
  rw [run_equalIn_agg w 9999 56 _ _ hf Tryd.stoodInHeld56]
  simp only [Program.fieldsOf, Tryd.underlying56]
  have h4 : ∀ (w : World) (xs : Array Value) (a b : Value), xs = #[a, b] → (part 4 xs 0).run Tryd.prog w = .ok a w := by
    intro w xs a b e
    subst e
    simp [part, isAgg, run_underlying Tryd.underlying4, Sem.run_bind]
  have h9 : ∀ (w : World) (xs : Array Value) (a b : Value), xs = #[a, b] → (part 9 xs 1).run Tryd.prog w = .ok b w := by
    intro w xs a b e
    subst e
    simp [part, isAgg, run_underlying Tryd.underlying9, Sem.run_bind]
  have g1 := h4 w #[.bool p, sv l] _ _ rfl
  have g2 := h4 w #[.bool q, sv m] _ _ rfl
  have g3 := h9 w #[.bool p, sv l] _ _ rfl
  have g4 := h9 w #[.bool q, sv m] _ _ rfl
  have g5 := run_equalIn_bool' (P := Tryd.prog) w 9998 4 p q Tryd.underlying4
  have g6 := run_equalIn_string (P := Tryd.prog) w 9998 9 ⟨l.toArray⟩ ⟨m.toArray⟩ Tryd.underlying9
  rw [toList_sv, toList_sv] at g6
  have hlm : (l == m) = decide (l = m) := by
    by_cases h : l = m
    · simp [h]
    · simp [h]
  rw [hlm] at g6
  simp only [Op.eqFields]
  rw [if_pos (by decide), if_pos (by decide)]
  simp only [Sem.run_bind, g1, g2, g3, g4, g5, g6, Result.andThen_ok]
  cases hpq : (p == q) with
  | false => simp
  | true =>
    simp only [Bool.not_true, Bool.false_eq_true, if_false, Sem.run_bind, g3, g4, g6, Result.andThen_ok, Bool.true_and]
    cases decide (l = m) <;> simp⟩

section
variable {c : Cx} {Q : Exit → Act → World → Prop} {m : Mode} {F : SFrame} {H : SHeap} {r : List SOp} {g : Option (Option Tmp × Bool)} {ns : Bool} {d : Tmp} {ty t t' : TypeId} {x y : Operand}
end

theorem IsZ.i64 {n : Int} (h1 : -9223372036854775808 ≤ n) (h2 : n < 9223372036854775808) : IsZ (Wv n) n 8 := IsZ.can (by
  have : n.natAbs ≤ 9223372036854775808 := by omega
  exact Nat.lt_of_le_of_lt this (by decide))


abbrev B16 : Nat := 65536

theorem OwnN.hd {N : SHeap} {A : Option Addr} {n k cap : Nat} {xs : List Nat} (h : OwnN N (.slice A n cap) n xs) (hk : k ≤ n) : OwnN N (.slice A k cap) k (xs.take k) := by
  have hl := h.len
  obtain ⟨h1, ⟨h2, h3, h4⟩ | ⟨b, cap', cur, h2, h3, h4, h5, h6, h7⟩⟩ := h
  · subst h4
    subst h3
    obtain rfl : k = 0 := by omega
    have h0 : xs = [] := List.eq_nil_of_length_eq_zero hl
    subst h0
    rw [h2]
    exact OwnN.nil
  · simp only [Value.slice.injEq, true_and] at h2
    obtain ⟨rfl, rfl⟩ := h2
    refine ⟨by simp; omega, .inr ⟨b, cap, cur, rfl, h3, by omega, h5, h6, ?_⟩⟩
    rw [Nat.mul_one] at h7 ⊢
    rw [List.map_take, ← h7, List.take_take, Nat.min_eq_left hk]

def NewR (w w' : World) (v : Value) (z m : Nat) : Prop := ∃ N zs, New N w w' ∧ OwnN N v zs.length zs ∧ (∀ x ∈ zs, x < B16) ∧ val B16 zs = z ∧ zs.length ≤ m
def NewD (w w' : World) (v : Value) (z : Nat) : Prop := ∃ N zs, New N w w' ∧ OwnN N v zs.length zs ∧ Dig B16 zs ∧ val B16 zs = z

theorem val_snoc (b : Nat) (l : List Nat) (x : Nat) : val b (l ++ [x]) = val b l + b ^ l.length * x := by
  rw [val_append, val, val, Nat.mul_zero, Nat.add_zero]
theorem snoc_lt {b : Nat} {l : List Nat} {x : Nat} (h : ∀ y ∈ l, y < b) (hx : x < b) : ∀ y ∈ l ++ [x], y < b := fun y hy => by
  rcases List.mem_append.1 hy with h1 | h1
  · exact h y h1
  · rw [List.mem_singleton.1 h1]; exact hx
theorem bval_take' (l : List Nat) (m : Nat) (h0 : 0 < m) (h : m ≤ l.length) : bval (l.take m) = l.getD (m - 1) 0 + 256 * bval (l.take (m - 1)) := by
  have := bval_take l (m - 1) (by omega)
  rwa [show m - 1 + 1 = m by omega] at this
theorem dig_round {P a b x V : Nat} : V + P * (a + 256 * b) + P * 65536 * x = V + P * (a + 256 * (b + 256 * x)) := by
  rw [Nat.mul_assoc, Nat.add_assoc, ← Nat.mul_add]
  congr 2
  omega

set_option maxHeartbeats 8000000 in
theorem c_digits (w : World) (p : Bool) (l : List UInt8) (hl : l.length ≤ 3000000000) :
    Calls Tryd.prog 56 #[wv p l] w (Ret fun v w' => Kp [] w w' ∧ NewD w w' v (bval (bts l))) := by
  have hbl := bts_len l
  refine calls_of_S [] [] (by simp) [] Tryd.func56 rfl mixed (by kernel_rfl) Tryd.ntmps56 Tryd.results56 rfl ⟨by simp, by simp⟩ (by simp) ?_
  simp only [toS, textOps, toSOp, kindAt, kindOf, odAt, sopsAt, ordOf, zipF]
  (repeat' (first | refine JC.seq ?_ | refine JC.ops ?_ | refine JO.nil ?_ | refine JX.thenN ?_ | (apply r_move; (iterate 3 exact rfl)) | (apply r_fieldAddr; (iterate 3 exact rfl)) | (apply r_assign; (iterate 3 exact rfl)) | (apply r_load; (iterate 4 exact rfl); exact at0; exact rfl) | (apply r_lenS; (iterate 3 exact rfl)) | (apply r_boxA; (iterate 4 exact rfl); intro _) | refine JC.block ?_))
  rename_i b1
  refine JC.loopH (ι := Int × Value × SHeap × List Nat) ⟨fun z => [(5, iv z.1), (3, z.2.1), (1, .pointer (some ⟨b1, 0, none⟩))], fun z => (b1, .cells #[.bool p, sv l] 56) :: (z.2.2.1 ++ []),
    fun z => z.1 = l.length - 2 * z.2.2.2.length ∧ -2 ≤ z.1 ∧ OwnN z.2.2.1 z.2.1 z.2.2.2.length z.2.2.2 ∧ (∀ x ∈ z.2.2.2, x < B16) ∧ val B16 z.2.2.2 + B16 ^ z.2.2.2.length * bval ((bts l).take z.1.toNat) = bval (bts l), fun z => (z.1 + 2).toNat⟩
    ((l.length : Int), _, [], []) ⟨by simp, by simp, OwnN.nil, fun _ h => absurd h List.not_mem_nil, by
      dsimp only
      rw [Int.toNat_natCast, List.take_of_length_le (by omega)]
      simp [val]⟩ (by repeat first | exact trivial | refine ⟨rfl, ?_⟩) (by exact HSub.at 0 rfl (HSub.nil _)) (fun z hz => ?_)
  obtain ⟨i, v, N, zs⟩ := z
  obtain ⟨hi, hi2, hO, hz, hval⟩ := hz
  dsimp only at hi hi2 hO hz hval ⊢
  by_cases hin : 0 < i
  · obtain ⟨m, rfl⟩ : ∃ m : Nat, i = m := ⟨i.toNat, by omega⟩
    rw [Int.toNat_natCast] at hval
    have hm0 : 0 < m := by omega
    have hml : m ≤ l.length := by omega
    have hd1 : (bts l).getD (m - 1) 0 < 256 := bts_lt
    have hd2 : (bts l).getD (m - 2) 0 < 256 := bts_lt
    by_cases hm1 : 1 < m
    · (repeat' (first | refine JC.seq ?_ | refine JC.ops ?_ | refine JO.nil ?_ | refine JX.thenN ?_ | (apply r_move; (iterate 3 exact rfl)) | (apply r_fieldAddr; (iterate 3 exact rfl)) | (apply r_assign; (iterate 3 exact rfl)) | (apply r_load; (iterate 4 exact rfl); exact at0; exact rfl) | (apply r_mulN (i := 256); (iterate 4 exact rfl); (first | assumption | omega)) | (apply r_addN; (iterate 4 exact rfl); omega) | (apply r_sub1; (iterate 4 exact rfl); omega) | (apply r_sub2; (iterate 4 exact rfl); omega) | (apply r_convN; (iterate 3 exact rfl); omega) | (apply r_idxS; (iterate 4 exact rfl); (first | assumption | omega)) | (apply r_gtr; (iterate 4 exact rfl); all_goals intro hc; all_goals try (exfalso; omega)) | (apply r_build1; (iterate 5 exact rfl); (repeat first | exact trivial | refine ⟨rfl, ?_⟩); decide; decide; intro _) | refine JC.skip ?_ | refine JC.condT rfl ?_ | refine JC.block ?_))
      rename_i b2
      refine r_appendN (A := [_, _]) hO (own_lit b2 1 [(bts l).getD (m - 1) 0 + 256 * (bts l).getD (m - 2) 0] _ rfl rfl (by decide)).rd (by (repeat' first | exact HSub.nil _ | exact HSub.hd | exact HSub.in0 | exact HSub.refl _ | refine HSub.skip ?_ | refine HSub.skipN ?_)) rfl trivial rfl rfl rfl rfl (by omega) (fun v' N' hO' => ?_)
      (repeat' (first | refine JC.ops ?_ | refine JO.nil ?_ | refine JX.thenN ?_ | (apply r_move; (iterate 3 exact rfl)) | (apply r_assign; (iterate 3 exact rfl)) | (apply r_sub2; (iterate 4 exact rfl); omega) | refine JX.blockN ?_))
      refine JX.roundH (((m - 2 : Nat) : Int), v', N', zs ++ [(bts l).getD (m - 1) 0 + 256 * (bts l).getD (m - 2) 0]) ⟨by simp only [List.length_append, List.length_singleton]; omega, by dsimp only; omega, by rw [List.length_append]; exact hO', snoc_lt hz (by show _ < 65536; omega), ?_⟩ (by dsimp only; omega) (by repeat first | exact trivial | refine ⟨rfl, ?_⟩) (by (repeat' first | exact HSub.refl _ | exact HSub.nil _ | refine HSub.at 0 rfl ?_ | refine HSub.at 1 rfl ?_ | refine HSub.at 2 rfl ?_ | refine HSub.at 3 rfl ?_ | refine HSub.at 4 rfl ?_ | refine HSub.at 5 rfl ?_ | refine HSub.at 6 rfl ?_ | refine HSub.at 7 rfl ?_ | refine HSub.at 8 rfl ?_ | refine HSub.at 9 rfl ?_ | refine HSub.at 10 rfl ?_ | refine HSub.at 11 rfl ?_ | refine HSub.at 12 rfl ?_ | refine HSub.at 13 rfl ?_ | refine HSub.at 14 rfl ?_ | refine HSub.at 15 rfl ?_ | refine HSub.at 16 rfl ?_ | refine HSub.at 17 rfl ?_ | refine HSub.at 18 rfl ?_ | refine HSub.at 19 rfl ?_ | refine HSub.segH ?_ | refine HSub.skip ?_ | refine HSub.skipN ?_))
      dsimp only
      rw [val_snoc, List.length_append, List.length_singleton, Int.toNat_natCast, ← hval, bval_take' _ m hm0 (by omega), bval_take' _ (m - 1) (by omega) (by omega), show m - 1 - 1 = m - 2 by omega, Nat.pow_succ]
      exact dig_round
    · (repeat' (first | refine JC.seq ?_ | refine JC.ops ?_ | refine JO.nil ?_ | refine JX.thenN ?_ | (apply r_move; (iterate 3 exact rfl)) | (apply r_fieldAddr; (iterate 3 exact rfl)) | (apply r_assign; (iterate 3 exact rfl)) | (apply r_load; (iterate 4 exact rfl); exact at0; exact rfl) | (apply r_sub1; (iterate 4 exact rfl); omega) | (apply r_convN; (iterate 3 exact rfl); omega) | (apply r_idxS; (iterate 4 exact rfl); (first | assumption | omega)) | (apply r_gtr; (iterate 4 exact rfl); all_goals intro hc; all_goals try (exfalso; omega)) | (apply r_build1; (iterate 5 exact rfl); (repeat first | exact trivial | refine ⟨rfl, ?_⟩); decide; decide; intro _) | refine JC.skip ?_ | refine JC.condT rfl ?_ | refine JC.condF rfl ?_ | refine JC.block ?_))
      rename_i b2
      refine r_appendN (A := [_, _]) hO (own_lit b2 1 [(bts l).getD (m - 1) 0] _ rfl rfl (by decide)).rd (by (repeat' first | exact HSub.nil _ | exact HSub.hd | exact HSub.in0 | exact HSub.refl _ | refine HSub.skip ?_ | refine HSub.skipN ?_)) rfl trivial rfl rfl rfl rfl (by omega) (fun v' N' hO' => ?_)
      (repeat' (first | refine JC.ops ?_ | refine JO.nil ?_ | refine JX.thenN ?_ | (apply r_move; (iterate 3 exact rfl)) | (apply r_assign; (iterate 3 exact rfl)) | (apply r_sub; (iterate 4 exact rfl); omega) | refine JX.blockN ?_))
      refine JX.roundH ((m : Int) - 2, v', N', zs ++ [(bts l).getD (m - 1) 0]) ⟨by simp only [List.length_append, List.length_singleton]; omega, by dsimp only; omega, by rw [List.length_append]; exact hO', snoc_lt hz (by show _ < 65536; omega), ?_⟩ (by dsimp only; omega) (by repeat first | exact trivial | refine ⟨rfl, ?_⟩) (by (repeat' first | exact HSub.refl _ | exact HSub.nil _ | refine HSub.at 0 rfl ?_ | refine HSub.at 1 rfl ?_ | refine HSub.at 2 rfl ?_ | refine HSub.at 3 rfl ?_ | refine HSub.at 4 rfl ?_ | refine HSub.at 5 rfl ?_ | refine HSub.at 6 rfl ?_ | refine HSub.at 7 rfl ?_ | refine HSub.at 8 rfl ?_ | refine HSub.at 9 rfl ?_ | refine HSub.at 10 rfl ?_ | refine HSub.at 11 rfl ?_ | refine HSub.at 12 rfl ?_ | refine HSub.at 13 rfl ?_ | refine HSub.at 14 rfl ?_ | refine HSub.at 15 rfl ?_ | refine HSub.at 16 rfl ?_ | refine HSub.at 17 rfl ?_ | refine HSub.at 18 rfl ?_ | refine HSub.at 19 rfl ?_ | refine HSub.segH ?_ | refine HSub.skip ?_ | refine HSub.skipN ?_))
      dsimp only
      obtain rfl : m = 1 := by omega
      rw [val_snoc, List.length_append, List.length_singleton, show ((1 : Nat) : Int) - 2 = -1 from rfl, show (-1 : Int).toNat = 0 from rfl, List.take_zero, bval_nil, Nat.mul_zero, Nat.add_zero, ← hval, bval_take' _ 1 (by decide) (by omega), Nat.sub_self, List.take_zero, bval_nil, Nat.mul_zero, Nat.add_zero]
  · (repeat' (first | refine JC.seq ?_ | refine JC.ops ?_ | refine JO.nil ?_ | refine JX.thenN ?_ | (apply r_move; (iterate 3 exact rfl)) | (apply r_gtr; (iterate 4 exact rfl); all_goals intro hc; all_goals try (exfalso; omega)) | refine JX.thenE ?_ | refine JC.exit ?_ | refine JC.condF rfl ?_ | refine JX.blockE ?_))
    obtain ⟨A, cap, rfl⟩ := hO.form
    refine r_call0 trivial rfl rfl rfl (fun w hk hs => c_trim w _ _ _ _ (hO.rd.at hk hs (by (repeat' first | exact HSub.nil _ | exact HSub.hd | exact HSub.in0 | exact HSub.refl _ | refine HSub.skip ?_ | refine HSub.skipN ?_))) (by omega)) fun w v w' _ _ _ hR => ?_
    obtain ⟨q, hq, rfl, hnq⟩ := hR
    (repeat' (first | refine JO.nil ?_ | refine JX.thenN ?_ | (apply r_assign; (iterate 3 exact rfl)) | refine JC.ret ?_))
    have hown := hO.hd hq
    rw [← hnq] at hown
    have hql : (nrm zs).length = q := hown.len
    refine JX.ret1 rfl (fun a w' st => ⟨st.kp, N, nrm zs, st.newOf rfl (by (repeat' first | exact HSub.nil _ | exact HSub.hd | exact HSub.in0 | exact HSub.refl _ | refine HSub.skip ?_ | refine HSub.skipN ?_)), by rw [hql]; exact hown, Dig.of hz, ?_⟩)
    rw [show i.toNat = 0 by omega, List.take_zero, bval_nil, Nat.mul_zero, Nat.add_zero] at hval
    rw [val_nrm, hval]

end Go.Proofs.YtdoogoglfbohaaaDoor

