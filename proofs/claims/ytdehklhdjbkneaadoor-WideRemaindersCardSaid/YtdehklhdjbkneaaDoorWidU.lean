/- The canonical number of words: (nat).wide. -/
import Derived.Test.YtdehklhdjbkneaaDoorWidT
import Derived.Test.YtdehklhdjbkneaaDoorWidN
import Derived.Shelf.Abstract
namespace Go.Proofs.YtdehklhdjbkneaaDoor
open Go Go.RowKit
set_option linter.unusedSimpArgs false
set_option linter.unusedVariables false
set_option linter.unusedSectionVars false

/-- Between two rounds: the box b5 holds a slice that owns the bytes of what has come. -/
structure WAt (w0 : World) (b4 b5 bx : Nat) (sx : Value) (pre : List (Nat × Nat)) (W : World) : Prop where
  ex : ∃ v N, OwnY N v (4 * pre.length) (wbs pre) ∧ Hsat ((b5, .cells #[v] 22 (0, 0)) :: (b4, .cells #[.bool false, .string ⟨#[]⟩] 27 (0, 0)) :: (bx, .cells #[sx] 57 (0, 0)) :: N) W ∧ ∀ p ∈ N, w0.heap.size ≤ p.1
  kp : Kp [] w0 W

theorem OwnY.cells {N : SHeap} {v : Value} {n : Nat} {xs : List Nat} (h : OwnY N v n xs) : ∀ p ∈ N, p.2.isCells = true := by
  obtain ⟨_, ⟨_, _, rfl⟩ | ⟨b, cap, cur, _, rfl, _⟩⟩ := h
  · intro p hp; cases hp
  · intro p hp; cases List.mem_singleton.1 hp; rfl

theorem WAt.own {w0 : World} {b4 b5 bx B : Nat} {sx : Value} (hB : w0.heap.size ≤ B) : OwnFrom B (WAt w0 b4 b5 bx sx) := by
  rintro pre W W' row ⟨⟨v, N, hO, hs, hN⟩, hk⟩ hg hr
  have key : ∀ (k : Nat) (o : Obj), W.heap[k]? = some o → o.isCells = true → W'.heap[k]? = some o := fun k o h hc => by
    refine (hg.block k (Array.getElem?_eq_some_iff.1 h).1 (fun e => ?_)).trans h
    obtain ⟨_, o', h1, h2⟩ := hr k e.symm
    rw [h] at h1
    cases h1
    rw [hc] at h2; cases h2
  refine ⟨⟨v, N, hO, ⟨hs.nd, fun p hp => key _ _ (hs.blk p hp) ?_⟩, hN⟩, ⟨hg.os.trans hk.os, hg.tape.trans hk.tape, hg.output.trans hk.output, Nat.le_trans hk.size hg.size, fun k hk' hm => (hg.block k (Nat.lt_of_lt_of_le hk' hk.size) (fun e => ?_)).trans (hk.block k hk' hm)⟩⟩
  · rcases List.mem_cons.1 hp with rfl | hp
    · rfl
    · rcases List.mem_cons.1 hp with rfl | hp
      · rfl
      · rcases List.mem_cons.1 hp with rfl | hp
        · rfl
        · exact hO.cells p hp
  · have := (hr k e.symm).1
    omega

/-- A step of a round that keeps all that lay. -/
theorem WAt.same {w0 W W' : World} {b4 b5 bx : Nat} {sx : Value} {pre : List (Nat × Nat)} (h : WAt w0 b4 b5 bx sx pre W) (hk : Kp [] W W') : WAt w0 b4 b5 bx sx pre W' := by
  obtain ⟨⟨v, N, hO, hs, hN⟩, hk0⟩ := h
  exact ⟨⟨v, N, hO, hs.kp hk (by simp), hN⟩, hk0.trans hk⟩
theorem Kp.keeps {W W' : World} (hk : Kp [] W W') (B : Nat) : KeepsFrom B W W' := ⟨hk.size, fun k o _ h _ => (hk.block k (Array.getElem?_eq_some_iff.1 h).1 (by simp)).trans h⟩

/-- The activation behind the assignment of a round. -/
def WAx (b5 : Nat) (x : Nat × Nat) (a : Act) (_ : World) : Prop := FrOK 43 [(7, uv x.2), (5, .pointer (some ⟨b5, 0, none⟩))] a

theorem FrOK.set {n : Nat} {F : SFrame} {a : Act} (h : FrOK n F a) {d : Nat} (v : Value) (hd : d < n) : FrOK n ((d, v) :: F) { a with tmps := a.tmps.setIfInBounds d v } := by
  have := h.put (d := some d) v (by simpa [dstOk] using hd)
  exact this

theorem FrOK.sub {n : Nat} {F F' : SFrame} {a : Act} (h : FrOK n F a) (hc : cov F F') : FrOK n F' a := ⟨h.defers, h.size, fun i v hl => h.fr i v (cov_look hc i v hl)⟩

theorem Hsat.find {H : SHeap} {w : World} (h : Hsat H w) {p : Nat × Obj} (hp : p ∈ H) : w.heap[p.1]? = some p.2 := h.blk p hp

theorem Hsat.ltp {H : SHeap} {w : World} (h : Hsat H w) {p : Nat × Obj} (hp : p ∈ H) : p.1 < w.heap.size := (Array.getElem?_eq_some_iff.1 (h.blk p hp)).1

theorem WAt.kb {w0 W W' : World} {b4 b5 bx : Nat} {sx : Value} {pre : List (Nat × Nat)} {S M : List Nat} (h : WAt w0 b4 b5 bx sx pre W) (hS : ∀ q ∈ S, q = bx ∨ q < w0.heap.size) (hM : ∀ q ∈ S, q ∉ M) (hk : Kp M W W') : KB S W W' := fun q hq => by
  refine hk.block q ?_ (hM q hq)
  rcases hS q hq with rfl | h1
  · obtain ⟨⟨v, N, hO, hs, hN⟩, _⟩ := h
    exact hs.ltp (p := (q, _)) (List.mem_cons_of_mem _ (List.mem_cons_of_mem _ (List.mem_cons_self ..)))
  · exact Nat.lt_of_lt_of_le h1 h.kp.size

/-- What a round's body leaves. -/
theorem WAt.turned {w0 W W' : World} {b4 b5 bx bl : Nat} {sx v v' : Value} {ol : Obj} {pre : List (Nat × Nat)} {x : Nat × Nat} {N N' : SHeap} {S : List Nat} (B : Nat) (hO : OwnY N v (4 * pre.length) (wbs pre)) (hs : Hsat ((b5, .cells #[v] 22 (0, 0)) :: (b4, .cells #[.bool false, .string ⟨#[]⟩] 27 (0, 0)) :: (bx, .cells #[sx] 57 (0, 0)) :: N) W) (hN : ∀ p ∈ N, w0.heap.size ≤ p.1) (hk0 : Kp [] w0 W)
    (h5 : w0.heap.size ≤ b5) (hS : ∀ q ∈ S, q = bx ∨ q < w0.heap.size) (hO' : OwnY N' v' (4 * pre.length + 4) (wbs (pre ++ [x]))) (hk : Kp (b5 :: N.map (·.1)) W W')
    (hs' : Hsat ((bl, ol) :: (b5, .cells #[v'] 22 (0, 0)) :: N') W') (hwr : ∀ p ∈ N', W.heap.size ≤ p.1 ∨ p.1 ∈ b5 :: N.map (·.1)) : KeepsFrom B W W' ∧ KB S W W' ∧ WAt w0 b4 b5 bx sx (pre ++ [x]) W' := by
  have hnd := hs.nd
  simp only [List.map_cons, List.nodup_cons, List.mem_cons, not_or] at hnd
  obtain ⟨⟨e54, e5x, e5N⟩, ⟨e4x, e4N⟩, exN, hNn⟩ := hnd
  have hnd' := hs'.nd
  simp only [List.map_cons, List.nodup_cons, List.mem_cons, not_or] at hnd'
  obtain ⟨_, e5N', hNn'⟩ := hnd'
  have hb5 := hs.blk (b5, _) (List.mem_cons_self ..)
  have hb4 := hs.blk (b4, _) (List.mem_cons_of_mem _ (List.mem_cons_self ..))
  have hbx := hs.blk (bx, _) (List.mem_cons_of_mem _ (List.mem_cons_of_mem _ (List.mem_cons_self ..)))
  have l4 := (Array.getElem?_eq_some_iff.1 hb4).1
  have lx := (Array.getElem?_eq_some_iff.1 hbx).1
  dsimp only at hb5 hb4 hbx l4 lx
  have n4 : b4 ∉ b5 :: N.map (·.1) := by simp only [List.mem_cons, not_or]; exact ⟨Ne.symm e54, e4N⟩
  have nx : bx ∉ b5 :: N.map (·.1) := by simp only [List.mem_cons, not_or]; exact ⟨Ne.symm e5x, exN⟩
  have hMge : ∀ q ∈ b5 :: N.map (·.1), w0.heap.size ≤ q := fun q hq => by
    rcases List.mem_cons.1 hq with rfl | hq
    · exact h5
    · obtain ⟨p, hp, rfl⟩ := List.mem_map.1 hq
      exact hN p hp
  have hfar : ∀ q, q < W.heap.size → q ∉ b5 :: N.map (·.1) → q ∉ N'.map (·.1) := fun q hq hn hm => by
    obtain ⟨p, hp, rfl⟩ := List.mem_map.1 hm
    rcases hwr p hp with h | h
    · omega
    · exact hn h
  have hSM : ∀ q ∈ S, q ∉ b5 :: N.map (·.1) := fun q hq hm => by
    rcases hS q hq with rfl | h1
    · exact nx hm
    · have := hMge q hm; omega
  refine ⟨⟨hk.size, fun q o _ h hc => (hk.block q (Array.getElem?_eq_some_iff.1 h).1 (fun hm => ?_)).trans h⟩, ?_, ⟨⟨v', N', ?_, ⟨?_, fun p hp => ?_⟩, fun p hp => ?_⟩, ⟨hk.os.trans hk0.os, hk.tape.trans hk0.tape, hk.output.trans hk0.output, Nat.le_trans hk0.size hk.size, fun q hq hm => (hk.block q (Nat.lt_of_lt_of_le hq hk0.size) (fun hm' => ?_)).trans (hk0.block q hq hm)⟩⟩⟩
  · rcases List.mem_cons.1 hm with rfl | hm
    · rw [hb5] at h; cases h; cases hc
    · obtain ⟨p, hp, rfl⟩ := List.mem_map.1 hm
      have h2 := hs.blk p (List.mem_cons_of_mem _ (List.mem_cons_of_mem _ (List.mem_cons_of_mem _ hp)))
      rw [h2] at h; cases h
      rw [hO.cells p hp] at hc; cases hc
  · exact WAt.kb ⟨⟨v, N, hO, hs, hN⟩, hk0⟩ hS hSM hk
  · rw [List.length_append, List.length_singleton, Nat.mul_add, Nat.mul_one]; exact hO'
  · simp only [List.map_cons, List.nodup_cons, List.mem_cons, not_or]
    exact ⟨⟨e54, e5x, e5N'⟩, ⟨e4x, hfar _ l4 n4⟩, hfar _ lx nx, hNn'⟩
  · rcases List.mem_cons.1 hp with rfl | hp
    · exact hs'.blk _ (List.mem_cons_of_mem _ (List.mem_cons_self ..))
    · rcases List.mem_cons.1 hp with rfl | hp
      · exact (hk.block _ l4 n4).trans hb4
      · rcases List.mem_cons.1 hp with rfl | hp
        · exact (hk.block _ lx nx).trans hbx
        · exact hs'.blk _ (List.mem_cons_of_mem _ (List.mem_cons_of_mem _ hp))
  · rcases hwr p hp with h | h
    · have := hk0.size; omega
    · exact hMge _ h
  · have := hMge q hm'; omega

set_option maxHeartbeats 16000000 in
theorem c_wide (w0 : World) (v : Value) (n : Nat) (xs : List Nat) (p : Bool) (hv : WU w0 v n xs) (hx : ∀ x ∈ xs, x < W32) (hn : n ≤ 100000) :
    Calls Tryd.prog 44 #[v, .bool p] w0 (Ret fun r w' => Kp [] w0 w' ∧ r = Wv (sgn p (val W32 xs))) := by
  obtain ⟨A, cap, rfl⟩ := hv.form
  refine calls_of_Z 3 [⟨6, 0, [], [(1, .seq)]⟩] Tryd.func44 rfl mixed (by kernel_rfl) Tryd.ntmps44 (by simp) ?_
  simp only [toZ, hasRF, Bool.or_false, Bool.false_or, Bool.or_self, Bool.true_or, cond_true, cond_false, toS, textOps, toSOp, kindAt, kindOf, odAt, sopsAt, ordOf, zipF]

  (repeat' (first | refine JC.seq ?_ | refine JC.ops ?_ | refine JO.nil ?_ | refine JX.thenN ?_ | (apply r_move; exact rfl; exact rfl; exact rfl) | (apply r_allocZ; exact rfl; exact rfl; exact rfl; intro _)))
  rename_i b4
  refine r_call0 trivial rfl rfl rfl (fun w hk hs => c_norm w _ _ _ _ (hv.mono hk) (by omega)) fun w v w' _ _ _ hR => ?_
  obtain ⟨k, hk, rfl, hnk⟩ := hR
  have hvk := hv.hd hk
  rw [← hnk] at hvk
  have hlk : (nrm xs).length = k := hvk.len
  (repeat' (first | refine JC.seq ?_ | refine JC.ops ?_ | refine JO.nil ?_ | refine JX.thenN ?_ | (apply r_move; exact rfl; exact rfl; exact rfl) | (apply r_assign; exact rfl; exact rfl; exact rfl) | (apply r_len; exact rfl; exact rfl; exact rfl) | (apply r_mulN (i := 4); exact rfl; exact rfl; exact rfl; exact rfl; (first | assumption | omega))))
  refine r_makeC (n := 0) (k := 4 * k) rfl rfl rfl rfl rfl (by omega) (by omega) (by omega) (fun bb => ?_)
  (repeat' (first | refine JC.seq ?_ | refine JC.ops ?_ | refine JO.nil ?_ | refine JX.thenN ?_ | (apply r_move; exact rfl; exact rfl; exact rfl) | (apply r_allocZ; exact rfl; exact rfl; exact rfl; intro _) | (apply r_store; exact rfl; (first | exact trivial | exact ⟨rfl, rfl⟩); exact rfl; exact rfl; (first | exact at0 | exact at1 | exact at2 | exact at3 | exact at4 | exact at5 | exact at6 | exact at7 | exact at8 | exact at9); exact rfl; exact rfl; (first | exact Nat.le_of_ble_eq_true rfl | (simp; done) | omega))))
  rename_i b5
  refine r_callA (A := []) rfl trivial rfl rfl rfl (fun w hk hs => c_Back w _ A k cap rfl) fun w v w' _ _ _ hR => ?_
  obtain ⟨bx, rfl, hNx⟩ := hR
  refine ⟨_, hNx, ?_⟩
  (repeat' (first | refine JO.nil ?_ | refine JX.thenN ?_ | refine JC.block ?_))
  refine JC.part (F' := [(16, .func (.func 70) #[] #[.pointer (some ⟨bx, 0, none⟩)]), (5, .pointer (some ⟨b5, 0, none⟩)), (4, .pointer (some ⟨b4, 0, none⟩)), (1, .bool p)]) (H' := [(b5, .cells #[.slice (some ⟨bb, 0, none⟩) 0 (4 * k)] 22 (0, 0)), (b4, .cells #[.bool false, .string ⟨#[]⟩] 27 (0, 0)), (bx, .cells #[.slice A k cap] 57 (0, 0)), (bb, .cells (zerosOf #[Value.int IntKind.u8 0] (4 * k * 1)) 5 (0, 0))]) (by repeat first | exact trivial | refine ⟨rfl, ?_⟩) (by exact HSub.at 1 rfl (HSub.at 2 rfl (HSub.at 0 rfl (HSub.at 0 rfl (HSub.nil _))))) ?_
  refine JC.raw (fun a W st => ?_)
  obtain ⟨tm, df⟩ := a
  obtain rfl : df = [] := st.fr.defers
  have hge : ∀ q ∈ [b5, b4, bx, bb], w0.heap.size ≤ q := fun q hq => by
    have : ∃ o, (q, o) ∈ [(b5, Obj.cells #[.slice (some ⟨bb, 0, none⟩) 0 (4 * k)] 22 (0, 0)), (b4, .cells #[.bool false, .string ⟨#[]⟩] 27 (0, 0)), (bx, .cells #[.slice A k cap] 57 (0, 0)), (bb, .cells (zerosOf #[Value.int IntKind.u8 0] (4 * k * 1)) 5 (0, 0))] := by
      simp only [List.mem_cons, List.mem_nil_iff, or_false] at hq
      rcases hq with rfl | rfl | rfl | rfl
      · exact ⟨_, List.mem_cons_self ..⟩
      · exact ⟨_, List.mem_cons_of_mem _ (List.mem_cons_self ..)⟩
      · exact ⟨_, List.mem_cons_of_mem _ (List.mem_cons_of_mem _ (List.mem_cons_self ..))⟩
      · exact ⟨_, List.mem_cons_of_mem _ (List.mem_cons_of_mem _ (List.mem_cons_of_mem _ (List.mem_cons_self ..)))⟩
    obtain ⟨o, ho⟩ := this
    rcases st.wr _ ho with h | h
    · exact h
    · cases h
  have h5 : w0.heap.size ≤ b5 := hge b5 (by simp)
  have hWs : w0.heap.size ≤ W.heap.size := st.kp.size
  have hI0 : WAt w0 b4 b5 bx (.slice A k cap) [] W := by
    refine ⟨⟨_, [(bb, .cells (zerosOf #[Value.int IntKind.u8 0] (4 * k * 1)) 5 (0, 0))], ⟨rfl, .inr ⟨bb, 4 * k, _, rfl, rfl, Nat.zero_le _, by simp only [maxLen]; omega, by rw [zeros1]; simp, rfl⟩⟩, st.hs, fun p hp => ?_⟩, st.kp⟩
    cases List.mem_singleton.1 hp
    exact hge bb (by simp)
  obtain ⟨S, hSx, hS, hWd⟩ : ∃ S : List Nat, bx ∈ S ∧ (∀ q ∈ S, q = bx ∨ q < w0.heap.size) ∧ Wds S W (.slice A k cap) (nrm xs) := by
    rcases Nat.eq_zero_or_pos k with h0 | h0
    · refine ⟨[bx], by simp, fun q hq => .inl (by simpa using hq), .inl ⟨List.eq_nil_of_length_eq_zero (by omega), A, cap, by rw [h0]⟩⟩
    · obtain ⟨_, A', cap', h1, _, h2⟩ := hvk
      simp only [Value.slice.injEq] at h1
      obtain ⟨rfl, _, rfl⟩ := h1
      obtain ⟨⟨ab, ao, rfl⟩, h3⟩ := h2 h0
      have hcell : ∀ j, j < k → w0.cell? ⟨ab, ao + j, none⟩ = some (uv ((nrm xs).getD j 0)) := fun j hj => h3 j _ (by rw [List.getElem?_map, gD_lt (d := 0) (by omega)]; rfl)
      have hab : ab < w0.heap.size := lt_of_cell (hcell 0 h0)
      refine ⟨[bx, ab], by simp, fun q hq => ?_, .inr ⟨ab, ao, cap, by rw [hlk], by simp, Nat.lt_of_lt_of_le hab st.kp.size, fun j hj => ?_⟩⟩
      · simp only [List.mem_cons, List.mem_nil_iff, or_false] at hq
        rcases hq with rfl | rfl
        · exact .inl rfl
        · exact .inr hab
      · have := hcell j (by omega)
        rw [World.cell?_of_block (w := w0) (st.kp.block ab hab (by simp))]
        exact this
  have hbxW : bx < W.heap.size := st.hs.ltp (p := (bx, _)) (List.mem_cons_of_mem _ (List.mem_cons_of_mem _ (List.mem_cons_self ..)))
  have hcx : W.cell? ⟨bx, 0, none⟩ = some (.slice A k cap) := cell_of_blk (st.hs.blk (bx, _) (List.mem_cons_of_mem _ (List.mem_cons_of_mem _ (List.mem_cons_self ..)))) rfl
  refine wpIn_wide.1 (wpIn_rangeFunc_ownH (F := Fence.wide) (n := 3) rfl (by omega) (gf := 70) (lb := #[.pointer (some ⟨bx, 0, none⟩)]) (st.fr.ev rfl) trivial (enters_of Tryd.func70 (by kernel_rfl) rfl)
    (back_stops Fence.wide 2 trivial rfl (by omega) bx S (.slice A k cap) (nrm xs) (by omega) W hbxW hSx hcx hWd) KB.trans (fun W' l o o' hl ho _ _ q hq => ?_) (Below.refl _ _) (fun _ => rfl)
    (WAt w0 b4 b5 bx (.slice A k cap)) (fun _ _ _ => False) (WAt.own st.kp.size) (fun _ _ _ _ _ hs _ _ => hs) hI0 (WAx b5) (fun _ _ _ _ _ _ hs _ _ => hs) ?assign ?body ?done ?stop)
  · refine World.putObj_heap_other (fun e => ?_)
    subst e
    rcases hS q hq with rfl | h
    · omega
    · omega
  case assign =>
    intro l pre x W1 K hI hK
    have stx : St ⟨Tryd.prog, 43, W1, [], by simp⟩ [(18, uv x.2), (5, .pointer (some ⟨b5, 0, none⟩))] [] { tmps := (tm.setIfInBounds 17 (Value.int .i64 (x.1 : Int))).setIfInBounds 18 (uv x.2), defers := [] } W1 :=
      ⟨((st.fr.set (d := 17) (Value.int .i64 (x.1 : Int)) (show 17 < 43 by decide)).set (d := 18) (uv x.2) (show 18 < 43 by decide)).sub (by repeat first | exact trivial | refine ⟨rfl, ?_⟩), Kp.refl _ _, ⟨by simp, by simp⟩, fun p hp => by cases hp⟩
    have e : (Array.zip (#[17, 18] : Array Tmp) #[Value.int .i64 (x.1 : Int), Value.int .u64 (x.2 : Int)]).foldl (fun t (p, v) => t.setIfInBounds p v) tm = (tm.setIfInBounds 17 (Value.int .i64 (x.1 : Int))).setIfInBounds 18 (uv x.2) := by simp
    rw [e]
    refine wpIn_mono (wpIn_region_JO (c := ⟨Tryd.prog, 43, W1, [], by simp⟩) (ov := []) (F := [(18, uv x.2), (5, .pointer (some ⟨b5, 0, none⟩))]) (H := []) (K := K) rfl ?_ _ _ stx) (fun e a w hq => by cases e <;> first | exact hq | exact hq.elim)
    simp only [textOps, toSOp, kindAt, kindOf]
    (repeat' (first | refine JO.nil ?_ | (apply r_assign; exact rfl; exact rfl; exact rfl)))
    exact ⟨fun a' W' st' => hK a' W' (st'.kp.keeps _) (hI.kb hS (by simp) st'.kp) (hI.same st'.kp) (st'.fr.sub (by repeat first | exact trivial | refine ⟨rfl, ?_⟩))⟩
  case body =>
    intro l pre x a' W1 hl hr hI hA hlen
    have hI' := hI
    obtain ⟨⟨v, N, hO, hs, hN⟩, hk0⟩ := hI
    have hMlt : ∀ q ∈ b5 :: N.map (·.1), q < W1.heap.size := fun q hq => by
      rcases List.mem_cons.1 hq with rfl | hq
      · exact hs.ltp (p := (q, _)) (List.mem_cons_self ..)
      · obtain ⟨p, hp, rfl⟩ := List.mem_map.1 hq
        exact hs.ltp (List.mem_cons_of_mem _ (List.mem_cons_of_mem _ (List.mem_cons_of_mem _ hp)))
    have hs1 : Hsat ((b5, .cells #[v] 22 (0, 0)) :: (N ++ [])) W1 := by
      rw [List.append_nil]
      exact hs.sub (fun q hq => by
        rcases List.mem_cons.1 hq with rfl | hq
        · exact List.mem_cons_self ..
        · exact List.mem_cons_of_mem _ (List.mem_cons_of_mem _ (List.mem_cons_of_mem _ hq))) (by
        have := hs.nd
        simp only [List.map_cons, List.nodup_cons, List.mem_cons, not_or] at this ⊢
        exact ⟨this.1.2.2, this.2.2.2⟩)
    have st1 : St ⟨Tryd.prog, 43, W1, b5 :: N.map (·.1), hMlt⟩ [(7, uv x.2), (5, .pointer (some ⟨b5, 0, none⟩))] ((b5, .cells #[v] 22 (0, 0)) :: (N ++ [])) a' W1 :=
      ⟨hA, Kp.refl _ _, hs1, fun q hq => .inr (by
        rw [List.append_nil] at hq
        rcases List.mem_cons.1 hq with rfl | hq
        · exact List.mem_cons_self ..
        · exact List.mem_cons_of_mem _ (List.mem_map.2 ⟨q, hq, rfl⟩))⟩
    refine wpIn_block (wpIn_mono (wpIn_region_JO (c := ⟨Tryd.prog, 43, W1, b5 :: N.map (·.1), hMlt⟩) (ov := []) (F := [(7, uv x.2), (5, .pointer (some ⟨b5, 0, none⟩))]) (H := (b5, .cells #[v] 22 (0, 0)) :: (N ++ [])) (K := fun _ W' => KeepsFrom W.heap.size W1 W' ∧ KB S W1 W' ∧ WAt w0 b4 b5 bx (.slice A k cap) (pre ++ [x]) W') rfl ?_ _ _ st1) (fun e a w hq => by cases e <;> first | exact hq | exact hq.elim))
    simp only [textOps, toSOp, kindAt, kindOf]
    (repeat' (first | (apply r_move; exact rfl; exact rfl; exact rfl) | (apply r_load; exact rfl; exact rfl; exact rfl; exact rfl; (first | exact at0 | exact at1 | exact at2 | exact at3 | exact at4 | exact at5 | exact at6 | exact at7 | exact at8 | exact at9); exact rfl) | (apply r_toU8; exact rfl; exact rfl; exact rfl) | (apply r_shr24; exact rfl; exact rfl; exact rfl; exact rfl) | (apply r_shr16; exact rfl; exact rfl; exact rfl; exact rfl) | (apply r_shr8; exact rfl; exact rfl; exact rfl; exact rfl) | (apply r_build1; exact rfl; exact rfl; exact rfl; exact rfl; exact rfl; (repeat first | exact trivial | refine ⟨rfl, ?_⟩); decide; decide; intro _)))
    rename_i bl
    have hOl : OwnY [(bl, .cells ⟨[yv (x.2 / 16777216 % 256), yv (x.2 / 65536 % 256), yv (x.2 / 256 % 256), yv (x.2 % 256)]⟩ 5)] (.slice (some ⟨bl, 0, none⟩) 4 4) 4 [x.2 / 16777216 % 256, x.2 / 65536 % 256, x.2 / 256 % 256, x.2 % 256] := own_litY bl 4 _ _ rfl rfl (by omega)
    refine r_appendY (A := [_, _]) hO hOl.rd (by (repeat' first | exact HSub.nil _ | exact HSub.hd | exact HSub.in0 | exact HSub.refl _ | refine HSub.skip ?_ | refine HSub.skipN ?_)) rfl trivial rfl rfl rfl rfl (by omega) (fun v' N' hO' => ?_)
    obtain ⟨A3, c3, rfl⟩ := hO'.form
    (repeat' (first | refine JO.nil ?_ | (apply r_store; exact rfl; (first | exact trivial | exact ⟨rfl, rfl⟩); exact rfl; exact rfl; (first | exact at0 | exact at1 | exact at2 | exact at3 | exact at4 | exact at5 | exact at6 | exact at7 | exact at8 | exact at9); exact rfl; exact rfl; (first | exact Nat.le_of_ble_eq_true rfl | (simp; done) | omega))))
    refine ⟨fun a2 W2 st2 => WAt.turned (bl := bl) (ol := .cells ⟨[yv (x.2 / 16777216 % 256), yv (x.2 / 65536 % 256), yv (x.2 / 256 % 256), yv (x.2 % 256)]⟩ 5) _ hO hs hN hk0 h5 hS (by rw [wbs_snoc]; exact hO') st2.kp ?_ (fun q hq => ?_)⟩
    · have h := st2.hs
      exact ⟨by have := h.nd; simpa using this, fun q hq => h.blk q (by simpa using hq)⟩
    · exact st2.wr q (by simp [hq])
  case done =>
    intro D ys W1 hD hys hI hDd
    obtain ⟨⟨v, N, hO, hs, hN⟩, hk0⟩ := hI
    subst hys
    rw [bk_len] at hO
    have hB := bval_wbs (xs := nrm xs) (fun x hx' => hx x (nrm_mem x hx')) (nrm xs).length (Nat.le_refl _)
    rw [Nat.sub_self, List.drop_zero, show val 4294967296 (nrm xs) = val W32 xs from val_nrm W32 xs] at hB
    have hDc : ∀ q ∈ (b5, Obj.cells #[v] 22 (0, 0)) :: (b4, .cells #[.bool false, .string ⟨#[]⟩] 27 (0, 0)) :: (bx, .cells #[.slice A k cap] 57 (0, 0)) :: N, D ≠ q.1 := fun q hq e => by
      have h1 := hs.blk q hq
      rw [← e, hDd] at h1
      have hc : q.2.isCells = true := by
        rcases List.mem_cons.1 hq with rfl | hq
        · rfl
        · rcases List.mem_cons.1 hq with rfl | hq
          · rfl
          · rcases List.mem_cons.1 hq with rfl | hq
            · rfl
            · exact hO.cells q hq
      rw [← Option.some.inj h1] at hc
      cases hc
    have hnd := hs.nd
    simp only [List.map_cons, List.nodup_cons, List.mem_cons, not_or] at hnd
    have st1 : St ⟨Tryd.prog, 43, w0, [], by simp⟩ [(5, .pointer (some ⟨b5, 0, none⟩)), (4, .pointer (some ⟨b4, 0, none⟩)), (1, .bool p)] ((b5, .cells #[v] 22 (0, 0)) :: (b4, .cells #[.bool false, .string ⟨#[]⟩] 27 (0, 0)) :: (D, .deferred (some [])) :: (N ++ [])) { tmps := tm, defers := [] } W1 := by
      refine ⟨st.fr.sub (by repeat first | exact trivial | refine ⟨rfl, ?_⟩), hk0, ⟨?_, fun q hq => ?_⟩, fun q hq => .inl ?_⟩
      · simp only [List.append_nil, List.map_cons, List.nodup_cons, List.mem_cons, not_or]
        exact ⟨⟨hnd.1.1, (hDc _ (List.mem_cons_self ..)).symm, hnd.1.2.2⟩, ⟨(hDc _ (List.mem_cons_of_mem _ (List.mem_cons_self ..))).symm, hnd.2.1.2⟩, fun hm => by
          obtain ⟨q, hq, e⟩ := List.mem_map.1 hm
          exact hDc q (List.mem_cons_of_mem _ (List.mem_cons_of_mem _ (List.mem_cons_of_mem _ hq))) e.symm, hnd.2.2.2⟩
      · rw [List.append_nil] at hq
        rcases List.mem_cons.1 hq with rfl | hq
        · exact hs.blk _ (List.mem_cons_self ..)
        · rcases List.mem_cons.1 hq with rfl | hq
          · exact hs.blk _ (List.mem_cons_of_mem _ (List.mem_cons_self ..))
          · rcases List.mem_cons.1 hq with rfl | hq
            · exact hDd
            · exact hs.blk _ (List.mem_cons_of_mem _ (List.mem_cons_of_mem _ (List.mem_cons_of_mem _ hq)))
      · rw [List.append_nil] at hq
        rcases List.mem_cons.1 hq with rfl | hq
        · exact h5
        · rcases List.mem_cons.1 hq with rfl | hq
          · exact hge b4 (by simp)
          · rcases List.mem_cons.1 hq with rfl | hq
            · exact Nat.le_trans hWs hD
            · exact hN q hq
    refine wp_of_toS_ad (c := ⟨Tryd.prog, 43, w0, [], by simp⟩) [⟨6, 0, [], [(1, .seq)]⟩] [{ target := .collected D, args := #[] }] _ (fun e a w => bodyPostM Fence.wide 3 Tryd.prog Tryd.f44 (Ret fun r w' => Kp [] w0 w' ∧ r = Wv (sgn p (val W32 xs))) e (ad [{ target := .collected D, args := #[] }] a) w) _ rfl (fun e a w h => h) { tmps := tm, defers := [] } W1 (JC.h ?_ _ _ st1)
    simp only [toS, textOps, toSOp, kindAt, kindOf, odAt, sopsAt, ordOf]
    (repeat' (first | refine JC.seq ?_ | refine JC.ops ?_ | (apply r_load; exact rfl; exact rfl; exact rfl; exact rfl; (first | exact at0 | exact at1 | exact at2 | exact at3 | exact at4 | exact at5 | exact at6 | exact at7 | exact at8 | exact at9); exact rfl)))
    refine r_toStr (wbs_lt _) hO.rd (by (repeat' first | exact HSub.nil _ | exact HSub.hd | exact HSub.in0 | exact HSub.refl _ | refine HSub.skip ?_ | refine HSub.skipN ?_)) trivial rfl rfl rfl (fun l hl => ?_)
    have hll : l.length ≤ 1000000 := by rw [← bts_len, hl, wbs_len, bk_len]; omega
    refine r_call0 trivial rfl rfl rfl (fun w hk hs => c_TrimLeft w l hll) fun w v w' _ _ _ hR => ?_
    rw [magU_of, hl, hB] at hR
    subst hR
    have hfin : ∀ (vs : Array Value) (a2 : Act) (W2 : World), St ⟨Tryd.prog, 43, w0, [], by simp⟩ [(4, .pointer (some ⟨b4, 0, none⟩))] [(b4, .cells vs 27 (0, 0)), (D, .deferred (some []))] a2 W2 → vs.size = 2 → .agg vs = Wv (sgn p (val W32 xs)) → bodyPostM Fence.wide 3 Tryd.prog Tryd.f44 (Ret fun r w' => Kp [] w0 w' ∧ r = Wv (sgn p (val W32 xs))) .ret (ad [{ target := .collected D, args := #[] }] a2) W2 := by
      intro vs a2 W2 st2 hvs he
      have hK : W2.heap[D]? = some (.deferred (some [])) := st2.hs.blk (D, _) (by simp)
      have hd2 : a2.defers = [] := st2.fr.defers
      have h4D : b4 ≠ D := by have := st2.hs.nd; simpa using this
      have hk2 : Kp [] w0 (W2.putObj D (.deferred none)) := ⟨st2.kp.os, st2.kp.tape, st2.kp.output, by simpa using st2.kp.size, fun q hq hm => (World.putObj_heap_other (fun e => by subst e; omega)).trans (st2.kp.block q hq hm)⟩
      have st3 : St ⟨Tryd.prog, 43, w0, [], by simp⟩ [(4, .pointer (some ⟨b4, 0, none⟩))] [(b4, .cells vs 27 (0, 0))] a2 (W2.putObj D (.deferred none)) :=
        ⟨st2.fr, hk2, ⟨by simp, fun q hq => by cases List.mem_singleton.1 hq; exact (World.putObj_heap_other h4D).trans (st2.hs.blk (b4, _) (by simp))⟩, fun q hq => st2.wr q (by simp at hq; simp [hq])⟩
      show LeavesInM Fence.wide 3 _ _ _ _ (a2.defers ++ _) _ _
      rw [hd2]
      refine ⟨by simp, .inl ⟨D, _, rfl, run_takeDeferred hK, ?_⟩⟩
      have hr := run_resultsA (fn := Tryd.f44) (vs := [.agg vs]) st3 (JR.cellN 0 rfl rfl hvs JR.nil)
      exact ⟨_, hr, hk2, he⟩
    cases p with
    | false =>
      (repeat' (first | refine JC.seq ?_ | refine JC.ops ?_ | refine JO.nil ?_ | refine JX.thenN ?_ | (apply r_move; exact rfl; exact rfl; exact rfl) | (apply r_assign; exact rfl; exact rfl; exact rfl) | (apply r_pickF; exact rfl; exact rfl; exact rfl; exact rfl) | (apply r_storeN; exact rfl; (first | exact trivial | exact ⟨rfl, rfl⟩); exact rfl; exact rfl; (first | exact at0 | exact at1 | exact at2 | exact at3 | exact at4 | exact at5 | exact at6 | exact at7 | exact at8 | exact at9); exact rfl; exact rfl; exact rfl) | (apply r_buildL; exact rfl; exact rfl; exact rfl; exact rfl; exact rfl) | (apply r_storeN; exact rfl; (first | exact trivial | exact ⟨rfl, rfl⟩); exact rfl; exact rfl; (first | exact at0 | exact at1 | exact at2 | exact at3 | exact at4 | exact at5 | exact at6 | exact at7 | exact at8 | exact at9); exact rfl; exact rfl; exact rfl) | refine JC.ret ?_ | (apply r_skip; exact rfl; exact rfl; (first | (intro h; cases h; done) | (intro _; rfl)))))
      exact ⟨fun a2 W2 st2 => hfin #[.bool false, sv (magU (val W32 xs))] a2 W2 (st2.part (by repeat first | exact trivial | refine ⟨rfl, ?_⟩) (HSub.at 1 rfl (HSub.at 1 rfl (HSub.nil _)))) rfl (by rw [Wv_sgn]; rfl)⟩
    | true =>
      (repeat' (first | refine JC.seq ?_ | refine JC.ops ?_ | refine JO.nil ?_ | refine JX.thenN ?_ | (apply r_move; exact rfl; exact rfl; exact rfl) | (apply r_assign; exact rfl; exact rfl; exact rfl) | (apply r_pickT; exact rfl; exact rfl; exact rfl; exact rfl) | (apply r_storeN; exact rfl; (first | exact trivial | exact ⟨rfl, rfl⟩); exact rfl; exact rfl; (first | exact at0 | exact at1 | exact at2 | exact at3 | exact at4 | exact at5 | exact at6 | exact at7 | exact at8 | exact at9); exact rfl; exact rfl; exact rfl) | (apply r_neS; exact rfl; exact rfl; exact rfl; exact rfl) | (apply r_buildL; exact rfl; exact rfl; exact rfl; exact rfl; exact rfl) | (apply r_storeN; exact rfl; (first | exact trivial | exact ⟨rfl, rfl⟩); exact rfl; exact rfl; (first | exact at0 | exact at1 | exact at2 | exact at3 | exact at4 | exact at5 | exact at6 | exact at7 | exact at8 | exact at9); exact rfl; exact rfl; exact rfl) | refine JC.ret ?_))
      exact ⟨fun a2 W2 st2 => hfin #[.bool (decide (magU (val W32 xs) ≠ [])), sv (magU (val W32 xs))] a2 W2 (st2.part (by repeat first | exact trivial | refine ⟨rfl, ?_⟩) (HSub.at 1 rfl (HSub.at 1 rfl (HSub.nil _)))) rfl (by rw [Wv_sgn]; rfl)⟩
  case stop =>
    intro D c pre W1 _ _ h _
    exact h.elim

end Go.Proofs.YtdehklhdjbkneaaDoor
