/- slices.Backward over words: its contract as an iterator. -/
import Derived.Test.YtdehklhdjbkneaaDoorExZ
import Derived.RangeFuncNested
import Derived.RangeFuncCalls
import Derived.RangeFuncLeaves
import Derived.RangeFuncBox
import Derived.Shelf.RegionOpen
import Derived.WalkKit
import Derived.OwnWalkIn
import Derived.TacticsInMore
import Derived.LoopNIn
import Derived.LoopIn
namespace Go.Proofs.YtdehklhdjbkneaaDoor
open Go Go.RowKit Go.Shelf
set_option linter.unusedSimpArgs false
set_option linter.unusedVariables false
set_option linter.unusedSectionVars false

attribute [local go_sem] Oper.semAt_some

/-- The blocks of S lie as they lay. -/
def KB (S : List Nat) (W W' : World) : Prop := ∀ k ∈ S, W'.heap[k]? = W.heap[k]?
theorem KB.refl (S : List Nat) (W : World) : KB S W W := fun _ _ => rfl
theorem KB.trans {S : List Nat} {A B C : World} (h : KB S A B) (k : KB S B C) : KB S A C := fun i hi => (k i hi).trans (h i hi)
theorem KB.cell {S : List Nat} {W W' : World} (h : KB S W W') {p : Addr} (hp : p.block ∈ S) : W'.cell? p = W.cell? p := World.cell?_of_block (h _ hp)

/-- What has come when k rounds are over, from the end of xs on. -/
def bk (xs : List Nat) (k : Nat) : List (Nat × Nat) := (List.range k).map fun j => (xs.length - 1 - j, xs[xs.length - 1 - j]?.getD 0)
theorem bk_succ (xs : List Nat) (k : Nat) : bk xs (k + 1) = bk xs k ++ [(xs.length - 1 - k, xs[xs.length - 1 - k]?.getD 0)] := by simp [bk, List.range_succ]
theorem bk_len (xs : List Nat) (k : Nat) : (bk xs k).length = k := by simp [bk]

set_option maxRecDepth 100000 in
set_option maxHeartbeats 4000000 in
theorem back1_in (F : Fence) (n : Nat) (hF : F.fn 70) (hro : F.round = none) (hn : 1 ≤ n) (l Bs b off cap : Nat) (S : List Nat) (xs : List Nat) (hl : xs.length ≤ 1000000) (hb : b ∈ S) (J Jx : List (Nat × Nat) → World → Prop)
    (hY : ∀ pre x W, J pre W → pre.length < xs.length → YieldAt F (n - 1) Tryd.prog l #[.int .i64 (x.1 : Int), .int .u64 (x.2 : Int)] W fun e W' =>
      (e = .returned (.bool true) ∧ J (pre ++ [x]) W' ∧ KB S W W') ∨ (e = .returned (.bool false) ∧ Jx (pre ++ [x]) W'))
    (W : World) (hBs : W.cell? ⟨Bs, 0, none⟩ = some (.slice (some ⟨b, off, none⟩) xs.length cap)) (hBl : Bs ∈ S) (hc : ∀ j, j < xs.length → W.cell? ⟨b, off + j, none⟩ = some (.int .u64 (xs[j]?.getD 0 : Nat))) (h0 : J [] W) :
    CallsIn F n Tryd.prog 70 #[.func (.yield l) #[] #[], .pointer (some ⟨Bs, 0, none⟩)] W fun e W' => (∃ v, e = .returned v) ∧
      ((∃ ys, ys = bk xs xs.length ∧ J ys W') ∨ (∃ pre, (∃ k, k ≤ xs.length ∧ pre = bk xs k) ∧ Jx pre W')) := by
  refine callsIn_of_wp Tryd.func70 rfl hF ?_ hro
  simp only [Tryd.ntmps70, List.size_toArray, List.length_cons, List.length_nil, Nat.reduceAdd, Nat.reduceSub, Array.replicate_succ, Array.replicate_zero, List.push_toArray, List.append_toArray, List.nil_append, List.cons_append]
  gi_wp2
  gi_loopw [3] (fun i wr => ∃ k : Nat, k ≤ xs.length ∧ i = .int .i64 ((xs.length : Int) - 1 - k) ∧ J (bk xs k) wr ∧ KB S W wr)
    (fun i _ => (intOf i + 1).toNat)
  case atStart => exact ⟨0, Nat.zero_le _, by simp, h0, KB.refl _ _⟩
  case round =>
    obtain ⟨k, hk, rfl, hJs, hnx⟩ := hrel
    have hcx : k < xs.length → wr.cell? ⟨b, off + (xs.length - 1 - k), none⟩ = some (.int .u64 (xs[xs.length - 1 - k]?.getD 0 : Nat)) := fun h => (hnx.cell (p := ⟨b, off + (xs.length - 1 - k), none⟩) hb).trans (hc _ (by omega))
    have hbx : wr.cell? ⟨Bs, 0, none⟩ = some (.slice (some ⟨b, off, none⟩) xs.length cap) := (hnx.cell (p := ⟨Bs, 0, none⟩) hBl).trans hBs
    by_cases hlt : k < xs.length
    · obtain ⟨fn, tmps, assign, body, hy, hR⟩ := hY _ (xs.length - 1 - k, xs[xs.length - 1 - k]?.getD 0) wr hJs (by rw [bk_len]; exact hlt)
      dsimp only at hy
      have hcx' := hcx hlt
      have he : ((xs.length : Int) - 1 - k) = ((xs.length - 1 - k : Nat) : Int) := by omega
      rw [he]
      gi_wp2
      refine hR.mono ?_
      rintro e W3 (⟨rfl, hJ3, hk3⟩ | ⟨rfl, hJx3⟩)
      · gi_wp2
        go_roundw
        case rel => exact ⟨k + 1, by omega, by first | (congr 1; done) | (congr 1; omega), by rw [bk_succ]; exact hJ3, hnx.trans hk3⟩
        case measure => first | (simp [intOf]; done) | (simp [intOf]; omega)
      · gi_wp2
        refine bodyPost_ret (results_none rfl _ _ _) rfl ?_
        exact ⟨⟨_, rfl⟩, .inr ⟨_, ⟨k + 1, by omega, (bk_succ _ _).symm⟩, hJx3⟩⟩
    · obtain rfl : k = xs.length := by omega
      gi_wp2
      go_end0
      exact ⟨⟨_, rfl⟩, .inl ⟨_, rfl, hJs⟩⟩

set_option maxRecDepth 100000 in
set_option maxHeartbeats 4000000 in
theorem back1_nil_in (F : Fence) (n : Nat) (hF : F.fn 70) (hro : F.round = none) (l Bs : Nat) (A : Option Addr) (cap : Nat) (J : List (Nat × Nat) → World → Prop) (W : World) (hBs : W.cell? ⟨Bs, 0, none⟩ = some (.slice A 0 cap)) (h0 : J [] W) :
    CallsIn F n Tryd.prog 70 #[.func (.yield l) #[] #[], .pointer (some ⟨Bs, 0, none⟩)] W fun e W' => (∃ v, e = .returned v) ∧ J [] W' := by
  refine callsIn_of_wp Tryd.func70 rfl hF ?_ hro
  simp only [Tryd.ntmps70, List.size_toArray, List.length_cons, List.length_nil, Nat.reduceAdd, Nat.reduceSub, Array.replicate_succ, Array.replicate_zero, List.push_toArray, List.append_toArray, List.nil_append, List.cons_append]
  gi_wp2
  gi_loopw [3] (fun i wr => i = .int .i64 (-1) ∧ J [] wr) (fun _ _ => 0)
  case atStart => exact ⟨by simp, h0⟩
  case round =>
    obtain ⟨rfl, hJs⟩ := hrel
    gi_wp2
    go_end0
    exact ⟨⟨_, rfl⟩, hJs⟩

/-- The slice value sv holds the words xs, in a block of S; or there are none. -/
def Wds (S : List Nat) (W : World) (sv : Value) (xs : List Nat) : Prop :=
  (xs = [] ∧ ∃ A cap, sv = .slice A 0 cap) ∨ ∃ b off cap, sv = .slice (some ⟨b, off, none⟩) xs.length cap ∧ b ∈ S ∧ b < W.heap.size ∧ ∀ j, j < xs.length → W.cell? ⟨b, off + j, none⟩ = some (.int .u64 (xs[j]?.getD 0 : Nat))

theorem back_stops (F : Fence) (n : Nat) (hF : F.fn 70) (hro : F.round = none) (hn : 1 ≤ n) (Bs : Nat) (S : List Nat) (sv : Value) (xs : List Nat) (hl : xs.length ≤ 1000000) (w : World) (hBs : Bs < w.heap.size) (hBn : Bs ∈ S)
    (hc : w.cell? ⟨Bs, 0, none⟩ = some sv) (hI : Wds S w sv xs) :
    SeqStopsK F n Tryd.prog 70 #[.pointer (some ⟨Bs, 0, none⟩)] (fun x : Nat × Nat => #[Value.int .i64 (x.1 : Int), Value.int .u64 (x.2 : Int)]) (KB S) (fun ys => ys = bk xs xs.length) (fun pre => ∃ k, k ≤ xs.length ∧ pre = bk xs k) xs.length w := fun l J Jx W hW _ _ hY h0 => by
  have hc' := (hW.cell (p := ⟨Bs, 0, none⟩) hBs).trans hc
  rcases hI with ⟨rfl, A, cap, rfl⟩ | ⟨b, off, cap, rfl, hb, hbl, hcs⟩
  · exact (back1_nil_in F n hF hro l Bs A cap J W hc' h0).mono fun e W' ⟨he, hj⟩ => ⟨he, .inl ⟨_, rfl, hj⟩⟩
  · exact back1_in F n hF hro hn l Bs b off cap S xs hl hb J Jx hY W hc' hBn (fun j hj => (hW.cell (p := ⟨b, off + j, none⟩) hbl).trans (hcs j hj)) h0

end Go.Proofs.YtdehklhdjbkneaaDoor
