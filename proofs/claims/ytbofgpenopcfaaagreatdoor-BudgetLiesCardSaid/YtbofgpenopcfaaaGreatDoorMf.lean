import Derived.Test.YtbofgpenopcfaaaGreatDoorMe
import Derived.Laws.StructEq
import Derived.Test.YtbofgpenopcfaaaGreatDoorMd
namespace Go.Proofs.YtbofgpenopcfaaaGreatDoor
open Go Go.RowKit
set_option linter.unusedSimpArgs false
set_option linter.unusedVariables false
set_option linter.unusedSectionVars false

theorem RdY.blk {c : Cx} {b cap n : Nat} {xs : List Nat} {rest : List Value} {T : TypeId} {fz : Nat × Nat} (hl : xs.length = n) (hc : n ≤ cap) : RdY c [(b, .cells (rowCY xs rest) T fz)] (.slice (some ⟨b, 0, none⟩) n cap) n xs := by
 refine ⟨by simp [hl], _, cap, rfl, hc, fun h0 => ⟨⟨b, 0, rfl⟩, fun w hw j u hu => ?_⟩⟩
 rw [Xa, Nat.zero_add]
 refine QN (hw.2.blk (b, _) (List.mem_cons_self ..)) ?_
 have e : (rowCY xs rest)[j]? = (xs.map yv ++ rest)[j]? := by simp [rowCY]
 rw [e, List.getElem?_append_left (List.getElem?_eq_some_iff.1 hu).1]
 exact hu

section
variable {c : Cx} {Q : Exit → Act → World → Prop} {m : Mode} {F : SFrame} {H : SHeap} {r : List SOp} {g : Option (Option Tmp × Bool)} {ns : Bool} {d : Tmp} {ty t t' : TypeId} {x y : Operand} {l : List UInt8} {i : Nat}
theorem Q9z {e : TypeId} [TStr c.P t] [TSl c.P t' e] [TI c.P e .u8] (hm : m.mayCall ns r) (hd : dstOk c.n (some d) = true) (hg : guardF F g = some true) (hx : ev F x = some (sv l))
  (h : ∀ b cap rest fz, l.length ≤ cap → JO c Q m r ((d, .slice (some ⟨b, 0, none⟩) l.length cap) :: F) ((b, .cells (rowCY (bts l) rest) e fz) :: H)) : JO c Q m (⟨some d, .convert t t' x, ty, g, .seq, ns⟩ :: r) F H := by
 refine ⟨⟨hd, .inr ⟨hg, fun a w st hs => ?_⟩⟩⟩
 unfold Oper.wp SOp.oper
 have hrun := run_bytes_of_string (P := c.P) w t t' e ⟨l.toArray⟩ TStr.und TSl.und TI.und
 have hrow : bytesRow ⟨l.toArray⟩ (grownCap w (ByteArray.mk l.toArray).size 0 e) = rowCY (bts l) (List.replicate (grownCap w (ByteArray.mk l.toArray).size 0 e - (ByteArray.mk l.toArray).size) (.int .u8 0)) := by
  apply Array.ext'
  simp [bytesRow, rowCY, bts, Function.comp]
 rw [hrow] at hrun
 generalize hcap : grownCap w (ByteArray.mk l.toArray).size 0 e = cap at hrun
 generalize (rowCY (bts l) (List.replicate (cap - (ByteArray.mk l.toArray).size) (.int .u8 0))).size = z at hrun
 have hexec : (execOp a.eval ⟨some d, .convert t t' x, ty, "", #[], none⟩).run c.P w = .ok (.value (.slice (some ⟨w.heap.size, 0, none⟩) l.length cap)) (w.drew.alloc (.cells (rowCY (bts l) (List.replicate (cap - (ByteArray.mk l.toArray).size) (.int .u8 0))) e (z, z + 1))) := by
  simp only [execOp, st.fr.ev hx, Sem.run_bind, hrun, Result.andThen_ok, Sem.run_pure, XJ]
 rw [hexec]
 have hnew : (w.drew.alloc (.cells (rowCY (bts l) (List.replicate (cap - (ByteArray.mk l.toArray).size) (.int .u8 0))) e (z, z + 1))).heap[w.heap.size]? = some (.cells (rowCY (bts l) (List.replicate (cap - (ByteArray.mk l.toArray).size) (.int .u8 0))) e (z, z + 1)) := World.alloc_heap_new w.drew _
 have hold : ∀ k, k < w.heap.size → (w.drew.alloc (.cells (rowCY (bts l) (List.replicate (cap - (ByteArray.mk l.toArray).size) (.int .u8 0))) e (z, z + 1))).heap[k]? = w.heap[k]? := fun k hk => Below.heap_alloc w.drew _ k hk
 obtain ⟨st', hstep, hkk⟩ := ZJ (N := []) (N' := [(w.heap.size, .cells (rowCY (bts l) (List.replicate (cap - (ByteArray.mk l.toArray).size) (.int .u8 0))) e (z, z + 1))]) (H0 := H) st spq spq (fun q hq => by cases List.mem_singleton.1 hq; exact hnew) (fun k hk => .inr (by simp [keys] at hk; omega)) (fun k hk _ => hold k hk) spq rfl rfl rfl
 have hcl : l.length ≤ cap := by rw [← hcap, XJ]; exact grownCap_ge _ _ _ _
 have hk2 : Kp [] w (w.drew.alloc (.cells (rowCY (bts l) (List.replicate (cap - (ByteArray.mk l.toArray).size) (.int .u8 0))) e (z, z + 1))) := ⟨rfl, rfl, rfl, by simp, fun k hk _ => hold k hk⟩
 refine ⟨hstep, (d, _) :: F, (w.heap.size, _) :: H, m, (st'.perm List.perm_append_comm).put _ hd, fun k hk' => hkk k ?_, ZL hk2 hs hm, (h _ cap _ _ hcl).h⟩
 simp only [keys, List.map_cons, List.map_append, List.mem_cons, List.mem_append, List.map_nil] at hk' ⊢
 rcases hk' with h1 | h1
 ·exact .inr (.inl h1)
 ·exact .inl h1
theorem Qg7 (hd : dstOk c.n (some d) = true) (hg : guardF F g = some true) (hx : ev F x = some (yv i)) (hy : ev F y = some (.int .u8 48)) (hi : 48 ≤ i ∧ i < 256)
  (h : JO c Q m r ((d, yv (i - 48)) :: F) H) : JO c Q m (⟨some d, .binOp .sub t x y t', ty, g, .mov, ns⟩ :: r) F H :=
 Z6 hd hg hx hy (fun w => by
  rw [binOp_sub]
  simp only [Op.intArith, Sem.run_pure, IntKind.wrap_u8]
  rw [show ((i : Int) - 48) % 256 = ((i - 48 : Nat) : Int) by omega]) h
end

def minus : List UInt8 → Bool
 | x :: _ => x == 45
 | [] => false
def body : List UInt8 → List UInt8
 | x :: l => if x == 45 then l else x :: l
 | [] => []
theorem Qee (l : List UInt8) : (body l).length ≤ l.length := by
 cases l with
 | nil => exact Nat.le_refl _
 | cons x l =>
  show (if (x == 45) = true then l else x :: l).length ≤ _
  split <;> simp

set_option maxHeartbeats 2000000 in
theorem Q29 (w : World) (l : List UInt8) (hl : l.length ≤ 10000000) :
  Calls Tryz.prog 190 #[sv l, sv [45]] w (Ret fun v w' => Kp [] w w' ∧ v = .bool (minus l)) := by
 have h1 : ((([45] : List UInt8).length : Nat) : Int) = 1 := rfl
 rcases l with _ | ⟨x, l⟩
 ·have h0 : ((([] : List UInt8).length : Nat) : Int) = 0 := rfl
  refine Q8 [] [] spq [] Tryz.func190 rfl mixed (by kernel_rfl) Tryz.ntmps190 Tryz.results190 rfl ⟨by simp, by simp⟩ spq ?_
  simp only [toS, textOps, toSOp, kindAt, kindOf, odAt, sopsAt, ordOf, zipF]
  repeat' first | apply jS | apply jO | apply jN | apply jT | refine Q1 ?_ | refine Q0 ?_ | refine Qn ?_ | refine Xf (h := ?_) | (refine Zu (h1 := ?_) (h2 := ?_) <;> intro hc <;> try (exfalso; omega)) | refine Qy (h := ?_) | apply jR
  exact Qd rfl (fun a w' st => ⟨st.kp, rfl⟩)
 ·have h2 : (((x :: l).length : Nat) : Int) = l.length + 1 := by simp
  refine Q8 [] [] spq [] Tryz.func190 rfl mixed (by kernel_rfl) Tryz.ntmps190 Tryz.results190 rfl ⟨by simp, by simp⟩ spq ?_
  simp only [toS, textOps, toSOp, kindAt, kindOf, odAt, sopsAt, ordOf, zipF]
  repeat' first | apply jS | apply jO | apply jN | refine Q1 ?_ | refine Q0 ?_ | refine Xf (h := ?_) | (refine Zu (h1 := ?_) (h2 := ?_) <;> intro hc <;> try (exfalso; omega)) | apply jT
  refine Qkr (j := 1) rfl rfl rfl rfl spq ?_
  repeat' first | apply jN | apply jT | refine Q1 ?_ | refine Q0 ?_ | refine Ql ?_ | refine Qa8 (h := ?_) | apply jR
  refine Qd rfl (fun a w' st => ⟨st.kp, ?_⟩)
  show Value.bool (decide ((x :: l).take 1 = [45])) = .bool (x == 45)
  congr 1
  simp [List.take]
  rfl

set_option maxHeartbeats 2000000 in
theorem Q5i (w : World) (l : List UInt8) (hl : l.length ≤ 10000000) :
  Calls Tryz.prog 168 #[sv l, sv [45]] w (Ret fun v w' => Kp [] w w' ∧ v = .tuple #[sv (body l), .bool (minus l)]) := by
 by_cases hm : minus l = true
 ·refine Q8 [] [] spq [] Tryz.func168 rfl mixed (by kernel_rfl) Tryz.ntmps168 Tryz.results168 rfl ⟨by simp, by simp⟩ spq ?_
  simp only [toS, textOps, toSOp, kindAt, kindOf, odAt, sopsAt, ordOf, zipF]
  repeat' first | apply jS | apply jO | apply jN | refine Q1 ?_ | refine Q0 ?_ | apply jT
  refine Qb trivial rfl rfl rfl (fun w hk hs => Q29 w l hl) fun w v w' _ _ _ hR => ?_
  rw [hm] at hR
  subst hR
  rcases l with _ | ⟨x, l⟩
  ·cases hm
  repeat' first | apply jS | apply jO | apply jN | apply jT | refine Q1 ?_ | refine Q0 ?_ | refine QT (h := ?_) | refine Xf (h := ?_) | refine Q73 (h := ?_) | apply jK | apply jR | refine Q4 rfl ?_
  refine Zp rfl rfl (fun a w' st => ⟨st.kp, ?_⟩)
  rw [hm]
  have : (x == 45) = true := hm
  show _ = Value.tuple #[sv (if (x == 45) = true then l else x :: l), .bool true]
  rw [if_pos this]
 ·have hm : minus l = false := by simpa using hm
  refine Q8 [] [] spq [] Tryz.func168 rfl mixed (by kernel_rfl) Tryz.ntmps168 Tryz.results168 rfl ⟨by simp, by simp⟩ spq ?_
  simp only [toS, textOps, toSOp, kindAt, kindOf, odAt, sopsAt, ordOf, zipF]
  repeat' first | apply jS | apply jO | apply jN | refine Q1 ?_ | refine Q0 ?_ | apply jT
  refine Qb trivial rfl rfl rfl (fun w hk hs => Q29 w l hl) fun w v w' _ _ _ hR => ?_
  rw [hm] at hR
  subst hR
  repeat' first | apply jS | apply jO | apply jN | apply jT | refine Q1 ?_ | refine Q0 ?_ | refine QT (h := ?_) | apply jV | apply jR | refine Q5 rfl ?_
  refine Zp rfl rfl (fun a w' st => ⟨st.kp, ?_⟩)
  rw [hm]
  rcases l with _ | ⟨x, l⟩
  ·rfl
  ·have : ¬ ((x == 45) = true) := by simpa [minus] using hm
   show _ = Value.tuple #[sv (if (x == 45) = true then l else x :: l), .bool false]
   rw [if_neg this]

set_option maxHeartbeats 2000000 in
theorem Q6f (w : World) (l : List UInt8) (hl : l.length ≤ 10000000) :
  Calls Tryz.prog 137 #[sv l, sv [45]] w (Ret fun v w' => Kp [] w w' ∧ v = .tuple #[sv (body l), .bool (minus l)]) := by
 refine Q8 [] [] spq [] Tryz.func137 rfl mixed (by kernel_rfl) Tryz.ntmps137 Tryz.results137 rfl ⟨by simp, by simp⟩ spq ?_
 simp only [toS, textOps, toSOp, kindAt, kindOf, odAt, sopsAt, ordOf, zipF]
 repeat' first | apply jS | apply jO | apply jN | refine Q1 ?_ | refine Q0 ?_ | apply jT
 refine Qb trivial rfl rfl rfl (fun w hk hs => Q5i w l hl) fun w v w' _ _ _ hR => ?_
 subst hR
 repeat' first | apply jN | apply jT | refine Q0 ?_ | refine Qo (h := ?_) | apply jR
 exact Zp rfl rfl (fun a w' st => ⟨st.kp, rfl⟩)

def pnum (l : List UInt8) : Nat := l.foldl (fun v c => 10 * v + (c.toNat - 48)) 0
def digit (c : UInt8) : Bool := Nat.ble 48 c.toNat && Nat.ble c.toNat 57
theorem Q1s (l : List UInt8) (c : UInt8) : pnum (l ++ [c]) = 10 * pnum l + (c.toNat - 48) := by
 unfold pnum
 rw [List.foldl_append]
 rfl
theorem Q1d {l : List UInt8} {i : Nat} (h : i < l.length) : l.take (i + 1) = l.take i ++ [l[i]] := by
 rw [List.take_add_one, List.getElem?_eq_getElem h]
 rfl
theorem Qfj {l : List UInt8} {i : Nat} (h : i < l.length) : (bts l).getD i 0 = (l[i]).toNat := by simp [bts, List.getD, h]
theorem Qad {l : List UInt8} {i : Nat} (h : i < l.length) : pnum (l.take (i + 1)) = 10 * pnum (l.take i) + ((bts l).getD i 0 - 48) := by
 rw [Q1d h, Q1s, Qfj h]
theorem Xn (c : UInt8) : digit c = true ↔ 48 ≤ c.toNat ∧ c.toNat ≤ 57 := by simp [digit]
theorem Q0f {l : List UInt8} : ∀ i, i ≤ l.length → (∀ c ∈ l.take i, digit c = true) → pnum (l.take i) < 10 ^ i
 | 0, _, _ => by simp [pnum]
 | i + 1, h, hd => by
  have h0 : i < l.length := h
  rw [Q1d h0] at hd ⊢
  have h1 := Q0f (l := l) i oq fun c hc => hd c (List.mem_append.2 (.inl hc))
  have h2 := (Xn _).1 (hd (l[i]) (List.mem_append.2 (.inr (List.mem_singleton.2 rfl))))
  rw [Q1s, Nat.pow_succ]
  omega
def PRes (l : List UInt8) : Value := if (body l).all digit then .tuple #[Wv (sgn (minus l) (pnum (body l))), .bool (decide (body l ≠ []))] else .tuple #[Wv 0, .bool false]

set_option maxHeartbeats 8000000 in
theorem Qi8 (w : World) (l : List UInt8) (hl : l.length ≤ 10000000) :
  Calls Tryz.prog 71 #[sv l] w (Ret fun v w' => Kp [] w w' ∧ v = PRes l) := by
 have hbl := Qee l
 refine Q8 [⟨3, 0, [], [(1, .seq)]⟩] [] spq [] Tryz.func71 rfl mixed (by kernel_rfl) Tryz.ntmps71 Tryz.results71 rfl ⟨by simp, by simp⟩ spq ?_
 simp only [toS, textOps, toSOp, kindAt, kindOf, odAt, sopsAt, ordOf, zipF]
 repeat' first | apply jS | apply jO | apply jN | refine Q1 ?_ | refine Q0 ?_ | refine Qf fun _ => ?_ | apply jT
 rename_i b2
 refine Qb trivial rfl rfl rfl (fun w hk hs => Q6f w l oq) fun w v w' _ _ _ hR => ?_
 subst hR
 unfold PRes
 generalize minus l = neg
 generalize body l = t at hbl
 repeat' first | apply jS | apply jO | apply jN | refine Q1 ?_ | refine Q0 ?_ | refine Qo (h := ?_) | apply jT
 refine Q9z trivial rfl rfl rfl (fun bc cap rest fz hcap => ?_)
 have hbt := XY t
 have hRd : ∀ c, RdY c [(bc, .cells (rowCY (bts t) rest) 5 fz)] (.slice (some ⟨bc, 0, none⟩) t.length cap) t.length (bts t) := fun c => RdY.blk (by simp [hbt]) hcap
 repeat' first | apply jN | apply jT | refine Q1 ?_ | refine Zx (h := ?_) | apply jB
 refine Qj (ι := Nat × Value × SHeap × List Nat) ⟨fun z => [(17, nv z.1), (16, nv t.length), (15, .slice (some ⟨bc, 0, none⟩) t.length cap), (6, z.2.1), (5, .bool neg), (4, sv t), (2, .pointer (some ⟨b2, 0, none⟩))],
  fun z => (bc, .cells (rowCY (bts t) rest) 5 fz) :: (b2, .cells #[.bool false, .string ⟨#[]⟩] 75 (0, 0)) :: (z.2.2.1 ++ []),
  fun z => z.1 ≤ t.length ∧ OwnU z.2.2.1 z.2.1 z.2.2.2.length z.2.2.2 ∧ Dig W32 z.2.2.2 ∧ val W32 z.2.2.2 = pnum (t.take z.1) ∧ ∀ c ∈ t.take z.1, digit c = true, fun z => t.length - z.1⟩
  (0, _, [], []) ⟨Nat.zero_le _, OwnU.nil, Dig.nil _, rfl, by simp⟩ cqq Qv (fun z hz => ?_)
 obtain ⟨i, vx, N, zs⟩ := z
 obtain ⟨hi, hO, hz, hval, hdig⟩ := hz
 dsimp only at hi hO hz hval hdig ⊢
 have hlt := Q0f i hi hdig
 have hzl : zs.length ≤ i := hz.len_le dq (by
  rw [hval]
  exact Nat.lt_of_lt_of_le hlt (Nat.pow_le_pow_left dq i))
 obtain ⟨Ax, cx, rfl⟩ := hO.form
 by_cases hin : i < t.length
 ·have hb256 : (bts t).getD i 0 < 256 := Q82
  have hR1 := hRd
  have hti := Qfj hin
  by_cases hd : 48 ≤ (bts t).getD i 0 ∧ (bts t).getD i 0 ≤ 57
  ·have hdi : digit t[i] = true := (Xn _).2 (by rw [← hti]; exact hd)
   have hd0 := hd.1
   have hd9 := hd.2
   repeat' first | apply jS | apply jO | apply jN | apply jT | (refine Qi (h1 := ?_) (h2 := ?_) <;> intro hc <;> try (exfalso; omega)) | apply jK | refine Q5 rfl ?_ | apply jB
   refine Q4r rfl rfl rfl rfl (hRd _) hin ?_
   refine Qgj rfl rfl rfl rfl (hRd _) Q9 hin ?_
   repeat' first | apply jS | apply jO | apply jN | apply jT | refine Q1 ?_ | refine Q0 ?_ | refine Qn ?_ | (refine Qi (h1 := ?_) (h2 := ?_) <;> intro hc <;> try (exfalso; omega)) | (refine QM (h1 := ?_) (h2 := ?_) <;> intro hc <;> try (exfalso; omega)) | refine Qw (h := fun _ => ?_) | apply jK | refine Q4 rfl ?_
   rename_i b10
   have hO10 : OwnU [(b10, .cells ⟨[.int .u64 10]⟩ 126)] (.slice (some ⟨b10, 0, none⟩) 1 1) 1 [10] := ZY b10 1 [10] _ rfl rfl oq
   refine Qk (A := [_, _, _]) rfl trivial rfl rfl rfl (fun w hk hs => Q7v w _ _ _ _ _ _ (hO.rd.at hk hs Q9) (hO10.rd.at hk hs Q9) hz.lt (fun x hx => by rw [List.mem_singleton] at hx; rw [hx]; decide) oq oq) fun w v w' _ _ _ hR => ?_
   obtain ⟨N1, zs1, hN1, hO1, hz1, hval1⟩ := hR
   refine ⟨N1, hN1, ?_⟩
   rw [Q3a, hval] at hval1
   have hzl1 : zs1.length ≤ i + 1 := hz1.len_le dq (by
    rw [hval1]
    refine Nat.lt_of_lt_of_le ?_ (Nat.pow_le_pow_left (show 10 ≤ W32 by decide) (i + 1))
    rw [Nat.pow_succ]
    omega)
   repeat' first | refine Q1 ?_ | fail
   refine Qg7 rfl rfl rfl rfl oq ?_
   have hb64 : (bts t).getD i 0 - 48 < 18446744073709551616 := by omega
   repeat' first | refine Q9y (h := ?_) | refine Qw (h := fun _ => ?_) | fail
   rename_i b11
   have hO11 : OwnU [(b11, .cells ⟨[uv ((bts t).getD i 0 - 48)]⟩ 126)] (.slice (some ⟨b11, 0, none⟩) 1 1) 1 [(bts t).getD i 0 - 48] := ZY b11 1 [(bts t).getD i 0 - 48] _ rfl rfl oq
   refine Qb trivial rfl rfl rfl (fun w hk hs => Yc w _ _ _ _ (hO11.rd.at hk hs Q9) oq) fun w v w' _ _ _ hR => ?_
   obtain ⟨k3, hk3, rfl, hn3⟩ := hR
   have hO3' := hO11.hd hk3
   rw [← hn3] at hO3'
   skip
   refine Qk (A := [_, _, _, _]) rfl trivial rfl rfl rfl (fun w hk hs => Qe8 w _ _ _ _ _ _ (hO1.rd.at hk hs Q9) (hO3'.rd.at hk hs Q9) hz1.lt (fun x hx => by
    have := Q00 x hx
    rw [List.mem_singleton] at this
    rw [this]
    show _ < 4294967296
    omega) oq oq) fun w v w' _ _ _ hR => ?_
   obtain ⟨N2, zs2, hN2, hO2, hz2, hval2⟩ := hR
   refine ⟨N2, hN2, ?_⟩
   rw [Yk, hval1] at hval2
   repeat' first | apply jO | apply jN | apply jT | refine Q1 ?_ | refine Q0 ?_ | refine Qe ?_ | apply jW
   refine Qa (i + 1, _, N2, zs2) ⟨by dsimp only; omega, hO2, hz2, ?_, ?_⟩ dgq cqq Qv
   ·dsimp only
    rw [hval2, Qad hin, Nat.mul_comm]
   ·dsimp only
    rw [Q1d hin]
    intro c hc
    rcases List.mem_append.1 hc with h | h
    ·exact hdig c h
    ·rw [List.mem_singleton] at h; rw [h]; exact hdi
  ·have hnall : ¬ (t.all digit = true) := fun h => hd (by
    rw [hti]
    exact (Xn _).1 (List.all_eq_true.1 h _ (List.getElem_mem hin)))
   rw [if_neg hnall]
   by_cases hd1 : (bts t).getD i 0 < 48
   ·repeat' first | apply jS | apply jO | apply jN | apply jT | (refine Qi (h1 := ?_) (h2 := ?_) <;> intro hc <;> try (exfalso; omega)) | apply jK | refine Q5 rfl ?_ | apply jB
    refine Q4r rfl rfl rfl rfl (hRd _) hin ?_
    refine Qgj rfl rfl rfl rfl (hRd _) Q9 hin ?_
    repeat' first | apply jS | apply jO | apply jN | apply jT | refine Q1 ?_ | refine Q0 ?_ | refine Ql ?_ | refine Q3 ?_ | (refine Qi (h1 := ?_) (h2 := ?_) <;> intro hc <;> try (exfalso; omega)) | refine ZX (h := ?_) | refine Q3 ?_ | apply jV | refine Q5 rfl ?_ | refine Qt ?_ | refine Qy (h := ?_) | apply jR
    exact ZD 1 rfl rfl rfl rfl (fun a w' st => ⟨st.kp, rfl⟩)
   ·have hd2 : 57 < (bts t).getD i 0 := by omega
    repeat' first | apply jS | apply jO | apply jN | apply jT | (refine Qi (h1 := ?_) (h2 := ?_) <;> intro hc <;> try (exfalso; omega)) | apply jK | refine Q5 rfl ?_ | apply jB
    refine Q4r rfl rfl rfl rfl (hRd _) hin ?_
    refine Qgj rfl rfl rfl rfl (hRd _) Q9 hin ?_
    repeat' first | apply jS | apply jO | apply jN | apply jT | refine Q1 ?_ | refine Q0 ?_ | refine Qn ?_ | refine Q3 ?_ | (refine Qi (h1 := ?_) (h2 := ?_) <;> intro hc <;> try (exfalso; omega)) | (refine QM (h1 := ?_) (h2 := ?_) <;> intro hc <;> try (exfalso; omega)) | refine ZX (h := ?_) | refine Q3 ?_ | apply jV | apply jR | refine Q5 rfl ?_ | refine Qt ?_
    exact ZD 1 rfl rfl rfl rfl (fun a w' st => ⟨st.kp, rfl⟩)
 ·obtain rfl : i = t.length := by omega
  rw [List.take_length] at hval hdig
  rw [if_pos (List.all_eq_true.2 hdig)]
  repeat' first | apply jS | apply jO | apply jN | apply jT | refine Q1 ?_ | (refine Qi (h1 := ?_) (h2 := ?_) <;> intro hc <;> try (exfalso; omega)) | apply jU | apply jE | refine Q4 rfl ?_ | refine Qc ?_
  refine Qb trivial rfl rfl rfl (fun w hk hs => ZI w _ _ zs neg (hO.rd.at hk hs Q9) hz.lt oq) fun w v w' _ _ _ hR => ?_
  rw [hval] at hR
  subst hR
  repeat' first | apply jN | apply jT | refine Q1 ?_ | refine Q0 ?_ | refine Q3 ?_ | refine Yg (h := ?_) | refine Q3 ?_ | apply jR
  exact ZD 1 rfl rfl rfl rfl (fun a w' st => ⟨st.kp, rfl⟩)


theorem WY.hd {w : World} {A : Option Addr} {n k cap : Nat} {xs : List Nat} (hv : WY w (.slice A n cap) n xs) (hk : k ≤ n) : WY w (.slice A k cap) k (xs.take k) := by
 have hl := hv.len
 obtain ⟨h1, A', cap', h2, h3, h4⟩ := hv
 simp only [Value.slice.injEq] at h2
 obtain ⟨rfl, _, rfl⟩ := h2
 refine ⟨by simp; omega, A, cap, rfl, by omega, fun h0 => ⟨(h4 oq).1, fun j u hu => ?_⟩⟩
 obtain ⟨⟨b, o, rfl⟩, h5⟩ := h4 oq
 refine h5 j u ?_
 rw [List.map_take, List.getElem?_take] at hu
 split at hu
 ·exact hu
 ·cases hu
theorem WY.cap {w : World} {A : Option Addr} {n cap : Nat} {xs : List Nat} (h : WY w (.slice A n cap) n xs) : n ≤ cap := by
 obtain ⟨_, A', cap', h2, h3, _⟩ := h
 simp only [Value.slice.injEq] at h2
 obtain ⟨_, _, rfl⟩ := h2
 exact h3

section
variable {c : Cx} {Q : Exit → Act → World → Prop} {m : Mode} {F : SFrame} {H : SHeap} {r : List SOp} {g : Option (Option Tmp × Bool)} {ns : Bool} {d : Tmp} {ty t t' : TypeId} {x y : Operand}
end


class TWide (P : Program) (t : TypeId) : Prop where
 guard : P.eqGuardType P.depth t = false
 eql : ∀ (w : World) (p q : Bool) (l m : List UInt8), (Op.equalIn 10000 t (wv p l) (wv q m)).run P w = .ok (p == q && decide (l = m)) w

instance : TWide Tryz.prog 75 := ⟨Tryz.eqGuardType75, fun w p q l m => by
 have hf : Tryz.prog.underlying 75 = some (.struct (Tryz.prog.fieldsOf 75)) := by rw [Program.fieldsOf, Tryz.underlying75]
 rw [run_equalIn_agg w 9999 75 _ _ hf Tryz.stoodInHeld75]
 simp only [Program.fieldsOf, Tryz.underlying75]
 have h4 : ∀ (w : World) (xs : Array Value) (a b : Value), xs = #[a, b] → (part 4 xs 0).run Tryz.prog w = .ok a w := by
  intro w xs a b e
  subst e
  simp [part, isAgg, run_underlying Tryz.underlying4, Sem.run_bind]
 have h9 : ∀ (w : World) (xs : Array Value) (a b : Value), xs = #[a, b] → (part 9 xs 1).run Tryz.prog w = .ok b w := by
  intro w xs a b e
  subst e
  simp [part, isAgg, run_underlying Tryz.underlying9, Sem.run_bind]
 have g1 := h4 w #[.bool p, sv l] _ _ rfl
 have g2 := h4 w #[.bool q, sv m] _ _ rfl
 have g3 := h9 w #[.bool p, sv l] _ _ rfl
 have g4 := h9 w #[.bool q, sv m] _ _ rfl
 have g5 := run_equalIn_bool' (P := Tryz.prog) w 9998 4 p q Tryz.underlying4
 have g6 := run_equalIn_string (P := Tryz.prog) w 9998 9 ⟨l.toArray⟩ ⟨m.toArray⟩ Tryz.underlying9
 rw [Xc, Xc] at g6
 have hlm : (l == m) = decide (l = m) := by
  by_cases h : l = m
  ·simp [h]
  ·simp [h]
 rw [hlm] at g6
 simp only [Op.eqFields]
 rw [if_pos dq, if_pos dq]
 simp only [Sem.run_bind, g1, g2, g3, g4, g5, g6, Result.andThen_ok]
 cases hpq : (p == q) with
 | false => simp
 | true =>
  simp only [Bool.not_true, Bool.false_eq_true, if_false, Sem.run_bind, g3, g4, g6, Result.andThen_ok, Bool.true_and]
  cases decide (l = m) <;> simp⟩

section
variable {c : Cx} {Q : Exit → Act → World → Prop} {m : Mode} {F : SFrame} {H : SHeap} {r : List SOp} {g : Option (Option Tmp × Bool)} {ns : Bool} {d : Tmp} {ty t t' : TypeId} {x y : Operand}
theorem Qgc {p q : Bool} {l k : List UInt8} [hT : TWide c.P t] (hd : dstOk c.n (some d) = true) (hg : guardF F g = some true) (hx : ev F x = some (wv p l)) (hy : ev F y = some (wv q k))
  (h : JO c Q m r ((d, .bool (!(p == q && decide (l = k)))) :: F) H) : JO c Q m (⟨some d, .binOp .neq t x y t', ty, g, .mov, ns⟩ :: r) F H :=
 Z9 hd hg (fun a w fr => by
  simp only [execOp, fr.ev hx, fr.ev hy, Sem.run_bind, run_eqGuard_agg w .neq t x y _ _ hT.guard, Result.andThen_ok, run_neq_struct, hT.eql, Sem.run_pure]) h
end

theorem IsZ.i64 {n : Int} (h1 : -9223372036854775808 ≤ n) (h2 : n < 9223372036854775808) : IsZ (Wv n) n 8 := Qq (by
 have : n.natAbs ≤ 9223372036854775808 := by omega
 exact Nat.lt_of_le_of_lt this dq)


abbrev B16 : Nat := 65536

theorem OwnN.hd {N : SHeap} {A : Option Addr} {n k cap : Nat} {xs : List Nat} (h : OwnN N (.slice A n cap) n xs) (hk : k ≤ n) : OwnN N (.slice A k cap) k (xs.take k) := by
 have hl := h.len
 obtain ⟨h1, ⟨h2, h3, h4⟩ | ⟨b, cap', cur, h2, h3, h4, h5, h6, h7⟩⟩ := h
 ·subst h4
  subst h3
  obtain rfl : k = 0 := by omega
  have h0 : xs = [] := List.eq_nil_of_length_eq_zero hl
  subst h0
  rw [h2]
  exact OwnN.nil
 ·simp only [Value.slice.injEq, true_and] at h2
  obtain ⟨rfl, rfl⟩ := h2
  refine ⟨by simp; omega, .inr ⟨b, cap, cur, rfl, h3, by omega, h5, h6, ?_⟩⟩
  rw [Nat.mul_one] at h7 ⊢
  rw [List.map_take, ← h7, List.take_take, Nat.min_eq_left hk]

def NewR (w w' : World) (v : Value) (z m : Nat) : Prop := ∃ N zs, New N w w' ∧ OwnN N v zs.length zs ∧ (∀ x ∈ zs, x < B16) ∧ val B16 zs = z ∧ zs.length ≤ m
def NewD (w w' : World) (v : Value) (z : Nat) : Prop := ∃ N zs, New N w w' ∧ OwnN N v zs.length zs ∧ Dig B16 zs ∧ val B16 zs = z

theorem ZA (b : Nat) (l : List Nat) (x : Nat) : val b (l ++ [x]) = val b l + b ^ l.length * x := by
 rw [Yi, val, val, Nat.mul_zero, Nat.add_zero]
theorem Zi {b : Nat} {l : List Nat} {x : Nat} (h : ∀ y ∈ l, y < b) (hx : x < b) : ∀ y ∈ l ++ [x], y < b := fun y hy => by
 rcases List.mem_append.1 hy with h1 | h1
 ·exact h y h1
 ·rw [List.mem_singleton.1 h1]; exact hx
theorem Q08 (l : List Nat) (m : Nat) (h0 : 0 < m) (h : m ≤ l.length) : bval (l.take m) = l.getD (m - 1) 0 + 256 * bval (l.take (m - 1)) := by
 have := Q5l l (m - 1) oq
 rwa [show m - 1 + 1 = m by omega] at this
theorem Qb6 {P a b x V : Nat} : V + P * (a + 256 * b) + P * 65536 * x = V + P * (a + 256 * (b + 256 * x)) := by
 rw [Nat.mul_assoc, Nat.add_assoc, ← Nat.mul_add]
 congr 2
 omega

set_option maxHeartbeats 8000000 in
theorem Y2 (w : World) (p : Bool) (l : List UInt8) (hl : l.length ≤ 3000000000) :
  Calls Tryz.prog 83 #[wv p l] w (Ret fun v w' => Kp [] w w' ∧ NewD w w' v (bval (bts l))) := by
 have hbl := XY l
 refine Q8 [] [] spq [] Tryz.func83 rfl mixed (by kernel_rfl) Tryz.ntmps83 Tryz.results83 rfl ⟨by simp, by simp⟩ spq ?_
 simp only [toS, textOps, toSOp, kindAt, kindOf, odAt, sopsAt, ordOf, zipF]
 repeat' first | apply jS | apply jO | apply jN | apply jT | refine Q1 ?_ | refine Q2 ?_ | refine Q0 ?_ | refine Q7 ?_ | refine Xf (h := ?_) | refine QB (h := fun _ => ?_) | apply jB
 rename_i b1
 refine Qj (ι := Int × Value × SHeap × List Nat) ⟨fun z => [(5, iv z.1), (3, z.2.1), (1, .pointer (some ⟨b1, 0, none⟩))], fun z => (b1, .cells #[.bool p, sv l] 75) :: (z.2.2.1 ++ []),
  fun z => z.1 = l.length - 2 * z.2.2.2.length ∧ -2 ≤ z.1 ∧ OwnN z.2.2.1 z.2.1 z.2.2.2.length z.2.2.2 ∧ (∀ x ∈ z.2.2.2, x < B16) ∧ val B16 z.2.2.2 + B16 ^ z.2.2.2.length * bval ((bts l).take z.1.toNat) = bval (bts l), fun z => (z.1 + 2).toNat⟩
  ((l.length : Int), _, [], []) ⟨by simp, by simp, OwnN.nil, fun _ h => absurd h List.not_mem_nil, by
   dsimp only
   rw [Int.toNat_natCast, List.take_of_length_le oq]
   simp [val]⟩ cqq (by exact HSub.at 0 rfl (HSub.nil _)) (fun z hz => ?_)
 obtain ⟨i, v, N, zs⟩ := z
 obtain ⟨hi, hi2, hO, hz, hval⟩ := hz
 dsimp only at hi hi2 hO hz hval ⊢
 by_cases hin : 0 < i
 ·obtain ⟨m, rfl⟩ : ∃ m : Nat, i = m := ⟨i.toNat, by omega⟩
  rw [Int.toNat_natCast] at hval
  have hm0 : 0 < m := by omega
  have hml : m ≤ l.length := by omega
  have hd1 : (bts l).getD (m - 1) 0 < 256 := Q82
  have hd2 : (bts l).getD (m - 2) 0 < 256 := Q82
  by_cases hm1 : 1 < m
  ·repeat' first | apply jS | apply jO | apply jN | apply jT | refine Q1 ?_ | refine Q2 ?_ | refine Q0 ?_ | refine Q7 ?_ | refine Z2 (i := 256) (h := ?_) | refine QZ (h := ?_) | refine ZF (h := ?_) | refine Q4n (h := ?_) | refine YU (h := ?_) | refine Q71 (h := ?_) | (refine QM (h1 := ?_) (h2 := ?_) <;> intro hc <;> try (exfalso; omega)) | refine Qw (h := fun _ => ?_) | apply jK | refine Q5 rfl ?_ | apply jB
   rename_i b2
   refine Z7 (A := [_, _]) hO (Zw b2 1 [(bts l).getD (m - 1) 0 + 256 * (bts l).getD (m - 2) 0] _ rfl rfl dq).rd Q9 rfl trivial rfl rfl rfl rfl oq (fun v' N' hO' => ?_)
   repeat' first | apply jO | apply jN | apply jT | refine Q1 ?_ | refine Q0 ?_ | refine Q4n (h := ?_) | apply jW
   refine Qa (((m - 2 : Nat) : Int), v', N', zs ++ [(bts l).getD (m - 1) 0 + 256 * (bts l).getD (m - 2) 0]) ⟨by simp only [List.length_append, List.length_singleton]; omega, by dsimp only; omega, by rw [List.length_append]; exact hO', Zi hz (by show _ < 65536; omega), ?_⟩ dgq cqq Qv
   dsimp only
   rw [ZA, List.length_append, List.length_singleton, Int.toNat_natCast, ← hval, Q08 _ m hm0 oq, Q08 _ (m - 1) oq oq, show m - 1 - 1 = m - 2 by omega, Nat.pow_succ]
   exact Qb6
  ·repeat' first | apply jS | apply jO | apply jN | apply jT | refine Q1 ?_ | refine Q2 ?_ | refine Q0 ?_ | refine Q7 ?_ | refine ZF (h := ?_) | refine YU (h := ?_) | refine Q71 (h := ?_) | (refine QM (h1 := ?_) (h2 := ?_) <;> intro hc <;> try (exfalso; omega)) | refine Qw (h := fun _ => ?_) | apply jK | refine Q5 rfl ?_ | refine Q4 rfl ?_ | apply jB
   rename_i b2
   refine Z7 (A := [_, _]) hO (Zw b2 1 [(bts l).getD (m - 1) 0] _ rfl rfl dq).rd Q9 rfl trivial rfl rfl rfl rfl oq (fun v' N' hO' => ?_)
   repeat' first | apply jO | apply jN | apply jT | refine Q1 ?_ | refine Q0 ?_ | refine Ym (h := ?_) | apply jW
   refine Qa ((m : Int) - 2, v', N', zs ++ [(bts l).getD (m - 1) 0]) ⟨by simp only [List.length_append, List.length_singleton]; omega, by dsimp only; omega, by rw [List.length_append]; exact hO', Zi hz (by show _ < 65536; omega), ?_⟩ dgq cqq Qv
   dsimp only
   obtain rfl : m = 1 := by omega
   rw [ZA, List.length_append, List.length_singleton, show ((1 : Nat) : Int) - 2 = -1 from rfl, show (-1 : Int).toNat = 0 from rfl, List.take_zero, Xx, Nat.mul_zero, Nat.add_zero, ← hval, Q08 _ 1 dq oq, Nat.sub_self, List.take_zero, Xx, Nat.mul_zero, Nat.add_zero]
 ·repeat' first | apply jS | apply jO | apply jN | apply jT | refine Q1 ?_ | (refine QM (h1 := ?_) (h2 := ?_) <;> intro hc <;> try (exfalso; omega)) | apply jU | apply jE | refine Q4 rfl ?_ | refine Qc ?_
  obtain ⟨A, cap, rfl⟩ := hO.form
  refine Qb trivial rfl rfl rfl (fun w hk hs => Q35 w _ _ _ _ (hO.rd.at hk hs Q9) oq) fun w v w' _ _ _ hR => ?_
  obtain ⟨q, hq, rfl, hnq⟩ := hR
  repeat' first | apply jN | apply jT | refine Q0 ?_ | apply jR
  have hown := hO.hd hq
  rw [← hnq] at hown
  have hql : (nrm zs).length = q := hown.len
  refine Qd rfl (fun a w' st => ⟨st.kp, N, nrm zs, st.newOf rfl Q9, by rw [hql]; exact hown, Dig.of hz, ?_⟩)
  rw [show i.toNat = 0 by omega, List.take_zero, Xx, Nat.mul_zero, Nat.add_zero] at hval
  rw [Z5, hval]


theorem Q3t {l : List Nat} {i : Nat} (h : ¬ i < l.length) : l.getD i 0 = 0 := by rw [List.getD, List.getElem?_eq_none oq]; rfl

set_option maxHeartbeats 8000000 in
theorem Qfe (w : World) (v u : Value) (n k : Nat) (xs ys : List Nat) (hv : WN w v n xs) (hu : WN w u k ys) (hx : ∀ x ∈ xs, x < B16) (hy : ∀ x ∈ ys, x < B16) (hn : n ≤ 10000000000) (hk : k ≤ 10000000000) :
  Calls Tryz.prog 85 #[v, u] w (Ret fun v w' => Kp [] w w' ∧ NewR w w' v (val B16 xs + val B16 ys) (n + k + 1)) := by
 have hlx := hv.len
 have hly := hu.len
 obtain ⟨M, hM1, hM2, hM3⟩ : ∃ M, n ≤ M ∧ k ≤ M ∧ (M = n ∨ M = k) := ⟨max n k, by omega, by omega, by omega⟩
 refine Q8 [] [] spq [] Tryz.func85 rfl mixed (by kernel_rfl) Tryz.ntmps85 Tryz.results85 rfl ⟨by simp, by simp⟩ spq ?_
 simp only [toS, textOps, toSOp, kindAt, kindOf, odAt, sopsAt, ordOf, zipF]
 repeat' first | apply jS | apply jO | apply jN | apply jT | refine Q0 ?_ | apply jB
 refine Qj (ι := Nat × Nat × Value × SHeap × List Nat) ⟨fun z => [(7, nv z.1), (6, nv z.2.1), (5, z.2.2.1), (0, v), (1, u)], fun z => z.2.2.2.1 ++ [],
  fun z => z.2.2.2.2.length = z.1 ∧ (z.1 ≤ M ∨ z.1 = M + 1 ∧ z.2.1 = 0) ∧ z.2.1 ≤ 1 ∧ OwnN z.2.2.2.1 z.2.2.1 z.1 z.2.2.2.2 ∧ (∀ x ∈ z.2.2.2.2, x < B16) ∧ val B16 z.2.2.2.2 + B16 ^ z.1 * z.2.1 = val B16 (xs.take z.1) + val B16 (ys.take z.1), fun z => M + 2 - z.1⟩
  (0, 0, _, [], []) ⟨rfl, .inl (Nat.zero_le _), Nat.zero_le _, OwnN.nil, fun _ h => absurd h List.not_mem_nil, by simp [val]⟩ cqq (by exact HSub.nil _) (fun z hz => ?_)
 obtain ⟨i, c, vo, N, zs⟩ := z
 obtain ⟨hlz, hi, hc1, hO, hz, hval⟩ := hz
 dsimp only at hlz hi hc1 hO hz hval ⊢
 have hxi : xs.getD i 0 < 65536 := Qp (b := B16) dq hx i
 have hyi : ys.getD i 0 < 65536 := Qp (b := B16) dq hy i
 by_cases hin : i < n
 ·by_cases hik : i < k
  ·repeat' first | apply jS | apply jO | apply jN | apply jT | refine Q1 ?_ | refine Q0 ?_ | refine Zl (h := ?_) | refine YJ (h := ?_) | refine QR (h := ?_) | refine Xe (j := 65536) (h := ?_) | refine QZ (h := ?_) | refine Ql ?_ | (refine Qi (h1 := ?_) (h2 := ?_) <;> intro hc <;> try (exfalso; omega)) | refine Qw (h := fun _ => ?_) | apply jK | refine Q5 rfl ?_ | refine Qy (h := ?_) | apply jB
   rename_i b2
   refine Z7 (A := [_]) hO (Zw b2 1 [(c + xs.getD i 0 + ys.getD i 0) % 65536] _ rfl rfl dq).rd Q9 rfl trivial rfl rfl rfl rfl oq (fun v' N' hO' => ?_)
   repeat' first | apply jO | apply jN | apply jT | refine Q1 ?_ | refine Q0 ?_ | refine X7 (j := 65536) (h := ?_) | refine Qe ?_ | apply jW
   refine Qa (i + 1, (c + xs.getD i 0 + ys.getD i 0) / 65536, v', N', zs ++ [(c + xs.getD i 0 + ys.getD i 0) % 65536]) ⟨by simp only [List.length_append, List.length_singleton]; omega, by dsimp only; omega, by dsimp only; omega, hO', Zi hz (Nat.mod_lt _ dq), ?_⟩ dgq cqq Qv
   dsimp only
   rw [ZA, hlz, Qu, Qu, Nat.pow_succ]
   have h := Y6 (b := B16) (P := B16 ^ i) (c := c) (s := c + xs.getD i 0 + ys.getD i 0) (x := xs.getD i 0) (y := ys.getD i 0) oq hval
   rw [Nat.add_add_add_comm, ← Nat.add_assoc]
   exact h
  ·have hy0 : ys.getD i 0 = 0 := Q3t oq
   repeat' first | apply jS | apply jO | apply jN | apply jT | refine Q1 ?_ | refine Q0 ?_ | refine Zl (h := ?_) | refine YJ (h := ?_) | refine QR (h := ?_) | refine Xe (j := 65536) (h := ?_) | refine QZ (h := ?_) | refine Ql ?_ | (refine Qi (h1 := ?_) (h2 := ?_) <;> intro hc <;> try (exfalso; omega)) | refine Qw (h := fun _ => ?_) | apply jK | refine Q5 rfl ?_ | refine Q4 rfl ?_ | refine Qy (h := ?_) | apply jB
   rename_i b2
   refine Z7 (A := [_]) hO (Zw b2 1 [(c + xs.getD i 0) % 65536] _ rfl rfl dq).rd Q9 rfl trivial rfl rfl rfl rfl oq (fun v' N' hO' => ?_)
   repeat' first | apply jO | apply jN | apply jT | refine Q1 ?_ | refine Q0 ?_ | refine X7 (j := 65536) (h := ?_) | refine Qe ?_ | apply jW
   refine Qa (i + 1, (c + xs.getD i 0) / 65536, v', N', zs ++ [(c + xs.getD i 0) % 65536]) ⟨by simp only [List.length_append, List.length_singleton]; omega, by dsimp only; omega, by dsimp only; omega, hO', Zi hz (Nat.mod_lt _ dq), ?_⟩ dgq cqq Qv
   dsimp only
   rw [ZA, hlz, Qu, Qu, Nat.pow_succ]
   have h := Y6 (b := B16) (P := B16 ^ i) (c := c) (s := c + xs.getD i 0) (x := xs.getD i 0) (y := ys.getD i 0) oq hval
   rw [Nat.add_add_add_comm, ← Nat.add_assoc]
   exact h
 ·have hx0 : xs.getD i 0 = 0 := Q3t oq
  by_cases hik : i < k
  ·repeat' first | apply jS | apply jO | apply jN | apply jT | refine Q1 ?_ | refine Q0 ?_ | refine Zl (h := ?_) | refine YJ (h := ?_) | refine QR (h := ?_) | refine Xe (j := 65536) (h := ?_) | refine QZ (h := ?_) | refine Ql ?_ | refine Qn ?_ | (refine Qi (h1 := ?_) (h2 := ?_) <;> intro hc <;> try (exfalso; omega)) | refine Qw (h := fun _ => ?_) | apply jK | refine Q5 rfl ?_ | refine Q4 rfl ?_ | refine Qy (h := ?_) | apply jB
   rename_i b2
   refine Z7 (A := [_]) hO (Zw b2 1 [(c + ys.getD i 0) % 65536] _ rfl rfl dq).rd Q9 rfl trivial rfl rfl rfl rfl oq (fun v' N' hO' => ?_)
   repeat' first | apply jO | apply jN | apply jT | refine Q1 ?_ | refine Q0 ?_ | refine X7 (j := 65536) (h := ?_) | refine Qe ?_ | apply jW
   refine Qa (i + 1, (c + ys.getD i 0) / 65536, v', N', zs ++ [(c + ys.getD i 0) % 65536]) ⟨by simp only [List.length_append, List.length_singleton]; omega, by dsimp only; omega, by dsimp only; omega, hO', Zi hz (Nat.mod_lt _ dq), ?_⟩ dgq cqq Qv
   dsimp only
   rw [ZA, hlz, Qu, Qu, Nat.pow_succ]
   have h := Y6 (b := B16) (P := B16 ^ i) (c := c) (s := c + ys.getD i 0) (x := xs.getD i 0) (y := ys.getD i 0) oq hval
   rw [Nat.add_add_add_comm, ← Nat.add_assoc]
   exact h
  ·have hy0 : ys.getD i 0 = 0 := Q3t oq
   by_cases hc0 : 0 < c
   ·repeat' first | apply jS | apply jO | apply jN | apply jT | refine Q1 ?_ | refine Q0 ?_ | refine QR (h := ?_) | refine Xe (j := 65536) (h := ?_) | refine Qn ?_ | (refine Qi (h1 := ?_) (h2 := ?_) <;> intro hc <;> try (exfalso; omega)) | (refine QM (h1 := ?_) (h2 := ?_) <;> intro hc <;> try (exfalso; omega)) | refine Qw (h := fun _ => ?_) | apply jK | refine Q5 rfl ?_ | refine Q4 rfl ?_ | apply jB
    rename_i b2
    refine Z7 (A := [_]) hO (Zw b2 1 [(c) % 65536] _ rfl rfl dq).rd Q9 rfl trivial rfl rfl rfl rfl oq (fun v' N' hO' => ?_)
    repeat' first | apply jO | apply jN | apply jT | refine Q1 ?_ | refine Q0 ?_ | refine X7 (j := 65536) (h := ?_) | refine Qe ?_ | apply jW
    refine Qa (i + 1, (c) / 65536, v', N', zs ++ [(c) % 65536]) ⟨by simp only [List.length_append, List.length_singleton]; omega, by dsimp only; omega, by dsimp only; omega, hO', Zi hz (Nat.mod_lt _ dq), ?_⟩ dgq cqq Qv
    dsimp only
    rw [ZA, hlz, Qu, Qu, Nat.pow_succ]
    have h := Y6 (b := B16) (P := B16 ^ i) (c := c) (s := c) (x := xs.getD i 0) (y := ys.getD i 0) oq hval
    rw [Nat.add_add_add_comm, ← Nat.add_assoc]
    exact h
   ·repeat' first | apply jS | apply jO | apply jN | apply jT | refine Q1 ?_ | refine Q0 ?_ | refine QR (h := ?_) | refine Qn ?_ | (refine Qi (h1 := ?_) (h2 := ?_) <;> intro hc <;> try (exfalso; omega)) | (refine QM (h1 := ?_) (h2 := ?_) <;> intro hc <;> try (exfalso; omega)) | apply jU | apply jE | apply jR | refine Q4 rfl ?_ | refine Qc ?_
    obtain rfl : c = 0 := by omega
    rw [Nat.mul_zero, Nat.add_zero, List.take_of_length_le oq, List.take_of_length_le oq] at hval
    exact Qd rfl (fun a w' st => ⟨st.kp, N, zs, st.newOf rfl Q9, by rw [hlz]; exact hO, hz, hval, by omega⟩)


theorem Xq {b P c x y d c' v a a' : Nat} (hs : d + (c + y) = x + b * c') (h : v + a = a' + P * c) : v + P * d + (a + P * y) = (a' + P * x) + P * b * c' := by
 have e : P * d + (P * c + P * y) = P * x + P * b * c' := by rw [← Nat.mul_add, ← Nat.mul_add, hs, Nat.mul_add, Nat.mul_assoc]
 omega

set_option maxHeartbeats 8000000 in
theorem Q27 (w : World) (v u : Value) (n k : Nat) (xs ys : List Nat) (hv : WN w v n xs) (hu : WN w u k ys) (hx : ∀ x ∈ xs, x < B16) (hy : ∀ x ∈ ys, x < B16) (hn : n ≤ 10000000000) (hkn : k ≤ n) (hle : val B16 ys ≤ val B16 xs) :
  Calls Tryz.prog 87 #[v, u] w (Ret fun v w' => Kp [] w w' ∧ NewD w w' v (val B16 xs - val B16 ys)) := by
 have hlx := hv.len
 have hly := hu.len
 refine Q8 [] [] spq [] Tryz.func87 rfl mixed (by kernel_rfl) Tryz.ntmps87 Tryz.results87 rfl ⟨by simp, by simp⟩ spq ?_
 simp only [toS, textOps, toSOp, kindAt, kindOf, odAt, sopsAt, ordOf, zipF]
 repeat' first | apply jS | apply jO | apply jN | apply jT | refine Q0 ?_ | apply jB
 refine Qj (ι := Nat × Nat × Value × SHeap × List Nat) ⟨fun z => [(7, nv z.1), (6, nv z.2.1), (5, z.2.2.1), (0, v), (1, u)], fun z => z.2.2.2.1 ++ [],
  fun z => z.2.2.2.2.length = z.1 ∧ z.1 ≤ n ∧ z.2.1 ≤ 1 ∧ OwnN z.2.2.2.1 z.2.2.1 z.1 z.2.2.2.2 ∧ (∀ x ∈ z.2.2.2.2, x < B16) ∧ val B16 z.2.2.2.2 + val B16 (ys.take z.1) = val B16 (xs.take z.1) + B16 ^ z.1 * z.2.1, fun z => n - z.1⟩
  (0, 0, _, [], []) ⟨rfl, Nat.zero_le _, Nat.zero_le _, OwnN.nil, fun _ h => absurd h List.not_mem_nil, by simp [val]⟩ cqq (by exact HSub.nil _) (fun z hz => ?_)
 obtain ⟨i, c, vo, N, zs⟩ := z
 obtain ⟨hlz, hi, hc1, hO, hz, hval⟩ := hz
 dsimp only at hlz hi hc1 hO hz hval ⊢
 have hxi : xs.getD i 0 < 65536 := Qp (b := B16) dq hx i
 have hyi : ys.getD i 0 < 65536 := Qp (b := B16) dq hy i
 by_cases hin : i < n
 ·by_cases hik : i < k
  ·by_cases hd : xs.getD i 0 < c + ys.getD i 0
   ·have hD : ∃ q : Nat, q = xs.getD i 0 + 65536 - (c + ys.getD i 0) ∧ q < 65536 := ⟨_, rfl, by omega⟩
    obtain ⟨q, hq, hq2⟩ := hD
    repeat' first | apply jS | apply jO | apply jN | apply jT | refine Q1 ?_ | refine Q0 ?_ | refine Zl (h := ?_) | refine YJ (h := ?_) | refine QR (h := ?_) | refine Q60 (h := ?_) | refine Ym (h := ?_) | (refine Qi (h1 := ?_) (h2 := ?_) <;> intro hc <;> try (exfalso; omega)) | refine Qw (h := fun _ => ?_) | apply jK | refine Q5 rfl ?_ | apply jB
    have e : Value.int .i64 ((xs.getD i 0 : Int) - c - (ys.getD i 0 : Int) + 65536) = nv q := by
     show iv _ = iv _
     congr 1
     omega
    rw [e]
    rename_i b2
    refine Z7 (A := [_]) hO (Zw b2 1 [q] _ rfl rfl dq).rd Q9 rfl trivial rfl rfl rfl rfl oq (fun v' N' hO' => ?_)
    repeat' first | apply jO | apply jN | apply jT | refine Q1 ?_ | refine Q0 ?_ | refine Qe ?_ | apply jW
    refine Qa (i + 1, 1, v', N', zs ++ [q]) ⟨by simp only [List.length_append, List.length_singleton]; omega, by dsimp only; omega, by dsimp only; omega, hO', Zi hz hq2, ?_⟩ dgq cqq Qv
    dsimp only
    rw [ZA, hlz, Qu, Qu, Nat.pow_succ]
    exact Xq (b := B16) (c := c) (c' := 1) (by show q + _ = _ + 65536 * _; omega) hval
   ·have hD : ∃ q : Nat, q = xs.getD i 0 - (c + ys.getD i 0) ∧ q < 65536 := ⟨_, rfl, by omega⟩
    obtain ⟨q, hq, hq2⟩ := hD
    repeat' first | apply jS | apply jO | apply jN | apply jT | refine Q1 ?_ | refine Q0 ?_ | refine Zl (h := ?_) | refine YJ (h := ?_) | refine QR (h := ?_) | refine XD (h := ?_) | (refine Qi (h1 := ?_) (h2 := ?_) <;> intro hc <;> try (exfalso; omega)) | refine Qw (h := fun _ => ?_) | apply jK | refine Q5 rfl ?_ | refine Q4 rfl ?_ | apply jB
    have e : Value.int .i64 ((xs.getD i 0 - c - ys.getD i 0 : Nat) : Int) = nv q := by
     show iv _ = iv _
     congr 1
     omega
    rw [e]
    rename_i b2
    refine Z7 (A := [_]) hO (Zw b2 1 [q] _ rfl rfl dq).rd Q9 rfl trivial rfl rfl rfl rfl oq (fun v' N' hO' => ?_)
    repeat' first | apply jO | apply jN | apply jT | refine Q1 ?_ | refine Q0 ?_ | refine Qe ?_ | apply jW
    refine Qa (i + 1, 0, v', N', zs ++ [q]) ⟨by simp only [List.length_append, List.length_singleton]; omega, by dsimp only; omega, by dsimp only; omega, hO', Zi hz hq2, ?_⟩ dgq cqq Qv
    dsimp only
    rw [ZA, hlz, Qu, Qu, Nat.pow_succ]
    exact Xq (b := B16) (c := c) (c' := 0) (by show q + _ = _ + 65536 * _; omega) hval
  ·have hy0 : ys.getD i 0 = 0 := Q3t oq
   by_cases hd : xs.getD i 0 < c
   ·have hD : ∃ q : Nat, q = xs.getD i 0 + 65536 - (c + 0) ∧ q < 65536 := ⟨_, rfl, by omega⟩
    obtain ⟨q, hq, hq2⟩ := hD
    repeat' first | apply jS | apply jO | apply jN | apply jT | refine Q1 ?_ | refine Q0 ?_ | refine Zl (h := ?_) | refine YJ (h := ?_) | refine QR (h := ?_) | refine Q60 (h := ?_) | refine Ym (h := ?_) | (refine Qi (h1 := ?_) (h2 := ?_) <;> intro hc <;> try (exfalso; omega)) | refine Qw (h := fun _ => ?_) | apply jK | refine Q5 rfl ?_ | refine Q4 rfl ?_ | apply jB
    have e : Value.int .i64 ((xs.getD i 0 : Int) - c + 65536) = nv q := by
     show iv _ = iv _
     congr 1
     omega
    rw [e]
    rename_i b2
    refine Z7 (A := [_]) hO (Zw b2 1 [q] _ rfl rfl dq).rd Q9 rfl trivial rfl rfl rfl rfl oq (fun v' N' hO' => ?_)
    repeat' first | apply jO | apply jN | apply jT | refine Q1 ?_ | refine Q0 ?_ | refine Qe ?_ | apply jW
    refine Qa (i + 1, 1, v', N', zs ++ [q]) ⟨by simp only [List.length_append, List.length_singleton]; omega, by dsimp only; omega, by dsimp only; omega, hO', Zi hz hq2, ?_⟩ dgq cqq Qv
    dsimp only
    rw [ZA, hlz, Qu, Qu, Nat.pow_succ]
    exact Xq (b := B16) (c := c) (c' := 1) (by show q + _ = _ + 65536 * _; omega) hval
   ·have hD : ∃ q : Nat, q = xs.getD i 0 - (c + 0) ∧ q < 65536 := ⟨_, rfl, by omega⟩
    obtain ⟨q, hq, hq2⟩ := hD
    repeat' first | apply jS | apply jO | apply jN | apply jT | refine Q1 ?_ | refine Q0 ?_ | refine Zl (h := ?_) | refine YJ (h := ?_) | refine QR (h := ?_) | refine XD (h := ?_) | (refine Qi (h1 := ?_) (h2 := ?_) <;> intro hc <;> try (exfalso; omega)) | refine Qw (h := fun _ => ?_) | apply jK | refine Q5 rfl ?_ | refine Q4 rfl ?_ | apply jB
    have e : Value.int .i64 ((xs.getD i 0 - c : Nat) : Int) = nv q := by
     show iv _ = iv _
     congr 1
     omega
    rw [e]
    rename_i b2
    refine Z7 (A := [_]) hO (Zw b2 1 [q] _ rfl rfl dq).rd Q9 rfl trivial rfl rfl rfl rfl oq (fun v' N' hO' => ?_)
    repeat' first | apply jO | apply jN | apply jT | refine Q1 ?_ | refine Q0 ?_ | refine Qe ?_ | apply jW
    refine Qa (i + 1, 0, v', N', zs ++ [q]) ⟨by simp only [List.length_append, List.length_singleton]; omega, by dsimp only; omega, by dsimp only; omega, hO', Zi hz hq2, ?_⟩ dgq cqq Qv
    dsimp only
    rw [ZA, hlz, Qu, Qu, Nat.pow_succ]
    exact Xq (b := B16) (c := c) (c' := 0) (by show q + _ = _ + 65536 * _; omega) hval
 ·repeat' first | apply jS | apply jO | apply jN | apply jT | refine Q1 ?_ | refine QR (h := ?_) | (refine Qi (h1 := ?_) (h2 := ?_) <;> intro hc <;> try (exfalso; omega)) | apply jU | apply jE | refine Q4 rfl ?_ | refine Qc ?_
  obtain rfl : i = n := by omega
  rw [List.take_of_length_le oq, List.take_of_length_le oq] at hval
  have hc0 : c = 0 := by
   rcases Nat.eq_zero_or_pos c with h | h
   ·exact h
   ·have h1 : B16 ^ i ≤ B16 ^ i * c := Nat.le_mul_of_pos_right _ h
    have h2 := ZN hz
    rw [hlz] at h2
    omega
  subst hc0
  rw [Nat.mul_zero, Nat.add_zero] at hval
  obtain ⟨A, cap, rfl⟩ := hO.form
  refine Qb trivial rfl rfl rfl (fun w hk hs => Q35 w _ _ _ _ (hO.rd.at hk hs Q9) oq) fun w v w' _ _ _ hR => ?_
  obtain ⟨q, hq, rfl, hnq⟩ := hR
  repeat' first | apply jN | apply jT | refine Q0 ?_ | apply jR
  have hown := hO.hd hq
  rw [← hnq] at hown
  have hql : (nrm zs).length = q := hown.len
  refine Qd rfl (fun a w' st => ⟨st.kp, N, nrm zs, st.newOf rfl Q9, by rw [hql]; exact hown, Dig.of hz, ?_⟩)
  rw [Z5]
  omega


set_option maxHeartbeats 8000000 in
theorem WC (w : World) (v u : Value) (n k : Nat) (xs ys : List Nat) (hv : WN w v n xs) (hu : WN w u k ys) (hx : Dig B16 xs) (hy : Dig B16 ys) (hn : n ≤ 10000000000) (hk : k ≤ 10000000000) :
  Calls Tryz.prog 86 #[v, u] w (Ret fun v w' => Kp [] w w' ∧ v = iv (cmpV (val B16 xs) (val B16 ys))) := by
 have hlx := hv.len
 have hly := hu.len
 refine Q8 [⟨8, 1, [], []⟩, ⟨9, 1, [], []⟩] [] spq [] Tryz.func86 rfl mixed (by kernel_rfl) Tryz.ntmps86 Tryz.results86 rfl ⟨by simp, by simp⟩ spq ?_
 simp only [toS, textOps, toSOp, kindAt, kindOf, odAt, sopsAt, ordOf, zipF]
 rcases Nat.lt_trichotomy n k with h | h | h
 ·have hcc := Y8 dq hx hy oq
  repeat' first | apply jS | apply jO | apply jN | apply jT | refine Q1 ?_ | refine Q0 ?_ | refine QR (h := ?_) | (refine Qi (h1 := ?_) (h2 := ?_) <;> intro hc <;> try (exfalso; omega)) | (refine Yf (h1 := ?_) (h2 := ?_) <;> intro hc <;> try (exfalso; omega)) | apply jV | apply jR | refine Q5 rfl ?_
  exact Qd rfl (fun a w' st => ⟨st.kp, by unfold cmpV; rw [if_pos hcc]⟩)
 ·repeat' first | apply jS | apply jO | apply jN | apply jT | refine Q1 ?_ | refine Q0 ?_ | refine QR (h := ?_) | refine Ym (h := ?_) | (refine Yf (h1 := ?_) (h2 := ?_) <;> intro hc <;> try (exfalso; omega)) | apply jK | refine Q4 rfl ?_ | apply jB
  refine Qj (ι := Nat) ⟨fun q => [(5, iv ((q : Int) - 1)), (0, v), (1, u)], fun _ => [], fun q => q ≤ n ∧ xs.drop q = ys.drop q, fun q => q⟩ n ⟨Nat.le_refl _, by rw [List.drop_eq_nil_of_le oq, List.drop_eq_nil_of_le oq]⟩ cqq Qr (fun q hq => ?_)
  obtain ⟨hqn, hd⟩ := hq
  dsimp only at hqn hd ⊢
  rcases q with _ | q
  ·repeat' first | apply jS | apply jO | apply jN | apply jT | refine Q1 ?_ | refine Q0 ?_ | (refine Zu (h1 := ?_) (h2 := ?_) <;> intro hc <;> try (exfalso; omega)) | apply jU | apply jE | apply jR | refine Q4 rfl ?_ | refine Qc ?_
   have : xs = ys := hd
   exact Qd rfl (fun a w' st => ⟨st.kp, by unfold cmpV; rw [this, if_neg (Nat.lt_irrefl _), if_neg (Nat.lt_irrefl _)]⟩)
  ·have hiv : iv (((q + 1 : Nat) : Int) - 1) = nv q := by
    show iv _ = iv _
    congr 1
    omega
   rw [hiv]
   rcases Nat.lt_trichotomy (xs.getD q 0) (ys.getD q 0) with h1 | h1 | h1
   ·have hcc := Q3c (b := B16) oq oq hx.lt h1 hd
    repeat' first | apply jS | apply jO | apply jD | apply jN | apply jT | refine Q1 ?_ | refine Q0 ?_ | refine Zl (h := ?_) | refine YJ (h := ?_) | (refine Qi (h1 := ?_) (h2 := ?_) <;> intro hc <;> try (exfalso; omega)) | (refine Zu (h1 := ?_) (h2 := ?_) <;> intro hc <;> try (exfalso; omega)) | (refine Yf (h1 := ?_) (h2 := ?_) <;> intro hc <;> try (exfalso; omega)) | apply jV | apply jK | apply jR | refine Q5 rfl ?_ | apply jB | refine Qt ?_
    exact Qd rfl (fun a w' st => ⟨st.kp, by unfold cmpV; rw [if_pos hcc]⟩)
   ·repeat' first | apply jS | apply jO | apply jD | apply jN | apply jT | refine Q1 ?_ | refine Q0 ?_ | refine Zl (h := ?_) | refine YJ (h := ?_) | refine Ym (h := ?_) | (refine Zu (h1 := ?_) (h2 := ?_) <;> intro hc <;> try (exfalso; omega)) | (refine Yf (h1 := ?_) (h2 := ?_) <;> intro hc <;> try (exfalso; omega)) | apply jK | refine Q5 rfl ?_ | refine Q4 rfl ?_ | apply jB | apply jW
    refine Qa q ⟨by omega, ?_⟩ dgq cqq Qr
    rw [List.drop_eq_getElem_cons (show q < xs.length by omega), List.drop_eq_getElem_cons (show q < ys.length by omega), hd]
    have e : xs[q]'oq = ys[q]'oq := by
     simpa [List.getD, List.getElem?_eq_getElem (show q < xs.length by omega), List.getElem?_eq_getElem (show q < ys.length by omega)] using h1
    rw [e]
   ·have hcc := Q3c (b := B16) oq oq hy.lt h1 hd.symm
    repeat' first | apply jS | apply jO | apply jD | apply jN | apply jT | refine Q1 ?_ | refine Q0 ?_ | refine Zl (h := ?_) | refine YJ (h := ?_) | (refine Qi (h1 := ?_) (h2 := ?_) <;> intro hc <;> try (exfalso; omega)) | (refine Zu (h1 := ?_) (h2 := ?_) <;> intro hc <;> try (exfalso; omega)) | (refine Yf (h1 := ?_) (h2 := ?_) <;> intro hc <;> try (exfalso; omega)) | apply jV | apply jK | apply jR | refine Q5 rfl ?_ | refine Q4 rfl ?_ | apply jB | refine Qt ?_
    exact Qd rfl (fun a w' st => ⟨st.kp, by unfold cmpV; rw [if_neg oq, if_pos hcc]⟩)
 ·have hcc := Y8 dq hy hx oq
  repeat' first | apply jS | apply jO | apply jN | apply jT | refine Q1 ?_ | refine Q0 ?_ | refine QR (h := ?_) | (refine Qi (h1 := ?_) (h2 := ?_) <;> intro hc <;> try (exfalso; omega)) | (refine Yf (h1 := ?_) (h2 := ?_) <;> intro hc <;> try (exfalso; omega)) | apply jV | apply jK | apply jR | refine Q5 rfl ?_ | refine Q4 rfl ?_
  exact Qd rfl (fun a w' st => ⟨st.kp, by unfold cmpV; rw [if_neg oq, if_pos hcc]⟩)


theorem Q63 {x y : Nat} (hx : x < 65536) (hy : y < 65536) : x * y ≤ 4294836225 := by
 have := Nat.mul_le_mul (show x ≤ 65535 by omega) (show y ≤ 65535 by omega)
 omega

set_option maxHeartbeats 8000000 in
theorem Qbh (w : World) (v u : Value) (n k : Nat) (xs ys : List Nat) (hv : WN w v n xs) (hu : WN w u k ys) (hx : ∀ x ∈ xs, x < B16) (hy : ∀ x ∈ ys, x < B16) (hn : n ≤ 10000000000) (hk : k ≤ 10000000000) :
  Calls Tryz.prog 127 #[v, u] w (Ret fun v w' => Kp [] w w' ∧ ∃ N zs, New N w w' ∧ OwnN N v zs.length zs ∧ Dig B16 zs ∧ val B16 zs = val B16 xs * val B16 ys ∧ zs.length ≤ n + k) := by
 have hlx := hv.len
 have hly := hu.len
 refine Q8 [⟨9, 1, [], []⟩] [] spq [] Tryz.func127 rfl mixed (by kernel_rfl) Tryz.ntmps127 Tryz.results127 rfl ⟨by simp, by simp⟩ spq ?_
 simp only [toS, textOps, toSOp, kindAt, kindOf, odAt, sopsAt, ordOf, zipF]
 repeat' first | apply jS | apply jO | apply jN | refine Q1 ?_ | refine Q0 ?_ | refine QR (h := ?_) | refine QZ (h := ?_) | apply jT
 refine Yx (n := n + k) rfl rfl rfl rfl rfl oq oq (fun b5 => ?_)
 have hO := Q4v b5 (n + k) (by simp only [maxLen]; omega)
 repeat' first | apply jS | apply jO | apply jN | apply jT | refine Q0 ?_ | apply jB
 refine Qj (ι := Nat × SHeap × List Nat) ⟨fun z => [(6, nv z.1), (5, .slice (some ⟨b5, 0, none⟩) (n + k) (n + k)), (0, v), (1, u)], fun z => z.2.1 ++ [],
  fun z => z.1 ≤ n ∧ OwnN z.2.1 (.slice (some ⟨b5, 0, none⟩) (n + k) (n + k)) (n + k) z.2.2 ∧ (∀ x ∈ z.2.2, x < B16) ∧ val B16 z.2.2 = val B16 (xs.take z.1) * val B16 ys ∧ ∀ j, z.1 + k ≤ j → z.2.2.getD j 0 = 0, fun z => n - z.1⟩
  (0, _, _) ⟨Nat.zero_le _, hO, fun x hx => by obtain ⟨a, _, rfl⟩ := List.mem_map.1 hx; decide, by show val B16 (tab (n + k) fun _ => 0) = _; rw [X9]; simp [val], fun j _ => Yw _ j⟩ cqq Qr (fun z hz => ?_)
 clear hO
 obtain ⟨i, N, zs⟩ := z
 obtain ⟨hi, hO, hz, hval, hzero⟩ := hz
 dsimp only at hi hO hz hval hzero ⊢
 have hlz := hO.len
 by_cases hin : i < n
 ·have hxi : xs.getD i 0 < 65536 := Qp (b := B16) dq hx i
  repeat' first | apply jS | apply jO | apply jN | apply jT | refine Q1 ?_ | refine Q0 ?_ | refine QR (h := ?_) | (refine Qi (h1 := ?_) (h2 := ?_) <;> intro hc <;> try (exfalso; omega)) | apply jK | refine Q5 rfl ?_ | apply jB
  refine Qj (ι := Nat × Nat × SHeap × List Nat) ⟨fun y => [(8, nv y.1), (7, nv y.2.1), (6, nv i), (5, .slice (some ⟨b5, 0, none⟩) (n + k) (n + k)), (0, v), (1, u)], fun y => y.2.2.1 ++ [],
   fun y => y.1 ≤ k ∧ OwnN y.2.2.1 (.slice (some ⟨b5, 0, none⟩) (n + k) (n + k)) (n + k) y.2.2.2 ∧ (∀ x ∈ y.2.2.2, x < B16) ∧ y.2.1 < 65536 ∧ val B16 y.2.2.2 + B16 ^ (i + y.1) * y.2.1 = val B16 (xs.take i) * val B16 ys + B16 ^ i * (xs.getD i 0 * val B16 (ys.take y.1)) ∧ ∀ j, i + k ≤ j → y.2.2.2.getD j 0 = 0, fun y => k - y.1⟩
   (0, 0, _, _) ⟨Nat.zero_le _, hO, hz, by show (0 : Nat) < 65536; decide, by simp [hval, val], hzero⟩ cqq Qr (fun y hyy => ?_)
  clear hO hz hval hzero hlz
  obtain ⟨q, c, M, us⟩ := y
  obtain ⟨hq, hO, hz, hc1, hval, hzero⟩ := hyy
  dsimp only at hq hO hz hc1 hval hzero ⊢
  have hlz := hO.len
  by_cases hqk : q < k
  ·have hyq : ys.getD q 0 < 65536 := Qp (b := B16) dq hy q
   have huq : us.getD (i + q) 0 < 65536 := Qp (b := B16) dq hz (i + q)
   have hxy := Q63 hxi hyq
   repeat' first | apply jS | apply jO | apply jD | apply jN | apply jT | refine Q1 ?_ | refine Q0 ?_ | refine Zl (h := ?_) | refine YJ (h := ?_) | refine QR (h := ?_) | refine Xe (j := 65536) (h := ?_) | refine QZ (h := ?_) | refine Z2 (h := ?_) | (refine Qi (h1 := ?_) (h2 := ?_) <;> intro hc <;> try (exfalso; omega)) | apply jK | refine Q5 rfl ?_ | apply jB
   refine Qcz (A := []) hO rfl rfl trivial rfl rfl oq (fun M' hO' => ?_)
   repeat' first | apply jO | apply jN | apply jT | refine Q1 ?_ | refine Q0 ?_ | refine X7 (j := 65536) (h := ?_) | refine Qe ?_ | apply jW
   refine Qa (q + 1, _, M', _) ⟨by dsimp only; omega, hO', ZK hz (Nat.mod_lt _ dq), ?_, ?_, fun j hj => ?_⟩ dgq cqq Qr
   ·dsimp only; omega
   ·dsimp only
    have e := YA (b := B16) (l := us) (j := i + q) (u := (us.getD (i + q) 0 + xs.getD i 0 * ys.getD q 0 + c) % B16) oq
    have := Q50 e rfl hval
    rw [Qu, Nat.mul_add, Nat.mul_add, ← Nat.add_assoc (_ * _), ← Nat.add_assoc i q 1, Nat.pow_succ]
    have e3 : B16 ^ i * (xs.getD i 0 * (B16 ^ q * ys.getD q 0)) = B16 ^ (i + q) * (xs.getD i 0 * ys.getD q 0) := by
     rw [Nat.pow_add]
     simp only [Nat.mul_left_comm, Nat.mul_assoc]
    rw [e3]
    exact this
   ·dsimp only at hj ⊢
    rw [getD_set_ne oq]
    exact hzero j oq
  ·obtain rfl : q = k := by omega
   repeat' first | apply jS | apply jO | apply jN | apply jT | refine Q1 ?_ | refine Zl (h := ?_) | refine QR (h := ?_) | refine QZ (h := ?_) | (refine Qi (h1 := ?_) (h2 := ?_) <;> intro hc <;> try (exfalso; omega)) | apply jU | apply jE | refine Q4 rfl ?_ | refine Qc ?_
   refine Qcz (A := []) hO rfl rfl trivial rfl rfl oq (fun M' hO' => ?_)
   repeat' first | apply jO | apply jN | apply jT | refine Q1 ?_ | refine Q0 ?_ | refine Qe ?_ | apply jW
   refine Qa (i + 1, M', _) ⟨by dsimp only; omega, hO', ZK hz hc1, ?_, fun j hj => ?_⟩ dgq cqq Qr
   ·dsimp only
    have e := YA (b := B16) (l := us) (j := i + q) (u := c) oq
    rw [hzero (i + q) (Nat.le_refl _), Nat.mul_zero, Nat.add_zero, hval] at e
    rw [e, Qu, Nat.add_mul, List.take_of_length_le (l := ys) (i := q) oq, Nat.mul_assoc]
   ·dsimp only at hj ⊢
    rw [getD_set_ne oq]
    exact hzero j oq
 ·repeat' first | apply jS | apply jO | apply jN | apply jT | refine Q1 ?_ | refine QR (h := ?_) | (refine Qi (h1 := ?_) (h2 := ?_) <;> intro hc <;> try (exfalso; omega)) | apply jU | apply jE | refine Q4 rfl ?_ | refine Qc ?_
  refine Qb trivial rfl rfl rfl (fun w hk hs => Q35 w _ _ _ _ (hO.rd.at hk hs Q9) oq) fun w v w' _ _ _ hR => ?_
  obtain ⟨q, hq, rfl, hnq⟩ := hR
  repeat' first | apply jN | apply jT | refine Q0 ?_ | apply jR
  have hown := hO.hd hq
  rw [← hnq] at hown
  have hql : (nrm zs).length = q := hown.len
  refine Qd rfl (fun a w' st => ⟨st.kp, N, nrm zs, st.newOf rfl Q9, by rw [hql]; exact hown, Dig.of hz, ?_, by rw [hql]; exact hq⟩)
  rw [Z5, hval, List.take_of_length_le oq]


set_option maxHeartbeats 8000000 in
theorem c_by (w : World) (v : Value) (n : Nat) (xs : List Nat) (d : Nat) (hv : WN w v n xs) (hx : ∀ x ∈ xs, x < B16) (hn : n ≤ 9000000000) (hd : d < B16) :
  Calls Tryz.prog 145 #[v, nv d] w (Ret fun v w' => Kp [] w w' ∧ ∃ N zs, New N w w' ∧ OwnN N v zs.length zs ∧ Dig B16 zs ∧ val B16 zs = val B16 xs * d ∧ zs.length ≤ n + 1) := by
 have hlx := hv.len
 refine Q8 [] [] spq [] Tryz.func145 rfl mixed (by kernel_rfl) Tryz.ntmps145 Tryz.results145 rfl ⟨by simp, by simp⟩ spq ?_
 simp only [toS, textOps, toSOp, kindAt, kindOf, odAt, sopsAt, ordOf, zipF]
 repeat' first | apply jS | apply jO | apply jN | refine Q1 ?_ | refine Q0 ?_ | refine Qw (h := fun _ => ?_) | apply jT
 rename_i b1
 have hL : OwnN [(b1, .cells ⟨[nv d]⟩ 3)] (.slice (some ⟨b1, 0, none⟩) 1 1) 1 [d] := Zw b1 1 [d] _ rfl rfl dq
 refine Qk (A := []) rfl trivial rfl rfl rfl (fun w hk hs => Qbh w _ _ _ _ xs [d] (hv.mono hk) (hL.rd.at hk hs Q9) hx (fun x hx => by rw [List.mem_singleton.1 hx]; exact hd) oq dq) fun w v w' _ _ _ hR => ?_
 obtain ⟨N1, zs1, hN1, hO1, hz1, hval1, hl1⟩ := hR
 refine ⟨N1, hN1, ?_⟩
 repeat' first | apply jN | apply jT | refine Q0 ?_ | apply jR
 exact Qd rfl (fun a w' st => ⟨st.kp, N1, zs1, st.newOf rfl Q9, hO1, hz1, by rw [hval1, val, val, Nat.mul_zero, Nat.add_zero], hl1⟩)

theorem Wp {l r : List Nat} (hl : Dig B16 l) (hr : Dig B16 r) (h : val B16 l ≤ val B16 r) : l.length ≤ r.length := by
 refine Decidable.byContradiction fun h2 => ?_
 have := Y8 (b := B16) dq hr hl oq
 omega
theorem Q47 {a b : Nat} : cmpV a b ≤ 0 ↔ a ≤ b := by
 unfold cmpV
 split
 ·simp_all; omega
 ·split <;> simp_all
theorem Q2u {R x r D y V low b : Nat} (h1 : R = x + b * r) (h2 : D = y * V + r) (h3 : y * low ≤ R) : x + b * D = y * (low + b * V) + (R - y * low) := by
 have e1 : b * D = b * (y * V) + b * r := by rw [h2, Nat.mul_add]
 have e2 : y * (low + b * V) = y * low + b * (y * V) := by rw [Nat.mul_add, Nat.mul_left_comm y b V]
 omega

def GivesO (X Y : Nat) (w : World) (r : Value) (w' : World) : Prop := ∃ N1 N2 v1 v2 qs rs, r = .tuple #[v1, v2] ∧ New (N1 ++ N2) w w' ∧ OwnN N1 v1 qs.length qs ∧ OwnN N2 v2 rs.length rs ∧ Dig B16 qs ∧ Dig B16 rs ∧ X = Y * val B16 qs + val B16 rs ∧ val B16 rs < Y

set_option maxHeartbeats 8000000 in
theorem Qbm (w : World) (v u : Value) (n k : Nat) (xs ys : List Nat) (hv : WN w v n xs) (hu : WN w u k ys) (hx : ∀ x ∈ xs, x < B16) (hy : Dig B16 ys) (h0 : 0 < val B16 ys) (hn : n ≤ 1000000000) (hk : k ≤ 1000000000) :
  Calls Tryz.prog 144 #[v, u] w (Ret fun r w' => Kp [] w w' ∧ GivesO (val B16 xs) (val B16 ys) w r w') := by
 have hlx := hv.len
 have hly := hu.len
 refine Q8 [] [] spq [] Tryz.func144 rfl mixed (by kernel_rfl) Tryz.ntmps144 Tryz.results144 rfl ⟨by simp, by simp⟩ spq ?_
 simp only [toS, textOps, toSOp, kindAt, kindOf, odAt, sopsAt, ordOf, zipF]
 repeat' first | apply jS | apply jO | apply jN | refine Q1 ?_ | refine Q0 ?_ | refine QR (h := ?_) | apply jT
 refine Yx (n := n) rfl rfl rfl rfl rfl oq oq (fun b5 => ?_)
 have hO := Q4v b5 n (by simp only [maxLen]; omega)
 repeat' first | apply jS | apply jO | apply jN | apply jT | refine Q1 ?_ | refine Q0 ?_ | refine QR (h := ?_) | refine Ym (h := ?_) | apply jB
 refine Qj (ι := Nat × Value × SHeap × List Nat × SHeap × List Nat) ⟨fun z => [(8, iv ((z.1 : Int) - 1)), (7, z.2.1), (6, .slice (some ⟨b5, 0, none⟩) n n), (0, v), (1, u)], fun z => z.2.2.1 ++ (z.2.2.2.2.1 ++ []),
  fun z => z.1 ≤ n ∧ OwnN z.2.2.1 z.2.1 z.2.2.2.1.length z.2.2.2.1 ∧ Dig B16 z.2.2.2.1 ∧ OwnN z.2.2.2.2.1 (.slice (some ⟨b5, 0, none⟩) n n) n z.2.2.2.2.2 ∧ (∀ x ∈ z.2.2.2.2.2, x < B16) ∧ val B16 z.2.2.2.1 < val B16 ys ∧ val B16 (xs.drop z.1) = val B16 ys * val B16 (z.2.2.2.2.2.drop z.1) + val B16 z.2.2.2.1, fun z => z.1⟩
  (n, .slice none 0 0, [], [], _, _) ⟨Nat.le_refl _, OwnN.nil, Dig.nil _, hO, fun x hx => by obtain ⟨a, _, rfl⟩ := List.mem_map.1 hx; decide, h0, by
   dsimp only
   rw [QO oq, QO spq, Nat.mul_zero]; rfl⟩ cqq Qr (fun z hz => ?_)
 clear hO
 obtain ⟨m, vr, Nr, rs, Nq, qs⟩ := z
 obtain ⟨hm, hOr, hzr, hOq, hzq, hlt, hval⟩ := hz
 dsimp only at hm hOr hzr hOq hzq hlt hval ⊢
 have hlq := hOq.len
 have hrl : rs.length ≤ k := by have := Wp hzr hy (Nat.le_of_lt hlt); omega
 rcases m with _ | i
 ·repeat' first | apply jS | apply jO | apply jN | apply jT | refine Q1 ?_ | (refine Zu (h1 := ?_) (h2 := ?_) <;> intro hc <;> try (exfalso; omega)) | apply jU | apply jE | refine Q4 rfl ?_ | refine Qc ?_
  refine Qb trivial rfl rfl rfl (fun w hk hs => Q35 w _ _ _ _ (hOq.rd.at hk hs Q9) oq) fun w v w' _ _ _ hR => ?_
  obtain ⟨q, hq, rfl, hnq⟩ := hR
  repeat' first | apply jN | apply jT | refine Q1 ?_ | refine Q0 ?_ | apply jR
  have hown := hOq.hd hq
  rw [← hnq] at hown
  have hql : (nrm qs).length = q := hown.len
  refine Zp rfl rfl (fun a w' st => ⟨st.kp, Nq, Nr, _, _, nrm qs, rs, rfl, st.newOf rfl ?_, by rw [hql]; exact hown, hOr, Dig.of hzq, hzr, ?_, hlt⟩)
  ·exact ⟨[], by simpa using List.perm_append_comm⟩
  ·rw [List.drop_zero, List.drop_zero] at hval
   rw [Z5, hval]
 ·have hiv : iv (((i + 1 : Nat) : Int) - 1) = nv i := by
   show iv _ = iv _
   congr 1
   omega
  rw [hiv]
  have hxi : xs.getD i 0 < 65536 := Qp (b := B16) dq hx i
  generalize hxe : xs.getD i 0 = x at hxi
  have hxv : val B16 (xs.drop i) = x + 65536 * val B16 (xs.drop (i + 1)) := by rw [QP (show i < xs.length by omega), hxe]
  repeat' first | apply jS | apply jO | apply jN | apply jT | refine Q1 ?_ | refine Zl (h := ?_) | refine YJ (h := ?_) | (refine Zu (h1 := ?_) (h2 := ?_) <;> intro hc <;> try (exfalso; omega)) | refine Qw (h := fun _ => ?_) | apply jK | refine Q5 rfl ?_ | apply jB
  rename_i b2
  rw [hxe]
  refine Z7 (A := []) (N := [(b2, _)]) (Zw b2 1 [x] _ rfl rfl dq) hOr.rd Q9 rfl trivial rfl rfl rfl rfl oq (fun v' N' hO' => ?_)
  obtain ⟨A', cap', rfl⟩ := hO'.form
  skip
  refine Qb trivial rfl rfl rfl (fun w hk hs => Q35 w _ _ _ _ (hO'.rd.at hk hs Q9) oq) fun w v w' _ _ _ hR => ?_
  obtain ⟨q, hq, rfl, hnq⟩ := hR
  have hR1 := hO'.hd hq
  rw [← hnq] at hR1
  have hz1 : Dig B16 (nrm ([x] ++ rs)) := Dig.of fun y hy2 => by
   rcases List.mem_append.1 hy2 with h | h
   ·rw [List.mem_singleton.1 h]; exact hxi
   ·exact hzr.lt y h
  have hv1 : val B16 (nrm ([x] ++ rs)) = x + 65536 * val B16 rs := by rw [Z5]; rfl
  have hq1 := hR1.len
  generalize nrm ([x] ++ rs) = r1 at hR1 hz1 hv1 hq1
  have hbig : val B16 r1 < val B16 ys * 65536 := by omega
  clear hnq
  repeat' first | apply jS | apply jO | apply jN | refine Q1 ?_ | refine Q0 ?_ | apply jT
  refine Qb trivial rfl rfl rfl (fun w hk hs => WC w _ _ _ _ r1 ys (hR1.rd.at hk hs Q9) (hu.mono hk) hz1 hy oq oq) fun w v w' _ _ _ hR => ?_
  subst hR
  by_cases hcmp : val B16 r1 < val B16 ys
  ·have hc0 := Y0.2 hcmp
   repeat' first | apply jS | apply jO | apply jN | apply jT | refine Q0 ?_ | (refine Qi (h1 := ?_) (h2 := ?_) <;> intro hc <;> try (exfalso; omega)) | refine Q5 rfl ?_ | apply jB
   refine Qj (ι := Nat × Nat) ⟨fun z => [(10, nv z.2), (9, nv z.1), (8, nv i), (7, .slice A' q cap'), (6, .slice (some ⟨b5, 0, none⟩) n n), (0, v), (1, u)], fun _ => N' ++ (Nq ++ []),
    fun z => z.1 < z.2 ∧ z.2 ≤ 65536 ∧ val B16 ys * z.1 ≤ val B16 r1 ∧ val B16 r1 < val B16 ys * z.2, fun z => z.2 - z.1⟩ (0, 1) ⟨by decide, by decide, by rw [Nat.mul_zero]; exact Nat.zero_le _, by rw [Nat.mul_one]; exact hcmp⟩ cqq Qv (fun z hz => ?_)
   obtain ⟨low, high⟩ := z
   obtain ⟨hlh, hhb, hlow, hhigh⟩ := hz
   dsimp only at hlh hhb hlow hhigh ⊢
   by_cases hgo : 1 < high - low
   ·repeat' first | apply jS | apply jO | apply jN | apply jT | refine Q1 ?_ | refine Q0 ?_ | refine X7 (j := 2) (h := ?_) | refine QZ (h := ?_) | refine XD (h := ?_) | (refine QM (h1 := ?_) (h2 := ?_) <;> intro hc <;> try (exfalso; omega)) | apply jK | refine Q5 rfl ?_ | apply jB
    have hmb : (low + high) / 2 < 65536 := by omega
    refine Qk (A := []) rfl trivial rfl rfl rfl (fun w hk hs => c_by w _ _ ys ((low + high) / 2) (hu.mono hk) hy.lt oq hmb) fun w v w' _ _ _ hR => ?_
    obtain ⟨N3, zs3, hN3, hO3, hz3, hval3, hl3⟩ := hR
    refine ⟨N3, hN3, ?_⟩
    repeat' first | refine Q1 ?_ | fail
    refine Qb trivial rfl rfl rfl (fun w hk hs => WC w _ _ _ _ zs3 r1 (hO3.rd.at hk hs Q9) (hR1.rd.at hk hs Q9) hz3 hz1 oq oq) fun w v w' _ _ _ hR => ?_
    subst hR
    by_cases hle : val B16 zs3 ≤ val B16 r1
    ·have hc9 := Q47.2 hle
     repeat' first | apply jO | apply jN | apply jT | refine Q1 ?_ | refine Q0 ?_ | (refine XR (h1 := ?_) (h2 := ?_) <;> intro hc <;> try (exfalso; omega)) | refine Q5 rfl ?_ | apply jW
     refine Qa ((low + high) / 2, high) ⟨by dsimp only; omega, hhb, by rw [← hval3]; exact hle, hhigh⟩ dgq cqq Qv
    ·have hc9 : ¬ cmpV (val B16 zs3) (val B16 r1) ≤ 0 := fun h => hle (Q47.1 h)
     repeat' first | apply jO | apply jN | apply jT | refine Q1 ?_ | refine Q0 ?_ | (refine XR (h1 := ?_) (h2 := ?_) <;> intro hc <;> try (exfalso; omega)) | refine Q4 rfl ?_ | apply jW
     refine Qa (low, (low + high) / 2) ⟨by dsimp only; omega, by dsimp only; omega, hlow, by dsimp only; rw [← hval3]; omega⟩ dgq cqq Qv
   ·repeat' first | apply jS | apply jO | apply jN | apply jT | refine Q1 ?_ | refine Zl (h := ?_) | refine XD (h := ?_) | (refine QM (h1 := ?_) (h2 := ?_) <;> intro hc <;> try (exfalso; omega)) | apply jU | apply jE | refine Q4 rfl ?_ | refine Qc ?_
    refine Qcz (A := N') hOq rfl rfl trivial rfl rfl oq (fun Nq' hOq' => ?_)
    repeat' first | apply jO | apply jN | refine Q1 ?_ | apply jT
    refine Qk (A := []) rfl trivial rfl rfl rfl (fun w hk hs => c_by w _ _ ys low (hu.mono hk) hy.lt oq (by show low < 65536; omega)) fun w v w' _ _ _ hR => ?_
    obtain ⟨N4, zs4, hN4, hO4, hz4, hval4, hl4⟩ := hR
    refine ⟨N4, hN4, ?_⟩
    skip
    have hle4 : val B16 zs4 ≤ val B16 r1 := by rw [hval4]; exact hlow
    have hll4 := Wp hz4 hz1 hle4
    refine Qk (A := []) rfl trivial rfl rfl rfl (fun w hk hs => Q27 w _ _ _ _ r1 zs4 (hR1.rd.at hk hs Q9) (hO4.rd.at hk hs Q9) hz1.lt hz4.lt oq oq hle4) fun w v w' _ _ _ hR => ?_
    obtain ⟨N5, zs5, hN5, hO5, hz5, hval5⟩ := hR
    refine ⟨N5, hN5, ?_⟩
    have hhl : high = low + 1 := by omega
    subst hhl
    rw [Nat.mul_add, Nat.mul_one] at hhigh
    repeat' first | apply jO | apply jN | apply jT | refine Q1 ?_ | refine Q0 ?_ | refine Ym (h := ?_) | apply jW
    refine Qa (i, _, N5, zs5, Nq', qs.set i low) ⟨by dsimp only; omega, hO5, hz5, hOq', ZK hzq (by show low < 65536; omega), by dsimp only; omega, ?_⟩ dgq cqq Qv
    dsimp only
    rw [hxv, QP (l := qs.set i low) (show i < (qs.set i low).length by simp; omega), Qx oq, Yz, hval5, hval4]
    exact Q2u hv1 hval hlow
  ·have hc0 : ¬ cmpV (val B16 r1) (val B16 ys) < 0 := fun h => hcmp (Y0.1 h)
   repeat' first | apply jS | apply jN | apply jT | (refine Qi (h1 := ?_) (h2 := ?_) <;> intro hc <;> try (exfalso; omega)) | apply jK | refine Q4 rfl ?_ | apply jB
   refine Qj (ι := Nat × Nat) ⟨fun z => [(10, nv z.2), (9, nv z.1), (8, nv i), (7, .slice A' q cap'), (6, .slice (some ⟨b5, 0, none⟩) n n), (0, v), (1, u)], fun _ => N' ++ (Nq ++ []),
    fun z => z.1 < z.2 ∧ z.2 ≤ 65536 ∧ val B16 ys * z.1 ≤ val B16 r1 ∧ val B16 r1 < val B16 ys * z.2, fun z => z.2 - z.1⟩ (0, 65536) ⟨by decide, by decide, by rw [Nat.mul_zero]; exact Nat.zero_le _, hbig⟩ cqq Qv (fun z hz => ?_)
   obtain ⟨low, high⟩ := z
   obtain ⟨hlh, hhb, hlow, hhigh⟩ := hz
   dsimp only at hlh hhb hlow hhigh ⊢
   by_cases hgo : 1 < high - low
   ·repeat' first | apply jS | apply jO | apply jN | apply jT | refine Q1 ?_ | refine Q0 ?_ | refine X7 (j := 2) (h := ?_) | refine QZ (h := ?_) | refine XD (h := ?_) | (refine QM (h1 := ?_) (h2 := ?_) <;> intro hc <;> try (exfalso; omega)) | apply jK | refine Q5 rfl ?_ | apply jB
    have hmb : (low + high) / 2 < 65536 := by omega
    refine Qk (A := []) rfl trivial rfl rfl rfl (fun w hk hs => c_by w _ _ ys ((low + high) / 2) (hu.mono hk) hy.lt oq hmb) fun w v w' _ _ _ hR => ?_
    obtain ⟨N3, zs3, hN3, hO3, hz3, hval3, hl3⟩ := hR
    refine ⟨N3, hN3, ?_⟩
    repeat' first | refine Q1 ?_ | fail
    refine Qb trivial rfl rfl rfl (fun w hk hs => WC w _ _ _ _ zs3 r1 (hO3.rd.at hk hs Q9) (hR1.rd.at hk hs Q9) hz3 hz1 oq oq) fun w v w' _ _ _ hR => ?_
    subst hR
    by_cases hle : val B16 zs3 ≤ val B16 r1
    ·have hc9 := Q47.2 hle
     repeat' first | apply jO | apply jN | apply jT | refine Q1 ?_ | refine Q0 ?_ | (refine XR (h1 := ?_) (h2 := ?_) <;> intro hc <;> try (exfalso; omega)) | refine Q5 rfl ?_ | apply jW
     refine Qa ((low + high) / 2, high) ⟨by dsimp only; omega, hhb, by rw [← hval3]; exact hle, hhigh⟩ dgq cqq Qv
    ·have hc9 : ¬ cmpV (val B16 zs3) (val B16 r1) ≤ 0 := fun h => hle (Q47.1 h)
     repeat' first | apply jO | apply jN | apply jT | refine Q1 ?_ | refine Q0 ?_ | (refine XR (h1 := ?_) (h2 := ?_) <;> intro hc <;> try (exfalso; omega)) | refine Q4 rfl ?_ | apply jW
     refine Qa (low, (low + high) / 2) ⟨by dsimp only; omega, by dsimp only; omega, hlow, by dsimp only; rw [← hval3]; omega⟩ dgq cqq Qv
   ·repeat' first | apply jS | apply jO | apply jN | apply jT | refine Q1 ?_ | refine Zl (h := ?_) | refine XD (h := ?_) | (refine QM (h1 := ?_) (h2 := ?_) <;> intro hc <;> try (exfalso; omega)) | apply jU | apply jE | refine Q4 rfl ?_ | refine Qc ?_
    refine Qcz (A := N') hOq rfl rfl trivial rfl rfl oq (fun Nq' hOq' => ?_)
    repeat' first | apply jO | apply jN | refine Q1 ?_ | apply jT
    refine Qk (A := []) rfl trivial rfl rfl rfl (fun w hk hs => c_by w _ _ ys low (hu.mono hk) hy.lt oq (by show low < 65536; omega)) fun w v w' _ _ _ hR => ?_
    obtain ⟨N4, zs4, hN4, hO4, hz4, hval4, hl4⟩ := hR
    refine ⟨N4, hN4, ?_⟩
    skip
    have hle4 : val B16 zs4 ≤ val B16 r1 := by rw [hval4]; exact hlow
    have hll4 := Wp hz4 hz1 hle4
    refine Qk (A := []) rfl trivial rfl rfl rfl (fun w hk hs => Q27 w _ _ _ _ r1 zs4 (hR1.rd.at hk hs Q9) (hO4.rd.at hk hs Q9) hz1.lt hz4.lt oq oq hle4) fun w v w' _ _ _ hR => ?_
    obtain ⟨N5, zs5, hN5, hO5, hz5, hval5⟩ := hR
    refine ⟨N5, hN5, ?_⟩
    have hhl : high = low + 1 := by omega
    subst hhl
    rw [Nat.mul_add, Nat.mul_one] at hhigh
    repeat' first | apply jO | apply jN | apply jT | refine Q1 ?_ | refine Q0 ?_ | refine Ym (h := ?_) | apply jW
    refine Qa (i, _, N5, zs5, Nq', qs.set i low) ⟨by dsimp only; omega, hO5, hz5, hOq', ZK hzq (by show low < 65536; omega), by dsimp only; omega, ?_⟩ dgq cqq Qv
    dsimp only
    rw [hxv, QP (l := qs.set i low) (show i < (qs.set i low).length by simp; omega), Qx oq, Yz, hval5, hval4]
    exact Q2u hv1 hval hlow


theorem WN.hd {w : World} {A : Option Addr} {n k cap : Nat} {xs : List Nat} (hv : WN w (.slice A n cap) n xs) (hk : k ≤ n) : WN w (.slice A k cap) k (xs.take k) := by
 have hl := hv.len
 obtain ⟨h1, A', cap', h2, h3, h4⟩ := hv
 simp only [Value.slice.injEq] at h2
 obtain ⟨rfl, _, rfl⟩ := h2
 refine ⟨by simp; omega, A, cap, rfl, by omega, fun h0 => ⟨(h4 oq).1, fun j u hu => ?_⟩⟩
 obtain ⟨⟨b, o, rfl⟩, h5⟩ := h4 oq
 refine h5 j u ?_
 rw [List.map_take, List.getElem?_take] at hu
 split at hu
 ·exact hu
 ·cases hu
theorem lead {p : Bool} {l : List UInt8} {V : Nat} (h1 : (bts l).getD 0 0 ≠ 0) (h2 : bval (bts l) = V) : wv p l = Wv (sgn p V) := by
 have hl : l.dropWhile (· == 0) = l := by
  cases l with
  | nil => rfl
  | cons a l =>
   have : (a == 0) = false := by
    simp only [beq_eq_false_iff_ne]
    intro e
    subst e
    exact h1 rfl
   rw [List.dropWhile, this]
 have hm := Q3r (l := l)
 rw [hl, h2] at hm
 rw [Qc6, ← hm]
 have hne : l ≠ [] := fun e => by subst e; exact h1 rfl
 rw [decide_eq_true hne, Bool.and_true]

theorem Q30 {l : List Nat} {x : Nat} (h : l.getD 0 0 ≠ 0) : (l ++ [x]).getD 0 0 ≠ 0 := by
 cases l with
 | nil => exact absurd rfl h
 | cons a l => exact h
theorem Qir {l : List Nat} {i : Nat} (h : nrm l = l) (hi : l.length = i + 1) : l.getD i 0 ≠ 0 := by
 intro h0
 have e : l = l.take i ++ [0] := by
  conv => lhs; rw [← List.take_append_drop i l, List.drop_eq_getElem_cons (show i < l.length by omega), List.drop_eq_nil_of_le oq]
  rw [List.getD, List.getElem?_eq_getElem (show i < l.length by omega)] at h0
  rw [show l[i]'oq = 0 from h0]
 have h2 := congrArg List.length h
 rw [e, Q1v] at h2
 have h3 : ∀ r : List Nat, (nrm r).length ≤ r.length := fun r => by
  induction r with
  | nil => exact Nat.le_refl _
  | cons x r ih =>
   rw [nrm]
   cases hn : nrm r with
   | nil => by_cases hx : x = 0 <;> simp [hx]
   | cons y s => rw [hn] at ih; simp at ih ⊢; exact ih
 have h4 := h3 (l.take i)
 simp at h2 h4
 omega

set_option maxHeartbeats 8000000 in
theorem ZT (w : World) (v : Value) (n : Nat) (xs : List Nat) (p : Bool) (hv : WN w v n xs) (hx : ∀ x ∈ xs, x < B16) (hn : n ≤ 1000000000) :
  Calls Tryz.prog 84 #[.bool p, v] w (Ret fun r w' => Kp [] w w' ∧ r = Wv (sgn p (val B16 xs))) := by
 obtain ⟨A, cap, rfl⟩ := hv.form
 refine Q8 [⟨11, 0, [], [(2, .seq)]⟩] [] spq [] Tryz.func84 rfl mixed (by kernel_rfl) Tryz.ntmps84 Tryz.results84 rfl ⟨by simp, by simp⟩ spq ?_
 simp only [toS, textOps, toSOp, kindAt, kindOf, odAt, sopsAt, ordOf, zipF]
 repeat' first | apply jS | apply jO | apply jN | refine Q1 ?_ | refine Qf fun _ => ?_ | apply jT
 rename_i b4
 refine Qb trivial rfl rfl rfl (fun w hk hs => Q35 w _ _ _ _ (hv.mono hk) oq) fun w v w' _ _ _ hR => ?_
 obtain ⟨k, hkn, rfl, hnk⟩ := hR
 have hvk := hv.hd hkn
 rw [← hnk] at hvk
 have hlk : (nrm xs).length = k := hvk.len
 have hval0 : val B16 xs = val B16 (nrm xs) := (Z5 _ _).symm
 have hxl : ∀ x ∈ nrm xs, x < B16 := fun x h => hx x (Q00 x h)
 have hnn := Qam xs
 rw [hval0]
 generalize nrm xs = zs at hvk hlk hxl hnn
 by_cases hk0 : k = 0
 ·repeat' first | apply jS | apply jO | apply jN | apply jT | refine Q1 ?_ | refine Q0 ?_ | refine Zx (h := ?_) | refine Q3 ?_ | (refine Z0 (h1 := ?_) (h2 := ?_) <;> intro hc <;> try (exfalso; omega)) | refine ZX (h := ?_) | refine Q3 ?_ | apply jV | apply jR | refine Q5 rfl ?_
  obtain rfl : zs = [] := List.eq_nil_of_length_eq_zero oq
  exact QG 0 rfl rfl rfl (fun a w' st => ⟨st.kp, by rw [show val B16 [] = 0 from rfl, Ye]; rfl⟩)
 ·repeat' first | apply jS | apply jO | apply jN | apply jT | refine Q1 ?_ | refine Q0 ?_ | refine Zx (h := ?_) | refine ZF (h := ?_) | (refine Z0 (h1 := ?_) (h2 := ?_) <;> intro hc <;> try (exfalso; omega)) | apply jK | refine Q4 rfl ?_ | apply jB
  have e0 : Value.int .i64 ((k - 1 : Nat) : Int) = iv ((k : Int) - 1) := by
   show iv _ = iv _
   congr 1
   omega
  rw [e0]
  refine Qj (ι := Nat × Value × SHeap × List Nat) ⟨fun z => [(6, iv ((z.1 : Int) - 1)), (5, z.2.1), (4, .pointer (some ⟨b4, 0, none⟩)), (1, .slice A k cap), (0, .bool p)], fun z => (b4, .cells #[.bool false, .string ⟨#[]⟩] 75) :: (z.2.2.1 ++ []),
   fun z => z.1 ≤ k ∧ OwnY z.2.2.1 z.2.1 z.2.2.2.length z.2.2.2 ∧ (∀ x ∈ z.2.2.2, x < 256) ∧ z.2.2.2.length ≤ 2 * (k - z.1) ∧ bval z.2.2.2 = val B16 (zs.drop z.1) ∧ (z.1 < k → z.2.2.2.getD 0 0 ≠ 0) ∧ (z.1 = k → z.2.2.2 = []), fun z => z.1⟩
   (k, _, [], []) ⟨Nat.le_refl _, OwnY.nil, fun _ h => absurd h List.not_mem_nil, by simp, by dsimp only; rw [QO oq]; rfl, fun h => absurd h (Nat.lt_irrefl _), fun _ => rfl⟩ cqq Qv (fun z hz => ?_)
  obtain ⟨m, vb, Nb, bs⟩ := z
  obtain ⟨hm, hO, hbs, hbl, hval, hhd, hnil⟩ := hz
  dsimp only at hm hO hbs hbl hval hhd hnil ⊢
  rcases m with _ | i
  ·repeat' first | apply jS | apply jO | apply jN | apply jT | refine Q1 ?_ | (refine Zu (h1 := ?_) (h2 := ?_) <;> intro hc <;> try (exfalso; omega)) | apply jU | apply jE | refine Q4 rfl ?_ | refine Qc ?_
   refine WP hbs hO.rd Q9 trivial rfl rfl rfl (fun l hl => ?_)
   repeat' first | apply jN | apply jT | refine Q3 ?_ | refine ZX (h := ?_) | refine Q3 ?_ | apply jR
   rw [List.drop_zero] at hval
   have hfin := lead (p := p) (l := l) (V := val B16 zs) (by rw [hl]; exact hhd oq) (by rw [hl]; exact hval)
   exact QG 0 rfl rfl rfl (fun a w' st => ⟨st.kp, hfin⟩)
  ·have hiv : iv (((i + 1 : Nat) : Int) - 1) = nv i := by
    show iv _ = iv _
    congr 1
    omega
   rw [hiv]
   have hxi : zs.getD i 0 < 65536 := Qp (b := B16) dq hxl i
   have hxv : val B16 (zs.drop i) = zs.getD i 0 + 65536 * val B16 (zs.drop (i + 1)) := QP (show i < zs.length by omega)
   by_cases h1 : i < k - 1
   ·repeat' first | apply jS | apply jO | apply jN | apply jT | refine Q1 ?_ | refine Zl (h := ?_) | refine YJ (h := ?_) | refine Zx (h := ?_) | refine X7 (j := 256) (h := ?_) | refine ZF (h := ?_) | refine Ql ?_ | refine Wj (h := ?_) | (refine Qi (h1 := ?_) (h2 := ?_) <;> intro hc <;> try (exfalso; omega)) | (refine Zu (h1 := ?_) (h2 := ?_) <;> intro hc <;> try (exfalso; omega)) | refine Qw (h := fun _ => ?_) | apply jK | refine Q5 rfl ?_ | refine Qy (h := ?_) | apply jB
    rename_i c2
    refine YK (A := [_, _]) hO (Yy c2 1 [zs.getD i 0 / 256 % 256] _ rfl rfl dq).rd Q9 rfl trivial rfl rfl rfl rfl oq (fun v1 N1 hO1 => ?_)
    repeat' first | apply jO | apply jN | refine Q1 ?_ | refine Q0 ?_ | refine Zl (h := ?_) | refine YJ (h := ?_) | refine Xe (j := 256) (h := ?_) | refine Wj (h := ?_) | refine Qw (h := fun _ => ?_) | apply jT
    rename_i c3
    refine YK (A := [_, _, _]) hO1 (Yy c3 1 [zs.getD i 0 % 256 % 256] _ rfl rfl dq).rd Q9 rfl trivial rfl rfl rfl rfl oq (fun v2 N2 hO2 => ?_)
    repeat' first | apply jO | apply jN | apply jT | refine Q1 ?_ | refine Q0 ?_ | refine Ym (h := ?_) | apply jW
    refine Qa (i, v2, N2, (bs ++ [zs.getD i 0 / 256 % 256]) ++ [zs.getD i 0 % 256 % 256]) ⟨by dsimp only; omega, by simp only [List.length_append, List.length_singleton]; exact hO2, Zi (Zi hbs (Nat.mod_lt _ dq)) (Nat.mod_lt _ dq), by simp only [List.length_append, List.length_singleton]; omega, ?_, fun _ => ?_, fun h => ?_⟩ dgq cqq Qv
    ·dsimp only
     rw [Zz, Zz, hval, hxv]
     omega
    ·exact Q30 (Q30 (hhd oq))
    ·dsimp only at h; omega
   ·have htop := Qir hnn (i := i) oq
    obtain rfl := hnil oq
    by_cases h2 : 256 ≤ zs.getD i 0
    ·repeat' first | apply jS | apply jO | apply jN | apply jT | refine Q1 ?_ | refine Zl (h := ?_) | refine YJ (h := ?_) | refine Zx (h := ?_) | refine X7 (j := 256) (h := ?_) | refine ZF (h := ?_) | refine Qn ?_ | refine Wj (h := ?_) | (refine Qi (h1 := ?_) (h2 := ?_) <;> intro hc <;> try (exfalso; omega)) | (refine Zu (h1 := ?_) (h2 := ?_) <;> intro hc <;> try (exfalso; omega)) | refine Qw (h := fun _ => ?_) | apply jK | refine Q5 rfl ?_ | apply jB
     rename_i c2
     refine YK (A := [_, _]) hO (Yy c2 1 [zs.getD i 0 / 256 % 256] _ rfl rfl dq).rd Q9 rfl trivial rfl rfl rfl rfl oq (fun v1 N1 hO1 => ?_)
     repeat' first | apply jO | apply jN | refine Q1 ?_ | refine Q0 ?_ | refine Zl (h := ?_) | refine YJ (h := ?_) | refine Xe (j := 256) (h := ?_) | refine Wj (h := ?_) | refine Qw (h := fun _ => ?_) | apply jT
     rename_i c3
     refine YK (A := [_, _, _]) hO1 (Yy c3 1 [zs.getD i 0 % 256 % 256] _ rfl rfl dq).rd Q9 rfl trivial rfl rfl rfl rfl oq (fun v2 N2 hO2 => ?_)
     repeat' first | apply jO | apply jN | apply jT | refine Q1 ?_ | refine Q0 ?_ | refine Ym (h := ?_) | apply jW
     refine Qa (i, v2, N2, ([] ++ [zs.getD i 0 / 256 % 256]) ++ [zs.getD i 0 % 256 % 256]) ⟨by dsimp only; omega, by simp only [List.length_append, List.length_singleton]; exact hO2, Zi (Zi hbs (Nat.mod_lt _ dq)) (Nat.mod_lt _ dq), by simp only [List.length_append, List.length_singleton]; omega, ?_, fun _ => ?_, fun h => ?_⟩ dgq cqq Qv
     ·dsimp only
      rw [Zz, Zz, hval, hxv]
      omega
     ·show zs.getD i 0 / 256 % 256 ≠ 0; omega
     ·dsimp only at h; omega
    ·repeat' first | apply jS | apply jO | apply jN | apply jT | refine Q1 ?_ | refine Zl (h := ?_) | refine YJ (h := ?_) | refine Zx (h := ?_) | refine Xe (j := 256) (h := ?_) | refine ZF (h := ?_) | refine Qn ?_ | refine Wj (h := ?_) | (refine Qi (h1 := ?_) (h2 := ?_) <;> intro hc <;> try (exfalso; omega)) | (refine Zu (h1 := ?_) (h2 := ?_) <;> intro hc <;> try (exfalso; omega)) | refine Qw (h := fun _ => ?_) | apply jK | refine Q5 rfl ?_ | refine Q4 rfl ?_ | apply jB
     rename_i c3
     refine YK (A := [_, _]) hO (Yy c3 1 [zs.getD i 0 % 256 % 256] _ rfl rfl dq).rd Q9 rfl trivial rfl rfl rfl rfl oq (fun v2 N2 hO2 => ?_)
     repeat' first | apply jO | apply jN | apply jT | refine Q1 ?_ | refine Q0 ?_ | refine Ym (h := ?_) | apply jW
     refine Qa (i, v2, N2, [] ++ [zs.getD i 0 % 256 % 256]) ⟨by dsimp only; omega, by simp only [List.length_append, List.length_singleton]; exact hO2, Zi hbs (Nat.mod_lt _ dq), by simp only [List.length_append, List.length_singleton]; omega, ?_, fun _ => ?_, fun h => ?_⟩ dgq cqq Qv
     ·dsimp only
      rw [Xx] at hval
      rw [Zz, Xx, hxv]
      omega
     ·show zs.getD i 0 % 256 % 256 ≠ 0; omega
     ·dsimp only at h; omega


theorem Zq {zs : List Nat} {l : List UInt8} {k : Nat} (hz : Dig B16 zs) (hv : val B16 zs = bval (bts l)) (hl : l.length ≤ k) : zs.length ≤ k := by
 refine hz.len_le dq ?_
 rw [hv]
 exact Nat.lt_of_lt_of_le (QF hl) (Nat.pow_le_pow_left dq k)

set_option maxHeartbeats 2000000 in
theorem Q7z (w : World) (v : Value) (a : Int) (k : Nat) (hv : IsZ v a k) (hk : k ≤ 100000000) :
  Calls Tryz.prog 62 #[v] w (Ret fun r w' => Kp [] w w' ∧ r = Wv (-a)) := by
 obtain ⟨p, l, rfl, hl1, rfl⟩ := hv
 refine Q8 [⟨1, 1, [], []⟩] [] spq [] Tryz.func62 rfl mixed (by kernel_rfl) Tryz.ntmps62 Tryz.results62 rfl ⟨by simp, by simp⟩ spq ?_
 simp only [toS, textOps, toSOp, kindAt, kindOf, odAt, sopsAt, ordOf, zipF]
 repeat' first | apply jS | apply jO | apply jD | apply jN | refine Q2 ?_ | refine Q7 ?_ | refine Qg ?_ | refine QT (h := ?_) | refine Qf fun _ => ?_ | refine QB (h := fun _ => ?_) | apply jT
 refine Qk (A := [_, _]) rfl trivial rfl rfl rfl (fun w hk hs => Y2 w p l oq) fun w v w' _ _ _ hR => ?_
 obtain ⟨N1, zs1, hN1, hO1, hz1, hval1⟩ := hR
 refine ⟨N1, hN1, ?_⟩
 have hzl1 := Zq hz1 hval1 hl1
 skip
 refine Qb trivial rfl rfl rfl (fun w hk hs => ZT w _ _ zs1 (!p) (hO1.rd.at hk hs Q9) hz1.lt oq) fun w v w' _ _ _ hR => ?_
 subst hR
 repeat' first | apply jN | apply jT | refine Q3 ?_ | refine Q3 ?_ | apply jR
 exact QG 0 rfl rfl rfl (fun a w' st => ⟨st.kp, by show Wv (sgn (!p) (val B16 zs1)) = _; rw [hval1, Q9r]⟩)

set_option maxHeartbeats 2000000 in
theorem Q6d (w : World) (v : Value) (a : Int) (k : Nat) (hv : IsZ v a k) (hk : k ≤ 100000000) :
  Calls Tryz.prog 89 #[v] w (Ret fun r w' => Kp [] w w' ∧ r = iv a.sign) := by
 obtain ⟨p, l, rfl, hl1, rfl⟩ := hv
 refine Q8 [] [] spq [] Tryz.func89 rfl mixed (by kernel_rfl) Tryz.ntmps89 Tryz.results89 rfl ⟨by simp, by simp⟩ spq ?_
 simp only [toS, textOps, toSOp, kindAt, kindOf, odAt, sopsAt, ordOf, zipF]
 repeat' first | apply jS | apply jO | apply jN | refine Q0 ?_ | refine Qg ?_ | refine QB (h := fun _ => ?_) | apply jT
 refine Qk (A := [_]) rfl trivial rfl rfl rfl (fun w hk hs => Y2 w p l oq) fun w v w' _ _ _ hR => ?_
 obtain ⟨N1, zs1, hN1, hO1, hz1, hval1⟩ := hR
 refine ⟨N1, hN1, ?_⟩
 have hzl1 := Zq hz1 hval1 hl1
 have he := hz1.eq_nil dq
 rw [hval1] at he
 by_cases h0 : zs1.length = 0
 ·have h1 := he.1 (List.eq_nil_of_length_eq_zero h0)
  rw [h1, Ye]
  repeat' first | apply jS | apply jO | apply jN | apply jT | refine Q0 ?_ | refine QR (h := ?_) | (refine Z0 (h1 := ?_) (h2 := ?_) <;> intro hc <;> try (exfalso; omega)) | apply jV | apply jR | refine Q5 rfl ?_
  exact Qd rfl (fun a w' st => ⟨st.kp, rfl⟩)
 ·have h1 : bval (bts l) ≠ 0 := fun h => h0 (by rw [he.2 h]; rfl)
  cases p with
  | false =>
   have h2 : (sgn false (bval (bts l))).sign = 1 := Int.sign_eq_one_of_pos (by simp [sgn]; omega)
   rw [h2]
   repeat' first | apply jS | apply jO | apply jN | apply jT | refine Q2 ?_ | refine Q0 ?_ | refine Q7 ?_ | refine QR (h := ?_) | (refine Z0 (h1 := ?_) (h2 := ?_) <;> intro hc <;> try (exfalso; omega)) | apply jK | apply jR | refine Q4 rfl ?_
   exact Qd rfl (fun a w' st => ⟨st.kp, rfl⟩)
  | true =>
   have h2 : (sgn true (bval (bts l))).sign = -1 := Int.sign_eq_neg_one_of_neg (by simp [sgn]; omega)
   rw [h2]
   repeat' first | apply jS | apply jO | apply jN | apply jT | refine Q2 ?_ | refine Q0 ?_ | refine Q7 ?_ | refine QR (h := ?_) | (refine Z0 (h1 := ?_) (h2 := ?_) <;> intro hc <;> try (exfalso; omega)) | apply jV | apply jK | apply jR | refine Q5 rfl ?_ | refine Q4 rfl ?_
   exact Qd rfl (fun a w' st => ⟨st.kp, rfl⟩)

set_option maxHeartbeats 4000000 in
theorem Q5k (w : World) (v u : Value) (a b : Int) (k : Nat) (hv : IsZ v a k) (hu : IsZ u b k) (hk : k ≤ 100000000) :
  Calls Tryz.prog 34 #[v, u] w (Ret fun r w' => Kp [] w w' ∧ r = Wv (a + b)) := by
 obtain ⟨p, l, rfl, hl1, rfl⟩ := hv
 obtain ⟨q, l', rfl, hl2, rfl⟩ := hu
 refine Q8 [⟨4, 2, [], []⟩, ⟨6, 2, [], []⟩, ⟨7, 2, [], []⟩] [] spq [] Tryz.func34 rfl mixed (by kernel_rfl) Tryz.ntmps34 Tryz.results34 rfl ⟨by simp, by simp⟩ spq ?_
 simp only [toS, textOps, toSOp, kindAt, kindOf, odAt, sopsAt, ordOf, zipF]
 repeat' first | apply jS | apply jO | apply jN | refine Qg ?_ | refine Qf fun _ => ?_ | refine QB (h := fun _ => ?_) | apply jT
 refine Qk (A := [_, _, _]) rfl trivial rfl rfl rfl (fun w hk hs => Y2 w p l oq) fun w v w' _ _ _ hR => ?_
 obtain ⟨N1, zs1, hN1, hO1, hz1, hval1⟩ := hR
 refine ⟨N1, hN1, ?_⟩
 have hzl1 := Zq hz1 hval1 hl1
 repeat' first | apply jS | apply jO | apply jN | refine Q0 ?_ | refine Qg ?_ | apply jT
 refine Qk (A := [_, _, _]) rfl trivial rfl rfl rfl (fun w hk hs => Y2 w q l' oq) fun w v w' _ _ _ hR => ?_
 obtain ⟨N2, zs2, hN2, hO2, hz2, hval2⟩ := hR
 refine ⟨N2, hN2, ?_⟩
 have hzl2 := Zq hz2 hval2 hl2
 by_cases hpq : p = q
 ·subst hpq
  repeat' first | apply jS | apply jO | apply jD | apply jN | apply jT | refine Q1 ?_ | refine Q2 ?_ | refine Q0 ?_ | refine Q7 ?_ | refine Q1r (h := ?_) | refine Q5 rfl ?_
  refine Qk (A := [_, _, _]) rfl trivial rfl rfl rfl (fun w hk hs => Qfe w _ _ _ _ _ _ (hO1.rd.at hk hs Q9) (hO2.rd.at hk hs Q9) hz1.lt hz2.lt oq oq) fun w v w' _ _ _ hR => ?_
  obtain ⟨N3, zs3, hN3, hO3, hz3, hval3, hzl3⟩ := hR
  refine ⟨N3, hN3, ?_⟩
  rw [hval1, hval2] at hval3
  skip
  refine Qb trivial rfl rfl rfl (fun w hk hs => ZT w _ _ zs3 p (hO3.rd.at hk hs Q9) hz3 oq) fun w v w' _ _ _ hR => ?_
  subst hR
  repeat' first | apply jN | apply jT | refine Q3 ?_ | refine Q3 ?_ | apply jV | apply jR
  exact QG 0 rfl rfl rfl (fun a w' st => ⟨st.kp, by show Wv (sgn p (val B16 zs3)) = _; rw [hval3, Q9u]⟩)
 have hpq' : (p == q) = false := by simpa using hpq
 repeat' first | apply jS | apply jO | apply jN | refine Q2 ?_ | refine Q0 ?_ | refine Q7 ?_ | refine Qgo (h := ?_) | apply jT
 rw [hpq']
 repeat' first | apply jS | apply jO | apply jT | refine Q1 ?_ | apply jK | refine Q4 rfl ?_
 refine Qb trivial rfl rfl rfl (fun w hk hs => WC w _ _ _ _ _ _ (hO1.rd.at hk hs Q9) (hO2.rd.at hk hs Q9) hz1 hz2 oq oq) fun w v w' _ _ _ hR => ?_
 subst hR
 by_cases hlt : val B16 zs1 < val B16 zs2
 ·have hneg := Y0.2 hlt
  have hlen : zs1.length ≤ zs2.length := by
   refine Decidable.byContradiction fun h => ?_
   have := Y8 (b := B16) dq hz2 hz1 oq
   omega
  repeat' first | apply jS | apply jD | apply jN | apply jT | refine Q1 ?_ | refine Q2 ?_ | refine Q7 ?_ | (refine Zu (h1 := ?_) (h2 := ?_) <;> intro hc <;> try (exfalso; omega)) | apply jK | refine Q4 rfl ?_
  refine Qk (A := [_, _, _]) rfl trivial rfl rfl rfl (fun w hk hs => Q27 w _ _ _ _ _ _ (hO2.rd.at hk hs Q9) (hO1.rd.at hk hs Q9) hz2.lt hz1.lt oq hlen (Nat.le_of_lt hlt)) fun w v w' _ _ _ hR => ?_
  obtain ⟨N3, zs3, hN3, hO3, hz3, hval3⟩ := hR
  refine ⟨N3, hN3, ?_⟩
  have hzl3 : zs3.length ≤ k := hz3.len_le dq (Nat.lt_of_le_of_lt (show val B16 zs3 ≤ val B16 zs2 by omega) (by rw [hval2]; exact Nat.lt_of_lt_of_le (QF hl2) (Nat.pow_le_pow_left dq k)))
  rw [hval1, hval2] at hval3
  rw [hval1, hval2] at hlt
  skip
  refine Qb trivial rfl rfl rfl (fun w hk hs => ZT w _ _ zs3 q (hO3.rd.at hk hs Q9) hz3.lt oq) fun w v w' _ _ _ hR => ?_
  subst hR
  repeat' first | apply jN | apply jT | refine Q3 ?_ | refine Q3 ?_ | apply jR
  exact QG 0 rfl rfl rfl (fun a w' st => ⟨st.kp, by show Wv (sgn q (val B16 zs3)) = _; rw [← Q6t hpq hlt, hval3]⟩)
 ·have hneg : ¬ cmpV (val B16 zs1) (val B16 zs2) < 0 := fun h => hlt (Y0.1 h)
  have hlen : zs2.length ≤ zs1.length := by
   refine Decidable.byContradiction fun h => hlt ?_
   exact Y8 (b := B16) dq hz1 hz2 oq
  repeat' first | apply jS | apply jD | apply jN | apply jT | refine Q1 ?_ | refine Q2 ?_ | refine Q7 ?_ | (refine Zu (h1 := ?_) (h2 := ?_) <;> intro hc <;> try (exfalso; omega)) | refine Q5 rfl ?_
  refine Qk (A := [_, _, _]) rfl trivial rfl rfl rfl (fun w hk hs => Q27 w _ _ _ _ _ _ (hO1.rd.at hk hs Q9) (hO2.rd.at hk hs Q9) hz1.lt hz2.lt oq hlen oq) fun w v w' _ _ _ hR => ?_
  obtain ⟨N3, zs3, hN3, hO3, hz3, hval3⟩ := hR
  refine ⟨N3, hN3, ?_⟩
  have hzl3 : zs3.length ≤ k := hz3.len_le dq (Nat.lt_of_le_of_lt (show val B16 zs3 ≤ val B16 zs1 by omega) (by rw [hval1]; exact Nat.lt_of_lt_of_le (QF hl1) (Nat.pow_le_pow_left dq k)))
  rw [hval1, hval2] at hval3
  rw [hval1, hval2] at hlt
  skip
  refine Qb trivial rfl rfl rfl (fun w hk hs => ZT w _ _ zs3 p (hO3.rd.at hk hs Q9) hz3.lt oq) fun w v w' _ _ _ hR => ?_
  subst hR
  repeat' first | apply jN | apply jT | refine Q3 ?_ | refine Q3 ?_ | apply jV | apply jR
  exact QG 0 rfl rfl rfl (fun a w' st => ⟨st.kp, by show Wv (sgn p (val B16 zs3)) = _; rw [← Q6s hpq hlt, hval3]⟩)

set_option maxHeartbeats 2000000 in
theorem Qk3 (w : World) (v u : Value) (a b : Int) (k : Nat) (hv : IsZ v a k) (hu : IsZ u b k) (hk : k ≤ 100000000) :
  Calls Tryz.prog 200 #[v, u] w (Ret fun r w' => Kp [] w w' ∧ r = Wv (a - b)) := by
 have hZ : IsZ (Wv (-b)) (-b) k := Qq (by rw [Int.natAbs_neg]; exact hu.lt)
 obtain ⟨p, l, rfl, hl1, rfl⟩ := hv
 obtain ⟨q, l', rfl, hl2, rfl⟩ := hu
 refine Q8 [⟨1, 1, [], []⟩] [] spq [] Tryz.func200 rfl mixed (by kernel_rfl) Tryz.ntmps200 Tryz.results200 rfl ⟨by simp, by simp⟩ spq ?_
 simp only [toS, textOps, toSOp, kindAt, kindOf, odAt, sopsAt, ordOf, zipF]
 repeat' first | apply jS | apply jO | apply jD | apply jN | refine Qg ?_ | refine Qf fun _ => ?_ | refine QB (h := fun _ => ?_) | apply jT
 refine Qb trivial rfl rfl rfl (fun w hk' hs => Q7z w _ _ k ⟨q, l', rfl, hl2, rfl⟩ hk) fun w v w' _ _ _ hR => ?_
 subst hR
 skip
 refine Qb trivial rfl rfl rfl (fun w hk' hs => Q5k w _ _ _ _ k ⟨p, l, rfl, hl1, rfl⟩ hZ hk) fun w v w' _ _ _ hR => ?_
 subst hR
 repeat' first | apply jN | apply jT | refine Q3 ?_ | refine Q3 ?_ | apply jR
 exact QG 0 rfl rfl rfl (fun a w' st => ⟨st.kp, by rw [Int.sub_eq_add_neg]; rfl⟩)

set_option maxHeartbeats 2000000 in
theorem Qk8 (w : World) (v u : Value) (a b : Int) (k : Nat) (hv : IsZ v a k) (hu : IsZ u b k) (hk : k ≤ 99999999) :
  Calls Tryz.prog 185 #[v, u] w (Ret fun r w' => Kp [] w w' ∧ r = iv (a - b).sign) := by
 have hZ : IsZ (Wv (a - b)) (a - b) (k + 1) := by
  rw [Int.sub_eq_add_neg]
  exact IsZ.add hv.lt (by rw [Int.natAbs_neg]; exact hu.lt)
 obtain ⟨p, l, rfl, hl1, rfl⟩ := hv
 obtain ⟨q, l', rfl, hl2, rfl⟩ := hu
 refine Q8 [] [] spq [] Tryz.func185 rfl mixed (by kernel_rfl) Tryz.ntmps185 Tryz.results185 rfl ⟨by simp, by simp⟩ spq ?_
 simp only [toS, textOps, toSOp, kindAt, kindOf, odAt, sopsAt, ordOf, zipF]
 repeat' first | apply jS | apply jO | apply jN | refine Q0 ?_ | refine Qg ?_ | refine QB (h := fun _ => ?_) | apply jT
 refine Qb trivial rfl rfl rfl (fun w hk' hs => Qk3 w _ _ _ _ k ⟨p, l, rfl, hl1, rfl⟩ ⟨q, l', rfl, hl2, rfl⟩ oq) fun w v w' _ _ _ hR => ?_
 subst hR
 skip
 refine Qb trivial rfl rfl rfl (fun w hk' hs => Q6d w _ _ (k + 1) hZ oq) fun w v w' _ _ _ hR => ?_
 subst hR
 repeat' first | apply jN | apply jT | refine Q0 ?_ | apply jR
 exact Qd rfl (fun a w' st => ⟨st.kp, rfl⟩)

set_option maxHeartbeats 2000000 in
theorem Qbx (w : World) (v u : Value) (a b : Int) (k : Nat) (hv : IsZ v a k) (hu : IsZ u b k) (hk : k ≤ 100000000) :
  Calls Tryz.prog 63 #[v, u] w (Ret fun r w' => Kp [] w w' ∧ r = Wv (a * b)) := by
 obtain ⟨p, l, rfl, hl1, rfl⟩ := hv
 obtain ⟨q, l', rfl, hl2, rfl⟩ := hu
 refine Q8 [⟨1, 1, [0, 1, 2, 3, 4, 5, 7, 6, 8, 9, 10, 11], []⟩] [] spq [] Tryz.func63 rfl mixed (by kernel_rfl) Tryz.ntmps63 Tryz.results63 rfl ⟨by simp, by simp⟩ spq ?_
 simp only [toS, textOps, toSOp, kindAt, kindOf, odAt, sopsAt, ordOf, zipF]
 repeat' first | apply jS | apply jO | apply jD | apply jN | refine Q2 ?_ | refine Q7 ?_ | refine Qg ?_ | refine XQ (h := ?_) | refine Qf fun _ => ?_ | refine QB (h := fun _ => ?_) | apply jT
 refine Qk (A := [_, _, _]) rfl trivial rfl rfl rfl (fun w hk hs => Y2 w p l oq) fun w v w' _ _ _ hR => ?_
 obtain ⟨N1, zs1, hN1, hO1, hz1, hval1⟩ := hR
 refine ⟨N1, hN1, ?_⟩
 have hzl1 := Zq hz1 hval1 hl1
 skip
 refine Qk (A := [_, _, _]) rfl trivial rfl rfl rfl (fun w hk hs => Y2 w q l' oq) fun w v w' _ _ _ hR => ?_
 obtain ⟨N2, zs2, hN2, hO2, hz2, hval2⟩ := hR
 refine ⟨N2, hN2, ?_⟩
 have hzl2 := Zq hz2 hval2 hl2
 skip
 refine Qk (A := [_, _, _]) rfl trivial rfl rfl rfl (fun w hk hs => Qbh w _ _ _ _ _ _ (hO1.rd.at hk hs Q9) (hO2.rd.at hk hs Q9) hz1.lt hz2.lt oq oq) fun w v w' _ _ _ hR => ?_
 obtain ⟨N3, zs3, hN3, hO3, hz3, hval3, hzl4⟩ := hR
 refine ⟨N3, hN3, ?_⟩
 rw [hval1, hval2] at hval3
 have hzl3 : zs3.length ≤ k + k := by
  refine hz3.len_le dq ?_
  rw [hval3, Nat.pow_add]
  have h1 := Nat.lt_of_lt_of_le (QF hl1) (Nat.pow_le_pow_left (show 256 ≤ B16 by decide) k)
  have h2 := Nat.lt_of_lt_of_le (QF hl2) (Nat.pow_le_pow_left (show 256 ≤ B16 by decide) k)
  exact Nat.mul_lt_mul_of_lt_of_le h1 (Nat.le_of_lt h2) (Nat.pow_pos dq)
 skip
 refine Qb trivial rfl rfl rfl (fun w hk hs => ZT w _ _ zs3 (p != q) (hO3.rd.at hk hs Q9) hz3.lt oq) fun w v w' _ _ _ hR => ?_
 subst hR
 repeat' first | apply jN | apply jT | refine Q3 ?_ | refine Q3 ?_ | apply jR
 exact QG 0 rfl rfl rfl (fun a w' st => ⟨st.kp, by show Wv (sgn (p != q) (val B16 zs3)) = _; rw [hval3, Q9t]⟩)

end Go.Proofs.YtbofgpenopcfaaaGreatDoor

