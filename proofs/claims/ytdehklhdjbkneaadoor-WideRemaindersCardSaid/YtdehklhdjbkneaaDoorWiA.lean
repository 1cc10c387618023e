/- Parse. -/
import Derived.Test.YtdehklhdjbkneaaDoorWidX
namespace Go.Proofs.YtdehklhdjbkneaaDoor
open Go Go.RowKit
set_option linter.unusedSimpArgs false
set_option linter.unusedVariables false
set_option linter.unusedSectionVars false

/-- Bytes of a block, read. -/
theorem RdY.blk {c : Cx} {b cap n : Nat} {xs : List Nat} {rest : List Value} {T : TypeId} {fz : Nat × Nat} (hl : xs.length = n) (hc : n ≤ cap) : RdY c [(b, .cells (rowCY xs rest) T fz)] (.slice (some ⟨b, 0, none⟩) n cap) n xs := by
  refine ⟨by simp [hl], _, cap, rfl, hc, fun h0 => ⟨⟨b, 0, rfl⟩, fun w hw j u hu => ?_⟩⟩
  rw [vAt_lit, Nat.zero_add]
  refine cell_of_blk (hw.2.blk (b, _) (List.mem_cons_self ..)) ?_
  have e : (rowCY xs rest)[j]? = (xs.map yv ++ rest)[j]? := by simp [rowCY]
  rw [e, List.getElem?_append_left (List.getElem?_eq_some_iff.1 hu).1]
  exact hu

section
variable {c : Cx} {Q : Exit → Act → World → Prop} {m : Mode} {F : SFrame} {H : SHeap} {r : List SOp} {g : Option (Option Tmp × Bool)} {ns : Bool} {d : Tmp} {ty t t' : TypeId} {x y : Operand} {l : List UInt8} {i : Nat}
/-- '[]byte(s)'. -/
theorem r_toBytes {e : TypeId} [TStr c.P t] [TSl c.P t' e] [TI c.P e .u8] (hm : m.mayCall ns r) (hd : dstOk c.n (some d) = true) (hg : guardF F g = some true) (hx : ev F x = some (sv l))
    (h : ∀ b cap rest fz, l.length ≤ cap → JO c Q m r ((d, .slice (some ⟨b, 0, none⟩) l.length cap) :: F) ((b, .cells (rowCY (bts l) rest) e fz) :: H)) : JO c Q m (⟨some d, .convert t t' x, ty, g, .seq, ns⟩ :: r) F H := by
  refine ⟨⟨hd, .inr ⟨hg, fun a w st hs => ?_⟩⟩⟩
  unfold Oper.wp SOp.oper
  have hrun := run_bytes_of_string (P := c.P) w t t' e ⟨l.toArray⟩ TStr.und TSl.und TI.und
  have hrow : bytesRow ⟨l.toArray⟩ (grownCap w (ByteArray.mk l.toArray).size 0 e) = rowCY (bts l) (List.replicate (grownCap w (ByteArray.mk l.toArray).size 0 e - (ByteArray.mk l.toArray).size) (.int .u8 0)) := by
    apply Array.ext'
    simp [bytesRow, rowCY, bts, Function.comp]
  rw [hrow] at hrun
  generalize hcap : grownCap w (ByteArray.mk l.toArray).size 0 e = cap at hrun
  generalize (rowCY (bts l) (List.replicate (cap - (ByteArray.mk l.toArray).size) (.int .u8 0))).size = z at hrun
  have hexec : (execOp a.eval ⟨some d, .convert t t' x, ty, "", #[], none⟩).run c.P w = .ok (.value (.slice (some ⟨w.heap.size, 0, none⟩) l.length cap)) (w.drew.alloc (.cells (rowCY (bts l) (List.replicate (cap - (ByteArray.mk l.toArray).size) (.int .u8 0))) e (z, z + 1))) := by
    simp only [execOp, st.fr.ev hx, Sem.run_bind, hrun, Result.andThen_ok, Sem.run_pure, size_sv]
  rw [hexec]
  have hnew : (w.drew.alloc (.cells (rowCY (bts l) (List.replicate (cap - (ByteArray.mk l.toArray).size) (.int .u8 0))) e (z, z + 1))).heap[w.heap.size]? = some (.cells (rowCY (bts l) (List.replicate (cap - (ByteArray.mk l.toArray).size) (.int .u8 0))) e (z, z + 1)) := World.alloc_heap_new w.drew _
  have hold : ∀ k, k < w.heap.size → (w.drew.alloc (.cells (rowCY (bts l) (List.replicate (cap - (ByteArray.mk l.toArray).size) (.int .u8 0))) e (z, z + 1))).heap[k]? = w.heap[k]? := fun k hk => Below.heap_alloc w.drew _ k hk
  obtain ⟨st', hstep, hkk⟩ := turn_step (N := []) (N' := [(w.heap.size, .cells (rowCY (bts l) (List.replicate (cap - (ByteArray.mk l.toArray).size) (.int .u8 0))) e (z, z + 1))]) (H0 := H) st (by simp) (by simp) (fun q hq => by cases List.mem_singleton.1 hq; exact hnew) (fun k hk => .inr (by simp [keys] at hk; omega)) (fun k hk _ => hold k hk) (by simp) rfl rfl rfl
  have hcl : l.length ≤ cap := by rw [← hcap, size_sv]; exact grownCap_ge _ _ _ _
  have hk2 : Kp [] w (w.drew.alloc (.cells (rowCY (bts l) (List.replicate (cap - (ByteArray.mk l.toArray).size) (.int .u8 0))) e (z, z + 1))) := ⟨rfl, rfl, rfl, by simp, fun k hk _ => hold k hk⟩
  refine ⟨hstep, (d, _) :: F, (w.heap.size, _) :: H, m, (st'.perm List.perm_append_comm).put _ hd, fun k hk' => hkk k ?_, Mode.after_call hk2 hs hm, (h _ cap _ _ hcl).h⟩
  simp only [keys, List.map_cons, List.map_append, List.mem_cons, List.mem_append, List.map_nil] at hk' ⊢
  rcases hk' with h1 | h1
  · exact .inr (.inl h1)
  · exact .inl h1
theorem r_sub48 (hd : dstOk c.n (some d) = true) (hg : guardF F g = some true) (hx : ev F x = some (yv i)) (hy : ev F y = some (.int .u8 48)) (hi : 48 ≤ i ∧ i < 256)
    (h : JO c Q m r ((d, yv (i - 48)) :: F) H) : JO c Q m (⟨some d, .binOp .sub t x y t', ty, g, .mov, ns⟩ :: r) F H :=
  r_arith hd hg hx hy (fun w => by
    rw [binOp_sub]
    simp only [Op.intArith, Sem.run_pure, IntKind.wrap_u8]
    rw [show ((i : Int) - 48) % 256 = ((i - 48 : Nat) : Int) by omega]) h
end

/-- Whether a text begins with a minus sign. -/
def minus : List UInt8 → Bool
  | x :: _ => x == 45
  | [] => false
/-- The text behind the sign. -/
def body : List UInt8 → List UInt8
  | x :: l => if x == 45 then l else x :: l
  | [] => []
theorem body_len (l : List UInt8) : (body l).length ≤ l.length := by
  cases l with
  | nil => exact Nat.le_refl _
  | cons x l =>
    show (if (x == 45) = true then l else x :: l).length ≤ _
    split <;> simp

set_option maxHeartbeats 2000000 in
theorem c_HasPrefix (w : World) (l : List UInt8) (hl : l.length ≤ 1000000) :
    Calls Tryd.prog 76 #[sv l, sv [45]] w (Ret fun v w' => Kp [] w w' ∧ v = .bool (minus l)) := by
  have h1 : ((([45] : List UInt8).length : Nat) : Int) = 1 := rfl
  rcases l with _ | ⟨x, l⟩
  · have h0 : ((([] : List UInt8).length : Nat) : Int) = 0 := rfl
    refine calls_of_S [] [] (by simp) [] Tryd.func76 rfl mixed (by kernel_rfl) Tryd.ntmps76 Tryd.results76 rfl ⟨by simp, by simp⟩ (by simp) ?_
    simp only [toS, textOps, toSOp, kindAt, kindOf, odAt, sopsAt, ordOf, zipF]
    (repeat' (first | refine JC.seq ?_ | refine JC.ops ?_ | refine JO.nil ?_ | refine JX.thenN ?_ | (apply r_move; exact rfl; exact rfl; exact rfl) | (apply r_assign; exact rfl; exact rfl; exact rfl) | (apply r_pickF; exact rfl; exact rfl; exact rfl; exact rfl) | (apply r_lenS; exact rfl; exact rfl; exact rfl) | (apply r_geq; exact rfl; exact rfl; exact rfl; exact rfl; all_goals intro hc; all_goals try (exfalso; omega)) | refine JC.ret ?_ | (apply r_skip; exact rfl; exact rfl; (first | (intro h; cases h; done) | (intro _; rfl)))))
    exact JX.ret1 rfl (fun a w' st => ⟨st.kp, rfl⟩)
  · have h2 : (((x :: l).length : Nat) : Int) = l.length + 1 := by simp
    refine calls_of_S [] [] (by simp) [] Tryd.func76 rfl mixed (by kernel_rfl) Tryd.ntmps76 Tryd.results76 rfl ⟨by simp, by simp⟩ (by simp) ?_
    simp only [toS, textOps, toSOp, kindAt, kindOf, odAt, sopsAt, ordOf, zipF]
    (repeat' (first | refine JC.seq ?_ | refine JC.ops ?_ | refine JO.nil ?_ | refine JX.thenN ?_ | (apply r_move; exact rfl; exact rfl; exact rfl) | (apply r_assign; exact rfl; exact rfl; exact rfl) | (apply r_lenS; exact rfl; exact rfl; exact rfl) | (apply r_geq; exact rfl; exact rfl; exact rfl; exact rfl; all_goals intro hc; all_goals try (exfalso; omega))))
    refine r_toS (j := 1) rfl rfl rfl rfl (by simp) ?_
    (repeat' (first | refine JO.nil ?_ | refine JX.thenN ?_ | (apply r_move; exact rfl; exact rfl; exact rfl) | (apply r_assign; exact rfl; exact rfl; exact rfl) | (apply r_pickT; exact rfl; exact rfl; exact rfl; exact rfl) | (apply r_eqS; exact rfl; exact rfl; exact rfl; exact rfl) | refine JC.ret ?_))
    refine JX.ret1 rfl (fun a w' st => ⟨st.kp, ?_⟩)
    show Value.bool (decide ((x :: l).take 1 = [45])) = .bool (x == 45)
    congr 1
    simp [List.take]
    rfl

set_option maxHeartbeats 2000000 in
theorem c_CutPrefix0 (w : World) (l : List UInt8) (hl : l.length ≤ 1000000) :
    Calls Tryd.prog 69 #[sv l, sv [45]] w (Ret fun v w' => Kp [] w w' ∧ v = .tuple #[sv (body l), .bool (minus l)]) := by
  by_cases hm : minus l = true
  · refine calls_of_S [] [] (by simp) [] Tryd.func69 rfl mixed (by kernel_rfl) Tryd.ntmps69 Tryd.results69 rfl ⟨by simp, by simp⟩ (by simp) ?_
    simp only [toS, textOps, toSOp, kindAt, kindOf, odAt, sopsAt, ordOf, zipF]
    (repeat' (first | refine JC.seq ?_ | refine JC.ops ?_ | refine JO.nil ?_ | refine JX.thenN ?_ | (apply r_move; exact rfl; exact rfl; exact rfl) | (apply r_assign; exact rfl; exact rfl; exact rfl)))
    refine r_call0 trivial rfl rfl rfl (fun w hk hs => c_HasPrefix w l hl) fun w v w' _ _ _ hR => ?_
    rw [hm] at hR
    subst hR
    rcases l with _ | ⟨x, l⟩
    · cases hm
    (repeat' (first | refine JC.seq ?_ | refine JC.ops ?_ | refine JO.nil ?_ | refine JX.thenN ?_ | (apply r_move; exact rfl; exact rfl; exact rfl) | (apply r_assign; exact rfl; exact rfl; exact rfl) | (apply r_not; exact rfl; exact rfl; exact rfl) | (apply r_lenS; exact rfl; exact rfl; exact rfl) | (apply r_fromS1; exact rfl; exact rfl; exact rfl; exact rfl) | refine JC.skip ?_ | refine JC.ret ?_ | refine JC.condF rfl ?_))
    refine JX.ret2 rfl rfl (fun a w' st => ⟨st.kp, ?_⟩)
    rw [hm]
    have : (x == 45) = true := hm
    show _ = Value.tuple #[sv (if (x == 45) = true then l else x :: l), .bool true]
    rw [if_pos this]
  · have hm : minus l = false := by simpa using hm
    refine calls_of_S [] [] (by simp) [] Tryd.func69 rfl mixed (by kernel_rfl) Tryd.ntmps69 Tryd.results69 rfl ⟨by simp, by simp⟩ (by simp) ?_
    simp only [toS, textOps, toSOp, kindAt, kindOf, odAt, sopsAt, ordOf, zipF]
    (repeat' (first | refine JC.seq ?_ | refine JC.ops ?_ | refine JO.nil ?_ | refine JX.thenN ?_ | (apply r_move; exact rfl; exact rfl; exact rfl) | (apply r_assign; exact rfl; exact rfl; exact rfl)))
    refine r_call0 trivial rfl rfl rfl (fun w hk hs => c_HasPrefix w l hl) fun w v w' _ _ _ hR => ?_
    rw [hm] at hR
    subst hR
    (repeat' (first | refine JC.seq ?_ | refine JC.ops ?_ | refine JO.nil ?_ | refine JX.thenN ?_ | (apply r_move; exact rfl; exact rfl; exact rfl) | (apply r_assign; exact rfl; exact rfl; exact rfl) | (apply r_not; exact rfl; exact rfl; exact rfl) | refine JX.thenR ?_ | refine JC.ret ?_ | refine JC.condT rfl ?_))
    refine JX.ret2 rfl rfl (fun a w' st => ⟨st.kp, ?_⟩)
    rw [hm]
    rcases l with _ | ⟨x, l⟩
    · rfl
    · have : ¬ ((x == 45) = true) := by simpa [minus] using hm
      show _ = Value.tuple #[sv (if (x == 45) = true then l else x :: l), .bool false]
      rw [if_neg this]

set_option maxHeartbeats 2000000 in
theorem c_CutPrefix (w : World) (l : List UInt8) (hl : l.length ≤ 1000000) :
    Calls Tryd.prog 56 #[sv l, sv [45]] w (Ret fun v w' => Kp [] w w' ∧ v = .tuple #[sv (body l), .bool (minus l)]) := by
  refine calls_of_S [] [] (by simp) [] Tryd.func56 rfl mixed (by kernel_rfl) Tryd.ntmps56 Tryd.results56 rfl ⟨by simp, by simp⟩ (by simp) ?_
  simp only [toS, textOps, toSOp, kindAt, kindOf, odAt, sopsAt, ordOf, zipF]
  (repeat' (first | refine JC.seq ?_ | refine JC.ops ?_ | refine JO.nil ?_ | refine JX.thenN ?_ | (apply r_move; exact rfl; exact rfl; exact rfl) | (apply r_assign; exact rfl; exact rfl; exact rfl)))
  refine r_call0 trivial rfl rfl rfl (fun w hk hs => c_CutPrefix0 w l hl) fun w v w' _ _ _ hR => ?_
  subst hR
  (repeat' (first | refine JO.nil ?_ | refine JX.thenN ?_ | (apply r_assign; exact rfl; exact rfl; exact rfl) | (apply r_extract; exact rfl; exact rfl; exact rfl; exact rfl) | refine JC.ret ?_))
  exact JX.ret2 rfl rfl (fun a w' st => ⟨st.kp, rfl⟩)

/-- The number that a text of digits says. -/
def pnum (l : List UInt8) : Nat := l.foldl (fun v c => 10 * v + (c.toNat - 48)) 0
def digit (c : UInt8) : Bool := Nat.ble 48 c.toNat && Nat.ble c.toNat 57
theorem pnum_snoc (l : List UInt8) (c : UInt8) : pnum (l ++ [c]) = 10 * pnum l + (c.toNat - 48) := by
  unfold pnum
  rw [List.foldl_append]
  rfl
theorem take_snoc {l : List UInt8} {i : Nat} (h : i < l.length) : l.take (i + 1) = l.take i ++ [l[i]] := by
  rw [List.take_add_one, List.getElem?_eq_getElem h]
  rfl
theorem bts_at {l : List UInt8} {i : Nat} (h : i < l.length) : (bts l).getD i 0 = (l[i]).toNat := by simp [bts, List.getD, h]
theorem pnum_take {l : List UInt8} {i : Nat} (h : i < l.length) : pnum (l.take (i + 1)) = 10 * pnum (l.take i) + ((bts l).getD i 0 - 48) := by
  rw [take_snoc h, pnum_snoc, bts_at h]
theorem digit_iff (c : UInt8) : digit c = true ↔ 48 ≤ c.toNat ∧ c.toNat ≤ 57 := by simp [digit]
theorem pnum_lt_take {l : List UInt8} : ∀ i, i ≤ l.length → (∀ c ∈ l.take i, digit c = true) → pnum (l.take i) < 10 ^ i
  | 0, _, _ => by simp [pnum]
  | i + 1, h, hd => by
    have h0 : i < l.length := h
    rw [take_snoc h0] at hd ⊢
    have h1 := pnum_lt_take (l := l) i (by omega) fun c hc => hd c (List.mem_append.2 (.inl hc))
    have h2 := (digit_iff _).1 (hd (l[i]) (List.mem_append.2 (.inr (List.mem_singleton.2 rfl))))
    rw [pnum_snoc, Nat.pow_succ]
    omega
/-- What Parse returns. -/
def PRes (l : List UInt8) : Value := if (body l).all digit then .tuple #[Wv (sgn (minus l) (pnum (body l))), .bool (decide (body l ≠ []))] else .tuple #[Wv 0, .bool false]


set_option maxHeartbeats 8000000 in
theorem c_Parse (w : World) (l : List UInt8) (hl : l.length ≤ 1000) :
    Calls Tryd.prog 23 #[sv l] w (Ret fun v w' => Kp [] w w' ∧ v = PRes l) := by
  have hbl := body_len l
  refine calls_of_S [⟨3, 0, [], [(1, .seq)]⟩] [] (by simp) [] Tryd.func23 rfl mixed (by kernel_rfl) Tryd.ntmps23 Tryd.results23 rfl ⟨by simp, by simp⟩ (by simp) ?_
  simp only [toS, textOps, toSOp, kindAt, kindOf, odAt, sopsAt, ordOf, zipF]
  (repeat' (first | refine JC.seq ?_ | refine JC.ops ?_ | refine JO.nil ?_ | refine JX.thenN ?_ | (apply r_move; exact rfl; exact rfl; exact rfl) | (apply r_assign; exact rfl; exact rfl; exact rfl) | (apply r_allocZ; exact rfl; exact rfl; exact rfl; intro _)))
  rename_i b2
  refine r_call0 trivial rfl rfl rfl (fun w hk hs => c_CutPrefix w l (by omega)) fun w v w' _ _ _ hR => ?_
  subst hR
  unfold PRes
  generalize minus l = neg
  generalize body l = t at hbl
  (repeat' (first | refine JC.seq ?_ | refine JC.ops ?_ | refine JO.nil ?_ | refine JX.thenN ?_ | (apply r_move; exact rfl; exact rfl; exact rfl) | (apply r_assign; exact rfl; exact rfl; exact rfl) | (apply r_extract; exact rfl; exact rfl; exact rfl; exact rfl)))
  refine r_toBytes trivial rfl rfl rfl (fun bc cap rest fz hcap => ?_)
  have hbt := bts_len t
  have hRd : ∀ c, RdY c [(bc, .cells (rowCY (bts t) rest) 5 fz)] (.slice (some ⟨bc, 0, none⟩) t.length cap) t.length (bts t) := fun c => RdY.blk (by simp [hbt]) hcap
  (repeat' (first | refine JO.nil ?_ | refine JX.thenN ?_ | (apply r_move; exact rfl; exact rfl; exact rfl) | (apply r_len; exact rfl; exact rfl; exact rfl) | refine JC.block ?_))
  refine JC.loopH (ι := Nat × Value × SHeap × List Nat) ⟨fun z => [(17, nv z.1), (16, nv t.length), (15, .slice (some ⟨bc, 0, none⟩) t.length cap), (6, z.2.1), (5, .bool neg), (4, sv t), (2, .pointer (some ⟨b2, 0, none⟩))],
    fun z => (bc, .cells (rowCY (bts t) rest) 5 fz) :: (b2, .cells #[.bool false, .string ⟨#[]⟩] 27 (0, 0)) :: (z.2.2.1 ++ []),
    fun z => z.1 ≤ t.length ∧ OwnU z.2.2.1 z.2.1 z.2.2.2.length z.2.2.2 ∧ Dig W32 z.2.2.2 ∧ val W32 z.2.2.2 = pnum (t.take z.1) ∧ ∀ c ∈ t.take z.1, digit c = true, fun z => t.length - z.1⟩
    (0, _, [], []) ⟨Nat.zero_le _, OwnU.nil, Dig.nil _, rfl, by simp⟩ (by repeat first | exact trivial | refine ⟨rfl, ?_⟩) (by (repeat' first | exact HSub.refl _ | exact HSub.nil _ | refine HSub.at 0 rfl ?_ | refine HSub.at 1 rfl ?_ | refine HSub.at 2 rfl ?_ | refine HSub.at 3 rfl ?_ | refine HSub.at 4 rfl ?_ | refine HSub.at 5 rfl ?_ | refine HSub.at 6 rfl ?_ | refine HSub.at 7 rfl ?_ | refine HSub.at 8 rfl ?_ | refine HSub.at 9 rfl ?_ | refine HSub.at 10 rfl ?_ | refine HSub.at 11 rfl ?_ | refine HSub.at 12 rfl ?_ | refine HSub.at 13 rfl ?_ | refine HSub.at 14 rfl ?_ | refine HSub.at 15 rfl ?_ | refine HSub.at 16 rfl ?_ | refine HSub.at 17 rfl ?_ | refine HSub.at 18 rfl ?_ | refine HSub.at 19 rfl ?_ | refine HSub.segH ?_ | refine HSub.skip ?_ | refine HSub.skipN ?_)) (fun z hz => ?_)
  obtain ⟨i, vx, N, zs⟩ := z
  obtain ⟨hi, hO, hz, hval, hdig⟩ := hz
  dsimp only at hi hO hz hval hdig ⊢
  have hlt := pnum_lt_take i hi hdig
  have hzl : zs.length ≤ i := hz.len_le (by decide) (by
    rw [hval]
    exact Nat.lt_of_lt_of_le hlt (Nat.pow_le_pow_left (by decide) i))
  obtain ⟨Ax, cx, rfl⟩ := hO.form
  by_cases hin : i < t.length
  · have hb256 : (bts t).getD i 0 < 256 := bts_lt
    have hR1 := hRd
    have hti := bts_at hin
    by_cases hd : 48 ≤ (bts t).getD i 0 ∧ (bts t).getD i 0 ≤ 57
    · have hdi : digit t[i] = true := (digit_iff _).2 (by rw [← hti]; exact hd)
      have hd0 := hd.1
      have hd9 := hd.2
      (repeat' (first | refine JC.seq ?_ | refine JC.ops ?_ | refine JO.nil ?_ | refine JX.thenN ?_ | (apply r_lss; exact rfl; exact rfl; exact rfl; exact rfl; all_goals intro hc; all_goals try (exfalso; omega)) | refine JC.skip ?_ | refine JC.condT rfl ?_ | refine JC.block ?_))
      refine r_idxY rfl rfl rfl rfl (hRd _) hin ?_
      refine r_ldY rfl rfl rfl rfl (hRd _) (by (repeat' first | exact HSub.nil _ | exact HSub.hd | exact HSub.in0 | exact HSub.refl _ | refine HSub.skip ?_ | refine HSub.skipN ?_)) hin ?_
      (repeat' (first | refine JC.seq ?_ | refine JC.ops ?_ | refine JO.nil ?_ | refine JX.thenN ?_ | (apply r_move; exact rfl; exact rfl; exact rfl) | (apply r_assign; exact rfl; exact rfl; exact rfl) | (apply r_pickF; exact rfl; exact rfl; exact rfl; exact rfl) | (apply r_lss; exact rfl; exact rfl; exact rfl; exact rfl; all_goals intro hc; all_goals try (exfalso; omega)) | (apply r_gtr; exact rfl; exact rfl; exact rfl; exact rfl; all_goals intro hc; all_goals try (exfalso; omega)) | (apply r_build1; exact rfl; exact rfl; exact rfl; exact rfl; exact rfl; (repeat first | exact trivial | refine ⟨rfl, ?_⟩); decide; decide; intro _) | refine JC.skip ?_ | refine JC.condF rfl ?_))
      rename_i b10
      have hO10 : OwnU [(b10, .cells ⟨[.int .u64 10]⟩ 68)] (.slice (some ⟨b10, 0, none⟩) 1 1) 1 [10] := own_litU b10 1 [10] _ rfl rfl (by omega)
      refine r_callA (A := [_, _, _]) rfl trivial rfl rfl rfl (fun w hk hs => c_mulW w _ _ _ _ _ _ (hO.rd.at hk hs (by (repeat' first | exact HSub.nil _ | exact HSub.hd | exact HSub.in0 | exact HSub.refl _ | refine HSub.skip ?_ | refine HSub.skipN ?_))) (hO10.rd.at hk hs (by (repeat' first | exact HSub.nil _ | exact HSub.hd | exact HSub.in0 | exact HSub.refl _ | refine HSub.skip ?_ | refine HSub.skipN ?_))) hz.lt (fun x hx => by rw [List.mem_singleton] at hx; rw [hx]; decide) (by omega) (by omega)) fun w v w' _ _ _ hR => ?_
      obtain ⟨N1, zs1, hN1, hO1, hz1, hval1⟩ := hR
      refine ⟨N1, hN1, ?_⟩
      rw [val_one, hval] at hval1
      have hzl1 : zs1.length ≤ i + 1 := hz1.len_le (by decide) (by
        rw [hval1]
        refine Nat.lt_of_lt_of_le ?_ (Nat.pow_le_pow_left (show 10 ≤ W32 by decide) (i + 1))
        rw [Nat.pow_succ]
        omega)
      (repeat' (first | (apply r_move; exact rfl; exact rfl; exact rfl)))
      refine r_sub48 rfl rfl rfl rfl (by omega) ?_
      have hb64 : (bts t).getD i 0 - 48 < 18446744073709551616 := by omega
      (repeat' (first | (apply r_toU64; exact rfl; exact rfl; exact rfl; (first | assumption | omega)) | (apply r_build1; exact rfl; exact rfl; exact rfl; exact rfl; exact rfl; (repeat first | exact trivial | refine ⟨rfl, ?_⟩); decide; decide; intro _)))
      rename_i b11
      have hO11 : OwnU [(b11, .cells ⟨[uv ((bts t).getD i 0 - 48)]⟩ 68)] (.slice (some ⟨b11, 0, none⟩) 1 1) 1 [(bts t).getD i 0 - 48] := own_litU b11 1 [(bts t).getD i 0 - 48] _ rfl rfl (by omega)
      refine r_call0 trivial rfl rfl rfl (fun w hk hs => c_norm w _ _ _ _ (hO11.rd.at hk hs (by (repeat' first | exact HSub.nil _ | exact HSub.hd | exact HSub.in0 | exact HSub.refl _ | refine HSub.skip ?_ | refine HSub.skipN ?_))) (by omega)) fun w v w' _ _ _ hR => ?_
      obtain ⟨k3, hk3, rfl, hn3⟩ := hR
      have hO3' := hO11.hd hk3
      rw [← hn3] at hO3'
      skip
      refine r_callA (A := [_, _, _, _]) rfl trivial rfl rfl rfl (fun w hk hs => c_add w _ _ _ _ _ _ (hO1.rd.at hk hs (by (repeat' first | exact HSub.nil _ | exact HSub.hd | exact HSub.in0 | exact HSub.refl _ | refine HSub.skip ?_ | refine HSub.skipN ?_))) (hO3'.rd.at hk hs (by (repeat' first | exact HSub.nil _ | exact HSub.hd | exact HSub.in0 | exact HSub.refl _ | refine HSub.skip ?_ | refine HSub.skipN ?_))) hz1.lt (fun x hx => by
        have := nrm_mem x hx
        rw [List.mem_singleton] at this
        rw [this]
        show _ < 4294967296
        omega) (by omega) (by omega)) fun w v w' _ _ _ hR => ?_
      obtain ⟨N2, zs2, hN2, hO2, hz2, hval2⟩ := hR
      refine ⟨N2, hN2, ?_⟩
      rw [val_nrm_one, hval1] at hval2
      (repeat' (first | refine JC.ops ?_ | refine JO.nil ?_ | refine JX.thenN ?_ | (apply r_move; exact rfl; exact rfl; exact rfl) | (apply r_assign; exact rfl; exact rfl; exact rfl) | (apply r_add1; exact rfl; exact rfl; exact rfl; exact rfl; omega) | refine JX.blockN ?_))
      refine JX.roundH (i + 1, _, N2, zs2) ⟨by dsimp only; omega, hO2, hz2, ?_, ?_⟩ (by dsimp only; omega) (by repeat first | exact trivial | refine ⟨rfl, ?_⟩) (by (repeat' first | exact HSub.refl _ | exact HSub.nil _ | refine HSub.at 0 rfl ?_ | refine HSub.at 1 rfl ?_ | refine HSub.at 2 rfl ?_ | refine HSub.at 3 rfl ?_ | refine HSub.at 4 rfl ?_ | refine HSub.at 5 rfl ?_ | refine HSub.at 6 rfl ?_ | refine HSub.at 7 rfl ?_ | refine HSub.at 8 rfl ?_ | refine HSub.at 9 rfl ?_ | refine HSub.at 10 rfl ?_ | refine HSub.at 11 rfl ?_ | refine HSub.at 12 rfl ?_ | refine HSub.at 13 rfl ?_ | refine HSub.at 14 rfl ?_ | refine HSub.at 15 rfl ?_ | refine HSub.at 16 rfl ?_ | refine HSub.at 17 rfl ?_ | refine HSub.at 18 rfl ?_ | refine HSub.at 19 rfl ?_ | refine HSub.segH ?_ | refine HSub.skip ?_ | refine HSub.skipN ?_))
      · dsimp only
        rw [hval2, pnum_take hin, Nat.mul_comm]
      · dsimp only
        rw [take_snoc hin]
        intro c hc
        rcases List.mem_append.1 hc with h | h
        · exact hdig c h
        · rw [List.mem_singleton] at h; rw [h]; exact hdi
    · have hnall : ¬ (t.all digit = true) := fun h => hd (by
        rw [hti]
        exact (digit_iff _).1 (List.all_eq_true.1 h _ (List.getElem_mem hin)))
      rw [if_neg hnall]
      by_cases hd1 : (bts t).getD i 0 < 48
      · (repeat' (first | refine JC.seq ?_ | refine JC.ops ?_ | refine JO.nil ?_ | refine JX.thenN ?_ | (apply r_lss; exact rfl; exact rfl; exact rfl; exact rfl; all_goals intro hc; all_goals try (exfalso; omega)) | refine JC.skip ?_ | refine JC.condT rfl ?_ | refine JC.block ?_))
        refine r_idxY rfl rfl rfl rfl (hRd _) hin ?_
        refine r_ldY rfl rfl rfl rfl (hRd _) (by (repeat' first | exact HSub.nil _ | exact HSub.hd | exact HSub.in0 | exact HSub.refl _ | refine HSub.skip ?_ | refine HSub.skipN ?_)) hin ?_
        (repeat' (first | refine JC.seq ?_ | refine JC.ops ?_ | refine JO.nil ?_ | refine JX.thenN ?_ | (apply r_move; exact rfl; exact rfl; exact rfl) | (apply r_assign; exact rfl; exact rfl; exact rfl) | (apply r_pickT; exact rfl; exact rfl; exact rfl; exact rfl) | (apply r_storeN; exact rfl; (first | exact trivial | exact ⟨rfl, rfl⟩); exact rfl; exact rfl; (first | exact at0 | exact at1 | exact at2 | exact at3 | exact at4 | exact at5 | exact at6 | exact at7 | exact at8 | exact at9); exact rfl; exact rfl; exact rfl) | (apply r_lss; exact rfl; exact rfl; exact rfl; exact rfl; all_goals intro hc; all_goals try (exfalso; omega)) | (apply r_buildL; exact rfl; exact rfl; exact rfl; exact rfl; exact rfl) | (apply r_storeN; exact rfl; (first | exact trivial | exact ⟨rfl, rfl⟩); exact rfl; exact rfl; (first | exact at0 | exact at1 | exact at2 | exact at3 | exact at4 | exact at5 | exact at6 | exact at7 | exact at8 | exact at9); exact rfl; exact rfl; exact rfl) | refine JX.thenR ?_ | refine JC.ret ?_ | refine JC.condT rfl ?_ | refine JX.blockR ?_ | (apply r_skip; exact rfl; exact rfl; (first | (intro h; cases h; done) | (intro _; rfl)))))
        exact JX.retCT 1 rfl rfl rfl rfl (fun a w' st => ⟨st.kp, rfl⟩)
      · have hd2 : 57 < (bts t).getD i 0 := by omega
        (repeat' (first | refine JC.seq ?_ | refine JC.ops ?_ | refine JO.nil ?_ | refine JX.thenN ?_ | (apply r_lss; exact rfl; exact rfl; exact rfl; exact rfl; all_goals intro hc; all_goals try (exfalso; omega)) | refine JC.skip ?_ | refine JC.condT rfl ?_ | refine JC.block ?_))
        refine r_idxY rfl rfl rfl rfl (hRd _) hin ?_
        refine r_ldY rfl rfl rfl rfl (hRd _) (by (repeat' first | exact HSub.nil _ | exact HSub.hd | exact HSub.in0 | exact HSub.refl _ | refine HSub.skip ?_ | refine HSub.skipN ?_)) hin ?_
        (repeat' (first | refine JC.seq ?_ | refine JC.ops ?_ | refine JO.nil ?_ | refine JX.thenN ?_ | (apply r_move; exact rfl; exact rfl; exact rfl) | (apply r_assign; exact rfl; exact rfl; exact rfl) | (apply r_pickF; exact rfl; exact rfl; exact rfl; exact rfl) | (apply r_storeN; exact rfl; (first | exact trivial | exact ⟨rfl, rfl⟩); exact rfl; exact rfl; (first | exact at0 | exact at1 | exact at2 | exact at3 | exact at4 | exact at5 | exact at6 | exact at7 | exact at8 | exact at9); exact rfl; exact rfl; exact rfl) | (apply r_lss; exact rfl; exact rfl; exact rfl; exact rfl; all_goals intro hc; all_goals try (exfalso; omega)) | (apply r_gtr; exact rfl; exact rfl; exact rfl; exact rfl; all_goals intro hc; all_goals try (exfalso; omega)) | (apply r_buildL; exact rfl; exact rfl; exact rfl; exact rfl; exact rfl) | (apply r_storeN; exact rfl; (first | exact trivial | exact ⟨rfl, rfl⟩); exact rfl; exact rfl; (first | exact at0 | exact at1 | exact at2 | exact at3 | exact at4 | exact at5 | exact at6 | exact at7 | exact at8 | exact at9); exact rfl; exact rfl; exact rfl) | refine JX.thenR ?_ | refine JC.ret ?_ | refine JC.condT rfl ?_ | refine JX.blockR ?_))
        exact JX.retCT 1 rfl rfl rfl rfl (fun a w' st => ⟨st.kp, rfl⟩)
  · obtain rfl : i = t.length := by omega
    rw [List.take_length] at hval hdig
    rw [if_pos (List.all_eq_true.2 hdig)]
    (repeat' (first | refine JC.seq ?_ | refine JC.ops ?_ | refine JO.nil ?_ | refine JX.thenN ?_ | (apply r_move; exact rfl; exact rfl; exact rfl) | (apply r_lss; exact rfl; exact rfl; exact rfl; exact rfl; all_goals intro hc; all_goals try (exfalso; omega)) | refine JX.thenE ?_ | refine JC.exit ?_ | refine JC.condF rfl ?_ | refine JX.blockE ?_))
    refine r_call0 trivial rfl rfl rfl (fun w hk hs => c_wide w _ _ zs neg (hO.rd.at hk hs (by (repeat' first | exact HSub.nil _ | exact HSub.hd | exact HSub.in0 | exact HSub.refl _ | refine HSub.skip ?_ | refine HSub.skipN ?_))) hz.lt (by omega)) fun w v w' _ _ _ hR => ?_
    rw [hval] at hR
    subst hR
    (repeat' (first | refine JO.nil ?_ | refine JX.thenN ?_ | (apply r_move; exact rfl; exact rfl; exact rfl) | (apply r_assign; exact rfl; exact rfl; exact rfl) | (apply r_storeN; exact rfl; (first | exact trivial | exact ⟨rfl, rfl⟩); exact rfl; exact rfl; (first | exact at0 | exact at1 | exact at2 | exact at3 | exact at4 | exact at5 | exact at6 | exact at7 | exact at8 | exact at9); exact rfl; exact rfl; exact rfl) | (apply r_neS; exact rfl; exact rfl; exact rfl; exact rfl) | (apply r_storeN; exact rfl; (first | exact trivial | exact ⟨rfl, rfl⟩); exact rfl; exact rfl; (first | exact at0 | exact at1 | exact at2 | exact at3 | exact at4 | exact at5 | exact at6 | exact at7 | exact at8 | exact at9); exact rfl; exact rfl; exact rfl) | refine JC.ret ?_))
    exact JX.retCT 1 rfl rfl rfl rfl (fun a w' st => ⟨st.kp, rfl⟩)

end Go.Proofs.YtdehklhdjbkneaaDoor
