/- The rules of the judgement, continued: labels, loads in order, calls that turn owned blocks while loads may come behind, rows in blocks that are named. -/
import Derived.Test.YtdehklhdjbkneaaDoorExI
namespace Go.Proofs.YtdehklhdjbkneaaDoor
open Go Go.RowKit
set_option linter.unusedSimpArgs false
set_option linter.unusedVariables false
set_option linter.unusedSectionVars false

theorem JC.label {c : Cx} {Q : Exit → Act → World → Prop} {F : SFrame} {H : SHeap} {l : Nat} (h : JX c Q .normal F H) : JC c Q (.raw (.label l)) F H := ⟨fun a w st => wp_label (h.h a w st)⟩

theorem JX.end0 {c : Cx} {R : Value → World → Prop} {F : SFrame} {H : SHeap} (hR : ∀ a w, St c F H a w → R (.tuple #[]) w) : JX c (endPost c.P #[] (Ret R)) .normal F H :=
  JX.end' [] trivial hR

theorem HSub.segH {N r B : SHeap} (h : HSub r B) : HSub (N ++ r) (N ++ B) := by
  obtain ⟨l, hl⟩ := h
  exact ⟨l, by rw [List.append_assoc]; exact hl.append_left N⟩

/-- These blocks are in w. -/
def InW (N : SHeap) (w : World) : Prop := ∀ p ∈ N, w.heap[p.1]? = some p.2

section
variable {c : Cx} {Q : Exit → Act → World → Prop} {m : Mode} {F : SFrame} {H : SHeap} {r : List SOp} {g : Option (Option Tmp × Bool)} {ns : Bool} {d : Tmp} {ty t t' : TypeId} {x y : Operand}

theorem r_seqR {op : Op} {v : Value} {dd : Option Tmp} (hm : m.mayCall ns r) (hd : dstOk c.n dd = true) (hg : guardF F g = some true) (hr : ∀ a w, FrOK c.n F a → Src c H w → (execOp a.eval ⟨dd, op, ty, "", #[], none⟩).run c.P w = .ok (.value v) w)
    (h : JO c Q m r (putF F dd v) H) : JO c Q m (⟨dd, op, ty, g, .seq, ns⟩ :: r) F H := by
  refine ⟨⟨hd, .inr ⟨hg, fun a w st hs => ?_⟩⟩⟩
  unfold Oper.wp SOp.oper
  rw [hr a w st.fr ⟨st.kp, st.hs⟩]
  exact ⟨⟨Nat.le_refl _, fun _ _ _ _ => rfl⟩, _, H, m, st.put v hd, fun _ h => .inl h, Mode.after_call (Kp.refl _ _) hs hm, h.h⟩

/-- A load of one cell of an owned block, in order. -/
theorem r_ldSeq {b o : Nat} (k : Nat) {cs : Array Value} {T : TypeId} {fz : Nat × Nat} {v : Value} [T1 c.P t] (hm : m.mayCall ns r) (hd : dstOk c.n (some d) = true) (hg : guardF F g = some true) (hx : ev F x = some (.pointer (some ⟨b, o, none⟩)))
    (hb : H[k]? = some (b, .cells cs T fz)) (hv : cs[o]? = some v) (h : JO c Q m r ((d, v) :: F) H) : JO c Q m (⟨some d, .load t x, ty, g, .seq, ns⟩ :: r) F H :=
  r_seqR hm hd hg (fun a w fr hs => by simp only [execOp, fr.ev hx, Sem.run_bind, run_load1 (src_cell hs hb hv), Result.andThen_ok, Sem.run_pure]) h

/-- A call that turns the blocks N; loads may come behind it: they do not read N. -/
theorem r_callOL {A N B Hs : SHeap} {f : FuncId} {args : Array Operand} {ats : Array TypeId} {vs : List Value} {R : World → Value → World → Prop} {dd : Option Tmp} [TF c.P f] (hH : H = A ++ (N ++ B)) (hHs : HSub Hs (A ++ B)) (hd : dstOk c.n dd = true) (hg : guardF F g = some true) (ha : evArgs F args.toList = some vs)
    (hc : ∀ w, Kp c.M c.w0 w → Hsat H w → Calls c.P f vs.toArray w (Ret fun v w' => Kp (keys N) w w' ∧ R w v w'))
    (h : ∀ w v w', Kp c.M c.w0 w → Hsat H w → Kp (keys N) w w' → R w v w' → ∃ N', keys N' = keys N ∧ InW N' w' ∧ JO c Q (.draw Hs true) r (putF F dd v) (A ++ (N' ++ B))) :
    JO c Q (.draw Hs true) (⟨dd, .call ⟨.value (.func f), args, ats⟩, ty, g, .seq, ns⟩ :: r) F H := by
  subst hH
  refine ⟨⟨hd, .inr ⟨hg, fun a w st hs => ?_⟩⟩⟩
  unfold Oper.wp SOp.oper
  rw [evArgs_run st.fr ha]
  refine Calls.mono (hc w st.kp st.hs) fun e w' he => ?_
  cases e with
  | panicked ch => exact he.elim
  | outgrown => exact he.elim
  | returned v =>
    obtain ⟨hk, hR⟩ := he
    obtain ⟨N', hkeys, hb, hj⟩ := h w v w' st.kp st.hs hk hR
    have hp : (A ++ (N ++ B)).Perm ((A ++ B) ++ N) := (perm_mid A N B).symm
    have hnd := (st.perm hp).hs.nd
    have hnd0 := hnd
    rw [List.map_append, List.nodup_append] at hnd
    obtain ⟨st', hstep, hkk⟩ := turn_step (N' := N') st hp (by have := hnd.2.1; unfold keys at hkeys; rw [hkeys]; exact this) hb (fun k hk' => .inl (hkeys ▸ hk')) (fun k h1 h2 => hk.block k h1 h2) hk.size hk.os hk.tape hk.output
    have hAB : Hsat (A ++ B) w' := by
      have h0 : Hsat (A ++ B) w := (HSub.sub (List.sublist_append_left (A ++ B) N)).hsat (st.perm hp).hs
      exact h0.kp hk fun p hp' hpk => hnd.2.2 p.1 (List.mem_map.2 ⟨p, hp', rfl⟩) p.1 hpk rfl
    refine ⟨hstep, _, _, .draw Hs true, (st'.perm (perm_mid A N' B)).put v hd, fun k hk' => hkk k ?_, ⟨rfl, fun _ => ⟨rfl, hHs.hsat hAB⟩, fun _ => rfl, .inl rfl⟩, hj.h⟩
    obtain ⟨q, hq, rfl⟩ := List.mem_map.1 hk'
    exact List.mem_map.2 ⟨q, (perm_mid A N' B).mem_iff.2 hq, rfl⟩

/-- The same for a function value that is known. -/
theorem r_callVO {A N B : SHeap} {f : FuncId} {args : Array Operand} {ats : Array TypeId} {vs : List Value} {first cap : Array Value} {R : World → Value → World → Prop} {dd : Option Tmp} [TF c.P f] (hH : H = A ++ (N ++ B)) (hm : m.mayStore ns r) (hd : dstOk c.n dd = true) (hg : guardF F g = some true)
    (hx : ev F x = some (.func (.func f) first cap)) (ha : evArgs F args.toList = some vs)
    (hc : ∀ w, Kp c.M c.w0 w → Hsat H w → Calls c.P f (first ++ vs.toArray ++ cap) w (Ret fun v w' => Kp (keys N) w w' ∧ R w v w'))
    (h : ∀ w v w', Kp c.M c.w0 w → Hsat H w → Kp (keys N) w w' → R w v w' → ∃ N', keys N' = keys N ∧ InW N' w' ∧ JO c Q m.spent r (putF F dd v) (A ++ (N' ++ B))) :
    JO c Q m (⟨dd, .call ⟨.value x, args, ats⟩, ty, g, .seq, ns⟩ :: r) F H := by
  subst hH
  refine ⟨⟨hd, .inr ⟨hg, fun a w st hs => ?_⟩⟩⟩
  have hrun : (execOp a.eval ⟨dd, .call ⟨.value x, args, ats⟩, ty, "", #[], none⟩).run c.P w = .ok (.enter f (first ++ vs.toArray ++ cap)) w := by
    show (do let d ← resolve a.eval ⟨.value x, args, ats⟩ ty; invoke d.target d.args).run c.P w = _
    have h1 : args.map a.eval = vs.toArray := by
      have := evArgs_map st.fr ha
      apply Array.ext'
      rw [Array.toList_map, this]
    have h0 : (resolve a.eval ⟨.value x, args, ats⟩ ty).run c.P w = .ok { target := .fn (.func f) cap, args := first ++ vs.toArray } w := by
      simp [resolve, h1, st.fr.ev hx, Deferred.ofValue]
    rw [Sem.run_bind, h0]
    simp only [Result.andThen_ok, invoke, TF.run]
  unfold Oper.wp SOp.oper
  rw [hrun]
  refine Calls.mono (hc w st.kp st.hs) fun e w' he => ?_
  cases e with
  | panicked ch => exact he.elim
  | outgrown => exact he.elim
  | returned v =>
    obtain ⟨hk, hR⟩ := he
    obtain ⟨N', hkeys, hb, hj⟩ := h w v w' st.kp st.hs hk hR
    have hp : (A ++ (N ++ B)).Perm ((A ++ B) ++ N) := (perm_mid A N B).symm
    have hnd := (st.perm hp).hs.nd
    rw [List.map_append, List.nodup_append] at hnd
    obtain ⟨st', hstep, hkk⟩ := turn_step (N' := N') st hp (by have := hnd.2.1; unfold keys at hkeys; rw [hkeys]; exact this) hb (fun k hk' => .inl (hkeys ▸ hk')) (fun k h1 h2 => hk.block k h1 h2) hk.size hk.os hk.tape hk.output
    refine ⟨hstep, _, _, m.spent, (st'.perm (perm_mid A N' B)).put v hd, fun k hk' => hkk k ?_, Mode.after_spent hm, hj.h⟩
    obtain ⟨q, hq, rfl⟩ := List.mem_map.1 hk'
    exact List.mem_map.2 ⟨q, (perm_mid A N' B).mem_iff.2 hq, rfl⟩

/-! ### Rows in blocks that are named -/

/-- The cells of a block: these numbers, then others. -/
def rowC (xs : List Nat) (rest : List Value) : Array Value := ⟨xs.map nv ++ rest⟩

theorem rowC_get {xs : List Nat} {rest : List Value} {o : Nat} (ho : o < xs.length) : (rowC xs rest)[o]? = some (nv (xs.getD o 0)) := by
  have h1 : (rowC xs rest)[o]? = (xs.map nv ++ rest)[o]? := by simp [rowC]
  rw [h1, List.getElem?_append_left (by simpa using ho), List.getElem?_map, gD_lt (d := 0) ho]
  rfl
theorem rowC_set {xs : List Nat} {rest : List Value} {o u : Nat} (ho : o < xs.length) : (rowC xs rest).setIfInBounds o (nv u) = rowC (xs.set o u) rest := by
  apply Array.ext'
  simp [rowC, List.set_append, ho, List.map_set]
theorem rowC_size (xs : List Nat) (rest : List Value) : (rowC xs rest).size = xs.length + rest.length := by simp [rowC]

theorem r_ldB {b o : Nat} (k : Nat) {xs : List Nat} {rest : List Value} {T : TypeId} {fz : Nat × Nat} [T1 c.P t] (hd : dstOk c.n (some d) = true) (hg : guardF F g = some true) (hx : ev F x = some (.pointer (some ⟨b, o, none⟩))) (hl : m.live = true)
    (hb : (m.src H)[k]? = some (b, .cells (rowC xs rest) T fz)) (ho : o < xs.length) (h : JO c Q m r ((d, nv (xs.getD o 0)) :: F) H) : JO c Q m (⟨some d, .load t x, ty, g, .ld, ns⟩ :: r) F H :=
  r_load k hd hg hx hl hb (rowC_get ho) h
theorem r_ldBSeq {b o : Nat} (k : Nat) {xs : List Nat} {rest : List Value} {T : TypeId} {fz : Nat × Nat} [T1 c.P t] (hm : m.mayCall ns r) (hd : dstOk c.n (some d) = true) (hg : guardF F g = some true) (hx : ev F x = some (.pointer (some ⟨b, o, none⟩)))
    (hb : H[k]? = some (b, .cells (rowC xs rest) T fz)) (ho : o < xs.length) (h : JO c Q m r ((d, nv (xs.getD o 0)) :: F) H) : JO c Q m (⟨some d, .load t x, ty, g, .seq, ns⟩ :: r) F H :=
  r_ldSeq k hm hd hg hx hb (rowC_get ho) h
theorem r_stB {b o u : Nat} (k : Nat) {xs : List Nat} {rest : List Value} {T : TypeId} [T1 c.P t] (hg : guardF F g = some true) (hm : m.mayStore ns r) (hx : ev F x = some (.pointer (some ⟨b, o, none⟩))) (hy : ev F y = some (nv u))
    (hb : H[k]? = some (b, .cells (rowC xs rest) T (0, 0))) (ho : o < xs.length) (h : JO c Q m.spent r F (H.set k (b, .cells (rowC (xs.set o u) rest) T (0, 0)))) :
    JO c Q m (⟨none, .store t x y, ty, g, .seq, ns⟩ :: r) F H :=
  r_store k hg hm hx hy hb rfl rfl (by rw [rowC_size]; omega) (by rw [rowC_set ho]; exact h)
theorem r_idxB {e : TypeId} {b o len cap j : Nat} {k : IntKind} [TSl c.P t e] [TSz c.P e 1] (hd : dstOk c.n (some d) = true) (hg : guardF F g = some true) (hx : ev F x = some (.slice (some ⟨b, o, none⟩) len cap)) (hy : ev F y = some (.int k j)) (hj : j < len)
    (h : JO c Q m r ((d, .pointer (some ⟨b, o + j, none⟩)) :: F) H) : JO c Q m (⟨some d, .indexAddr t x y, ty, g, .mov, ns⟩ :: r) F H :=
  r_index1 hd hg hx (fun _ => rfl) hy hj h
theorem r_sliceB {e : TypeId} {b o len cap l h' : Nat} {lo hi : Operand} [TSl c.P t e] [TSz c.P e 1] (hd : dstOk c.n (some d) = true) (hg : guardF F g = some true)
    (hx : ev F x = some (.slice (some ⟨b, o, none⟩) len cap)) (hlo : ev F lo = some (nv l)) (hhi : ev F hi = some (nv h')) (hlh : l < h') (hhl : h' ≤ len) (hlc : len ≤ cap)
    (h : JO c Q m r ((d, (.slice (some ⟨b, o + l, none⟩) (h' - l) (cap - l))) :: F) H) : JO c Q m (⟨some d, .slice t x (some lo) (some hi) none, ty, g, .mov, ns⟩ :: r) F H :=
  r_slice (b := b) (o := o) hd hg hx (fun _ => rfl) hlo rfl (.inl rfl) hhi rfl (.inl rfl) (by omega) hhl hlc (fun A' hA' => by
    obtain rfl := hA' hlh
    rw [Nat.mul_one]
    exact h)

/-- A load of a cell that was there at the start, and has not been turned. -/
theorem r_ldW {b o : Nat} {v : Value} [T1 c.P t] (hd : dstOk c.n (some d) = true) (hg : guardF F g = some true) (hx : ev F x = some (.pointer (some ⟨b, o, none⟩))) (hl : m.live = true)
    (hc : c.w0.cell? ⟨b, o, none⟩ = some v) (hm : b ∉ c.M) (h : JO c Q m r ((d, v) :: F) H) : JO c Q m (⟨some d, .load t x, ty, g, .ld, ns⟩ :: r) F H := r_loadO hd hg hx hl hc hm h

end

theorem OwnN.named {N : SHeap} {v : Value} {n : Nat} {xs : List Nat} (h : OwnN N v n xs) (hn : 0 < n) : ∃ b cap rest, v = .slice (some ⟨b, 0, none⟩) n cap ∧ N = [(b, .cells (rowC xs rest) 3 (0, 0))] ∧ n ≤ cap ∧ rest.length = cap - n ∧ cap ≤ maxLen := by
  obtain ⟨hl, ⟨rfl, rfl, rfl⟩ | ⟨b, cap, cur, rfl, rfl, h2, h3, h4, h5⟩⟩ := h
  · omega
  · refine ⟨b, cap, cur.toList.drop n, rfl, ?_, h2, by simp [h4], h3⟩
    have : cur = rowC xs (cur.toList.drop n) := by
      apply Array.ext'
      show cur.toList = xs.map nv ++ cur.toList.drop n
      rw [Nat.mul_one] at h5
      rw [← h5, List.take_append_drop]
    rw [← this]
theorem OwnN.ofNamed {b cap n : Nat} {xs : List Nat} {rest : List Value} (hl : xs.length = n) (hn : n ≤ cap) (hr : rest.length = cap - n) (hc : cap ≤ maxLen) : OwnN [(b, .cells (rowC xs rest) 3 (0, 0))] (.slice (some ⟨b, 0, none⟩) n cap) n xs := by
  refine ⟨by simp [hl], .inr ⟨b, cap, _, rfl, rfl, hn, hc, by rw [rowC_size]; omega, ?_⟩⟩
  show (xs.map nv ++ rest).take (n * 1) = xs.map nv
  rw [Nat.mul_one, List.take_append_of_le_length (by simp [hl])]
  exact List.take_of_length_le (by simp [hl])

end Go.Proofs.YtdehklhdjbkneaaDoor
