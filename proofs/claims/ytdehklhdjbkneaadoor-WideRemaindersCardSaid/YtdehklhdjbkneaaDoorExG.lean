/- The rules of the judgement, continued: closures, appends, calls that turn owned blocks; and slices as data. -/
import Derived.Test.YtdehklhdjbkneaaDoorExF
import Derived.Laws.AppendOwn
namespace Go.Proofs.YtdehklhdjbkneaaDoor
open Go Go.RowKit
set_option linter.unusedSimpArgs false
set_option linter.unusedVariables false
set_option linter.unusedSectionVars false

section
variable {c : Cx} {Q : Exit → Act → World → Prop} {m : Mode} {F : SFrame} {H : SHeap} {r : List SOp} {g : Option (Option Tmp × Bool)} {ns : Bool} {d : Tmp} {ty t t' : TypeId} {x y : Operand}

theorem r_makeFunc {fn : Fn} {first captured : Array Operand} {vs us : List Value} (hd : dstOk c.n (some d) = true) (hg : guardF F g = some true) (hf : evArgs F first.toList = some vs) (hc : evArgs F captured.toList = some us)
    (h : JO c Q m r ((d, .func fn vs.toArray us.toArray) :: F) H) : JO c Q m (⟨some d, .makeFunc fn first captured, ty, g, .mov, ns⟩ :: r) F H :=
  r_mov hd hg (fun a w fr => by
    have h1 : first.map a.eval = vs.toArray := Array.ext' (by rw [Array.toList_map, evArgs_map fr hf])
    have h2 : captured.map a.eval = us.toArray := Array.ext' (by rw [Array.toList_map, evArgs_map fr hc])
    simp [execOp, Instr.makeFunc, h1, h2]) h

theorem call_core {f : FuncId} {vs : Array Value} {op : Op} {dd : Option Tmp} {R : World → Value → World → Prop} {a : Act} {w : World} (hs : match m with | .text => True | .draw Hs l => l = true → Hsat Hs w) (hm : m.mayCall ns r) (hd : dstOk c.n dd = true) (st : St c F H a w)
    (hrun : (execOp a.eval ⟨dd, op, ty, "", #[], none⟩).run c.P w = .ok (.enter f vs) w) (hc : Calls c.P f vs w (Ret fun v w' => Kp [] w w' ∧ R w v w'))
    (h : ∀ v w', Kp [] w w' → R w v w' → ∃ N, New N w w' ∧ JO c Q m r (putF F dd v) (H ++ N)) :
    Oper.wp c.P ⟨dd, op, ty, "", #[], none⟩ a w (fun a' w' =>
          Step c H w w' ∧ ∃ F' H' m', St c F' H' a' w' ∧ (∀ k ∈ keys H', k ∈ keys H ∨ k ∈ c.M ∨ w.heap.size ≤ k) ∧ m.after m' ns (noAllocs r) w' ∧ JL c (Q .normal) m' r F' H') (Only fun _ _ => False) := by
  unfold Oper.wp
  rw [hrun]
  refine Calls.mono hc fun e w' he => ?_
  cases e with
  | returned v =>
    obtain ⟨hk, hR⟩ := he
    obtain ⟨N, hn, hj⟩ := h v w' hk hR
    refine ⟨⟨hk.size, fun k hkk _ _ => hk.block k hkk (by simp)⟩, _, _, m, (st.new hk hn).put v hd, fun k hkk => ?_, Mode.after_call hk hs hm, hj.h⟩
    rw [keys, List.map_append] at hkk
    rcases List.mem_append.1 hkk with h | h
    · exact .inl h
    · obtain ⟨p, hp, rfl⟩ := List.mem_map.1 h
      exact .inr (.inr (hn.ge p hp))
  | panicked ch => exact he.elim
  | outgrown => exact he.elim

/-- A call of a function value that is known. -/
theorem r_callV {f : FuncId} {args : Array Operand} {ats : Array TypeId} {vs : List Value} {first cap : Array Value} {R : World → Value → World → Prop} [TF c.P f] (hm : m.mayCall ns r) (hd : dstOk c.n (some d) = true) (hg : guardF F g = some true)
    (hx : ev F x = some (.func (.func f) first cap)) (ha : evArgs F args.toList = some vs)
    (hc : ∀ w, Kp c.M c.w0 w → Hsat H w → Calls c.P f (first ++ vs.toArray ++ cap) w (Ret fun v w' => Kp [] w w' ∧ R w v w'))
    (h : ∀ w v w', Kp c.M c.w0 w → Hsat H w → Kp [] w w' → R w v w' → ∃ N, New N w w' ∧ JO c Q m r ((d, v) :: F) (H ++ N)) :
    JO c Q m (⟨some d, .call ⟨.value x, args, ats⟩, ty, g, .seq, ns⟩ :: r) F H := by
  refine ⟨⟨hd, .inr ⟨hg, fun a w st hs => ?_⟩⟩⟩
  have h1 : args.map a.eval = vs.toArray := Array.ext' (by rw [Array.toList_map, evArgs_map st.fr ha])
  have h0 : (resolve a.eval ⟨.value x, args, ats⟩ ty).run c.P w = .ok { target := .fn (.func f) cap, args := first ++ vs.toArray } w := by
    simp [resolve, h1, st.fr.ev hx, Deferred.ofValue]
  refine call_core hs hm hd st ?_ (hc w st.kp st.hs) (fun v w' => h w v w' st.kp st.hs)
  show (do let d ← resolve a.eval ⟨.value x, args, ats⟩ ty; invoke d.target d.args).run c.P w = _
  rw [Sem.run_bind, h0]
  simp only [Result.andThen_ok, invoke, TF.run]

theorem evArgs_run {f : FuncId} {args : Array Operand} {ats : Array TypeId} {vs : List Value} {a : Act} {w : World} {dd : Option Tmp} [TF c.P f] (fr : FrOK c.n F a) (ha : evArgs F args.toList = some vs) :
    (execOp a.eval ⟨dd, .call ⟨.value (.func f), args, ats⟩, ty, "", #[], none⟩).run c.P w = .ok (.enter f vs.toArray) w := by
  have h1 : args.map a.eval = vs.toArray := Array.ext' (by rw [Array.toList_map, evArgs_map fr ha])
  have h0 : (resolve a.eval ⟨.value (.func f), args, ats⟩ ty).run c.P w = .ok { target := .fn (.func f) #[], args := vs.toArray } w := by
    simp [resolve, h1, Act.eval, Deferred.ofValue]
  show (do let d ← resolve a.eval ⟨.value (.func f), args, ats⟩ ty; invoke d.target d.args).run c.P w = _
  rw [Sem.run_bind, h0]
  simp only [Result.andThen_ok, invoke, Array.append_empty, TF.run]

/-- A call that turns the owned block at place k, and may make new ones. -/
theorem r_callM {f : FuncId} {args : Array Operand} {ats : Array TypeId} {vs : List Value} {R : World → Value → World → Prop} [TF c.P f] (k : Nat) {b : Nat} {o : Obj} (hm : m.mayStore ns r) (hd : dstOk c.n (some d) = true) (hg : guardF F g = some true) (ha : evArgs F args.toList = some vs)
    (hb : H[k]? = some (b, o))
    (hc : ∀ w, Kp c.M c.w0 w → Hsat H w → Calls c.P f vs.toArray w (Ret fun v w' => Kp [b] w w' ∧ R w v w'))
    (h : ∀ w v w', Kp c.M c.w0 w → Hsat H w → Kp [b] w w' → R w v w' → ∃ N o', w'.heap[b]? = some o' ∧ New N w w' ∧ JO c Q m.spent r ((d, v) :: F) (H.set k (b, o') ++ N)) :
    JO c Q m (⟨some d, .call ⟨.value (.func f), args, ats⟩, ty, g, .seq, ns⟩ :: r) F H := by
  refine ⟨⟨hd, .inr ⟨hg, fun a w st hs => ?_⟩⟩⟩
  unfold Oper.wp SOp.oper
  rw [evArgs_run st.fr ha]
  refine Calls.mono (hc w st.kp st.hs) fun e w' he => ?_
  cases e with
  | panicked ch => exact he.elim
  | outgrown => exact he.elim
  | returned v =>
    obtain ⟨hk, hR⟩ := he
    obtain ⟨N, o', hb', hn, hj⟩ := h w v w' st.kp st.hs hk hR
    have hm' : (b, o) ∈ H := List.mem_of_getElem? hb
    have hne : ∀ p ∈ H.set k (b, o'), p = (b, o') ∨ (p ∈ H ∧ p.1 ≠ b) := fun p hp => by
      obtain ⟨i, hi⟩ := List.mem_iff_getElem?.1 hp
      rw [List.getElem?_set] at hi
      have hkl : k < H.length := (List.getElem?_eq_some_iff.1 hb).1
      by_cases hik : k = i
      · subst hik; simp only [hkl, if_true] at hi; exact .inl (Option.some.inj hi).symm
      · rw [if_neg hik] at hi
        refine .inr ⟨List.mem_of_getElem? hi, fun e => hik ?_⟩
        have e1 : (H.map (·.1))[k]? = some b := by simp [hb]
        have e2 : (H.map (·.1))[i]? = some b := by simp [hi, e]
        have hl := (List.getElem?_eq_some_iff.1 e1).1
        exact (List.getElem?_inj hl st.hs.nd).1 (e1.trans e2.symm)
    have hkeys : (H.set k (b, o')).map (·.1) = H.map (·.1) := by
      apply List.ext_getElem?
      intro i
      simp only [List.getElem?_map, List.getElem?_set]
      have hkl : k < H.length := (List.getElem?_eq_some_iff.1 hb).1
      by_cases hi : k = i
      · subst hi; simp only [hkl, if_true, hb, Option.map_some]
      · simp [hi]
    have hlt := st.hs.lt hm'
    refine ⟨⟨hk.size, fun j hj hjn _ => hk.block j hj (fun e => hjn (by simp at e; subst e; exact List.mem_map.2 ⟨_, hm', rfl⟩))⟩, _, _, m.spent, ⟨(st.fr.put v hd), ⟨hk.os.trans st.kp.os, hk.tape.trans st.kp.tape, hk.output.trans st.kp.output, Nat.le_trans st.kp.size hk.size, fun j hj hjm => ?_⟩, ⟨?_, fun p hp => ?_⟩, fun p hp => ?_⟩, fun j hj => ?_, Mode.after_spent hm, hj.h⟩
    · have : j ∉ [b] := fun e => by
        simp at e; subst e
        rcases st.wr _ hm' with h | h
        · have : c.w0.heap.size ≤ j := h
          omega
        · exact hjm h
      rw [hk.block j (Nat.lt_of_lt_of_le hj st.kp.size) this]; exact st.kp.block j hj hjm
    · rw [List.map_append, List.nodup_append, hkeys]
      refine ⟨st.hs.nd, hn.nd, fun a ha b hb hab => ?_⟩
      obtain ⟨p, hp, rfl⟩ := List.mem_map.1 ha
      obtain ⟨q, hq, rfl⟩ := List.mem_map.1 hb
      have h1 := hn.ge q hq
      have h2 := st.hs.lt hp
      omega
    · rcases List.mem_append.1 hp with hp | hp
      · rcases hne p hp with rfl | ⟨hp, hpb⟩
        · exact hb'
        · exact (hk.block p.1 (st.hs.lt hp) (by simpa using hpb)).trans (st.hs.blk p hp)
      · exact hn.blk p hp
    · rcases List.mem_append.1 hp with hp | hp
      · rcases hne p hp with rfl | ⟨hp, _⟩
        · exact st.wr (b, o) hm'
        · exact st.wr p hp
      · exact .inl (Nat.le_trans st.kp.size (hn.ge p hp))
    · rw [keys, List.map_append, hkeys] at hj
      rcases List.mem_append.1 hj with h | h
      · exact .inl h
      · obtain ⟨p, hp, rfl⟩ := List.mem_map.1 h
        exact .inr (.inr (hn.ge p hp))

/-! ### Slices that grow -/

/-- The slice value v (n elements of type e, sz cells each) owns the cells xs, in the blocks N (none, or one). -/
def OwnRow (e : TypeId) (sz : Nat) (N : SHeap) (v : Value) (n : Nat) (xs : List Value) : Prop :=
  xs.length = n * sz ∧
  ((v = .slice none 0 0 ∧ n = 0 ∧ N = []) ∨
   ∃ b cap cur, v = .slice (some ⟨b, 0, none⟩) n cap ∧ N = [(b, .cells cur e (0, 0))] ∧ n ≤ cap ∧ cap ≤ maxLen ∧ cur.size = cap * sz ∧ cur.toList.take (n * sz) = xs)

theorem OwnRow.nil (e : TypeId) (sz : Nat) : OwnRow e sz [] (.slice none 0 0) 0 [] := ⟨by simp, .inl ⟨rfl, rfl, rfl⟩⟩

theorem St.perm {H' : SHeap} {a : Act} {w : World} (st : St c F H a w) (hp : H.Perm H') : St c F H' a w :=
  ⟨st.fr, st.kp, ⟨(hp.map (·.1)).nodup_iff.1 st.hs.nd, fun p h => st.hs.blk p (hp.mem_iff.2 h)⟩, fun p h => st.wr p (hp.mem_iff.2 h)⟩


theorem run_append_row {P : Program} {w : World} {e t ty : TypeId} {i : TypeInfo} {z v : Value} {n mm cc : Nat} {xs news : List Value} {A : Option Addr} {N : SHeap} (ht : P.underlying t = some (.slice e)) (hi : P.info? e = some i) (hz : i.zero = some z)
    (hzs : z.cells.size = i.size) (hN : OwnRow e i.size N v n xs) (hb : ∀ p ∈ N, w.heap[p.1]? = some p.2) (hl : news.length = mm * i.size)
    (hnews : ∀ ad, A = some ad → ∀ j u, news[j]? = some u → w.cell? (ad.add j) = some u) (hA : 0 < mm → A.isSome = true) (h1 : ∀ u ∈ news, u.oneCell' = true) (h63 : n + mm ≤ maxLen) (hbytes : (n + mm) * i.bytes ≤ 140737488355328) :
    ∃ v' w' N', (Builtin.append_ #[t, t] ty #[v, .slice A mm cc]).run P w = .ok v' w' ∧ OwnRow e i.size N' v' (n + mm) (xs ++ news) ∧ (∀ p ∈ N', w'.heap[p.1]? = some p.2) ∧ (∀ k ∈ keys N', k ∈ keys N ∨ w.heap.size ≤ k) ∧
      (∀ k, k < w.heap.size → k ∉ keys N → w'.heap[k]? = w.heap[k]?) ∧ w.heap.size ≤ w'.heap.size ∧ w'.os = w.os ∧ w'.tape = w.tape ∧ w'.output = w.output := by
  obtain ⟨hxl, hN⟩ := hN
  by_cases hm0 : mm = 0
  · subst hm0
    have hn : news = [] := List.eq_nil_of_length_eq_zero (by simpa using hl)
    subst hn
    refine ⟨v, w, N, ?_, ⟨by simpa using hxl, by simpa using hN⟩, hb, fun k hk => .inl hk, fun _ _ _ => rfl, Nat.le_refl _, rfl, rfl, rfl⟩
    clear hnews hA h1 hbytes h63 hl hb hz hzs hxl
    rcases hN with ⟨rfl, rfl, rfl⟩ | ⟨b, cap, cur, rfl, rfl, h2, h3, h4, h5⟩
    · cases A <;> simp [Builtin.append_, run_underlying ht, sizeOf, typeInfo, hi, Builtin.lenOf, Builtin.firstCells, loadCells, loadCellsFrom]
    · clear h3 h4 h5
      cases A <;> simp [Builtin.append_, run_underlying ht, sizeOf, typeInfo, hi, Builtin.lenOf, Builtin.firstCells, loadCells, loadCellsFrom, storeCells, h2]
  · obtain ⟨ad, rfl⟩ := Option.isSome_iff_exists.1 (hA (by omega))
    have hnews := hnews ad rfl
    have hsmall : n + mm ≤ 9223372036854775807 := by simp only [maxLen] at h63; omega
    have hlen : (xs ++ news).length = (n + mm) * i.size := by rw [List.length_append, hxl, hl, Nat.add_mul]
    have grown : ∀ (old : Nat), old < n + mm → ∃ N', OwnRow e i.size N' (.slice (some ⟨w.heap.size, 0, none⟩) (n + mm) (grownCap w (n + mm) old e)) (n + mm) (xs ++ news) ∧
        (∀ p ∈ N', (w.drew.alloc (.cells (xs.toArray ++ news.toArray ++ Builtin.zeroCells z.cells (grownCap w (n + mm) old e - (n + mm))) e)).heap[p.1]? = some p.2) ∧ (∀ k ∈ keys N', k ∈ keys N ∨ w.heap.size ≤ k) := by
      intro old ho
      have hge := grownCap_ge w (n + mm) old e
      have hcm : grownCap w (n + mm) old e ≤ maxLen := grownCap_le_maxLen w (n + mm) old e h63
      refine ⟨[(w.heap.size, .cells (xs.toArray ++ news.toArray ++ Builtin.zeroCells z.cells (grownCap w (n + mm) old e - (n + mm))) e)], ⟨hlen, .inr ⟨w.heap.size, _, _, rfl, rfl, hge, hcm, ?_, ?_⟩⟩, ?_, ?_⟩
      · simp only [Array.size_append, List.size_toArray, size_zeroCells, hzs, hxl, hl, ← Nat.add_mul]
        congr 1
        omega
      · simp only [Array.toList_append, List.append_assoc]
        rw [← List.append_assoc, ← hlen]
        exact List.take_left
      · intro p hp
        cases List.mem_singleton.1 hp
        exact heap_alloc_new w.drew _
      · intro k hk
        simp [keys] at hk
        exact .inr (by omega)
    have gold : ∀ (o : Obj) (k : Nat), k < w.heap.size → k ∉ keys N → (w.drew.alloc o).heap[k]? = w.heap[k]? := fun o k hk _ => heap_alloc_old w.drew _ k hk
    have gsize : ∀ o : Obj, w.heap.size ≤ (w.drew.alloc o).heap.size := fun o => by show _ ≤ (w.heap.push o).size; simp
    rcases hN with ⟨rfl, rfl, rfl⟩ | ⟨b, cap, cur, rfl, rfl, h2, h3, h4, h5⟩
    · have hx : xs = [] := List.eq_nil_of_length_eq_zero (by simpa using hxl)
      subst hx
      have hr := run_append_nil (P := P) w t ty e i z ht hi hz ad mm cc news hl hnews (by omega) (by omega) (by have hb := hbytes; simp only [Nat.zero_add] at hb; omega)
      obtain ⟨N', g1, g2, g3⟩ := grown 0 (by omega)
      simp only [Nat.zero_add, List.nil_append, Array.empty_append] at g1 g2 ⊢
      exact ⟨_, _, N', hr, g1, g2, g3, gold _, gsize _, rfl, rfl, rfl⟩
    · have hg : w.heap[b]? = some (.cells cur e (0, 0)) := hb (b, _) (by simp)
      by_cases hroom : n + mm ≤ cap
      · have hfit : n * i.size + news.length ≤ cur.size := by rw [hl, h4, ← Nat.add_mul]; exact Nat.mul_le_mul_right _ hroom
        have hr := run_append_room (P := P) w t ty e i ht hi b n cap cur hg ad mm cc news hl hnews h1 hroom hfit
        refine ⟨_, _, [(b, .cells (cur.toList.take (n * i.size) ++ news ++ cur.toList.drop (n * i.size + news.length)).toArray e (0, 0))], hr, ⟨hlen, .inr ⟨b, cap, _, rfl, rfl, hroom, h3, ?_, ?_⟩⟩, ?_, ?_, ?_, by simp, rfl, rfl, rfl⟩
        · simp only [List.size_toArray, List.length_append, List.length_take, List.length_drop, Array.length_toList]
          omega
        · rw [h5, ← hlen]
          exact List.take_left
        · intro p hp
          cases List.mem_singleton.1 hp
          exact setRow_heap w b cur _ e _ hg
        · intro k hk
          exact .inl hk
        · intro k _ hk
          exact setRow_other w b k _ (fun e => hk (by simp [keys, e]))
      · have hadd : ∀ j, (⟨b, 0, none⟩ : Addr).add j = ⟨b, j, none⟩ := fun j => by unfold Addr.add; split <;> simp_all
        have holds : ∀ j u, xs[j]? = some u → w.cell? ((⟨b, 0, none⟩ : Addr).add j) = some u := fun j u hu => by
          rw [hadd, cell_of_row w b j cur e (0, 0) hg]
          rw [← h5, List.getElem?_take] at hu
          split at hu
          · simpa using hu
          · cases hu
        have hr := run_append_grow (P := P) w t ty e i z ht hi hz ⟨b, 0, none⟩ n cap xs hxl holds ad mm cc news hl hnews (by omega) (by omega) (growslice_fits (by omega) hbytes)
        obtain ⟨N', g1, g2, g3⟩ := grown cap (by omega)
        exact ⟨_, _, N', hr, g1, g2, g3, gold _, gsize _, rfl, rfl, rfl⟩

theorem OwnRow.nodup {e sz N v n xs} (h : OwnRow e sz N v n xs) : (N.map (·.1)).Nodup := by
  rcases h.2 with ⟨_, _, rfl⟩ | ⟨b, cap, cur, _, rfl, _⟩ <;> simp

/-- A step that turns the blocks N into N'. -/
theorem turn_step {H H0 N N' : SHeap} {a : Act} {w w' : World} (st : St c F H a w) (hH : H.Perm (H0 ++ N)) (hnd : (N'.map (·.1)).Nodup) (hb : ∀ p ∈ N', w'.heap[p.1]? = some p.2) (hk : ∀ k ∈ keys N', k ∈ keys N ∨ w.heap.size ≤ k)
    (ho : ∀ k, k < w.heap.size → k ∉ keys N → w'.heap[k]? = w.heap[k]?) (hsz : w.heap.size ≤ w'.heap.size) (h1 : w'.os = w.os) (h2 : w'.tape = w.tape) (h3 : w'.output = w.output) :
    St c F (H0 ++ N') a w' ∧ Step c H w w' ∧ (∀ k ∈ keys (H0 ++ N'), k ∈ keys H ∨ k ∈ c.M ∨ w.heap.size ≤ k) := by
  have st0 := st
  have st := st.perm hH
  have hN : ∀ k ∈ keys N, k ∈ keys H := fun k h => by
    obtain ⟨p, hp, rfl⟩ := List.mem_map.1 h
    exact List.mem_map.2 ⟨p, hH.mem_iff.2 (List.mem_append.2 (.inr hp)), rfl⟩
  have hH0 : ∀ k ∈ keys H0, k ∈ keys H := fun k h => by
    obtain ⟨p, hp, rfl⟩ := List.mem_map.1 h
    exact List.mem_map.2 ⟨p, hH.mem_iff.2 (List.mem_append.2 (.inl hp)), rfl⟩
  have hnod := st.hs.nd
  rw [List.map_append, List.nodup_append] at hnod
  have hlt0 : ∀ p ∈ H0, p.1 < w.heap.size := fun p hp => st.hs.lt (List.mem_append.2 (.inl hp))
  have hw : ∀ k ∈ keys N, c.w0.heap.size ≤ k ∨ k ∈ c.M := fun k h => by
    obtain ⟨p, hp, rfl⟩ := List.mem_map.1 h
    exact st.wr p (List.mem_append.2 (.inr hp))
  refine ⟨⟨st.fr, ⟨h1.trans st.kp.os, h2.trans st.kp.tape, h3.trans st.kp.output, Nat.le_trans st.kp.size hsz, fun k hk1 hkm => ?_⟩, ⟨?_, fun p hp => ?_⟩, fun p hp => ?_⟩, ⟨hsz, fun k hk1 hkn _ => ho k hk1 fun h => hkn (hN k h)⟩, fun k hk1 => ?_⟩
  · have : k ∉ keys N := fun h => by
      rcases hw k h with h | h
      · omega
      · exact hkm h
    rw [ho k (Nat.lt_of_lt_of_le hk1 st.kp.size) this]
    exact st.kp.block k hk1 hkm
  · rw [List.map_append, List.nodup_append]
    refine ⟨hnod.1, hnd, fun x hx y hy hxy => ?_⟩
    rcases hk y hy with h | h
    · exact hnod.2.2 x hx y h hxy
    · obtain ⟨p, hp, rfl⟩ := List.mem_map.1 hx
      have := hlt0 p hp
      omega
  · rcases List.mem_append.1 hp with hp | hp
    · have : p.1 ∉ keys N := fun h => hnod.2.2 p.1 (List.mem_map.2 ⟨p, hp, rfl⟩) p.1 h rfl
      rw [ho p.1 (hlt0 p hp) this]
      exact st.hs.blk p (List.mem_append.2 (.inl hp))
    · exact hb p hp
  · rcases List.mem_append.1 hp with hp | hp
    · exact st.wr p (List.mem_append.2 (.inl hp))
    · rcases hk p.1 (List.mem_map.2 ⟨p, hp, rfl⟩) with h | h
      · exact hw _ h
      · exact .inl (Nat.le_trans st.kp.size h)
  · rw [keys, List.map_append] at hk1
    rcases List.mem_append.1 hk1 with h | h
    · exact .inl (hH0 k h)
    · rcases hk k h with h | h
      · exact .inl (hN k h)
      · exact .inr (.inr h)

/-- 'out = append(out, src...)': out is nil or owned (the blocks N); the source's cells are 'news'. -/
theorem r_append {e : TypeId} {sz bytes : Nat} {zc : Array Value} {v : Value} {n mm cc : Nat} {xs news : List Value} {A : Option Addr} {N : SHeap} (H0 : SHeap) [TSl c.P t e] [TE c.P e sz bytes zc] (hzs : zc.size = sz)
    (hm : m.mayStore ns r) (hd : dstOk c.n (some d) = true) (hg : guardF F g = some true) (hx : ev F x = some v) (hy : ev F y = some (.slice A mm cc)) (hN : OwnRow e sz N v n xs) (hH : H.Perm (H0 ++ N))
    (hl : news.length = mm * sz) (hnews : ∀ w, Kp c.M c.w0 w → Hsat H w → ∀ ad, A = some ad → ∀ j u, news[j]? = some u → w.cell? (ad.add j) = some u) (hA : 0 < mm → A.isSome = true) (h1 : ∀ u ∈ news, u.oneCell' = true) (h63 : n + mm ≤ maxLen) (hbytes : (n + mm) * bytes ≤ 140737488355328)
    (h : ∀ v' N', OwnRow e sz N' v' (n + mm) (xs ++ news) → JO c Q m.spent r ((d, v') :: F) (H0 ++ N')) :
    JO c Q m (⟨some d, .call ⟨.builtin .append, #[x, y], #[t, t]⟩, ty, g, .seq, ns⟩ :: r) F H := by
  refine ⟨⟨hd, .inr ⟨hg, fun a w st _ => ?_⟩⟩⟩
  obtain ⟨i, z, hi, rfl, rfl, hz, rfl⟩ := TE.info (P := c.P) (e := e) (sz := sz) (bytes := bytes) (zc := zc)
  obtain ⟨v', w', N', hrun, hN', hb', hk', ho', hs', e1, e2, e3⟩ := run_append_row (P := c.P) (w := w) (ty := ty) (cc := cc) (TSl.und (P := c.P) (t := t)) hi hz hzs hN (fun p hp => st.hs.blk p (hH.mem_iff.2 (List.mem_append.2 (.inr hp)))) hl (hnews w st.kp st.hs) hA h1 h63 hbytes
  have hargs : (#[x, y] : Array Operand).map a.eval = #[v, .slice A mm cc] := by simp [st.fr.ev hx, st.fr.ev hy]
  have hexec : (execOp a.eval ⟨some d, .call ⟨.builtin .append, #[x, y], #[t, t]⟩, ty, "", #[], none⟩).run c.P w = .ok (.value v') w' := by
    show (do let d ← resolve a.eval ⟨.builtin .append, #[x, y], #[t, t]⟩ ty; invoke d.target d.args).run c.P w = _
    simp only [resolve, Sem.run_bind, Sem.run_pure, Result.andThen_ok, invoke, builtin, hargs]
    simp [hrun]
  unfold Oper.wp SOp.oper
  rw [hexec]
  obtain ⟨st', hstep, hkk⟩ := turn_step st hH hN'.nodup hb' hk' ho' hs' e1 e2 e3
  exact ⟨hstep, (d, v') :: F, H0 ++ N', m.spent, st'.put v' hd, hkk, Mode.after_spent hm, (h v' N' hN').h⟩

end
end Go.Proofs.YtdehklhdjbkneaaDoor
