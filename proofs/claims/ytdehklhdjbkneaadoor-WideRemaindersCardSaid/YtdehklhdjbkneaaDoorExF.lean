/- The rules of the judgement, continued: new blocks, stores, structs, slices, calls, results. -/
import Derived.Test.YtdehklhdjbkneaaDoorExE
namespace Go.Proofs.YtdehklhdjbkneaaDoor
open Go Go.RowKit
set_option linter.unusedSimpArgs false
set_option linter.unusedVariables false
set_option linter.unusedSectionVars false

/-- The zero value's cells. -/
class TAr (P : Program) (t : TypeId) (n e : outParam Nat) : Prop where
  und : P.underlying t = some (.array n e)
class TZ0 (P : Program) (t : TypeId) (zc : outParam (Array Value)) : Prop where
  zero : ∃ z, (P.info? t).bind (·.zero) = some z ∧ z.cells = zc
/-- An element type: its cells, its bytes, its zero. -/
class TE (P : Program) (e : TypeId) (sz bytes : outParam Nat) (zc : outParam (Array Value)) : Prop where
  info : ∃ i z, P.info? e = some i ∧ i.size = sz ∧ i.bytes = bytes ∧ i.zero = some z ∧ z.cells = zc
/-- A struct type: its zero value's cells, and where each field lies. -/
class TSt (P : Program) (t : TypeId) (zc : outParam (Array Value)) (places : outParam (Array (Nat × Nat))) : Prop where
  run : ∀ parts w, (Instr.build t parts).run P w = (match Instr.fill (places[·]?) zc parts.toList with | some cs => .ok (.agg cs) w | none => .halt (.stuck "build: no such field, or a part of the wrong size") w)

theorem TZ0.mk' {P : Program} {t : TypeId} {z : Value} (h : (P.info? t).bind (·.zero) = some z) : TZ0 P t z.cells := ⟨z, h, rfl⟩
theorem TE.mk' {P : Program} {t : TypeId} {z : Value} {a b : Nat} (h : (P.info? t).map (fun i => (i.size, i.bytes, i.zero)) = some (a, b, some z)) : TE P t a b z.cells := by
  cases hi : P.info? t with
  | none => rw [hi] at h; cases h
  | some i =>
    rw [hi] at h
    simp only [Option.map_some, Option.some.injEq, Prod.mk.injEq] at h
    exact ⟨i, z, hi, h.1, h.2.1, h.2.2, rfl⟩

theorem run_places {P : Program} {w : World} : ∀ {fs : List Field} {pl : List (Nat × Nat)}, (fs.map fun f => (P.info? f.type).map fun i => (f.offset, i.size)) = pl.map some →
    (fs.mapM (m := Sem) fun f => do pure (f.offset, ← sizeOf f.type)).run P w = .ok pl w
  | [], [], _ => rfl
  | f :: fs, p :: pl, h => by
    simp only [List.map_cons, List.cons.injEq] at h
    have h1 : (do pure (f.offset, ← sizeOf f.type) : Sem (Nat × Nat)).run P w = .ok p w := by
      unfold sizeOf typeInfo
      cases hi : P.info? f.type with
      | none => rw [hi] at h; cases h.1
      | some i => rw [hi] at h; simp only [Option.map_some, Option.some.injEq] at h; simp [hi, h.1]
    rw [List.mapM_cons, Sem.run_bind, h1]
    simp only [Result.andThen_ok, Sem.run_bind, run_places h.2, Sem.run_pure]
  | [], _ :: _, h => by cases h
  | _ :: _, [], h => by cases h

theorem TSt.mk' {P : Program} {t : TypeId} {fs : Array Field} {z : Value} {pl : Array (Nat × Nat)} (hu : P.underlying t = some (.struct fs)) (hz : (P.info? t).bind (·.zero) = some z)
    (hp : (fs.toList.map fun f => (P.info? f.type).map fun i => (f.offset, i.size)) = pl.toList.map some) : TSt P t z.cells pl := by
  refine ⟨fun parts w => ?_⟩
  have h1 : (fs.mapM (m := Sem) fun f => do pure (f.offset, ← sizeOf f.type)).run P w = .ok pl w := by
    rw [Array.mapM_eq_mapM_toList, Sem.run_map, run_places hp]
    rfl
  have h2 : (zeroValue t).run P w = .ok z w := by
    unfold zeroValue typeInfo
    cases hi : P.info? t with
    | none => rw [hi] at hz; cases hz
    | some i => rw [hi] at hz; simp only [Option.bind_some] at hz; simp [hi, hz]
  simp only [Instr.build, Sem.run_bind, h2, Result.andThen_ok, run_underlying hu, h1]
  cases Instr.fill (fun x => pl[x]?) z.cells parts.toList <;> simp

def evArgs (F : SFrame) : List Operand → Option (List Value)
  | [] => some []
  | x :: r => match ev F x, evArgs F r with
    | some v, some vs => some (v :: vs)
    | _, _ => none

def evParts (F : SFrame) : List (Nat × Operand) → Option (List (Nat × Value))
  | [] => some []
  | (i, x) :: r => match ev F x, evParts F r with
    | some v, some vs => some ((i, v) :: vs)
    | _, _ => none

theorem evArgs_map {n : Nat} {F : SFrame} {a : Act} (h : FrOK n F a) : ∀ {xs : List Operand} {vs : List Value}, evArgs F xs = some vs → xs.map a.eval = vs
  | [], vs, hv => by simp only [evArgs, Option.some.injEq] at hv; simp [← hv]
  | x :: r, vs, hv => by
    simp only [evArgs] at hv
    split at hv
    · rename_i v vs' h1 h2
      simp only [Option.some.injEq] at hv
      rw [← hv, List.map_cons, h.ev h1, evArgs_map h h2]
    · cases hv

theorem evParts_map {n : Nat} {F : SFrame} {a : Act} (h : FrOK n F a) : ∀ {xs : List (Nat × Operand)} {vs : List (Nat × Value)}, evParts F xs = some vs → xs.map (fun (i, x) => (i, a.eval x)) = vs
  | [], vs, hv => by simp only [evParts, Option.some.injEq] at hv; simp [← hv]
  | (i, x) :: r, vs, hv => by
    simp only [evParts] at hv
    split at hv
    · rename_i v vs' h1 h2
      simp only [Option.some.injEq] at hv
      have h3 := evParts_map h h2
      have h4 := h.ev h1
      subst hv
      rw [List.map_cons, h3]
      simp only [h4]
    · cases hv

section
variable {c : Cx} {Q : Exit → Act → World → Prop} {m : Mode} {F : SFrame} {H : SHeap} {r : List SOp} {g : Option (Option Tmp × Bool)} {ns : Bool} {d : Option Tmp} {ty t t' : TypeId} {x y : Operand}

theorem r_alloc {op : Op} {obj : Obj} {mk : Nat → Value} (hd : dstOk c.n d = true) (hg : guardF F g = some true) (hl : m.live = true) (ha : ∀ a, FrOK c.n F a → allocOf c.P op a.eval = some (obj, mk))
    (h : ∀ b, JO c Q m r (putF F d (mk b)) ((b, obj) :: H)) : JO c Q m (⟨d, op, ty, g, .alloc, ns⟩ :: r) F H := ⟨⟨hd, .inr ⟨hg, hl, obj, mk, ha, fun b _ => (h b).h⟩⟩⟩

theorem r_allocZ {d : Tmp} {zc : Array Value} [TZ0 c.P t zc] (hd : dstOk c.n (some d) = true) (hg : guardF F g = some true) (hl : m.live = true) (h : ∀ b, JO c Q m r ((d, (.pointer (some ⟨b, 0, none⟩))) :: F) ((b, .cells zc t) :: H)) :
    JO c Q m (⟨some d, .alloc t, ty, g, .alloc, ns⟩ :: r) F H :=
  r_alloc (mk := fun b => .pointer (some ⟨b, 0, none⟩)) hd hg hl (fun a _ => by
    obtain ⟨z, h1, h2⟩ := TZ0.zero (P := c.P) (t := t) (zc := zc)
    simp only [allocOf, h1, h2]) h

theorem r_box {d : Tmp} {v : Value} {cs : Array Value} (hd : dstOk c.n (some d) = true) (hg : guardF F g = some true) (hx : ev F x = some v) (hl : m.live = true) (hc : v.cells = cs) (h : ∀ b, JO c Q m r ((d, (.pointer (some ⟨b, 0, none⟩))) :: F) ((b, .cells cs t) :: H)) :
    JO c Q m (⟨some d, .box t x, ty, g, .alloc, ns⟩ :: r) F H :=
  r_alloc (mk := fun b => .pointer (some ⟨b, 0, none⟩)) hd hg hl (fun a fr => by simp only [allocOf, fr.ev hx, hc]) h

theorem r_build {d : Tmp} {zc cs : Array Value} {places : Array (Nat × Nat)} {parts : Array (Nat × Operand)} {l : List (Nat × Value)} [TSt c.P t zc places] (hd : dstOk c.n (some d) = true) (hg : guardF F g = some true)
    (hp : evParts F parts.toList = some l) (hc : Instr.fill (places[·]?) zc l = some cs) (h : JO c Q m r ((d, (.agg cs)) :: F) H) : JO c Q m (⟨some d, .build t parts, ty, g, .mov, ns⟩ :: r) F H :=
  r_mov hd hg (fun a w fr => by
    have h1 : (parts.map fun (i, x) => (i, a.eval x)).toList = l := by rw [Array.toList_map]; exact evParts_map fr hp
    simp only [execOp, Sem.run_bind, TSt.run, h1, hc, Result.andThen_ok, Sem.run_pure]) h

def zerosOf (zc : Array Value) (n : Nat) : Array Value := (Array.range n).map (zc[· % zc.size]!)

theorem r_buildSlice {d : Tmp} {e : TypeId} {sz bytes n : Nat} {zc cs : Array Value} {parts : Array (Nat × Operand)} {l : List (Nat × Value)} [TSl c.P t e] [TE c.P e sz bytes zc] (hd : dstOk c.n (some d) = true) (hg : guardF F g = some true) (hl : m.live = true)
    (hp : evParts F parts.toList = some l) (hn : n * sz ≤ 2 ^ 24) (hn0 : n * sz ≠ 0) (hc : Instr.fill (fun j => some (j * sz, sz)) (zerosOf zc (n * sz)) l = some cs)
    (h : ∀ b, JO c Q m r ((d, (.slice (some ⟨b, 0, none⟩) n n)) :: F) ((b, .cells cs e) :: H)) : JO c Q m (⟨some d, .buildSlice t n parts, ty, g, .alloc, ns⟩ :: r) F H :=
  r_alloc (mk := fun b => .slice (some ⟨b, 0, none⟩) n n) hd hg hl (fun a fr => by
    obtain ⟨i, z, hi, rfl, rfl, hz, rfl⟩ := TE.info (P := c.P) (e := e) (sz := sz) (bytes := bytes) (zc := zc)
    have h1 : (parts.map fun (i, x) => (i, a.eval x)).toList = l := by rw [Array.toList_map]; exact evParts_map fr hp
    have hc' := hc
    unfold zerosOf at hc'
    simp only [allocOf, TSl.und (P := c.P) (t := t), hi, hn, if_true, hn0, if_false, hz, Option.map_some, h1, hc']) h

theorem r_buildSlice0 {d : Tmp} {e : TypeId} {sz bytes : Nat} {zc : Array Value} [TSl c.P t e] [TE c.P e sz bytes zc] (hd : dstOk c.n (some d) = true) (hg : guardF F g = some true) (hl : m.live = true)
    (h : ∀ b, JO c Q m r ((d, (.slice (some ⟨b, 0, none⟩) 0 0)) :: F) ((b, .cells #[] e) :: H)) : JO c Q m (⟨some d, .buildSlice t 0 #[], ty, g, .alloc, ns⟩ :: r) F H :=
  r_alloc (mk := fun b => .slice (some ⟨b, 0, none⟩) 0 0) hd hg hl (fun a fr => by
    obtain ⟨i, z, hi, _⟩ := TE.info (P := c.P) (e := e) (sz := sz) (bytes := bytes) (zc := zc)
    simp [allocOf, TSl.und (P := c.P) (t := t), hi, Instr.fill]) h

theorem zeros1 {z : Value} (n : Nat) : zerosOf #[z] n = Array.replicate n z := by
  unfold zerosOf
  apply Array.ext
  · simp
  · intro i h1 h2
    simp [Nat.mod_one]

/-- 'make([]T, n)'. -/
theorem r_make {d : Tmp} {e : TypeId} {sz bytes n : Nat} {zc : Array Value} [TSl c.P t e] [TE c.P e sz bytes zc] (hd : dstOk c.n (some d) = true) (hg : guardF F g = some true) (hl : m.live = true)
    (hx : ev F x = some (.int .i64 n)) (hy : ev F y = some (.int .i64 n)) (hn : n * bytes ≤ 140737488355328) (hn' : n < 9223372036854775808)
    (h : ∀ b, JO c Q m r ((d, (.slice (some ⟨b, 0, none⟩) n n)) :: F) ((b, .cells (zerosOf zc (n * sz)) e) :: H)) : JO c Q m (⟨some d, .makeSlice t x y, ty, g, .alloc, ns⟩ :: r) F H :=
  r_alloc (mk := fun b => .slice (some ⟨b, 0, none⟩) n n) hd hg hl (fun a fr => by
    obtain ⟨i, z, hi, rfl, rfl, hz, rfl⟩ := TE.info (P := c.P) (e := e) (sz := sz) (bytes := bytes) (zc := zc)
    have h1 : a.eval x = .int .i64 (Int.ofNat n) := fr.ev hx
    have h2 : a.eval y = .int .i64 (Int.ofNat n) := fr.ev hy
    simp only [allocOf, TSl.und (P := c.P) (t := t), h1, h2, hi, hz, Option.map_some]
    rw [if_pos ⟨Nat.le_refl _, hn, hn'⟩]
    by_cases h0 : n * i.size = 0
    · simp [h0, zerosOf]
    · simp [h0, zerosOf]) h

/-! ### Stores -/

theorem setBlk {F : SFrame} {H : SHeap} {a : Act} {w w' : World} {k b : Nat} {o o' : Obj} (st : St c F H a w) (hb : H[k]? = some (b, o)) (hw : w'.heap[b]? = some o') (ho : ∀ j, j ≠ b → w'.heap[j]? = w.heap[j]?)
    (hs : w'.heap.size = w.heap.size) (h1 : w'.os = w.os) (h2 : w'.tape = w.tape) (h3 : w'.output = w.output) : St c F (H.set k (b, o')) a w' ∧ Step c H w w' := by
  have hm : (b, o) ∈ H := List.mem_of_getElem? hb
  have hk : k < H.length := (List.getElem?_eq_some_iff.1 hb).1
  have hkeys : (H.set k (b, o')).map (·.1) = H.map (·.1) := by
    apply List.ext_getElem?
    intro i
    simp only [List.getElem?_map, List.getElem?_set]
    by_cases hi : k = i
    · subst hi; simp only [hk, if_true, hb, Option.map_some]
    · simp [hi]
  have hne : ∀ p ∈ H.set k (b, o'), p = (b, o') ∨ (p ∈ H ∧ p.1 ≠ b) := fun p hp => by
    obtain ⟨i, hi⟩ := List.mem_iff_getElem?.1 hp
    rw [List.getElem?_set] at hi
    by_cases hik : k = i
    · subst hik; simp only [hk, if_true] at hi; exact .inl (Option.some.inj hi).symm
    · rw [if_neg hik] at hi
      refine .inr ⟨List.mem_of_getElem? hi, fun e => hik ?_⟩
      have e1 : (H.map (·.1))[k]? = some b := by simp [hb]
      have e2 : (H.map (·.1))[i]? = some b := by simp [hi, e]
      have hl := (List.getElem?_eq_some_iff.1 e1).1
      exact (List.getElem?_inj hl st.hs.nd).1 (e1.trans e2.symm)
  refine ⟨⟨st.fr, ⟨h1.trans st.kp.os, h2.trans st.kp.tape, h3.trans st.kp.output, by rw [hs]; exact st.kp.size, fun j hj hjm => ?_⟩, ⟨by rw [hkeys]; exact st.hs.nd, fun p hp => ?_⟩, fun p hp => ?_⟩, ⟨by omega, fun j _ hjn _ => ho j fun e => hjn (by subst e; exact List.mem_map.2 ⟨_, hm, rfl⟩)⟩⟩
  · have : j ≠ b := fun e => by
      subst e
      rcases st.wr _ hm with h | h
      · omega
      · exact hjm h
    rw [ho j this]; exact st.kp.block j hj hjm
  · rcases hne p hp with rfl | ⟨hp, hpb⟩
    · exact hw
    · rw [ho _ hpb]; exact st.hs.blk p hp
  · rcases hne p hp with rfl | ⟨hp, _⟩
    · exact st.wr (b, o) hm
    · exact st.wr p hp

theorem keys_set {H : SHeap} {k b : Nat} {o o' : Obj} (hb : H[k]? = some (b, o)) : ∀ j ∈ keys (H.set k (b, o')), j ∈ keys H := by
  intro j hj
  obtain ⟨p, hp, rfl⟩ := List.mem_map.1 hj
  rcases List.mem_or_eq_of_mem_set hp with h | rfl
  · exact List.mem_map.2 ⟨p, h, rfl⟩
  · exact List.mem_map.2 ⟨_, List.mem_of_getElem? hb, rfl⟩

/-- The cells behind stores of the values from place o on. -/
def storeL : Array Value → Nat → List Value → Array Value
  | cs, _, [] => cs
  | cs, o, v :: r => storeL (cs.setIfInBounds o v) (o + 1) r

theorem storeL_size : ∀ (l : List Value) (cs : Array Value) (o : Nat), (storeL cs o l).size = cs.size
  | [], _, _ => rfl
  | v :: r, cs, o => by rw [storeL, storeL_size r]; simp

theorem run_storeCells {P : Program} {T : TypeId} {b o : Nat} : ∀ (l : List Value) (i : Nat) (cs : Array Value) (w : World), (∀ v ∈ l, v.oneCell' = true) → w.heap[b]? = some (.cells cs T (0, 0)) → o + (i + l.length) ≤ cs.size →
    ∃ w', (storeCells ⟨b, o, none⟩ l i).run P w = .ok () w' ∧ w'.heap[b]? = some (.cells (storeL cs (o + i) l) T (0, 0)) ∧ (∀ j, j ≠ b → w'.heap[j]? = w.heap[j]?) ∧ w'.heap.size = w.heap.size ∧ w'.os = w.os ∧ w'.tape = w.tape ∧ w'.output = w.output
  | [], i, cs, w, _, hb, _ => ⟨w, rfl, hb, fun _ _ => rfl, rfl, rfl, rfl, rfl⟩
  | v :: r, i, cs, w, hv, hb, hl => by
    simp only [List.length_cons] at hl
    have hlt : o + i < cs.size := by omega
    have hc : w.cell? ⟨b, o + i, none⟩ = some cs[o + i] := cell_of_blk hb (Array.getElem?_eq_getElem hlt)
    have hf : w.frozen? ⟨b, o + i, none⟩ = false := by simp [World.frozen?, hb]
    have hrun : (store (⟨b, o + i, none⟩ : Addr) v).run P w = .ok () (w.setCell ⟨b, o + i, none⟩ v) := by
      rw [run_store P w _ v .plain (hv v (by simp)), hc]
      simp [hf]
    have hb1 : (w.setCell ⟨b, o + i, none⟩ v).heap[b]? = some (.cells (cs.setIfInBounds (o + i) v) T (0, 0)) := by
      simp [World.setCell, Array.getElem?_modify, hb]
    obtain ⟨w', h1, h2, h3, h4, h5, h6, h7⟩ := run_storeCells (o := o) r (i + 1) (cs.setIfInBounds (o + i) v) (w.setCell ⟨b, o + i, none⟩ v) (fun u hu => hv u (by simp [hu])) hb1 (by rw [Array.size_setIfInBounds]; omega)
    refine ⟨w', ?_, by rw [storeL, show o + i + 1 = o + (i + 1) from by omega]; exact h2, fun j hj => (h3 j hj).trans (Below.heap_setCell _ _ _ _ hj), by rw [h4]; simp [World.setCell], h5, h6, h7⟩
    simp only [storeCells, add_none, Sem.run_bind, hrun, Result.andThen_ok]
    exact h1

theorem run_storeAt {P : Program} {t : TypeId} {n : Nat} (hsz : ∀ w, (sizeOf t).run P w = .ok n w) {T : TypeId} {b o : Nat} {v : Value} {cs : Array Value} {w : World} (hn : v.cells.size = n) (hv : ∀ u ∈ v.cells.toList, u.oneCell' = true)
    (hb : w.heap[b]? = some (.cells cs T (0, 0))) (hl : o + n ≤ cs.size) :
    ∃ w', (Instr.storeAt t (.pointer (some ⟨b, o, none⟩)) v).run P w = .ok () w' ∧ w'.heap[b]? = some (.cells (storeL cs o v.cells.toList) T (0, 0)) ∧ (∀ j, j ≠ b → w'.heap[j]? = w.heap[j]?) ∧ w'.heap.size = w.heap.size ∧ w'.os = w.os ∧ w'.tape = w.tape ∧ w'.output = w.output := by
  obtain ⟨w', h1, h2⟩ := run_storeCells (P := P) (o := o) v.cells.toList 0 cs w hv hb (by simp [hn]; omega)
  refine ⟨w', ?_, h2⟩
  simp only [Instr.storeAt, Instr.sureAddr, storeVar, Sem.run_bind, Sem.run_pure, Result.andThen_ok, hsz]
  simp [hn, h1]

/-- What a mode becomes behind a step that turns an owned block. -/
def Mode.spent : Mode → Mode
  | .text => .text
  | .draw Hs _ => .draw Hs false

def Mode.mayStore (m : Mode) (ns : Bool) (r : List SOp) : Prop :=
  match m with
  | .text => True
  | .draw _ _ => ns = false ∧ noAllocs r = true

theorem Mode.after_spent {m : Mode} {ns : Bool} {w : World} {r : List SOp} (h : m.mayStore ns r) : m.after m.spent ns (noAllocs r) w := by
  cases m with
  | text => trivial
  | draw Hs l =>
    obtain ⟨rfl, h2⟩ := h
    exact ⟨rfl, (fun h => by cases h), (fun h => by cases h), .inr h2⟩

theorem r_storeG {b o n : Nat} (k : Nat) {cs : Array Value} {T : TypeId} {v : Value} {l : List Value} (hsz : ∀ w, (sizeOf t).run c.P w = .ok n w) (hg : guardF F g = some true) (hm : m.mayStore ns r) (hx : ev F x = some (.pointer (some ⟨b, o, none⟩))) (hy : ev F y = some v)
    (hb : H[k]? = some (b, .cells cs T (0, 0))) (hc : v.cells.toList = l) (hn : l.length = n) (hv : (l.all (·.oneCell')) = true) (hl : o + n ≤ cs.size) (h : JO c Q m.spent r F (H.set k (b, .cells (storeL cs o l) T (0, 0)))) :
    JO c Q m (⟨none, .store t x y, ty, g, .seq, ns⟩ :: r) F H := by
  refine ⟨⟨rfl, .inr ⟨hg, fun a w st _ => ?_⟩⟩⟩
  have hm' : (b, Obj.cells cs T (0, 0)) ∈ H := List.mem_of_getElem? hb
  obtain ⟨w', h1, h2, h3, h4, h5, h6, h7⟩ := run_storeAt (P := c.P) (t := t) (n := n) hsz (o := o) (v := v) (w := w) (by rw [← hn, ← hc]; simp) (by rw [hc]; exact List.all_eq_true.1 hv) (st.hs.blk _ hm') hl
  rw [hc] at h2
  obtain ⟨st', hstep⟩ := setBlk st hb h2 h3 h4 h5 h6 h7
  unfold Oper.wp SOp.oper
  simp only [execOp, st.fr.ev hx, st.fr.ev hy, Sem.run_bind, h1, Result.andThen_ok, Sem.run_pure]
  exact ⟨hstep, F, _, m.spent, st', fun j hj => .inl (keys_set hb j hj), Mode.after_spent hm, h.h⟩

theorem r_store {b o : Nat} (k : Nat) {cs : Array Value} {T : TypeId} {v : Value} [T1 c.P t] (hg : guardF F g = some true) (hm : m.mayStore ns r) (hx : ev F x = some (.pointer (some ⟨b, o, none⟩))) (hy : ev F y = some v)
    (hb : H[k]? = some (b, .cells cs T (0, 0))) (hc : v.cells.toList = [v]) (hv : v.oneCell' = true) (hl : o < cs.size) (h : JO c Q m.spent r F (H.set k (b, .cells (cs.setIfInBounds o v) T (0, 0)))) :
    JO c Q m (⟨none, .store t x y, ty, g, .seq, ns⟩ :: r) F H :=
  r_storeG k T1.size hg hm hx hy hb hc rfl (by simp [hv]) (by omega) h

/-- A struct stored over a whole block. -/
theorem r_storeN {b n : Nat} (k : Nat) {cs vs : Array Value} {T : TypeId} [TN c.P t n] (hg : guardF F g = some true) (hm : m.mayStore ns r) (hx : ev F x = some (.pointer (some ⟨b, 0, none⟩))) (hy : ev F y = some (.agg vs))
    (hb : H[k]? = some (b, .cells cs T (0, 0))) (hn : vs.size = n) (hn' : cs.size = n) (hv : (vs.toList.all (·.oneCell')) = true) (h : JO c Q m.spent r F (H.set k (b, .cells vs T (0, 0)))) :
    JO c Q m (⟨none, .store t x y, ty, g, .seq, ns⟩ :: r) F H := by
  have key : ∀ (l : List Value) (cs : Array Value) (o : Nat), o + l.length = cs.size → (storeL cs o l).toList = cs.toList.take o ++ l := by
    intro l
    induction l with
    | nil =>
      intro cs o h
      simp only [List.length_nil, Nat.add_zero] at h
      rw [storeL, List.append_nil, List.take_of_length_le (by simp [h])]
    | cons v l ih =>
      intro cs o h
      simp only [List.length_cons] at h
      rw [storeL, ih _ _ (by rw [Array.size_setIfInBounds]; omega), Array.toList_setIfInBounds]
      have hlt : o < (cs.toList.set o v).length := by simp; omega
      rw [List.take_succ_eq_append_getElem hlt, List.take_set_of_le (Nat.le_refl _)]
      simp
  have key2 : storeL cs 0 vs.toList = vs := by
    have := key vs.toList cs 0 (by simp; omega)
    apply Array.ext'
    simpa using this
  refine r_storeG (l := vs.toList) k TN.size hg hm hx hy hb rfl (by simp [hn]) hv (by omega) ?_
  rw [key2]
  exact h

/-! ### Slices -/

theorem r_slice {d : Tmp} {e : TypeId} {sz : Nat} {A : Option Addr} {b o len cap l h' : Nat} {lo hi : Option Operand} {vl vh : Option Value} [TSl c.P t e] [TSz c.P e sz] (hd : dstOk c.n (some d) = true) (hg : guardF F g = some true)
    (hx : ev F x = some (.slice A len cap)) (hA : 0 < len → A = some ⟨b, o, none⟩)
    (hlo : (lo.bind (ev F)) = vl) (hlo' : lo.isSome = vl.isSome) (hl : vl = some (.int .i64 l) ∨ (vl = none ∧ l = 0)) (hhi : (hi.bind (ev F)) = vh) (hhi' : hi.isSome = vh.isSome) (hh : vh = some (.int .i64 h') ∨ (vh = none ∧ h' = len))
    (hlh : l ≤ h') (hhl : h' ≤ len) (hlc : len ≤ cap)
    (h : ∀ A', (l < h' → A' = some ⟨b, o + l * sz, none⟩) → JO c Q m r ((d, (.slice A' (h' - l) (cap - l))) :: F) H) : JO c Q m (⟨some d, .slice t x lo hi none, ty, g, .mov, ns⟩ :: r) F H := by
  refine r_mov (v := .slice (if cap = l then A else A.map (·.add (l * sz))) (h' - l) (cap - l)) hd hg (fun a w fr => ?_) (h _ fun hlh' => ?_)
  · have hlo1 : lo.map a.eval = vl := by
      cases lo with
      | none => simpa using hlo
      | some x => simp only [Option.bind_some] at hlo; cases vl with
        | none => cases hlo'
        | some v => simp [fr.ev hlo]
    have hhi1 : hi.map a.eval = vh := by
      cases hi with
      | none => simpa using hhi
      | some x => simp only [Option.bind_some] at hhi; cases vh with
        | none => cases hhi'
        | some v => simp [fr.ev hhi]
    have e1 : (0 : Int) ≤ l ∧ (l : Int) ≤ h' := by omega
    have e2 : (0 : Int) ≤ h' ∧ (h' : Int) ≤ cap := by omega
    simp only [execOp, fr.ev hx, hlo1, hhi1, Option.map_none, Instr.sliceAt, Sem.run_bind, run_underlying (TSl.und (P := c.P) (t := t)), Result.andThen_ok, Instr.slice, Instr.sliceBounds]
    rcases hl with rfl | ⟨rfl, rfl⟩ <;> rcases hh with rfl | ⟨rfl, rfl⟩ <;>
      simp only [Instr.sliceBound, asIntOf, Sem.run_bind, Sem.run_pure, Result.andThen_ok, e1, e2, and_self, if_true, Int.toNat_natCast, TSz.size (e := e) (n := sz), if_false]
  · rw [if_neg (by omega), hA (by omega)]
    simp [add_none]

/-! ### Calls -/

/-- These blocks are new in w', and hold this. -/
structure New (N : SHeap) (w w' : World) : Prop where
  nd : (N.map (·.1)).Nodup
  ge : ∀ p ∈ N, w.heap.size ≤ p.1
  blk : ∀ p ∈ N, w'.heap[p.1]? = some p.2

theorem New.nil (w w' : World) : New [] w w' := ⟨by simp, by simp, by simp⟩
theorem New.one {b : Nat} {o : Obj} {w w' : World} (h : w.heap.size ≤ b) (hb : w'.heap[b]? = some o) : New [(b, o)] w w' := ⟨by simp, by simp [h], by simp [hb]⟩

theorem St.new {F : SFrame} {H N : SHeap} {a : Act} {w w' : World} (st : St c F H a w) (hk : Kp [] w w') (hn : New N w w') : St c F (H ++ N) a w' := by
  refine ⟨st.fr, st.kp.trans (hk.mono (by simp)), ⟨?_, fun p hp => ?_⟩, fun p hp => ?_⟩
  · rw [List.map_append, List.nodup_append]
    refine ⟨st.hs.nd, hn.nd, fun a ha b hb hab => ?_⟩
    obtain ⟨p, hp, rfl⟩ := List.mem_map.1 ha
    obtain ⟨q, hq, rfl⟩ := List.mem_map.1 hb
    have h1 := hn.ge q hq
    have h2 := st.hs.lt hp
    omega
  · rcases List.mem_append.1 hp with hp | hp
    · exact (hk.block p.1 (st.hs.lt hp) (by simp)).trans (st.hs.blk p hp)
    · exact hn.blk p hp
  · rcases List.mem_append.1 hp with hp | hp
    · exact st.wr p hp
    · exact .inl (Nat.le_trans st.kp.size (hn.ge p hp))

theorem Hsat.sub {H H' : SHeap} {w : World} (h : Hsat H w) (hs : ∀ p ∈ H', p ∈ H) (hn : (H'.map (·.1)).Nodup) : Hsat H' w := ⟨hn, fun p hp => h.blk p (hs p hp)⟩

theorem St.put {F : SFrame} {H : SHeap} {a : Act} {w : World} (st : St c F H a w) {d : Option Tmp} (v : Value) (hd : dstOk c.n d = true) : St c (putF F d v) H (a.put d v) w := ⟨st.fr.put v hd, st.kp, st.hs, st.wr⟩

def Mode.mayCall (m : Mode) (ns : Bool) (r : List SOp) : Prop :=
  match m with
  | .text => True
  | .draw _ true => True
  | .draw _ false => ns = false ∧ noAllocs r = true

theorem Mode.after_call {m : Mode} {ns : Bool} {w w' : World} {r : List SOp} (hk : Kp [] w w') (hs : match m with | .text => True | .draw Hs l => l = true → Hsat Hs w) (h : m.mayCall ns r) : m.after m ns (noAllocs r) w' := by
  cases m with
  | text => trivial
  | draw Hs l =>
    cases l with
    | true => exact ⟨rfl, fun _ => ⟨rfl, (hs rfl).kp hk (by simp)⟩, fun _ => rfl, .inl rfl⟩
    | false => exact ⟨rfl, (fun h => by cases h), (fun h' => by rw [h.1] at h'; cases h'), .inr h.2⟩

/-- A call of a Go function that turns nothing that is there: by its contract. -/
theorem r_call {d : Tmp} {f : FuncId} {args : Array Operand} {ats : Array TypeId} {vs : List Value} {R : World → Value → World → Prop} [TF c.P f] (hm : m.mayCall ns r) (hd : dstOk c.n (some d) = true) (hg : guardF F g = some true) (ha : evArgs F args.toList = some vs)
    (hc : ∀ w, Kp c.M c.w0 w → Hsat H w → Calls c.P f vs.toArray w (Ret fun v w' => Kp [] w w' ∧ R w v w'))
    (h : ∀ w v w', Kp c.M c.w0 w → Hsat H w → Kp [] w w' → R w v w' → ∃ N, New N w w' ∧ JO c Q m r ((d, v) :: F) (H ++ N)) :
    JO c Q m (⟨some d, .call ⟨.value (.func f), args, ats⟩, ty, g, .seq, ns⟩ :: r) F H := by
  refine ⟨⟨hd, .inr ⟨hg, fun a w st hs => ?_⟩⟩⟩
  have h1 : args.map a.eval = vs.toArray := by
    have := evArgs_map st.fr ha
    apply Array.ext'
    rw [Array.toList_map, this]
  have h0 : (resolve a.eval ⟨.value (.func f), args, ats⟩ ty).run c.P w = .ok { target := .fn (.func f) #[], args := vs.toArray } w := by
    simp [resolve, h1, Act.eval, Deferred.ofValue]
  unfold Oper.wp SOp.oper
  have h2 : (execOp a.eval ⟨some d, .call ⟨.value (.func f), args, ats⟩, ty, "", #[], none⟩).run c.P w = .ok (.enter f vs.toArray) w := by
    show (do let d ← resolve a.eval ⟨.value (.func f), args, ats⟩ ty; invoke d.target d.args).run c.P w = _
    rw [Sem.run_bind, h0]
    simp only [Result.andThen_ok, invoke, Array.append_empty, TF.run]
  rw [h2]
  refine Calls.mono (hc w st.kp st.hs) fun e w' he => ?_
  cases e with
  | returned v =>
    obtain ⟨hk, hR⟩ := he
    obtain ⟨N, hn, hj⟩ := h w v w' st.kp st.hs hk hR
    refine ⟨⟨hk.size, fun k hkk _ _ => hk.block k hkk (by simp)⟩, _, _, m, (st.new hk hn).put v hd, fun k hkk => ?_, ?_, hj.h⟩
    · rw [keys, List.map_append] at hkk
      rcases List.mem_append.1 hkk with h | h
      · exact .inl h
      · obtain ⟨p, hp, rfl⟩ := List.mem_map.1 h
        exact .inr (.inr (hn.ge p hp))
    · exact Mode.after_call hk hs hm
  | panicked ch => exact he.elim
  | outgrown => exact he.elim


/-! ### Results -/

def tupOf : List Value → Value
  | [v] => v
  | vs => .tuple vs.toArray

/-- The results read so. -/
def JR (c : Cx) (F : SFrame) (H : SHeap) : List ResultVar → List Value → Prop
  | [], [] => True
  | .tmp t :: r, v :: vs => look F t = some v ∧ JR c F H r vs
  | .cell t ty :: r, v :: vs => (∃ (b : Nat) (cs : Array Value) (k : Nat) (T : TypeId) (fz : Nat × Nat), look F t = some (.pointer (some ⟨b, 0, none⟩)) ∧ H[k]? = some (b, Obj.cells cs T fz) ∧ ((TN c.P ty cs.size ∧ v = .agg cs) ∨ (T1 c.P ty ∧ cs[0]? = some v))) ∧ JR c F H r vs
  | _, _ => False

theorem JR.cellN {F : SFrame} {H : SHeap} {t : Tmp} {ty n : Nat} {rs : List ResultVar} {vs : List Value} {b : Nat} {cs : Array Value} {T : TypeId} {fz : Nat × Nat} [ht : TN c.P ty n] (k : Nat) (h1 : look F t = some (.pointer (some ⟨b, 0, none⟩)))
    (h2 : H[k]? = some (b, Obj.cells cs T fz)) (hn : cs.size = n) (h : JR c F H rs vs) : JR c F H (.cell t ty :: rs) (.agg cs :: vs) :=
  ⟨⟨b, cs, k, T, fz, h1, h2, .inl ⟨by rw [hn]; exact ht, rfl⟩⟩, h⟩
theorem JR.cell1 {F : SFrame} {H : SHeap} {t : Tmp} {ty : Nat} {rs : List ResultVar} {vs : List Value} {b : Nat} {cs : Array Value} {T : TypeId} {fz : Nat × Nat} {v : Value} [ht : T1 c.P ty] (k : Nat) (h1 : look F t = some (.pointer (some ⟨b, 0, none⟩)))
    (h2 : H[k]? = some (b, Obj.cells cs T fz)) (hv : cs[0]? = some v) (h : JR c F H rs vs) : JR c F H (.cell t ty :: rs) (v :: vs) :=
  ⟨⟨b, cs, k, T, fz, h1, h2, .inr ⟨ht, hv⟩⟩, h⟩
theorem JR.tmp {F : SFrame} {H : SHeap} {t : Tmp} {rs : List ResultVar} {vs : List Value} {v : Value} (h1 : look F t = some v) (h : JR c F H rs vs) : JR c F H (.tmp t :: rs) (v :: vs) := ⟨h1, h⟩
theorem JR.nil {F : SFrame} {H : SHeap} : JR c F H [] [] := trivial

def resF (tmps : Array Value) : ResultVar → Sem Value
  | .tmp t => pure (tmps.getD t undef)
  | .cell x t => do loadVar t (← asAddr (tmps.getD x undef))

theorem run_results {F : SFrame} {H : SHeap} {a : Act} {w : World} (st : St c F H a w) : ∀ {rs : List ResultVar} {vs : List Value}, JR c F H rs vs → (rs.mapM (resF a.tmps)).run c.P w = .ok vs w
  | [], [], _ => rfl
  | .tmp t :: r, v :: vs, h => by
    have h1 := st.fr.fr t v h.1
    have h2 : (resF a.tmps (.tmp t)).run c.P w = .ok v w := by simp [resF, h1]
    rw [List.mapM_cons]
    simp only [Sem.run_bind, h2, Sem.run_pure, Result.andThen_ok, run_results st h.2]
  | .cell t ty :: r, v :: vs, h => by
    obtain ⟨⟨b, cs, k, T, fz, h1, h2, h3⟩, h4⟩ := h
    have h1 := st.fr.fr t _ h1
    have hb := st.hs.blk _ (List.mem_of_getElem? h2)
    have hl : (loadVar ty ⟨b, 0, none⟩).run c.P w = .ok v w := by
      rcases h3 with ⟨ht, rfl⟩ | ⟨ht, hv⟩
      · have := run_loadN (P := c.P) (t := ty) (n := cs.size) (w := w) (b := b) (o := 0) (vs := cs) rfl (fun j hj => by
          rw [Nat.zero_add, Array.getElem?_eq_getElem hj]
          exact cell_of_blk hb (Array.getElem?_eq_getElem hj))
        simpa [Instr.loadAt, Instr.sureAddr] using this
      · have := run_load1 (P := c.P) (t := ty) (w := w) (cell_of_blk hb hv)
        simpa [Instr.loadAt, Instr.sureAddr] using this
    have h5 : a.tmps.getD t undef = .pointer (some ⟨b, 0, none⟩) := by simp [h1]
    have h2 : (resF a.tmps (.cell t ty)).run c.P w = .ok v w := by
      simp only [resF, Sem.run_bind, h5, asAddr, Sem.run_pure, Result.andThen_ok, hl]
    rw [List.mapM_cons]
    simp only [Sem.run_bind, h2, Sem.run_pure, Result.andThen_ok, run_results st h4]
  | [], _ :: _, h => h.elim
  | .tmp _ :: _, [], h => h.elim
  | .cell _ _ :: _, [], h => h.elim

theorem results_eq (fn : Func) (tmps : Array Value) : results fn tmps = (do
    let vs ← fn.results.mapM (resF tmps)
    pure (if h : vs.size = 1 then vs[0] else .tuple vs)) := by
  unfold results
  congr 2

theorem run_resultsA {fn : Func} {F : SFrame} {H : SHeap} {a : Act} {w : World} {vs : List Value} (st : St c F H a w) (h : JR c F H fn.results.toList vs) : (results fn a.tmps).run c.P w = .ok (tupOf vs) w := by
  have h1 := run_results st h
  rw [results_eq, Sem.run_bind]
  have h2 : (fn.results.mapM (resF a.tmps)).run c.P w = .ok vs.toArray w := by
    rw [Array.mapM_eq_mapM_toList, Sem.run_map, h1]
    rfl
  rw [h2]
  simp only [Result.andThen_ok, Sem.run_pure]
  match vs with
  | [] => rfl
  | [v] => rfl
  | _ :: _ :: _ => simp [tupOf]

theorem JX.ret' {rs : Array ResultVar} {R : Ending → World → Prop} {F : SFrame} {H : SHeap} (vs : List Value) (h : JR c F H rs.toList vs) (hR : ∀ a w, St c F H a w → R (.returned (tupOf vs)) w) : JX c (endPost c.P rs R) .ret F H :=
  ⟨fun a w st => ⟨st.fr.defers, _, run_resultsA (fn := { (default : Func) with results := rs }) st h, hR a w st⟩⟩
theorem JX.end' {rs : Array ResultVar} {R : Ending → World → Prop} {F : SFrame} {H : SHeap} (vs : List Value) (h : JR c F H rs.toList vs) (hR : ∀ a w, St c F H a w → R (.returned (tupOf vs)) w) : JX c (endPost c.P rs R) .normal F H :=
  ⟨fun a w st => ⟨st.fr.defers, _, run_resultsA (fn := { (default : Func) with results := rs }) st h, hR a w st⟩⟩
/-- One result in a slot. -/
theorem JX.ret1 {t : Tmp} {v : Value} {R : Value → World → Prop} {F : SFrame} {H : SHeap} (h : look F t = some v) (hR : ∀ a w, St c F H a w → R v w) : JX c (endPost c.P #[.tmp t] (Ret R)) .ret F H :=
  JX.ret' [v] ⟨h, trivial⟩ hR
theorem JX.ret2 {t t' : Tmp} {v v' : Value} {R : Value → World → Prop} {F : SFrame} {H : SHeap} (h : look F t = some v) (h' : look F t' = some v') (hR : ∀ a w, St c F H a w → R (.tuple #[v, v']) w) : JX c (endPost c.P #[.tmp t, .tmp t'] (Ret R)) .ret F H :=
  JX.ret' [v, v'] ⟨h, h', trivial⟩ hR
/-- One result, a struct in an owned block. -/
theorem JX.retC {t : Tmp} {ty n b : Nat} {cs : Array Value} {T : TypeId} {fz : Nat × Nat} {R : Value → World → Prop} {F : SFrame} {H : SHeap} [TN c.P ty n] (k : Nat) (h1 : look F t = some (.pointer (some ⟨b, 0, none⟩)))
    (h2 : H[k]? = some (b, Obj.cells cs T fz)) (hn : cs.size = n) (hR : ∀ a w, St c F H a w → R (.agg cs) w) : JX c (endPost c.P #[.cell t ty] (Ret R)) .ret F H :=
  JX.ret' [.agg cs] (JR.cellN k h1 h2 hn JR.nil) hR
theorem JX.retCT {t t' : Tmp} {v' : Value} {ty n b : Nat} {cs : Array Value} {T : TypeId} {fz : Nat × Nat} {R : Value → World → Prop} {F : SFrame} {H : SHeap} [TN c.P ty n] (k : Nat) (h1 : look F t = some (.pointer (some ⟨b, 0, none⟩)))
    (h2 : H[k]? = some (b, Obj.cells cs T fz)) (hn : cs.size = n) (h' : look F t' = some v') (hR : ∀ a w, St c F H a w → R (.tuple #[.agg cs, v']) w) : JX c (endPost c.P #[.cell t ty, .tmp t'] (Ret R)) .ret F H :=
  JX.ret' [.agg cs, v'] (JR.cellN k h1 h2 hn ⟨h', trivial⟩) hR

end
end Go.Proofs.YtdehklhdjbkneaaDoor
