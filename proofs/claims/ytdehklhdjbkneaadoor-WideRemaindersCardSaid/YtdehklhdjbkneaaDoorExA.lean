/- Symbolic execution of a region's operations: what is shown of them in one canonical order, on a symbolic frame and a list of owned blocks, holds in whatever order the tape picks. -/
import Derived.OrdersHeld
import Derived.Tactics
import Derived.Below
import Derived.Scope
import Derived.IntWalk
namespace Go.Proofs.YtdehklhdjbkneaaDoor
open Go Go.RowKit
set_option linter.unusedSimpArgs false
set_option linter.unusedVariables false
set_option linter.unusedSectionVars false

/-! ## Operations without edges -/

/-- 'mov': it leaves the world alone, and yields the same in every world; 'ld': it leaves the world alone and reads owned or old memory; 'alloc': it makes one block; 'seq': all else. -/
inductive Kind where
  | mov | ld | alloc | seq
  deriving DecidableEq

structure SOp where
  dst : Option Tmp
  op : Op
  type : TypeId
  guard : Option (Option Tmp × Bool)
  kind : Kind
  ns : Bool

def SOp.oper (o : SOp) : Oper := { dst := o.dst, op := o.op, type := o.type, pos := "", after := #[], guard := none }

/-- The Bool in a slot, if there is one. -/
def boolAt (tmps : Array Value) (t : Option Tmp) : Option Bool :=
  match t.bind (tmps[·]?) with
  | some (.bool b) => some b
  | _ => none

def SOp.wanted (o : SOp) (tmps : Array Value) : Bool :=
  match o.guard with
  | none => true
  | some (t, want) => boolAt tmps t == some want

def kindOf : Op → Kind
  | .move _ | .assign _ | .pick .. | .binOp .. | .unOp .. | .extract .. | .field .. | .fieldAddr .. | .indexAddr .. | .index .. | .slice .. | .makeFunc .. | .nilCheck .. | .convert .. | .build .. => .mov
  | .load .. => .ld
  | .call { callee := .builtin .len, .. } | .call { callee := .builtin .cap, .. } | .call { callee := .builtin .min, .. } | .call { callee := .builtin .max, .. } => .mov
  | .alloc _ | .box .. | .buildSlice .. | .makeSlice .. => .alloc
  | _ => .seq

/-- The kind of an operation, 'ov' first. -/
def kindAt (ov : List (Nat × Kind)) (i : Nat) (op : Op) : Kind :=
  match ov with
  | [] => kindOf op
  | (j, k) :: r => bif Nat.beq j i then k else kindAt r i op

def toSOp (ops : Array Oper) (k : Kind) (ns : Bool) (o : Oper) : SOp :=
  { dst := o.dst, op := o.op, type := o.type,
    guard := match o.guard with | none => none | some (j, want) => some (match ops[j]? with | some g => g.dst | none => none, want),
    kind := k, ns }

theorem wanted_toSOp (ops : Array Oper) (k : Kind) (ns : Bool) (o : Oper) (tmps : Array Value) : (toSOp ops k ns o).wanted tmps = Region.wanted o (yielded ops tmps) := by
  unfold SOp.wanted toSOp Region.wanted yielded boolAt
  obtain ⟨dst, op, type, pos, after, guard⟩ := o
  cases guard with
  | none => rfl
  | some g =>
    obtain ⟨j, want⟩ := g
    simp only []
    cases ops[j]? <;> rfl

theorem execOp_oper (ρ : Operand → Value) (ops : Array Oper) (k : Kind) (ns : Bool) (o : Oper) : execOp ρ (toSOp ops k ns o).oper = execOp ρ o := by
  unfold toSOp SOp.oper
  obtain ⟨dst, op, type, pos, after, guard⟩ := o
  cases op <;> rfl

theorem wp_oper (P : Program) (ops : Array Oper) (k : Kind) (ns : Bool) (o : Oper) (a : Act) (w : World) (next : Act → World → Prop) (Q : Exit → Act → World → Prop) :
    (toSOp ops k ns o).oper.wp P a w next Q = o.wp P a w next Q := by
  unfold Oper.wp
  rw [execOp_oper]
  have : (toSOp ops k ns o).oper.upon P a next Q = o.upon P a next Q := by
    funext r
    unfold Oper.upon toSOp SOp.oper
    rfl
  rw [this]

/-- Only the normal end. -/
def Only (K : Act → World → Prop) : Exit → Act → World → Prop
  | .normal, a, w => K a w
  | _, _, _ => False

theorem Only.up {Q : Exit → Act → World → Prop} : ∀ (e : Exit) (a : Act) (w : World), Only (Q .normal) e a w → Q e a w := fun e a w h => by
  cases e <;> first | exact h | exact h.elim

/-! ## Frames, heaps, states -/

/-- What is known of a frame's slots; the first entry of a slot counts. -/
abbrev SFrame := List (Nat × Value)

def look : SFrame → Nat → Option Value
  | [], _ => none
  | (i, v) :: r, j => bif Nat.beq i j then some v else look r j

def ev (F : SFrame) : Operand → Option Value
  | .tmp t => look F t
  | .const v => some v
  | .global g => some (.pointer (some ⟨g, 0, none⟩))
  | .func f => some (.func (.func f) #[] #[])

def putF (F : SFrame) (d : Option Tmp) (v : Value) : SFrame :=
  match d with
  | some d => (d, v) :: F
  | none => F

def guardF (F : SFrame) : Option (Option Tmp × Bool) → Option Bool
  | none => some true
  | some (none, _) => some false
  | some (some t, want) => match look F t with
    | none => none
    | some (.bool b) => some (b == want)
    | some _ => some false

structure FrOK (n : Nat) (F : SFrame) (a : Act) : Prop where
  defers : a.defers = []
  size : a.tmps.size = n
  fr : ∀ i v, look F i = some v → a.tmps[i]? = some v

abbrev SHeap := List (Nat × Obj)

/-- From w to w' nothing has turned but blocks of 'M' and blocks that are new. -/
structure Kp (M : List Nat) (w w' : World) : Prop where
  os : w'.os = w.os
  tape : w'.tape = w.tape
  output : w'.output = w.output
  size : w.heap.size ≤ w'.heap.size
  block : ∀ k, k < w.heap.size → k ∉ M → w'.heap[k]? = w.heap[k]?

structure Hsat (H : SHeap) (w : World) : Prop where
  nd : (H.map (·.1)).Nodup
  blk : ∀ p ∈ H, w.heap[p.1]? = some p.2

structure Cx where
  P : Program
  n : Nat
  w0 : World
  M : List Nat
  hM : ∀ k ∈ M, k < w0.heap.size

/-- The state: the frame, the owned blocks (new since 'w0', or among 'M'), and what has turned since 'w0'. -/
structure St (c : Cx) (F : SFrame) (H : SHeap) (a : Act) (w : World) : Prop where
  fr : FrOK c.n F a
  kp : Kp c.M c.w0 w
  hs : Hsat H w
  wr : ∀ p ∈ H, c.w0.heap.size ≤ p.1 ∨ p.1 ∈ c.M

theorem Kp.refl (M : List Nat) (w : World) : Kp M w w := ⟨rfl, rfl, rfl, Nat.le_refl _, fun _ _ _ => rfl⟩
theorem Kp.trans {M : List Nat} {a b c : World} (h : Kp M a b) (k : Kp M b c) : Kp M a c :=
  ⟨k.os.trans h.os, k.tape.trans h.tape, k.output.trans h.output, Nat.le_trans h.size k.size, fun i hi hm => (k.block i (Nat.lt_of_lt_of_le hi h.size) hm).trans (h.block i hi hm)⟩
theorem Kp.mono {M M' : List Nat} {w w' : World} (h : Kp M w w') (hm : ∀ k ∈ M, k < w.heap.size → k ∈ M') : Kp M' w w' :=
  ⟨h.os, h.tape, h.output, h.size, fun k hk hn => h.block k hk fun hx => hn (hm k hx hk)⟩
theorem Kp.alloc (M : List Nat) (w : World) (o : Obj) : Kp M w (w.alloc o) :=
  ⟨rfl, rfl, rfl, by show _ ≤ (w.heap.push o).size; simp, fun k hk _ => by show (w.heap.push o)[k]? = _; rw [Array.getElem?_push, if_neg (by omega)]⟩
theorem Kp.drew (M : List Nat) (w : World) : Kp M w w.drew := ⟨rfl, rfl, rfl, Nat.le_refl _, fun _ _ _ => rfl⟩
theorem Kp.setCell (M : List Nat) (w : World) (p : Addr) (v : Value) (h : p.block ∈ M) : Kp M w (w.setCell p v) :=
  ⟨rfl, rfl, rfl, by simp [World.setCell], fun k _ hm => Below.heap_setCell _ _ _ _ (fun e => hm (e ▸ h))⟩
theorem Kp.below {w w' : World} (h : Kp [] w w') : Below w.heap.size w w' := ⟨h.os, h.tape, h.output, h.size, fun k hk => h.block k hk (by simp)⟩

theorem Hsat.lt {H : SHeap} {w : World} (h : Hsat H w) {p : Nat × Obj} (hp : p ∈ H) : p.1 < w.heap.size := by
  have := h.blk p hp
  rcases Nat.lt_or_ge p.1 w.heap.size with h' | h'
  · exact h'
  · rw [Array.getElem?_eq_none h'] at this; cases this

theorem Hsat.kp {H : SHeap} {M : List Nat} {w w' : World} (h : Hsat H w) (k : Kp M w w') (hm : ∀ p ∈ H, p.1 ∉ M) : Hsat H w' :=
  ⟨h.nd, fun p hp => (k.block p.1 (h.lt hp) (hm p hp)).trans (h.blk p hp)⟩

theorem Hsat.fresh {H : SHeap} {w : World} (h : Hsat H w) : w.heap.size ∉ H.map (·.1) := by
  intro hm
  obtain ⟨p, hp, he⟩ := List.mem_map.1 hm
  have := h.lt hp
  omega

theorem Hsat.alloc {H : SHeap} {w : World} (h : Hsat H w) (o : Obj) : Hsat H (w.alloc o) := h.kp (Kp.alloc [] w o) (by simp)
theorem Hsat.cons {H : SHeap} {w : World} (h : Hsat H w) {b : Nat} {o : Obj} (hb : w.heap[b]? = some o) (hn : b ∉ H.map (·.1)) : Hsat ((b, o) :: H) w :=
  ⟨List.nodup_cons.2 ⟨hn, h.nd⟩, fun p hp => by
    rcases List.mem_cons.1 hp with rfl | hp
    · exact hb
    · exact h.blk p hp⟩

theorem alloc_at (w : World) (o : Obj) : (w.alloc o).heap[w.heap.size]? = some o := by
  show (w.heap.push o)[w.heap.size]? = _
  simp

theorem St.alloc {c : Cx} {F : SFrame} {H : SHeap} {a : Act} {w : World} (h : St c F H a w) (o : Obj) : St c F H a (w.alloc o) :=
  ⟨h.fr, h.kp.trans (Kp.alloc _ _ _), h.hs.alloc o, h.wr⟩

theorem look_put {F : SFrame} {d : Option Tmp} {v u : Value} {i : Nat} (h : look (putF F d v) i = some u) : (d = some i ∧ u = v) ∨ (d ≠ some i ∧ look F i = some u) := by
  cases d with
  | none => exact .inr ⟨by simp, h⟩
  | some d =>
    simp only [putF, look] at h
    cases hd : Nat.beq d i with
    | true => rw [hd] at h; simp only [cond_true, Option.some.injEq] at h; exact .inl ⟨by rw [Nat.eq_of_beq_eq_true hd], h.symm⟩
    | false => rw [hd] at h; simp only [cond_false] at h; exact .inr ⟨fun e => Nat.ne_of_beq_eq_false hd (Option.some.inj e), h⟩

def dstOk (n : Nat) : Option Tmp → Bool
  | none => true
  | some d => Nat.blt d n

theorem FrOK.put {n : Nat} {F : SFrame} {a : Act} (h : FrOK n F a) {d : Option Tmp} (v : Value) (hd : dstOk n d = true) : FrOK n (putF F d v) (a.put d v) := by
  refine ⟨by cases d <;> exact h.defers, by cases d <;> simp [Act.put, h.size], fun i u hu => ?_⟩
  rcases look_put hu with ⟨rfl, rfl⟩ | ⟨hne, hl⟩
  · have : i < a.tmps.size := by rw [h.size]; simpa [dstOk, Nat.blt_eq] using hd
    simp [Act.put, this]
  · cases d with
    | none => exact h.fr i u hl
    | some d =>
      have hne' : d ≠ i := fun e => hne (e ▸ rfl)
      simp only [Act.put]
      rw [Array.getElem?_setIfInBounds_ne hne']
      exact h.fr i u hl

theorem FrOK.ev {n : Nat} {F : SFrame} {a : Act} (h : FrOK n F a) {x : Operand} {v : Value} (hx : ev F x = some v) : a.eval x = v := by
  cases x with
  | tmp t =>
    have := h.fr t v hx
    simp [Act.eval, this]
  | const u => simpa [Go.Proofs.YtdehklhdjbkneaaDoor.ev, Act.eval] using hx
  | global g => simpa [Go.Proofs.YtdehklhdjbkneaaDoor.ev, Act.eval] using hx
  | func f => simpa [Go.Proofs.YtdehklhdjbkneaaDoor.ev, Act.eval] using hx

theorem FrOK.wanted {n : Nat} {F : SFrame} {a : Act} (h : FrOK n F a) {o : SOp} {b : Bool} (hg : guardF F o.guard = some b) : o.wanted a.tmps = b := by
  unfold SOp.wanted
  cases hgd : o.guard with
  | none => rw [hgd] at hg; simpa [guardF] using hg
  | some g =>
    obtain ⟨t, want⟩ := g
    rw [hgd] at hg
    cases t with
    | none => simp only [guardF, Option.some.injEq] at hg; subst hg; simp [boolAt]
    | some t =>
      simp only [guardF] at hg
      cases hl : look F t with
      | none => rw [hl] at hg; cases hg
      | some v =>
        rw [hl] at hg
        have := h.fr t v hl
        unfold boolAt
        simp only [Option.bind_some, this]
        cases v <;> simp only [Option.some.injEq] at hg <;> subst hg <;> simp

/-! ## Operations that make one block -/

def allocOf (P : Program) (o : Op) (ρ : Operand → Value) : Option (Obj × (Nat → Value)) :=
  match o with
  | .alloc t => match (P.info? t).bind (·.zero) with
    | some z => some (.cells z.cells t, fun b => .pointer (some ⟨b, 0, none⟩))
    | none => none
  | .box t x => some (.cells (ρ x).cells t, fun b => .pointer (some ⟨b, 0, none⟩))
  | .buildSlice t len parts => match P.underlying t with
    | some (.slice e) => match P.info? e with
      | some i => if len * i.size ≤ 2 ^ 24 then
          match (if len * i.size = 0 then some #[] else i.zero.map (·.cells)) with
          | some zero => match Instr.fill (fun j => some (j * i.size, i.size)) ((Array.range (len * i.size)).map (zero[· % zero.size]!)) ((parts.map fun (j, x) => (j, ρ x)).toList) with
            | some cells => some (.cells cells e, fun b => .slice (some ⟨b, 0, none⟩) len len)
            | none => none
          | none => none
        else none
      | none => none
    | _ => none
  | .makeSlice t l c => match P.underlying t, ρ l, ρ c with
    | some (.slice e), .int .i64 (.ofNat n), .int .i64 (.ofNat m) => match P.info? e with
      | some i => if n ≤ m ∧ m * i.bytes ≤ 2 ^ 47 ∧ m < 2 ^ 63 then
          match (if m * i.size = 0 then some #[] else i.zero.map (·.cells)) with
          | some zero => some (.cells ((Array.range (m * i.size)).map (zero[· % zero.size]!)) e, fun b => .slice (some ⟨b, 0, none⟩) n m)
          | none => none
        else none
      | none => none
    | _, _, _ => none
  | _ => none

theorem wrap_i64_nat (n : Nat) (h : n < 2 ^ 63) : IntKind.i64.wrap (Int.ofNat n) = (n : Int) := by
  have := Go.IntWalk.i64_in (n : Int) (by omega)
  exact this

theorem run_allocOf {P : Program} {o : Oper} {ρ : Operand → Value} {obj : Obj} {mk : Nat → Value} (h : allocOf P o.op ρ = some (obj, mk)) (w : World) :
    (execOp ρ o).run P w = .ok (.value (mk w.heap.size)) (w.alloc obj) := by
  obtain ⟨dst, op, type, pos, after, guard⟩ := o
  have hal : ∀ o : Obj, ({ w with heap := w.heap.push o } : World) = w.alloc o := fun _ => rfl
  cases op <;> simp only [allocOf] at h <;> try (cases h; done)
  case alloc t =>
    cases hi : P.info? t with
    | none => rw [hi] at h; simp at h
    | some i =>
      rw [hi] at h
      cases hz : i.zero with
      | none => simp [hz] at h
      | some z =>
        simp only [Option.bind_some, hz, Option.some.injEq, Prod.mk.injEq] at h
        obtain ⟨rfl, rfl⟩ := h
        simp only [execOp, Instr.alloc, zeroValue, typeInfo, newVar, newRow]
        simp [hi, hz, hal]
  case box t x =>
    simp only [Option.some.injEq, Prod.mk.injEq] at h
    obtain ⟨rfl, rfl⟩ := h
    simp only [execOp, Instr.box, newVar, newRow]
    simp [hal]
  case buildSlice t len parts =>
    cases ht : P.underlying t with
    | none => rw [ht] at h; cases h
    | some d =>
      rw [ht] at h
      cases d <;> simp only [] at h <;> try (cases h; done)
      rename_i e
      cases hi : P.info? e with
      | none => rw [hi] at h; cases h
      | some i =>
        rw [hi] at h
        simp only [] at h
        split at h
        · rename_i hle
          have hle' : ¬ (2 ^ 24 < len * i.size) := by omega
          split at h
          · rename_i zero hz0
            split at h
            · rename_i cells hc
              simp only [Option.some.injEq, Prod.mk.injEq] at h
              obtain ⟨rfl, rfl⟩ := h
              simp only [execOp, Instr.buildSlice, zeroValue, sizeOf, typeInfo, newRow, underlying]
              by_cases h0 : len * i.size = 0
              · rw [if_pos h0] at hz0
                simp only [Option.some.injEq] at hz0
                subst hz0
                simp [ht, hi, h0, hal] at hc ⊢
                rw [hc]
                simp [hal]
              · rw [if_neg h0] at hz0
                cases hz : i.zero with
                | none => rw [hz] at hz0; cases hz0
                | some z =>
                  rw [hz] at hz0
                  simp only [Option.map_some, Option.some.injEq] at hz0
                  subst hz0
                  simp [ht, hi, h0, hz, hle'] at hc ⊢
                  rw [hc]
                  simp [hal]
            · cases h
          · cases h
        · cases h
  case makeSlice t l c =>
    split at h
    · rename_i e n m ht hl hc
      cases hi : P.info? e with
      | none => rw [hi] at h; cases h
      | some i =>
        rw [hi] at h
        simp only [] at h
        split at h
        · rename_i hle
          obtain ⟨hnm, hby, hm⟩ := hle
          have hwn := wrap_i64_nat n (by omega)
          have hwm := wrap_i64_nat m (by omega)
          split at h
          · rename_i zero hz0
            simp only [Option.some.injEq, Prod.mk.injEq] at h
            obtain ⟨rfl, rfl⟩ := h
            simp only [execOp, Instr.makeSlice, zeroValue, sizeOf, typeInfo, newRow, underlying, asInt, asIntOf, hl, hc]
            simp only [Sem.run_bind, run_program, Result.andThen_ok, ht, Sem.run_pure, hi, hwn, hwm]
            have hc1 : (decide ((m : Int) < 0) || decide ((i.bytes : Int) * (m : Int) > 2 ^ 48)) = false := by
              simp only [Bool.or_eq_false_iff, decide_eq_false_iff_not]
              refine ⟨by omega, ?_⟩
              have : ((m * i.bytes : Nat) : Int) ≤ 2 ^ 47 := by exact_mod_cast hby
              rw [Int.natCast_mul] at this
              rw [Int.mul_comm]
              omega
            have hc2 : ¬ ((n : Int) < 0) := by omega
            have hc3 : ¬ ((n : Int) > (m : Int)) := by omega
            simp only [hc1, hc2, hc3, Bool.false_eq_true, false_or, or_self, if_false, Int.toNat_natCast]
            by_cases h0 : m * i.size = 0
            · rw [if_pos h0] at hz0
              simp only [Option.some.injEq] at hz0
              subst hz0
              simp [h0, hal, hi]
            · rw [if_neg h0] at hz0
              cases hz : i.zero with
              | none => rw [hz] at hz0; cases hz0
              | some z =>
                rw [hz] at hz0
                simp only [Option.map_some, Option.some.injEq] at hz0
                subst hz0
                simp [h0, hz, hal, hi]
          · cases h
        · cases h
    · cases h

/-- An operation that makes one block, whatever the frame: it looks at no slot. -/
def freeAlloc (P : Program) : Op → Bool
  | .alloc t => ((P.info? t).bind (·.zero)).isSome
  | .buildSlice t len parts => parts.all (fun p => match p.2 with | .const _ => true | _ => false) && (allocOf P (.buildSlice t len parts) (fun x => match x with | .const v => v | _ => undef)).isSome
  | _ => false

theorem freeAlloc_const {P : Program} {o : Op} (h : freeAlloc P o = true) : ∃ obj mk, ∀ ρ : Operand → Value, (∀ v, ρ (.const v) = v) → allocOf P o ρ = some (obj, mk) := by
  cases o <;> simp only [freeAlloc] at h <;> try (cases h; done)
  case alloc t =>
    cases hz : (P.info? t).bind (·.zero) with
    | none => rw [hz] at h; cases h
    | some z => exact ⟨.cells z.cells t, fun b => .pointer (some ⟨b, 0, none⟩), fun ρ _ => by simp only [allocOf, hz]⟩
  case buildSlice t len parts =>
    simp only [Bool.and_eq_true] at h
    obtain ⟨h1, h2⟩ := h
    obtain ⟨⟨obj, mk⟩, h3⟩ := Option.isSome_iff_exists.1 h2
    refine ⟨obj, mk, fun ρ hρ => ?_⟩
    rw [← h3]
    have hp : (parts.map fun (j, x) => (j, ρ x)) = (parts.map fun (j, x) => (j, (fun x : Operand => match x with | .const v => v | _ => undef) x)) := by
      refine Array.map_congr_left fun p hp => ?_
      obtain ⟨j, x⟩ := p
      have := Array.all_eq_true_iff_forall_mem.1 h1 _ hp
      cases x <;> simp_all
    simp only [allocOf, hp]

theorem eval_const (a : Act) (v : Value) : a.eval (.const v) = v := rfl

/-! ## The judgement on a list of operations -/

/-- 'text': in the order of the text. 'draw Hs live': a region that draws its order; its loads read 'Hs', which holds while 'live'. -/
inductive Mode where
  | text
  | draw (Hs : SHeap) (live : Bool)

def Mode.src (m : Mode) (H : SHeap) : SHeap :=
  match m with
  | .text => H
  | .draw Hs _ => Hs

def Mode.live : Mode → Bool
  | .text => true
  | .draw _ l => l

/-- What a load may assume of the world. -/
def Src (c : Cx) (H : SHeap) (w : World) : Prop := Kp c.M c.w0 w ∧ Hsat H w

def keys (H : SHeap) : List Nat := H.map (·.1)

/-- One step leaves all blocks alone but those of H, of M, and new ones. -/
structure Step (c : Cx) (H : SHeap) (w w' : World) : Prop where
  size : w.heap.size ≤ w'.heap.size
  block : ∀ k, k < w.heap.size → k ∉ keys H → k ∉ c.M → w'.heap[k]? = w.heap[k]?

/-- What a mode asks behind a step: a text nothing; a region that draws: what the loads read still holds where a load may come behind. -/
def Mode.after (m m' : Mode) (ns : Bool) (noAlloc : Bool) (w' : World) : Prop :=
  match m, m' with
  | .text, .text => True
  | .draw Hs l, .draw Hs' l' => Hs' = Hs ∧ (l' = true → l = true ∧ Hsat Hs w') ∧ (ns = true → l' = true) ∧ (l' = true ∨ noAlloc = true)
  | _, _ => False

def noAllocs (r : List SOp) : Bool := r.all fun o => match o.kind with | .alloc => false | _ => true

def JL (c : Cx) (K : Act → World → Prop) : Mode → List SOp → SFrame → SHeap → Prop
  | _, [], F, H => ∀ a w, St c F H a w → K a w
  | m, o :: r, F, H =>
    dstOk c.n o.dst = true ∧
    ((guardF F o.guard = some false ∧ (o.kind = .ld → m.live = true) ∧ JL c K m r (putF F o.dst undef) H) ∨
     (guardF F o.guard = some true ∧
      match o.kind with
      | .mov => ∃ v, (∀ a w, FrOK c.n F a → (execOp a.eval o.oper).run c.P w = .ok (.value v) w) ∧ JL c K m r (putF F o.dst v) H
      | .ld => m.live = true ∧ ∃ v, (∀ a w, FrOK c.n F a → Src c (m.src H) w → (execOp a.eval o.oper).run c.P w = .ok (.value v) w) ∧ JL c K m r (putF F o.dst v) H
      | .alloc => m.live = true ∧ ∃ obj mk, (∀ a, FrOK c.n F a → allocOf c.P o.op a.eval = some (obj, mk)) ∧ ∀ b, b ∉ keys H → JL c K m r (putF F o.dst (mk b)) ((b, obj) :: H)
      | .seq => ∀ a w, St c F H a w → (match m with | .text => True | .draw Hs l => l = true → Hsat Hs w) → o.oper.wp c.P a w (fun a' w' =>
          Step c H w w' ∧ ∃ F' H' m', St c F' H' a' w' ∧ (∀ k ∈ keys H', k ∈ keys H ∨ k ∈ c.M ∨ w.heap.size ≤ k) ∧ m.after m' o.ns (noAllocs r) w' ∧ JL c K m' r F' H') (Only fun _ _ => False)))

theorem wp_exit' {P : Program} {o : Oper} {a : Act} {w : World} {K : Act → World → Prop} {Q Q' : Exit → Act → World → Prop} (h : ∀ e a w, Q e a w → Q' e a w) (hh : o.wp P a w K Q) : o.wp P a w K Q' := by
  unfold Oper.wp at *
  generalize (execOp a.eval o).run P w = r at *
  cases r with
  | ok n w' =>
    cases n <;> simp only [Oper.upon] at hh ⊢ <;>
      first
        | exact hh
        | exact hh.elim
        | (refine Calls.mono hh (fun e w'' he => ?_); cases e <;> first | exact he | exact h _ _ _ he | (obtain ⟨a', w', h'⟩ := he; exact ⟨a', w', h _ _ _ h'⟩))
  | halt x w' => cases x <;> simp only [Oper.upon] at hh ⊢ <;> first | exact h _ _ _ hh | exact hh.elim


/-! ## Text -/

section
variable {P : Program} {ops : Array Oper}

theorem wpList_of_JL {c : Cx} {Q : Exit → Act → World → Prop} (hP : c.P = P) : ∀ (l : List (Oper × Kind)) (F : SFrame) (H : SHeap),
    JL c (Q .normal) .text (l.map fun p => toSOp ops p.2 false p.1) F H → ∀ a w, St c F H a w → wpList P ops Q (l.map (·.1)) a w := by
  subst hP
  intro l
  induction l with
  | nil => intro F H h a w st; exact h a w st
  | cons p l ih =>
    obtain ⟨o, k⟩ := p
    intro F H h a w st
    simp only [List.map_cons, JL] at h
    obtain ⟨hd, h⟩ := h
    simp only [List.map_cons]
    have hd' : dstOk c.n o.dst = true := hd
    unfold wpList
    rcases h with ⟨hg, _, h⟩ | ⟨hg, h⟩
    · have := st.fr.wanted hg
      rw [wanted_toSOp] at this
      rw [this]
      simp only [Bool.false_eq_true, if_false]
      exact ih _ _ h _ _ ⟨st.fr.put undef hd', st.kp, st.hs, st.wr⟩
    · have hw := st.fr.wanted hg
      rw [wanted_toSOp] at hw
      rw [hw, if_pos rfl]
      refine .inl ?_
      have hk : (toSOp ops k false o).kind = k := rfl
      rw [hk] at h
      cases hkd : k with
      | mov =>
        rw [hkd] at h
        obtain ⟨v, hr, h⟩ := h
        have hr := hr a w st.fr
        rw [execOp_oper] at hr
        unfold Oper.wp
        rw [hr]
        exact ih _ _ h _ _ ⟨st.fr.put v hd', st.kp, st.hs, st.wr⟩
      | ld =>
        rw [hkd] at h
        obtain ⟨_, v, hr, h⟩ := h
        have hr := hr a w st.fr ⟨st.kp, st.hs⟩
        rw [execOp_oper] at hr
        unfold Oper.wp
        rw [hr]
        exact ih _ _ h _ _ ⟨st.fr.put v hd', st.kp, st.hs, st.wr⟩
      | alloc =>
        rw [hkd] at h
        obtain ⟨_, obj, mk, hr, h⟩ := h
        have hr := hr a st.fr
        unfold Oper.wp
        rw [run_allocOf (o := o) hr]
        refine ih _ _ (h _ st.hs.fresh) _ _ ⟨st.fr.put _ hd', (st.alloc obj).kp, (st.hs.alloc obj).cons (alloc_at w obj) st.hs.fresh, fun p hp => ?_⟩
        rcases List.mem_cons.1 hp with rfl | hp
        · exact .inl st.kp.size
        · exact st.wr p hp
      | seq =>
        rw [hkd] at h
        have h := h a w st trivial
        rw [wp_oper] at h
        have h2 : o.wp c.P a w (wpList c.P ops Q (l.map (·.1))) (Only fun _ _ => False) := Oper.wp_mono (fun a' w' h' => by
          obtain ⟨_, F', H', m', st', _, hm, hj⟩ := h'
          cases m' with
          | text => exact ih _ _ hj _ _ st'
          | draw => exact hm.elim) h
        exact wp_exit' (fun e a w h => by cases e <;> exact h.elim) h2

end
end Go.Proofs.YtdehklhdjbkneaaDoor
