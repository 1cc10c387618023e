/- The judgement on a region that draws its order: shown in one canonical order, it holds in whatever order the tape picks. -/
import Derived.Test.YtdehklhdjbkneaaDoorExA
namespace Go.Proofs.YtdehklhdjbkneaaDoor
open Go Go.RowKit
set_option linter.unusedSimpArgs false
set_option linter.unusedVariables false
set_option linter.unusedSectionVars false

section
variable {P : Program} {ops : Array Oper}

def ldAt (kd : Nat → Op → Kind) (ops : Array Oper) (i : Nat) : Bool :=
  match ops[i]? with
  | some o => (match kd i o.op with | .ld => true | _ => false)
  | none => false

def waits (ops : Array Oper) (j i : Nat) : Bool :=
  match ops[j]? with
  | some o => o.after.any fun e => Region.binds .any e && e.on == i
  | none => false

/-- Some load of the region, other than j, need not come before j. -/
def nsOf (kd : Nat → Op → Kind) (ops : Array Oper) (j : Nat) : Bool :=
  (List.range ops.size).any fun i => i != j && (ldAt kd ops i && !waits ops j i)

/-- 'wpAny', and behind each operation carried out: the world is the old one, or S holds if some load of the region need not have come before. -/
def wpAnyC (P : Program) (kd : Nat → Op → Kind) (ops : Array Oper) (Q : Exit → Act → World → Prop) (S : World → Prop) : Nat → Array Bool → Act → World → Prop
  | 0, listed, a, w => Region.ready .any ops listed = [] ∧ Q .normal a w
  | fuel + 1, listed, a, w =>
    (Region.ready .any ops listed = [] → Q .normal a w) ∧
    ∀ i ∈ Region.ready .any ops listed, wpOp P ops Q i (fun a' w' => (w' = w ∨ (nsOf kd ops i = true → S w')) ∧ wpAnyC P kd ops Q S fuel (listed.setIfInBounds i true) a' w') a w

variable {kd : Nat → Op → Kind} {Q : Exit → Act → World → Prop} {S : World → Prop}

theorem wpAny_of_C : ∀ (fuel : Nat) (listed : Array Bool) (a : Act) (w : World), wpAnyC P kd ops Q S fuel listed a w → wpAny P .any ops Q fuel listed a w
  | 0, _, _, _, h => h
  | fuel + 1, _, _, _, h => ⟨h.1, fun i hi => wpOp_mono (fun a' w' h' => wpAny_of_C fuel _ a' w' h'.2) (h.2 i hi)⟩

theorem nsOf_of {i j : Nat} (hl : ldAt kd ops i = true) (hij : i ≠ j) (hw : waits ops j i = false) : nsOf kd ops j = true := by
  unfold nsOf
  rw [List.any_eq_true]
  have hi : i < ops.size := by
    unfold ldAt at hl
    split at hl
    · rename_i o ho; exact (Array.getElem?_eq_some_iff.1 ho).1
    · cases hl
  refine ⟨i, List.mem_range.2 hi, ?_⟩
  simp [hl, hw, hij]

theorem unlisted_not {i : Nat} {listed : Array Bool} (h : listed.getD i true = false) : listed.getD i false = false := by
  rcases Nat.lt_or_ge i listed.size with h' | h'
  · simp [h'] at h ⊢; exact h
  · simp [Array.getElem?_eq_none h'] at h

theorem not_waits {i j : Nat} {listed : Array Bool} (hiun : listed.getD i true = false) (hj : j ∈ Region.ready .any ops listed) : waits ops j i = false := by
  obtain ⟨hjun, oj, hoj, hall⟩ := mem_ready.1 hj
  unfold waits
  simp only [hoj]
  rw [Bool.eq_false_iff]
  intro h
  obtain ⟨e, he, hb⟩ := Array.any_eq_true'.1 h
  simp only [Bool.and_eq_true, beq_iff_eq] at hb
  have h1 := hall e he hb.1
  rw [hb.2, unlisted_not hiun] at h1
  cases h1

theorem wpAnyC_first {i : Nat} {oi : Oper} {v : Value} (hi : ops[i]? = some oi) (hsel : ∀ (j : Nat) (o : Oper) cs b, ops[j]? = some o → o.op ≠ .select cs b)
    (hQ : ∀ c a a' w, Q (.panic c) a w → Q (.panic c) a' w) (ld : Bool) (hld : ld = true → ldAt kd ops i = true) :
    ∀ (fuel : Nat) (listed : Array Bool) (a : Act) (w : World),
      (∀ j oj, ops[j]? = some oj → j ≠ i → listed.getD j true = false → (∀ e ∈ oj.after, Region.binds .any e = true → e.on ≠ i) → oi.apart ops oj = true) →
      i ∈ Region.ready .any ops listed → YieldsIf P ops (fun w => ld = true → S w) oi v a → (ld = true → S w) →
      wpAnyC P kd ops Q S fuel (listed.setIfInBounds i true) (a.put oi.dst v) w → wpAnyC P kd ops Q S (fuel + 1) listed a w := by
  intro fuel
  induction fuel with
  | zero =>
    intro listed a w _ hr hy hS H
    refine ⟨fun h => (by rw [h] at hr; cases hr), fun j hj => ?_⟩
    by_cases hji : j = i
    · subst hji; exact YieldsIf.wpOp hi hy hS ⟨.inl rfl, H⟩
    · have := ready_mono hj hji
      rw [H.1] at this
      cases this
  | succ fuel ih =>
    intro listed a w hfree hr hy hS H
    refine ⟨fun h => (by rw [h] at hr; cases hr), fun j hj => ?_⟩
    by_cases hji : j = i
    · subst hji; exact YieldsIf.wpOp hi hy hS ⟨.inl rfl, H⟩
    · have h1 := H.2 j (ready_mono hj hji)
      obtain ⟨hjun, oj, hoj, hall⟩ := mem_ready.1 hj
      have hiun := (mem_ready.1 hr).1
      have hnot : ∀ e ∈ oj.after, Region.binds .any e = true → e.on ≠ i := fun e he hb heq => by
        have h1 := hall e he hb
        rw [heq, unlisted_not hiun] at h1
        cases h1
      have h2 := wpOp_putIf hoj (hfree j oj hoj hji hjun hnot) (fun cs b => hsel i oi cs b hi) (fun cs b => hsel j oj cs b hoj) (fun c a w h => hQ c _ _ w h) hy h1
      have hfree' : ∀ k ok, ops[k]? = some ok → k ≠ i → (listed.setIfInBounds j true).getD k true = false →
          (∀ e ∈ ok.after, Region.binds .any e = true → e.on ≠ i) → oi.apart ops ok = true := fun k ok hk hki hun hno => by
        refine hfree k ok hk hki ?_ hno
        by_cases hjk : j = k
        · subst hjk; exact hjun
        · rw [getD_set_ne true hjk] at hun; exact hun
      have hnw := not_waits hiun hj
      refine wpOp_mono (fun a' w' h3 => ⟨h3.2.1, ih (listed.setIfInBounds j true) a' w' hfree' (ready_mono hr (Ne.symm hji)) h3.1 ?_ ?_⟩) h2
      · intro hl
        rcases h3.2.1 with rfl | h4
        · exact hS hl
        · exact h4 (nsOf_of (hld hl) (Ne.symm hji) hnw)
      · rw [Array.setIfInBounds_comm _ _ hji]
        exact h3.2.2

/-! ## The canonical order -/

/-- An operation that makes one block and looks at no slot: it may come up early. -/
def isU (P : Program) (kd : Nat → Op → Kind) (ops : Array Oper) (i : Nat) : Bool :=
  match ops[i]? with
  | some o => freeAlloc P o.op && (match kd i o.op with | .alloc => true | _ => false)
  | none => false

def withU (P : Program) (kd : Nat → Op → Kind) (ops : Array Oper) (listed : Array Bool) (i : Nat) : Array Bool :=
  (Array.range ops.size).map fun j => listed.getD j false || (isU P kd ops j && j != i)

def apart2 (ops : Array Oper) (i j : Nat) : Bool :=
  match ops[i]?, ops[j]? with
  | some oi, some oj => oi.apart ops oj && oj.apart ops oi
  | _, _ => true

/-- Of the operations that may come up early, and have not come up yet, each is apart from i. -/
def apartU (P : Program) (kd : Nat → Op → Kind) (ops : Array Oper) (listed : Array Bool) (i : Nat) : Bool :=
  (List.range ops.size).all fun e => e == i || listed.getD e true || !isU P kd ops e || apart2 ops i e

def canonGo (P : Program) (kd : Nat → Op → Kind) (ops : Array Oper) : List Nat → Array Bool → Bool
  | [], listed => (Region.ready .any ops listed).isEmpty
  | i :: r, listed =>
    (match ops[i]? with
     | none => false
     | some o => (Region.ready .any ops listed).contains i && (match kd i o.op with
       | .mov | .ld => Region.free .any ops listed i
       | _ => Region.ready .any ops (withU P kd ops listed i) == [i] && apartU P kd ops listed i)) &&
    canonGo P kd ops r (listed.setIfInBounds i true)

def sopsAt (kd : Nat → Op → Kind) (ops : Array Oper) (tail : Nat) : List Nat → List SOp
  | [] => []
  | i :: r => match ops[i]? with
    | some o => toSOp ops (kd i o.op) (Nat.blt tail (r.length + 1)) o :: sopsAt kd ops tail r
    | none => sopsAt kd ops tail r

def tailOk (kd : Nat → Op → Kind) (ops : Array Oper) (tail : Nat) : List Nat → Bool
  | [] => true
  | i :: r => (Nat.blt tail (r.length + 1) || !nsOf kd ops i) && tailOk kd ops tail r

def canonB (P : Program) (kd : Nat → Op → Kind) (ops : Array Oper) (order : List Nat) (tail : Nat) : Bool :=
  Region.noSelect ops && (tailOk kd ops tail order && ((List.range ops.size).all (fun j => order.contains j) && (order.length == ops.size && (canonGo P kd ops order (Array.replicate ops.size false) &&
    (List.range ops.size).all (fun i => !isU P kd ops i || apartU P kd ops (Array.replicate ops.size false) i)))))

theorem canonGo_unlisted : ∀ (r : List Nat) (listed : Array Bool), canonGo P kd ops r listed = true → ∀ j ∈ r, listed.getD j true = false
  | [], _, _, j, hj => by cases hj
  | i :: r, listed, h, j, hj => by
    simp only [canonGo, Bool.and_eq_true] at h
    obtain ⟨h1, h2⟩ := h
    cases ho : ops[i]? with
    | none => rw [ho] at h1; cases h1
    | some o =>
      rw [ho] at h1
      simp only [Bool.and_eq_true] at h1
      have hr : i ∈ Region.ready .any ops listed := by simpa using h1.1
      rcases List.mem_cons.1 hj with rfl | hj
      · exact (mem_ready.1 hr).1
      · have := canonGo_unlisted r _ h2 j hj
        by_cases hij : i = j
        · subst hij; exact (mem_ready.1 hr).1
        · rwa [getD_set_ne true hij] at this

/-! ## Operations that have come up early -/

def constρ : Operand → Value
  | .const v => v
  | _ => undef

def valE (P : Program) (ops : Array Oper) (e : Nat) : Option Nat → Value
  | none => undef
  | some b => match (ops[e]?).bind fun o => allocOf P o.op constρ with
    | some (_, mk) => mk b
    | none => undef

/-- 'E': which operations have come up early, and the block that each has made (none: its guard said no). -/
abbrev Early := Nat → Option (Option Nat)

/-- The frame 'a' is 'ac' with what the early ones have put. -/
structure Rel (P : Program) (ops : Array Oper) (E : Early) (ac a : Act) : Prop where
  defers : a.defers = ac.defers
  size : a.tmps.size = ac.tmps.size
  hit : ∀ e ob o d, E e = some ob → ops[e]? = some o → o.dst = some d → d < ac.tmps.size → a.tmps[d]? = some (valE P ops e ob)
  miss : ∀ s, (∀ e ob o, E e = some ob → ops[e]? = some o → o.dst ≠ some s) → a.tmps[s]? = ac.tmps[s]?

theorem Rel.put {E : Early} {ac a : Act} (h : Rel P ops E ac a) {d : Option Tmp} (v : Value) (hd : ∀ e ob o, E e = some ob → ops[e]? = some o → ∀ s, d = some s → o.dst ≠ some s) : Rel P ops E (ac.put d v) (a.put d v) := by
  cases d with
  | none => exact h
  | some d =>
    refine ⟨h.defers, by simp [Act.put, h.size], fun e ob o d' he ho hd' hlt => ?_, fun s hs => ?_⟩
    · have hne : d ≠ d' := fun e' => hd e ob o he ho d rfl (e' ▸ hd')
      simp only [Act.put] at hlt ⊢
      rw [Array.getElem?_setIfInBounds_ne hne]
      exact h.hit e ob o d' he ho hd' (by simpa using hlt)
    · simp only [Act.put]
      by_cases hds : d = s
      · subst hds
        simp only [Array.getElem?_setIfInBounds_self, h.size]
      · rw [Array.getElem?_setIfInBounds_ne hds, Array.getElem?_setIfInBounds_ne hds]
        exact h.miss s hs

theorem Rel.eval {E : Early} {ac a : Act} (h : Rel P ops E ac a) {x : Operand} (hx : ∀ e ob o, E e = some ob → ops[e]? = some o → ∀ s, o.dst = some s → x ≠ .tmp s) : a.eval x = ac.eval x := by
  cases x with
  | tmp t =>
    have := h.miss t (fun e ob o he ho hd => hx e ob o he ho t hd rfl)
    simp [Act.eval, this]
  | _ => rfl

/-- No early one writes what 'o' looks at. -/
def Clear (ops : Array Oper) (E : Early) (o : Oper) : Prop := ∀ e ob oe, E e = some ob → ops[e]? = some oe → oe.apart ops o = true

theorem Rel.exec {E : Early} {ac a : Act} (h : Rel P ops E ac a) {o : Oper} (hs : ∀ cs b, o.op ≠ .select cs b) (hc : Clear ops E o) : execOp a.eval o = execOp ac.eval o :=
  execOp_congr o hs fun x hx => h.eval fun e ob oe he ho s hd hxs => by
    have := (Oper.apart_spec (hc e ob oe he ho)).1 s hd
    subst hxs
    exact this (List.mem_append_left _ (List.mem_filterMap.2 ⟨.tmp s, by simpa using hx, rfl⟩))

theorem Rel.wanted {E : Early} {ac a : Act} (h : Rel P ops E ac a) {o : Oper} (hc : Clear ops E o) : Region.wanted o (yielded ops a.tmps) = Region.wanted o (yielded ops ac.tmps) := by
  unfold Region.wanted
  cases hg : o.guard with
  | none => rfl
  | some gw =>
    obtain ⟨g, want⟩ := gw
    have hy : yielded ops a.tmps g = yielded ops ac.tmps g := by
      unfold yielded
      cases ht : (ops[g]?).bind (·.dst) with
      | none => rfl
      | some t =>
        have hm := h.miss t (fun e ob oe he ho hd => by
          have := (Oper.apart_spec (hc e ob oe he ho)).1 t hd
          exact this (by simp [Oper.looksAt, hg, ht]))
        simp [hm]
    simp only [hy]

/-- What one operation shows of the frame 'ac' it shows of 'a'. -/
theorem Rel.wp {E : Early} {ac a : Act} (h : Rel P ops E ac a) {o : Oper} (hs : ∀ cs b, o.op ≠ .select cs b) (hc : Clear ops E o) {w : World} {K K' : Act → World → Prop} {Q Q' : Exit → Act → World → Prop}
    (hk : ∀ a1 a2 w', (∃ v, a1.tmps = (ac.put o.dst v).tmps) → Rel P ops E a1 a2 → K a1 w' → K' a2 w') (hq : ∀ e x y, ¬ Q e x y) (hh : o.wp P ac w K Q) : o.wp P a w K' Q' := by
  have hp : ∀ (a1 a2 : Act) (v : Value), Rel P ops E a1 a2 → Rel P ops E (a1.put o.dst v) (a2.put o.dst v) := fun a1 a2 v hr =>
    hr.put v fun e ob oe he ho s hd hde => (Oper.apart_spec (hc e ob oe he ho)).2.1 s hde (by rw [hd])
  unfold Oper.wp at *
  rw [h.exec hs hc]
  generalize (execOp ac.eval o).run P w = r at *
  cases r with
  | ok n w' =>
    have ht : ∀ (d : List Deferred) (v : Value), ((({ ac with defers := d } : Act).put o.dst v).tmps = (ac.put o.dst v).tmps) := fun d v => by cases o.dst <;> rfl
    cases n <;> simp only [Oper.upon] at hh ⊢ <;>
      first
        | exact hk _ _ _ ⟨_, rfl⟩ (hp _ _ _ h) hh
        | (rename_i d; exact hk _ _ _ ⟨_, ht (d :: ac.defers) undef⟩ (hp { ac with defers := d :: ac.defers } { a with defers := d :: a.defers } undef ⟨by simp [h.defers], h.size, h.hit, h.miss⟩) hh)
        | exact hh.elim
        | (refine Calls.mono hh (fun e w'' he => ?_); cases e <;> first | exact hk _ _ _ ⟨_, rfl⟩ (hp _ _ _ h) he | exact (hq _ _ _ he).elim | (obtain ⟨a', w', h'⟩ := he; exact (hq _ _ _ h').elim))
        | exact Rows.mono hh (fun _ _ he => hk _ _ _ ⟨_, rfl⟩ (hp _ _ _ h) he)
  | halt x w' => cases x <;> simp only [Oper.upon] at hh ⊢ <;> first | exact hh.elim | exact (hq _ _ _ hh).elim

/-! ## The simulation -/

/-- What is known of the early ones. -/
structure EOk (c : Cx) (kd : Nat → Op → Kind) (ops : Array Oper) (lc listed : Array Bool) (H : SHeap) (ac : Act) (w : World) (E : Early) : Prop where
  isU : ∀ e ob, E e = some ob → isU c.P kd ops e = true
  un : ∀ e ob, E e = some ob → lc.getD e true = false
  closed : ∀ e ob o, E e = some ob → ops[e]? = some o → ∀ x ∈ o.after, Region.binds .any x = true → listed.getD x.on false = true
  wanted : ∀ e ob o, E e = some ob → ops[e]? = some o → Region.wanted o (yielded ops ac.tmps) = ob.isSome
  blk : ∀ e b o, E e = some (some b) → ops[e]? = some o → ∀ obj mk, allocOf c.P o.op constρ = some (obj, mk) → w.heap[b]? = some obj
  fresh : ∀ e b, E e = some (some b) → b ∉ keys H ∧ c.w0.heap.size ≤ b ∧ b < w.heap.size
  inj : ∀ e e' b, E e = some (some b) → E e' = some (some b) → e = e'

theorem isU_spec {i : Nat} (h : isU P kd ops i = true) : ∃ o, ops[i]? = some o ∧ kd i o.op = .alloc ∧ ∃ obj mk, ∀ ρ : Operand → Value, (∀ v, ρ (.const v) = v) → allocOf P o.op ρ = some (obj, mk) := by
  unfold isU at h
  split at h
  · rename_i o ho
    simp only [Bool.and_eq_true] at h
    refine ⟨o, ho, ?_, freeAlloc_const h.1⟩
    have := h.2
    split at this
    · assumption
    · cases this
  · cases h

theorem apart2_spec {i j : Nat} {oi oj : Oper} (hi : ops[i]? = some oi) (hj : ops[j]? = some oj) (h : apart2 ops i j = true) : oi.apart ops oj = true ∧ oj.apart ops oi = true := by
  unfold apart2 at h
  simpa [hi, hj] using h

theorem apartU_spec {listed : Array Bool} {i e : Nat} (h : apartU P kd ops listed i = true) (hne : e ≠ i) (hun : listed.getD e true = false) (hu : isU P kd ops e = true) : apart2 ops i e = true := by
  unfold apartU at h
  have he : e < ops.size := by
    obtain ⟨o, ho, _⟩ := isU_spec hu
    exact (Array.getElem?_eq_some_iff.1 ho).1
  have := List.all_eq_true.1 h e (List.mem_range.2 he)
  simpa [hne, hun, hu] using this

theorem getD_withU {lc : Array Bool} {i j : Nat} (d : Bool) (hj : j < ops.size) : (withU P kd ops lc i).getD j d = (lc.getD j false || (isU P kd ops j && j != i)) := by
  unfold withU
  simp [hj]

/-- Which may come up: the next one of the canonical order, or one that may come up early. -/
theorem ready_next {lc listed : Array Bool} {E : Early} {i j : Nat} (hsz : listed.size = ops.size)
    (hl : ∀ j, j < ops.size → listed.getD j false = (lc.getD j false || (E j).isSome)) (hE : ∀ e ob, E e = some ob → isU P kd ops e = true) (hi : E i = none)
    (hr : Region.ready .any ops (withU P kd ops lc i) = [i]) (hj : j ∈ Region.ready .any ops listed) : j = i ∨ isU P kd ops j = true := by
  by_cases hji : j = i
  · exact .inl hji
  by_cases hu : isU P kd ops j = true
  · exact .inr hu
  refine .inl ?_
  obtain ⟨hun, o, ho, hall⟩ := mem_ready.1 hj
  have hjlt : j < ops.size := (Array.getElem?_eq_some_iff.1 ho).1
  have : j ∈ Region.ready .any ops (withU P kd ops lc i) := by
    refine mem_ready.2 ⟨?_, o, ho, fun e he hb => ?_⟩
    · rw [getD_withU _ hjlt]
      have := hl j hjlt
      rw [unlisted_not hun] at this
      simp only [Bool.false_eq, Bool.or_eq_false_iff] at this
      simp [this.1, hu]
    · have h1 := hall e he hb
      have hlt : e.on < ops.size := by
        rcases Nat.lt_or_ge e.on listed.size with h | h
        · omega
        · rw [show listed.getD e.on false = false from by simp [Array.getElem?_eq_none h]] at h1; cases h1
      rw [getD_withU _ hlt]
      rw [hl _ hlt] at h1
      simp only [Bool.or_eq_true] at h1 ⊢
      rcases h1 with h1 | h1
      · exact .inl h1
      · obtain ⟨ob, hob⟩ := Option.isSome_iff_exists.1 h1
        refine .inr ?_
        rw [hE _ _ hob]
        simp only [Bool.true_and, bne_iff_ne, ne_eq]
        intro h; rw [h] at hob; rw [hi] at hob; cases hob
  rw [hr] at this
  simpa using this

structure Sim (c : Cx) (kd : Nat → Op → Kind) (ops : Array Oper) (Hs : SHeap) (live : Bool) (r : List Nat) (lc listed : Array Bool) (H : SHeap) (F : SFrame) (E : Early) (ac a : Act) (w : World) (noA : Bool) : Prop where
  st : St c F H ac w
  hs : live = true → Hsat Hs w
  rel : Rel c.P ops E ac a
  e : EOk c kd ops lc listed H ac w E
  lsz : listed.size = ops.size
  lcz : lc.size = ops.size
  l : ∀ j, j < ops.size → listed.getD j false = (lc.getD j false || (E j).isSome)
  all : ∀ j, j < ops.size → lc.getD j true = false → j ∈ r
  lv : live = true ∨ noA = true

theorem getD_lt {l : Array Bool} {i : Nat} (h : i < l.size) (d d' : Bool) : l.getD i d = l.getD i d' := by simp [h]

theorem noAllocs_spec {tail : Nat} : ∀ {r : List Nat}, noAllocs (sopsAt kd ops tail r) = true → ∀ j ∈ r, isU P kd ops j = false
  | [], _, _, hj => by cases hj
  | i :: r, h, j, hj => by
    have h' : noAllocs (sopsAt kd ops tail r) = true ∧ (∀ o, ops[i]? = some o → kd i o.op ≠ .alloc) := by
      unfold sopsAt at h
      cases ho : ops[i]? with
      | none => rw [ho] at h; exact ⟨h, fun o h => by cases h⟩
      | some o =>
        rw [ho] at h
        simp only [noAllocs, List.all_cons, Bool.and_eq_true] at h
        refine ⟨h.2, fun o' ho' hk => ?_⟩
        cases ho'
        have := h.1
        simp only [toSOp, hk] at this
        cases this
    rcases List.mem_cons.1 hj with rfl | hj
    · cases hu : isU P kd ops j with
      | false => rfl
      | true =>
        obtain ⟨o, ho, hk, _⟩ := isU_spec hu
        exact absurd hk (h'.2 o ho)
    · exact noAllocs_spec h'.1 j hj

theorem ready_nil {listed : Array Bool} (hsz : listed.size = ops.size) (h : ∀ j, j < ops.size → listed.getD j false = true) : Region.ready .any ops listed = [] := by
  rw [List.eq_nil_iff_forall_not_mem]
  intro j hj
  obtain ⟨hun, o, ho, _⟩ := mem_ready.1 hj
  have hlt : j < ops.size := (Array.getElem?_eq_some_iff.1 ho).1
  rw [getD_lt (by omega) true false, h j hlt] at hun
  cases hun

theorem getD_set {listed : Array Bool} {i j : Nat} (hi : i < listed.size) : (listed.setIfInBounds i true).getD j false = (listed.getD j false || j == i) := by
  by_cases h : i = j
  · subst h; simp [hi]
  · rw [getD_set_ne false h]
    have : (j == i) = false := by simp; omega
    simp [this]

end
end Go.Proofs.YtdehklhdjbkneaaDoor
