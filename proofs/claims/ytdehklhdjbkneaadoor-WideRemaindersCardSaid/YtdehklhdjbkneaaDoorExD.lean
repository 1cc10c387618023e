/- Simplified code as a whole, and the judgement on it: control flow, loops, results. -/
import Derived.Test.YtdehklhdjbkneaaDoorExC
namespace Go.Proofs.YtdehklhdjbkneaaDoor
open Go Go.RowKit
set_option linter.unusedSimpArgs false
set_option linter.unusedVariables false
set_option linter.unusedSectionVars false

inductive SCode where
  | skip
  | ops (l : List SOp)
  | opsD (l : List SOp)
  | seq (a b : SCode)
  | cond (c : Operand) (thn els : SCode)
  | block (id : Nat) (body : SCode)
  | loop (body : SCode)
  | exit (id : Nat)
  | scope (body : SCode)
  | ret
  | raw (c : Code)

/-- A region: its number, its canonical order (if it draws), how many operations at its end come behind all loads, and the kinds of operations that are not the usual ones. -/
structure Od where
  id : Nat
  tail : Nat := 0
  order : List Nat := []
  ov : List (Nat × Kind) := []

def odAt : List Od → Nat → Od
  | [], id => { id := id }
  | d :: l, id => bif Nat.beq d.id id then d else odAt l id

def ordOf (d : Od) (n : Nat) : List Nat :=
  match d.order with
  | [] => List.range n
  | l => l

def textOps (ov : List (Nat × Kind)) (ops : Array Oper) : Nat → List Oper → List SOp
  | _, [] => []
  | i, o :: r => toSOp ops (kindAt ov i o.op) false o :: textOps ov ops (i + 1) r

def toS (od : List Od) : Code → SCode
  | .skip => .skip
  | .region id ops true => .opsD (sopsAt (kindAt (odAt od id).ov) ops (odAt od id).tail (ordOf (odAt od id) ops.size))
  | .region id ops false => .ops (textOps (odAt od id).ov ops 0 ops.toList)
  | .seq a b => .seq (toS od a) (toS od b)
  | .cond c a b => .cond c (toS od a) (toS od b)
  | .block id c => .block id (toS od c)
  | .loop c => .loop (toS od c)
  | .exit id => .exit id
  | .scope c => .scope (toS od c)
  | .ret => .ret
  | c => .raw c

def okS (P : Program) (od : List Od) : Code → Bool
  | .region id ops true => canonB P (kindAt (odAt od id).ov) ops (ordOf (odAt od id) ops.size) (odAt od id).tail
  | .seq a b => okS P od a && okS P od b
  | .cond _ a b => okS P od a && okS P od b
  | .block _ c => okS P od c
  | .loop c => okS P od c
  | .scope c => okS P od c
  | _ => true

def SCode.wp (c : Cx) : SCode → (Exit → Act → World → Prop) → Act → World → Prop
  | .skip, Q, a, w => Q .normal a w
  | .ops l, Q, a, w => ∃ F H, St c F H a w ∧ JL c (Q .normal) .text l F H
  | .opsD l, Q, a, w => ∃ F H Hs, St c F H a w ∧ Hsat Hs w ∧ JL c (Q .normal) (.draw Hs true) l F H
  | .seq x y, Q, a, w => x.wp c (Exit.then (y.wp c Q) Q) a w
  | .cond x y z, Q, a, w => ∃ t, a.eval x = .bool t ∧ (t = true → y.wp c Q a w) ∧ (t = false → z.wp c Q a w)
  | .block id s, Q, a, w => s.wp c (Exit.inBlock id Q) a w
  | .loop s, Q, a, w => ∃ I : Nat → Act → World → Prop, (∃ n, I n a w) ∧ ∀ n a w, I n a w → s.wp c (Exit.then (fun a' w' => ∃ m, m < n ∧ I m a' w') Q) a w
  | .exit id, Q, a, w => Q (.exit id) a w
  | .scope s, Q, a, w => s.wp c (Exit.noGoto Q) a w
  | .ret, Q, a, w => Q .ret a w
  | .raw s, Q, a, w => s.wp c.P Q a w

theorem wp_loop_ghost {P : Program} {Q : Exit → Act → World → Prop} {c : Code} {a : Act} {w : World} (I : Nat → Act → World → Prop) (n : Nat) (h₀ : I n a w)
    (round : ∀ n a w, I n a w → c.wp P (Exit.then (fun a' w' => ∃ m, m < n ∧ I m a' w') Q) a w) : (Code.loop c).wp P Q a w := by
  intro b k cs
  have key : ∀ n a w, I n a w →
      ∃ e a' w', Q e a' w' ∧ Arrives P (lone (b.at a (.code c :: .inLoop c :: k)) cs w) b k cs e a' w' := by
    intro n
    induction n using Nat.strongRecOn with
    | _ n ih =>
      intro a w hI
      obtain ⟨e, a₁, w₁, hq, harr⟩ := round n a w hI b (.inLoop c :: k) cs
      cases e with
      | normal =>
        obtain ⟨m, hlt, hI₁⟩ := hq
        obtain ⟨e₂, a₂, w₂, hq₂, harr₂⟩ := ih m hlt a₁ w₁ hI₁
        exact ⟨e₂, a₂, w₂, hq₂, .of_steps (Steps.trans harr (.one step_inLoop)) harr₂⟩
      | exit id => exact ⟨_, a₁, w₁, hq, .pass (x := .inLoop c) rfl (fun _ _ => .inl (by simp)) harr⟩
      | goto l => exact ⟨_, a₁, w₁, hq, .pass (x := .inLoop c) rfl (fun _ _ => .inl (by simp)) harr⟩
      | ret => exact ⟨_, a₁, w₁, hq, .pass (x := .inLoop c) rfl (fun _ _ => .inl (by simp)) harr⟩
      | panic ch => exact ⟨_, a₁, w₁, hq, .pass (x := .inLoop c) rfl (fun _ _ => .inl (by simp)) harr⟩
      | outgrown => exact ⟨_, a₁, w₁, hq, .pass (x := .inLoop c) rfl (fun _ _ => .inl (by simp)) harr⟩
  obtain ⟨e, a', w', hq, harr⟩ := key n a w h₀
  exact ⟨e, a', w', hq, .of_steps (.one step_loop) harr⟩

theorem textOps_eq (ov : List (Nat × Kind)) (ops : Array Oper) : ∀ (l : List Oper) (i : Nat), ∃ kd : List Kind, kd.length = l.length ∧ textOps ov ops i l = (l.zip kd).map fun p => toSOp ops p.2 false p.1
  | [], _ => ⟨[], rfl, rfl⟩
  | o :: r, i => by
    obtain ⟨kd, hl, h⟩ := textOps_eq ov ops r (i + 1)
    exact ⟨kindAt ov i o.op :: kd, by simp [hl], by simp [textOps, h]⟩

theorem wp_region_draws {c : Cx} {kd : Nat → Op → Kind} {Q : Exit → Act → World → Prop} {id tail : Nat} {order : List Nat} {ops : Array Oper} {F : SFrame} {H Hs : SHeap} {a : Act} {w : World}
    (hm : c.P.follows .mixedOrders = true) (hB : canonB c.P kd ops order tail = true) (st : St c F H a w) (hHs : Hsat Hs w) (h : JL c (Q .normal) (.draw Hs true) (sopsAt kd ops tail order) F H) :
    (Code.region id ops true).wp c.P Q a w := by
  simp only [canonB, Bool.and_eq_true] at hB
  obtain ⟨hs, ht, hal, hl, hc, hu⟩ := hB
  have hl : order.length = ops.size := by simpa using hl
  refine wp_mono ?_ (fun e a w h => Only.up e a w h)
  refine wp_region_any hm (wpAny_of_C (kd := kd) (S := Src c Hs) _ _ _ _ ?_)
  have st' : St c F H a { w with drawn := w.drawn + 1 } := ⟨st.fr, st.kp.trans (Kp.drew _ _), st.hs.kp (Kp.drew [] w) (by simp), st.wr⟩
  have hU : ∀ i, i < ops.size → isU c.P kd ops i = true → apartU c.P kd ops (Array.replicate ops.size false) i = true := fun i hi hx => by
    have := List.all_eq_true.1 hu i (List.mem_range.2 hi)
    simpa [hx] using this
  refine sim (Q := Only (Q .normal)) (K := Q .normal) hs hU (fun a w h => h) (fun ch a a' w h => h.elim) order _ hc ht ops.size true _ H F (fun _ => none) a a _ h ?_ ?_
  · refine ⟨st', fun _ => hHs.kp (Kp.drew [] w) (by simp), ⟨rfl, rfl, (fun e ob o d h => by cases h), fun s _ => rfl⟩, ⟨fun e ob h => (by cases h), fun e ob h => (by cases h), fun e ob o h => (by cases h), fun e ob o h => (by cases h), fun e b o h => (by cases h), fun e b h => (by cases h), fun e e' b h => (by cases h)⟩,
      by simp, by simp, fun j hj => by simp, fun j hj _ => ?_, .inl rfl⟩
    have := List.all_eq_true.1 hal j (List.mem_range.2 hj)
    simpa using this
  · exact hl ▸ List.countP_le_length

theorem wp_region_texts {c : Cx} {Q : Exit → Act → World → Prop} {id : Nat} {ops : Array Oper} {ov : List (Nat × Kind)} {F : SFrame} {H : SHeap} {a : Act} {w : World}
    (st : St c F H a w) (h : JL c (Q .normal) .text (textOps ov ops 0 ops.toList) F H) : (Code.region id ops false).wp c.P Q a w := by
  obtain ⟨kd, hl, he⟩ := textOps_eq ov ops ops.toList 0
  rw [he] at h
  have := wpList_of_JL (P := c.P) (ops := ops) (Q := Q) rfl _ F H h a w st
  rw [List.map_fst_zip (by omega)] at this
  exact wp_region_list this

theorem wp_of_toS {c : Cx} (od : List Od) (hm : c.P.follows .mixedOrders = true) : ∀ (s : Code) (Q : Exit → Act → World → Prop) (a : Act) (w : World),
    okS c.P od s = true → (toS od s).wp c Q a w → s.wp c.P Q a w
  | .skip, Q, a, w, _, h => wp_skip h
  | .region id ops false, Q, a, w, hk, h => by
    obtain ⟨F, H, st, h⟩ := h
    exact wp_region_texts st h
  | .region id ops true, Q, a, w, hk, h => by
    obtain ⟨F, H, Hs, st, hHs, h⟩ := h
    exact wp_region_draws hm hk st hHs h
  | .seq x y, Q, a, w, hk, h => by
    simp only [okS, Bool.and_eq_true] at hk
    refine wp_seq (wp_of_toS od hm x _ a w hk.1 ?_)
    refine wp_mono' (fun e a w hq => ?_) h
    cases e <;> first | exact hq | exact wp_of_toS od hm y _ _ _ hk.2 hq
  | .cond x y z, Q, a, w, hk, h => by
    simp only [okS, Bool.and_eq_true] at hk
    obtain ⟨t, hc, h1, h2⟩ := h
    exact wp_cond_split hc (fun ht => wp_of_toS od hm y _ _ _ hk.1 (h1 ht)) (fun ht => wp_of_toS od hm z _ _ _ hk.2 (h2 ht))
  | .block id s, Q, a, w, hk, h => wp_block (wp_of_toS od hm s _ _ _ hk h)
  | .loop s, Q, a, w, hk, h => by
    obtain ⟨I, ⟨n, h0⟩, hr⟩ := h
    exact wp_loop_ghost I n h0 fun n a w hi => wp_of_toS od hm s _ _ _ hk (hr n a w hi)
  | .exit id, Q, a, w, _, h => wp_exit h
  | .scope s, Q, a, w, hk, h => wp_scope_straight (wp_of_toS od hm s _ _ _ hk h)
  | .ret, Q, a, w, _, h => wp_ret h
  | .label _, _, _, _, _, h => h
  | .goto _, _, _, _, _, h => h
  | .refuse _, _, _, _, _, h => h
  | .rangeFunc .., _, _, _, _, h => h
where
  JL_mono {c : Cx} {K K' : Act → World → Prop} (hk : ∀ a w, K a w → K' a w) : ∀ {l : List SOp} {m : Mode} {F : SFrame} {H : SHeap}, JL c K m l F H → JL c K' m l F H := by
    intro l
    induction l with
    | nil => intro m F H h a w st; exact hk _ _ (h a w st)
    | cons o l ih =>
      intro m F H h
      simp only [JL] at h ⊢
      refine ⟨h.1, ?_⟩
      rcases h.2 with ⟨hg, hl, h⟩ | ⟨hg, h⟩
      · exact .inl ⟨hg, hl, ih h⟩
      · refine .inr ⟨hg, ?_⟩
        cases hkd : o.kind with
        | mov => rw [hkd] at h; obtain ⟨v, hr, h⟩ := h; exact ⟨v, hr, ih h⟩
        | ld => rw [hkd] at h; obtain ⟨hl, v, hr, h⟩ := h; exact ⟨hl, v, hr, ih h⟩
        | alloc => rw [hkd] at h; obtain ⟨hl, obj, mk, hr, h⟩ := h; exact ⟨hl, obj, mk, hr, fun b hb => ih (h b hb)⟩
        | seq =>
          rw [hkd] at h
          intro a w st hh
          refine Oper.wp_mono ?_ (h a w st hh)
          rintro a' w' ⟨hstep, F', H', m', st', hk', hm, hj⟩
          exact ⟨hstep, F', H', m', st', hk', hm, ih hj⟩
  wp_mono' {c : Cx} : ∀ {s : SCode} {Q Q' : Exit → Act → World → Prop} {a : Act} {w : World}, (∀ e a w, Q e a w → Q' e a w) → s.wp c Q a w → s.wp c Q' a w := by
    intro s
    induction s with
    | skip => intro Q Q' a w hq h; exact hq _ _ _ h
    | ops l => intro Q Q' a w hq h; obtain ⟨F, H, st, h⟩ := h; exact ⟨F, H, st, JL_mono (fun a w => hq _ a w) h⟩
    | opsD l => intro Q Q' a w hq h; obtain ⟨F, H, Hs, st, hHs, h⟩ := h; exact ⟨F, H, Hs, st, hHs, JL_mono (fun a w => hq _ a w) h⟩
    | seq x y ihx ihy => intro Q Q' a w hq h; exact ihx (fun e a w h' => by cases e <;> first | exact ihy hq h' | exact hq _ _ _ h') h
    | cond x y z ihx ihy => intro Q Q' a w hq h; obtain ⟨t, hc, h1, h2⟩ := h; exact ⟨t, hc, fun ht => ihx hq (h1 ht), fun ht => ihy hq (h2 ht)⟩
    | block id s ih => intro Q Q' a w hq h; exact ih (fun e a w h' => by
        cases e with
        | exit id' => simp only [Exit.inBlock] at h' ⊢; split <;> (rename_i hi; simp only [hi, if_true, if_false] at h'; exact hq _ _ _ h')
        | _ => exact hq _ _ _ h') h
    | loop s ih => intro Q Q' a w hq h; obtain ⟨I, h0, hr⟩ := h; exact ⟨I, h0, fun n a w hi => ih (fun e a w h' => by cases e <;> first | exact h' | exact hq _ _ _ h') (hr n a w hi)⟩
    | exit id => intro Q Q' a w hq h; exact hq _ _ _ h
    | scope s ih => intro Q Q' a w hq h; exact ih (fun e a w h' => by cases e <;> first | exact hq _ _ _ h' | exact h') h
    | ret => intro Q Q' a w hq h; exact hq _ _ _ h
    | raw s => intro Q Q' a w hq h; exact Code.wp_mono hq h

/-! ## The judgement on code -/

structure JC (c : Cx) (Q : Exit → Act → World → Prop) (s : SCode) (F : SFrame) (H : SHeap) : Prop where
  h : ∀ a w, St c F H a w → s.wp c Q a w
structure JX (c : Cx) (Q : Exit → Act → World → Prop) (e : Exit) (F : SFrame) (H : SHeap) : Prop where
  h : ∀ a w, St c F H a w → Q e a w
/-- The judgement on a list of operations; 'Q': what the code is for whose part it is. -/
structure JO (c : Cx) (Q : Exit → Act → World → Prop) (m : Mode) (l : List SOp) (F : SFrame) (H : SHeap) : Prop where
  h : JL c (Q .normal) m l F H

section
variable {c : Cx} {Q : Exit → Act → World → Prop} {K : Act → World → Prop} {s t : SCode} {F : SFrame} {H : SHeap} {id id' : Nat}

theorem JC.ops {l : List SOp} (h : JO c Q .text l F H) : JC c Q (.ops l) F H := ⟨fun _ _ st => ⟨F, H, st, h.h⟩⟩
theorem JC.opsD {l : List SOp} (h : JO c Q (.draw H true) l F H) : JC c Q (.opsD l) F H := ⟨fun _ _ st => ⟨F, H, H, st, st.hs, h.h⟩⟩
theorem JO.nil {m : Mode} (h : JX c Q .normal F H) : JO c Q m [] F H := ⟨h.h⟩
theorem JC.seq (h : JC c (Exit.then (t.wp c Q) Q) s F H) : JC c Q (.seq s t) F H := ⟨h.h⟩
theorem JC.skip (h : JX c Q .normal F H) : JC c Q .skip F H := ⟨h.h⟩
theorem JC.exit (h : JX c Q (.exit id) F H) : JC c Q (.exit id) F H := ⟨h.h⟩
theorem JC.ret (h : JX c Q .ret F H) : JC c Q .ret F H := ⟨h.h⟩
theorem JC.block (h : JC c (Exit.inBlock id Q) s F H) : JC c Q (.block id s) F H := ⟨h.h⟩
theorem JC.scope (h : JC c (Exit.noGoto Q) s F H) : JC c Q (.scope s) F H := ⟨h.h⟩
theorem JC.condT {x : Operand} (hx : ev F x = some (.bool true)) (h : JC c Q s F H) : JC c Q (.cond x s t) F H :=
  ⟨fun a w st => ⟨true, st.fr.ev hx, fun _ => h.h a w st, (fun h => by cases h)⟩⟩
theorem JC.condF {x : Operand} (hx : ev F x = some (.bool false)) (h : JC c Q t F H) : JC c Q (.cond x s t) F H :=
  ⟨fun a w st => ⟨false, st.fr.ev hx, (fun h => by cases h), fun _ => h.h a w st⟩⟩
theorem JC.cond {x : Operand} {b : Bool} (hx : ev F x = some (.bool b)) (h : b = true → JC c Q s F H) (h' : b = false → JC c Q t F H) : JC c Q (.cond x s t) F H :=
  ⟨fun a w st => ⟨b, st.fr.ev hx, fun e => (h e).h a w st, fun e => (h' e).h a w st⟩⟩

theorem JX.thenN (h : JC c Q t F H) : JX c (Exit.then (t.wp c Q) Q) .normal F H := ⟨h.h⟩
theorem JX.thenE (h : JX c Q (.exit id) F H) : JX c (Exit.then K Q) (.exit id) F H := ⟨h.h⟩
theorem JX.thenR (h : JX c Q .ret F H) : JX c (Exit.then K Q) .ret F H := ⟨h.h⟩
theorem JX.blockN (h : JX c Q .normal F H) : JX c (Exit.inBlock id Q) .normal F H := ⟨h.h⟩
theorem JX.blockR (h : JX c Q .ret F H) : JX c (Exit.inBlock id Q) .ret F H := ⟨h.h⟩
theorem JX.blockE (h : JX c Q .normal F H) : JX c (Exit.inBlock id Q) (.exit id) F H := ⟨fun a w st => by
  simp only [Exit.inBlock, if_true]; exact h.h a w st⟩
theorem JX.blockO (hne : Nat.beq id' id = false) (h : JX c Q (.exit id') F H) : JX c (Exit.inBlock id Q) (.exit id') F H := ⟨fun a w st => by
  simp only [Exit.inBlock, if_neg (Nat.ne_of_beq_eq_false hne)]; exact h.h a w st⟩
theorem JX.scopeN (h : JX c Q .normal F H) : JX c (Exit.noGoto Q) .normal F H := ⟨h.h⟩
theorem JX.scopeR (h : JX c Q .ret F H) : JX c (Exit.noGoto Q) .ret F H := ⟨h.h⟩
theorem JX.scopeE (h : JX c Q (.exit id) F H) : JX c (Exit.noGoto Q) (.exit id) F H := ⟨h.h⟩

/-- The first frame knows all that the second knows. -/
def cov (F : SFrame) : SFrame → Prop
  | [] => True
  | (i, v) :: r => look F i = some v ∧ cov F r

theorem cov_look {F : SFrame} : ∀ {F' : SFrame}, cov F F' → ∀ i v, look F' i = some v → look F i = some v
  | [], _, i, v, h => by cases h
  | (j, u) :: r, hc, i, v, h => by
    simp only [look] at h
    cases hj : Nat.beq j i with
    | true => rw [hj] at h; simp only [cond_true, Option.some.injEq] at h; rw [← Nat.eq_of_beq_eq_true hj, ← h]; exact hc.1
    | false => rw [hj] at h; exact cov_look hc.2 i v h

/-- The blocks of the second are among those of the first, at these places. -/
def covH (H : SHeap) : SHeap → List Nat → Prop
  | [], [] => True
  | p :: r, k :: ks => H[k]? = some p ∧ covH H r ks
  | _, _ => False

theorem covH_mem {H : SHeap} : ∀ {H' : SHeap} {ks : List Nat}, covH H H' ks → ∀ p ∈ H', ∃ k ∈ ks, H[k]? = some p
  | [], [], _, p, hp => by cases hp
  | q :: r, k :: ks, h, p, hp => by
    rcases List.mem_cons.1 hp with rfl | hp
    · exact ⟨k, by simp, h.1⟩
    · obtain ⟨k', h1, h2⟩ := covH_mem h.2 p hp
      exact ⟨k', by simp [h1], h2⟩
  | [], _ :: _, h, _, _ => h.elim
  | _ :: _, [], h, _, _ => h.elim

theorem covH_nodup {H : SHeap} (hn : (H.map (·.1)).Nodup) : ∀ {H' : SHeap} {ks : List Nat}, covH H H' ks → ks.Nodup → (H'.map (·.1)).Nodup
  | [], [], _, _ => by simp
  | q :: r, k :: ks, h, hk => by
    rw [List.map_cons, List.nodup_cons]
    rw [List.nodup_cons] at hk
    refine ⟨fun hm => ?_, covH_nodup hn h.2 hk.2⟩
    obtain ⟨p, hp, he⟩ := List.mem_map.1 hm
    obtain ⟨k', hk', hp'⟩ := covH_mem h.2 p hp
    have h1 : (H.map (·.1))[k]? = some q.1 := by simp [h.1]
    have h2 : (H.map (·.1))[k']? = some q.1 := by simp [hp', he]
    have : k = k' := by
      have hl := (List.getElem?_eq_some_iff.1 h1).1
      exact (List.getElem?_inj hl hn).1 (h1.trans h2.symm)
    exact hk.1 (this ▸ hk')
  | [], _ :: _, h, _ => h.elim
  | _ :: _, [], h, _ => h.elim

theorem St.sub {F' : SFrame} {H' : SHeap} {a : Act} {w : World} (ks : List Nat) (h : St c F H a w) (hf : cov F F') (hh : covH H H' ks) (hk : ks.Nodup) : St c F' H' a w :=
  ⟨⟨h.fr.defers, h.fr.size, fun i v hl => h.fr.fr i v (cov_look hf i v hl)⟩, h.kp,
    ⟨covH_nodup h.hs.nd hh hk, fun p hp => by obtain ⟨k, _, hp'⟩ := covH_mem hh p hp; exact h.hs.blk p (List.mem_of_getElem? hp')⟩,
    fun p hp => by obtain ⟨k, _, hp'⟩ := covH_mem hh p hp; exact h.wr p (List.mem_of_getElem? hp')⟩

/-- A loop's relation, at a ghost: the frame, the heap, what holds; and the measure. -/
structure LInv (ι : Type) where
  F : ι → SFrame
  H : ι → SHeap
  p : ι → Prop
  m : ι → Nat

/-- What a round must achieve. -/
def LInv.next {ι : Type} (I : LInv ι) (c : Cx) (i : ι) (a : Act) (w : World) : Prop := ∃ n, n < I.m i ∧ ∃ j, I.p j ∧ I.m j = n ∧ St c (I.F j) (I.H j) a w

theorem JC.loop {ι : Type} (I : LInv ι) (i0 : ι) (ks : List Nat) (hp : I.p i0) (hf : cov F (I.F i0)) (hh : covH H (I.H i0) ks) (hk : ks.Nodup)
    (round : ∀ i, I.p i → JC c (Exit.then (I.next c i) Q) s (I.F i) (I.H i)) : JC c Q (.loop s) F H := by
  refine ⟨fun a w st => ?_⟩
  refine ⟨fun n a w => ∃ i, I.p i ∧ I.m i = n ∧ St c (I.F i) (I.H i) a w, ⟨I.m i0, i0, hp, rfl, st.sub ks hf hh hk⟩, ?_⟩
  rintro n a w ⟨i, hi, rfl, st⟩
  exact (round i hi).h a w st

theorem JX.round {ι : Type} {I : LInv ι} {i : ι} (j : ι) (ks : List Nat) (hp : I.p j) (hm : I.m j < I.m i) (hf : cov F (I.F j)) (hh : covH H (I.H j) ks) (hk : ks.Nodup) : JX c (Exit.then (I.next c i) Q) .normal F H :=
  ⟨fun _ _ st => ⟨I.m j, hm, j, hp, rfl, st.sub ks hf hh hk⟩⟩

/-- Forget: what the frame and the heap are known to be less. -/
theorem JC.sub {F' : SFrame} {H' : SHeap} (ks : List Nat) (hf : cov F F') (hh : covH H H' ks) (hk : ks.Nodup) (h : JC c Q s F' H') : JC c Q s F H := ⟨fun a w st => h.h a w (st.sub ks hf hh hk)⟩
theorem JX.sub {e : Exit} {F' : SFrame} {H' : SHeap} (ks : List Nat) (hf : cov F F') (hh : covH H H' ks) (hk : ks.Nodup) (h : JX c Q e F' H') : JX c Q e F H := ⟨fun a w st => h.h a w (st.sub ks hf hh hk)⟩

end

/-! ## Functions -/

/-- A call that returns. -/
def Ret (R : Value → World → Prop) : Ending → World → Prop
  | .returned v, w => R v w
  | _, _ => False

/-- What the end of a body must achieve; 'rs': where its results lie. -/
def endPost (P : Program) (rs : Array ResultVar) (R : Ending → World → Prop) : Exit → Act → World → Prop
  | .normal, a, w | .ret, a, w => a.defers = [] ∧ ∃ v, (results { (default : Func) with results := rs } a.tmps).run P w = .ok v w ∧ R (.returned v) w
  | .panic chain, a, w => a.defers = [] ∧ R (.panicked chain) w
  | .outgrown, _, w => R .outgrown w
  | _, _, _ => False

def zipF : Nat → List Value → SFrame
  | _, [] => []
  | i, v :: r => (i, v) :: zipF (i + 1) r

theorem zipF_look : ∀ (vs : List Value) (k i : Nat) (v : Value), look (zipF k vs) i = some v → k ≤ i ∧ vs[i - k]? = some v
  | [], _, _, _, h => by cases h
  | u :: r, k, i, v, h => by
    simp only [zipF, look] at h
    cases hk : Nat.beq k i with
    | true => rw [hk] at h; simp only [cond_true, Option.some.injEq] at h; have := Nat.eq_of_beq_eq_true hk; subst this; simp [h]
    | false =>
      rw [hk] at h
      obtain ⟨h1, h2⟩ := zipF_look r (k + 1) i v h
      refine ⟨by omega, ?_⟩
      rw [show i - k = (i - (k + 1)) + 1 from by omega]
      simpa using h2

theorem calls_of_S {P : Program} {f : FuncId} {fn : Func} {s : Code} {args : Array Value} {w : World} {R : Ending → World → Prop} {n : Nat} {rs : Array ResultVar} (od : List Od) (M : List Nat) (hM : ∀ k ∈ M, k < w.heap.size)
    (H : SHeap) (hf : P.funcs[f]? = some fn) (hb : fn.body = some s) (hm : P.follows .mixedOrders = true) (hk : okS P od s = true)
    (hn : fn.ntmps = n) (hrs : fn.results = rs) (hF : Nat.ble args.size n = true) (hH : Hsat H w) (hwr : ∀ p ∈ H, p.1 ∈ M)
    (h : JC ⟨P, n, w, M, hM⟩ (endPost P rs R) (toS od s) (zipF 0 args.toList) H) : Calls P f args w R := by
  subst hn hrs
  have hF := Nat.le_of_ble_eq_true hF
  refine calls_of_wp hf hb ?_
  refine Code.wp_mono ?_ (wp_of_toS (c := ⟨P, fn.ntmps, w, M, hM⟩) od hm s _ _ _ hk (h.h _ _ ⟨⟨rfl, ?_, fun i v hl => ?_⟩, Kp.refl _ _, hH, fun p hp => .inr (hwr p hp)⟩))
  · intro e a w hq
    cases e <;> exact hq
  · simp; omega
  · obtain ⟨_, h1⟩ := zipF_look _ _ _ _ hl
    have h1 : args[i]? = some v := by simpa using h1
    have h2 : i < args.size := by
      rcases Nat.lt_or_ge i args.size with h | h
      · exact h
      · rw [Array.getElem?_eq_none h] at h1; cases h1
    rw [Array.getElem?_append_left h2]; exact h1

end Go.Proofs.YtdehklhdjbkneaaDoor
