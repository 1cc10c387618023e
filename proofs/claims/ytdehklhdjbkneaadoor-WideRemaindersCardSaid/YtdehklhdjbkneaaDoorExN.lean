/- Regions in which two operations may come up in either order: each of the two orders is shown. -/
import Derived.Test.YtdehklhdjbkneaaDoorExI
namespace Go.Proofs.YtdehklhdjbkneaaDoor
open Go Go.RowKit
set_option linter.unusedSimpArgs false
set_option linter.unusedVariables false
set_option linter.unusedSectionVars false

section
variable {P : Program} {ops : Array Oper}

/-- The same operations; that at j waits for that at i. -/
def edge (ops : Array Oper) (i j : Nat) : Array Oper := ops.modify j fun o => { o with after := o.after.push ⟨i, .data⟩ }

theorem edge_size {i j : Nat} : (edge ops i j).size = ops.size := by simp [edge]
theorem edge_get {i j k : Nat} : (edge ops i j)[k]? = (ops[k]?).map fun o => if k = j then { o with after := o.after.push ⟨i, .data⟩ } else o := by
  unfold edge
  rw [Array.getElem?_modify]
  by_cases h : j = k
  · subst h; simp
  · rw [if_neg h]
    have h' : ¬ k = j := fun e => h e.symm
    simp [h']

theorem edge_yielded {i j : Nat} (tmps : Array Value) : yielded (edge ops i j) tmps = yielded ops tmps := by
  funext g
  unfold yielded
  rw [edge_get]
  cases ops[g]? with
  | none => rfl
  | some o =>
    simp only [Option.map_some, Option.bind_some]
    by_cases h : g = j
    · simp only [if_pos h]
    · simp only [if_neg h]

theorem execOp_after (ρ : Operand → Value) (o : Oper) (af : Array Edge) : execOp ρ { o with after := af } = execOp ρ o := by
  obtain ⟨dst, op, type, pos, after, guard⟩ := o
  cases op <;> rfl

theorem wpOps_edge {Q : Exit → Act → World → Prop} {i j : Nat} : ∀ (l : List Nat) (a : Act) (w : World), wpOps P (edge ops i j) Q l a w → wpOps P ops Q l a w
  | [], _, _, h => h
  | k :: l, a, w, h => by
    have ih : wpOps P (edge ops i j) Q l = wpOps P (edge ops i j) Q l := rfl
    unfold wpOps at h ⊢
    rw [edge_get] at h
    cases ho : ops[k]? with
    | none => rw [ho] at h; exact wpOps_edge l a w h
    | some o =>
      rw [ho] at h
      simp only [Option.map_some] at h ⊢
      rw [edge_yielded] at h
      have hw : Region.wanted (if k = j then { o with after := o.after.push ⟨i, .data⟩ } else o) (yielded ops a.tmps) = Region.wanted o (yielded ops a.tmps) := by
        split <;> rfl
      have hd : (if k = j then { o with after := o.after.push ⟨i, .data⟩ } else o).dst = o.dst := by split <;> rfl
      have hwp : ∀ K, (if k = j then { o with after := o.after.push ⟨i, .data⟩ } else o).wp P a w K Q = o.wp P a w K Q := fun K => by
        split
        · unfold Oper.wp
          rw [execOp_after]
          have : (Oper.upon P { o with after := o.after.push ⟨i, .data⟩ } a K Q) = (Oper.upon P o a K Q) := by
            funext r; unfold Oper.upon; rfl
          rw [this]
        · rfl
      have has : (if k = j then { o with after := o.after.push ⟨i, .data⟩ } else o).asks P a w = o.asks P a w := by
        split
        · unfold Oper.asks
          rw [execOp_after]
        · rfl
      rw [hw, hd, hwp, has] at h
      split
      · rename_i hq
        rw [if_pos hq] at h
        rcases h with h | h
        · exact .inl (Oper.wp_mono (fun a w => wpOps_edge l a w) h)
        · exact .inr h
      · rename_i hq
        rw [if_neg hq] at h
        exact wpOps_edge l _ _ h

/-- An order in which the operations may come up. -/
def Ordr (ops : Array Oper) : Nat → Array Bool → List Nat → Prop
  | 0, _, l => l = []
  | f + 1, listed, l => (Region.ready .any ops listed = [] ∧ l = []) ∨ ∃ k l', k ∈ Region.ready .any ops listed ∧ l = k :: l' ∧ Ordr ops f (listed.setIfInBounds k true) l'

theorem go_step (f t : Nat) (listed : Array Bool) : Region.linearise.go .any ops (f + 1) t listed [] = match (Region.ready .any ops listed)[t % (Region.ready .any ops listed).length]? with
    | some i => i :: Region.linearise.go .any ops f (t / (Region.ready .any ops listed).length) (listed.setIfInBounds i true) []
    | none => [] := by
  simp only [Region.linearise.go]
  change (match (Region.ready .any ops listed)[t % (Region.ready .any ops listed).length]? with
      | some i => Region.linearise.go .any ops f (t / (Region.ready .any ops listed).length) (listed.setIfInBounds i true) [i]
      | none => [].reverse) = _
  cases (Region.ready .any ops listed)[t % (Region.ready .any ops listed).length]? with
  | none => rfl
  | some i => simp only []; rw [linearise_go_acc]; rfl

theorem ordr_go : ∀ (f t : Nat) (listed : Array Bool), Ordr ops f listed (Region.linearise.go .any ops f t listed [])
  | 0, _, _ => rfl
  | f + 1, t, listed => by
    rw [go_step]
    cases hi : (Region.ready .any ops listed)[t % (Region.ready .any ops listed).length]? with
    | none =>
      refine .inl ⟨?_, rfl⟩
      cases hr : Region.ready .any ops listed with
      | nil => rfl
      | cons x xs =>
        rw [hr] at hi
        have hlt : t % (x :: xs).length < (x :: xs).length := Nat.mod_lt _ (by simp)
        rw [List.getElem?_eq_getElem hlt] at hi
        cases hi
    | some i => exact .inr ⟨i, _, List.mem_of_getElem? hi, rfl, ordr_go f _ _⟩

theorem go_ordr : ∀ (f : Nat) (listed : Array Bool) (l : List Nat), Ordr ops f listed l → ∃ t, Region.linearise.go .any ops f t listed [] = l
  | 0, _, l, h => ⟨0, by rw [show l = [] from h]; rfl⟩
  | f + 1, listed, l, h => by
    rcases h with ⟨hr, rfl⟩ | ⟨k, l', hk, rfl, h⟩
    · exact ⟨0, by rw [go_step, hr]; rfl⟩
    · obtain ⟨t, ht⟩ := go_ordr f _ l' h
      obtain ⟨n, hn, hkn⟩ := List.mem_iff_getElem.1 hk
      refine ⟨n + (Region.ready .any ops listed).length * t, ?_⟩
      rw [go_step, Nat.add_mul_mod_self_left, Nat.mod_eq_of_lt hn, List.getElem?_eq_getElem hn, hkn, Nat.add_mul_div_left _ _ (by omega), Nat.div_eq_of_lt hn, Nat.zero_add]
      simp only [ht]

theorem ready_edge {i j k : Nat} {listed : Array Bool} : k ∈ Region.ready .any (edge ops i j) listed ↔ k ∈ Region.ready .any ops listed ∧ (k = j → listed.getD i false = true) := by
  rw [mem_ready, mem_ready, edge_get]
  cases ops[k]? with
  | none => simp
  | some o =>
    simp only [Option.map_some, Option.some.injEq, exists_eq_left']
    by_cases h : k = j
    · subst h
      simp only [if_true, true_implies]
      constructor
      · rintro ⟨h1, h2⟩
        exact ⟨⟨h1, fun e he => h2 e (by simp [he])⟩, h2 ⟨i, .data⟩ (by simp) rfl⟩
      · rintro ⟨⟨h1, h2⟩, h3⟩
        refine ⟨h1, fun e he hb => ?_⟩
        rcases Array.mem_push.1 he with he | rfl
        · exact h2 e he hb
        · exact h3
    · simp [h]

theorem listed_set {listed : Array Bool} {i k : Nat} (h : listed.getD i false = true) : (listed.setIfInBounds k true).getD i false = true := by
  by_cases hki : k = i
  · subst hki
    have : k < listed.size := by
      rcases Nat.lt_or_ge k listed.size with h' | h'
      · exact h'
      · simp [Array.getElem?_eq_none h'] at h
    simp [this]
  · simpa [hki] using h

theorem ordr_edge {i j : Nat} : ∀ (f : Nat) (listed : Array Bool) (l : List Nat), listed.getD i false = true → Ordr ops f listed l → Ordr (edge ops i j) f listed l
  | 0, _, _, _, h => h
  | f + 1, listed, l, hi, h => by
    have hr : ∀ k, k ∈ Region.ready .any (edge ops i j) listed ↔ k ∈ Region.ready .any ops listed := fun k => by rw [ready_edge]; simp [hi]
    rcases h with ⟨h1, rfl⟩ | ⟨k, l', hk, rfl, h⟩
    · refine .inl ⟨?_, rfl⟩
      cases hq : Region.ready .any (edge ops i j) listed with
      | nil => rfl
      | cons x xs =>
        have := (hr x).1 (by rw [hq]; simp)
        rw [h1] at this; cases this
    · exact .inr ⟨k, l', (hr k).2 hk, rfl, ordr_edge f _ l' (listed_set hi) h⟩

theorem set_listed {listed : Array Bool} {k : Nat} (hk : k ∈ Region.ready .any ops listed) : (listed.setIfInBounds k true).getD k false = true := by
  have h := (mem_ready.1 hk).1
  have : k < listed.size := by
    rcases Nat.lt_or_ge k listed.size with h' | h'
    · exact h'
    · simp [Array.getElem?_eq_none h'] at h
  simp [this]

theorem ordr_fork {i j : Nat} (hij : i ≠ j) : ∀ (f : Nat) (listed : Array Bool) (l : List Nat), Ordr ops f listed l → Ordr (edge ops i j) f listed l ∨ Ordr (edge ops j i) f listed l
  | 0, _, _, h => .inl h
  | f + 1, listed, l, h => by
    rcases h with ⟨h1, rfl⟩ | ⟨k, l', hk, rfl, h⟩
    · refine .inl (.inl ⟨?_, rfl⟩)
      cases hq : Region.ready .any (edge ops i j) listed with
      | nil => rfl
      | cons x xs =>
        have := (ready_edge.1 (show x ∈ Region.ready .any (edge ops i j) listed by rw [hq]; simp)).1
        rw [h1] at this; cases this
    · by_cases hki : k = i
      · subst hki
        exact .inl (.inr ⟨k, l', ready_edge.2 ⟨hk, fun e => absurd e hij⟩, rfl, ordr_edge f _ l' (set_listed hk) h⟩)
      · by_cases hkj : k = j
        · subst hkj
          exact .inr (.inr ⟨k, l', ready_edge.2 ⟨hk, fun e => absurd e.symm hij⟩, rfl, ordr_edge f _ l' (set_listed hk) h⟩)
        · rcases ordr_fork hij f _ l' h with h | h
          · exact .inl (.inr ⟨k, l', ready_edge.2 ⟨hk, fun e => absurd e hkj⟩, rfl, h⟩)
          · exact .inr (.inr ⟨k, l', ready_edge.2 ⟨hk, fun e => absurd e hki⟩, rfl, h⟩)
end

section
variable {c : Cx} {Q : Exit → Act → World → Prop} {F : SFrame} {H : SHeap}

theorem any_of_canon {kd : Nat → Op → Kind} {tail : Nat} {order : List Nat} {ops : Array Oper} {Hs : SHeap} {a : Act} {w : World}
    (hB : canonB c.P kd ops order tail = true) (st : St c F H a w) (hHs : Hsat Hs w) (h : JL c (Q .normal) (.draw Hs true) (sopsAt kd ops tail order) F H) :
    wpAny c.P .any ops (Only (Q .normal)) ops.size (Array.replicate ops.size false) a { w with drawn := w.drawn + 1 } := by
  simp only [canonB, Bool.and_eq_true] at hB
  obtain ⟨hs, ht, hal, hl, hc, hu⟩ := hB
  have hl : order.length = ops.size := by simpa using hl
  refine wpAny_of_C (kd := kd) (S := Src c Hs) _ _ _ _ ?_
  have st' : St c F H a { w with drawn := w.drawn + 1 } := ⟨st.fr, st.kp.trans (Kp.drew _ _), st.hs.kp (Kp.drew [] w) (by simp), st.wr⟩
  have hU : ∀ i, i < ops.size → isU c.P kd ops i = true → apartU c.P kd ops (Array.replicate ops.size false) i = true := fun i hi hx => by
    have := List.all_eq_true.1 hu i (List.mem_range.2 hi)
    simpa [hx] using this
  refine sim (Q := Only (Q .normal)) (K := Q .normal) hs hU (fun a w h => h) (fun ch a a' w h => h.elim) order _ hc ht ops.size true _ H F (fun _ => none) a a _ h ?_ ?_
  · refine ⟨st', fun _ => hHs.kp (Kp.drew [] w) (by simp), ⟨rfl, rfl, (fun e ob o d h => by cases h), fun s _ => rfl⟩, ⟨fun e ob h => (by cases h), fun e ob h => (by cases h), fun e ob o h => (by cases h), fun e ob o h => (by cases h), fun e b o h => (by cases h), fun e b h => (by cases h),
      fun e e' b h => by cases h⟩, by simp, by simp, fun j hj => by simp, fun j hj _ => ?_, .inl rfl⟩
    have := List.all_eq_true.1 hal j (List.mem_range.2 hj)
    simpa using this
  · exact hl ▸ List.countP_le_length

theorem sopsAt_edge {kd : Nat → Op → Kind} {ops : Array Oper} {i j tail : Nat} : ∀ l, sopsAt kd (edge ops i j) tail l = sopsAt kd ops tail l
  | [] => rfl
  | k :: l => by
    have ho : ∀ (kk : Kind) (ns : Bool) (o : Oper), toSOp (edge ops i j) kk ns o = toSOp ops kk ns o := fun kk ns o => by
      unfold toSOp
      cases hg : o.guard with
      | none => rfl
      | some g =>
        obtain ⟨g, want⟩ := g
        simp only []
        rw [edge_get]
        cases ops[g]? with
        | none => rfl
        | some o' =>
          simp only [Option.map_some]
          split <;> rfl
    simp only [sopsAt, edge_get]
    cases ops[k]? with
    | none => exact sopsAt_edge l
    | some o =>
      simp only [Option.map_some]
      rw [sopsAt_edge l, ho]
      split <;> rfl

/-- A region in which i and j may come up in either order. -/
theorem JC.fork {id : Nat} {ops : Array Oper} (i j : Nat) (kd : Nat → Op → Kind) (t1 t2 : Nat) (o1 o2 : List Nat) (hij : i ≠ j) (hm : c.P.follows .mixedOrders = true)
    (hB1 : canonB c.P kd (edge ops i j) o1 t1 = true) (hB2 : canonB c.P kd (edge ops j i) o2 t2 = true)
    (h1 : JO c Q (.draw H true) (sopsAt kd ops t1 o1) F H) (h2 : JO c Q (.draw H true) (sopsAt kd ops t2 o2) F H) : JC c Q (.raw (.region id ops true)) F H := ⟨fun a w st => by
  show (Code.region id ops true).wp c.P Q a w
  refine wp_mono ?_ (fun e a w h => Only.up e a w h)
  have a1 := any_of_canon (Q := Q) hB1 st st.hs (by rw [sopsAt_edge]; exact h1.h)
  have a2 := any_of_canon (Q := Q) hB2 st st.hs (by rw [sopsAt_edge]; exact h2.h)
  rw [edge_size] at a1 a2
  refine wp_region_draw fun t => ?_
  simp only [Region.schedule, hm, Bool.true_or, if_true]
  rcases ordr_fork hij _ _ _ (ordr_go (ops := ops) ops.size t (Array.replicate ops.size false)) with h | h
  · obtain ⟨t', ht⟩ := go_ordr _ _ _ h
    have := wpAny_sound ops.size t' _ a _ a1
    rw [ht] at this
    exact wpOps_edge _ _ _ this
  · obtain ⟨t', ht⟩ := go_ordr _ _ _ h
    have := wpAny_sound ops.size t' _ a _ a2
    rw [ht] at this
    exact wpOps_edge _ _ _ this⟩
end

/-! ## Code of which some regions are kept as they are -/

def inR : List Nat → Nat → Bool
  | [], _ => false
  | x :: l, n => bif x == n then true else inR l n

def toR (rs : List Nat) (od : List Od) : Code → SCode
  | .region id ops d => bif inR rs id then .raw (.region id ops d) else toS od (.region id ops d)
  | .skip => .skip
  | .seq a b => .seq (toR rs od a) (toR rs od b)
  | .cond c a b => .cond c (toR rs od a) (toR rs od b)
  | .block id c => .block id (toR rs od c)
  | .loop c => .loop (toR rs od c)
  | .exit id => .exit id
  | .scope c => .scope (toR rs od c)
  | .ret => .ret
  | c => .raw c

def okR (P : Program) (rs : List Nat) (od : List Od) : Code → Bool
  | .region id ops d => inR rs id || okS P od (.region id ops d)
  | .seq a b => okR P rs od a && okR P rs od b
  | .cond _ a b => okR P rs od a && okR P rs od b
  | .block _ c => okR P rs od c
  | .loop c => okR P rs od c
  | .scope c => okR P rs od c
  | _ => true

theorem wp_of_toR {c : Cx} (rs : List Nat) (od : List Od) (hm : c.P.follows .mixedOrders = true) : ∀ (s : Code) (Q : Exit → Act → World → Prop) (a : Act) (w : World),
    okR c.P rs od s = true → (toR rs od s).wp c Q a w → s.wp c.P Q a w
  | .skip, Q, a, w, _, h => wp_skip h
  | .region id ops d, Q, a, w, hk, h => by
    unfold toR at h
    unfold okR at hk
    cases hr : inR rs id with
    | true => rw [hr] at h; exact h
    | false => rw [hr] at h hk; exact wp_of_toS od hm _ Q a w (by simpa using hk) h
  | .seq x y, Q, a, w, hk, h => by
    simp only [okR, Bool.and_eq_true] at hk
    refine wp_seq (wp_of_toR rs od hm x _ a w hk.1 ?_)
    refine wp_of_toS.wp_mono' (fun e a w hq => ?_) h
    cases e <;> first | exact hq | exact wp_of_toR rs od hm y _ _ _ hk.2 hq
  | .cond x y z, Q, a, w, hk, h => by
    simp only [okR, Bool.and_eq_true] at hk
    obtain ⟨t, hc, h1, h2⟩ := h
    exact wp_cond_split hc (fun ht => wp_of_toR rs od hm y _ _ _ hk.1 (h1 ht)) (fun ht => wp_of_toR rs od hm z _ _ _ hk.2 (h2 ht))
  | .block id s, Q, a, w, hk, h => wp_block (wp_of_toR rs od hm s _ _ _ hk h)
  | .loop s, Q, a, w, hk, h => by
    obtain ⟨I, ⟨n, h0⟩, hr⟩ := h
    exact wp_loop_ghost I n h0 fun n a w hi => wp_of_toR rs od hm s _ _ _ hk (hr n a w hi)
  | .exit id, Q, a, w, _, h => wp_exit h
  | .scope s, Q, a, w, hk, h => wp_scope_straight (wp_of_toR rs od hm s _ _ _ hk h)
  | .ret, Q, a, w, _, h => wp_ret h
  | .label _, _, _, _, _, h => h
  | .goto _, _, _, _, _, h => h
  | .refuse _, _, _, _, _, h => h
  | .rangeFunc .., _, _, _, _, h => h

theorem calls_of_R {P : Program} {f : FuncId} {fn : Func} {s : Code} {args : Array Value} {w : World} {R : Ending → World → Prop} {n : Nat} {rs : Array ResultVar} (raws : List Nat) (od : List Od) (M : List Nat) (hM : ∀ k ∈ M, k < w.heap.size)
    (H : SHeap) (hf : P.funcs[f]? = some fn) (hb : fn.body = some s) (hm : P.follows .mixedOrders = true) (hk : okR P raws od s = true)
    (hn : fn.ntmps = n) (hrs : fn.results = rs) (hF : Nat.ble args.size n = true) (hH : Hsat H w) (hwr : ∀ p ∈ H, p.1 ∈ M)
    (h : JC ⟨P, n, w, M, hM⟩ (endPost P rs R) (toR raws od s) (zipF 0 args.toList) H) : Calls P f args w R := by
  subst hn hrs
  have hF := Nat.le_of_ble_eq_true hF
  refine calls_of_wp hf hb ?_
  refine Code.wp_mono ?_ (wp_of_toR (c := ⟨P, fn.ntmps, w, M, hM⟩) raws od hm s _ _ _ hk (h.h _ _ ⟨⟨rfl, ?_, fun i v hl => ?_⟩, Kp.refl _ _, hH, fun p hp => .inr (hwr p hp)⟩))
  · intro e a w hq
    cases e <;> exact hq
  · simp; omega
  · obtain ⟨_, h1⟩ := zipF_look _ _ _ _ hl
    have h1 : args[i]? = some v := by simpa using h1
    have h2 : i < args.size := by
      rcases Nat.lt_or_ge i args.size with h | h
      · exact h
      · rw [Array.getElem?_eq_none h] at h1; cases h1
    rw [Array.getElem?_append_left h2]; exact h1

end Go.Proofs.YtdehklhdjbkneaaDoor
