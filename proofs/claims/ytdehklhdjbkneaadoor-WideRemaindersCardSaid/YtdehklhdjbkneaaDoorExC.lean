/- The simulation: a region that draws its order, run in whatever order, against its canonical order. -/
import Derived.Test.YtdehklhdjbkneaaDoorExB
namespace Go.Proofs.YtdehklhdjbkneaaDoor
open Go Go.RowKit
set_option linter.unusedSimpArgs false
set_option linter.unusedVariables false
set_option linter.unusedSectionVars false

section
variable {c : Cx} {ops : Array Oper} {kd : Nat → Op → Kind} {Q : Exit → Act → World → Prop} {K : Act → World → Prop} {Hs : SHeap} {tail : Nat}

theorem apart_symm {x y : Oper} (h : x.apart ops y = true) : y.apart ops x = true := by
  obtain ⟨h1, h2, h3⟩ := Oper.apart_spec h
  unfold Oper.apart
  cases hx : x.dst with
  | none => cases hy : y.dst with
    | none => simp
    | some e => simpa [hx] using h3 e hy
  | some d => cases hy : y.dst with
    | none => simpa using h1 d hx
    | some e =>
      have a1 := h1 d hx
      have a2 := h2 d hx
      have a3 := h3 e hy
      rw [hy] at a2
      simp only [ne_eq, Option.some.injEq] at a2
      simp only [Bool.and_eq_true, Bool.not_eq_true', List.contains_eq_mem, decide_eq_false_iff_not, bne_iff_ne, ne_eq, Option.some.injEq]
      exact ⟨⟨a3, fun e' => a2 e'.symm⟩, a1⟩

theorem countP_step {p q : Nat → Bool} : ∀ {l : List Nat} {j : Nat}, (∀ x, p x = true → q x = true) → j ∈ l → q j = true → p j = false → l.countP p + 1 ≤ l.countP q
  | [], _, _, hj, _, _ => by cases hj
  | x :: l, j, hpq, hj, hq, hp => by
    have mono : l.countP p ≤ l.countP q := List.countP_mono_left fun x _ h => hpq x h
    rcases List.mem_cons.1 hj with rfl | hj
    · simp only [List.countP_cons, hq, hp, if_true, Bool.false_eq_true, if_false]
      omega
    · have := countP_step hpq hj hq hp
      simp only [List.countP_cons]
      have hx := hpq x
      cases hpx : p x <;> cases hqx : q x <;> simp_all <;> omega

theorem Rel.nil {E : Early} {ac a : Act} (h : Rel c.P ops E ac a) (hE : ∀ e, E e = none) : a = ac := by
  have h1 : a.tmps = ac.tmps := by
    apply Array.ext_getElem?
    intro s
    exact h.miss s fun e ob o he _ => by rw [hE e] at he; cases he
  obtain ⟨t, d⟩ := a
  obtain ⟨t', d'⟩ := ac
  simp only at h1
  have := h.defers
  simp only at this
  rw [h1, this]

def dropE (E : Early) (i : Nat) : Early := fun j => if j = i then none else E j
def addE (E : Early) (i : Nat) (ob : Option Nat) : Early := fun j => if j = i then some ob else E j

theorem Rel.consume {E : Early} {ac a : Act} (h : Rel c.P ops E ac a) {i : Nat} {ob : Option Nat} {o : Oper} (hi : E i = some ob) (ho : ops[i]? = some o)
    (hap : ∀ e ob' oe, E e = some ob' → e ≠ i → ops[e]? = some oe → oe.apart ops o = true) : Rel c.P ops (dropE E i) (ac.put o.dst (valE c.P ops i ob)) a := by
  refine ⟨by rw [h.defers]; cases o.dst <;> rfl, by rw [h.size]; cases o.dst <;> simp [Act.put], fun e ob' oe d he hoe hd hlt => ?_, fun s hs => ?_⟩
  · have hne : e ≠ i := fun e' => by subst e'; simp [dropE] at he
    have he' : E e = some ob' := by simpa [dropE, hne] using he
    exact h.hit e ob' oe d he' hoe hd (by cases hod : o.dst <;> simpa [Act.put, hod] using hlt)
  · by_cases hos : o.dst = some s
    · rw [hos]
      simp only [Act.put]
      by_cases hlt : s < ac.tmps.size
      · rw [h.hit i ob o s hi ho hos hlt]; simp [hlt]
      · have h0 : ac.tmps.size ≤ s := Nat.le_of_not_lt hlt
        have h1 : a.tmps.size ≤ s := Nat.le_trans (Nat.le_of_eq h.size) h0
        rw [Array.getElem?_eq_none h1, Array.getElem?_eq_none (by simpa using h0)]
    · have hm := h.miss s fun e ob' oe he hoe hd => by
        by_cases hne : e = i
        · subst hne; rw [hoe] at ho; cases ho; exact hos hd
        · exact hs e ob' oe (by simpa [dropE, hne] using he) hoe hd
      rw [hm]
      cases hod : o.dst with
      | none => rfl
      | some d =>
        have hds : d ≠ s := fun e => hos (by rw [hod, e])
        simp only [Act.put]
        rw [Array.getElem?_setIfInBounds_ne hds]

theorem Rel.add {E : Early} {ac a : Act} (h : Rel c.P ops E ac a) {i : Nat} (ob : Option Nat) {o : Oper} (ho : ops[i]? = some o)
    (hap : ∀ e ob' oe, E e = some ob' → e ≠ i → ops[e]? = some oe → oe.apart ops o = true) : Rel c.P ops (addE E i ob) ac (a.put o.dst (valE c.P ops i ob)) := by
  refine ⟨by rw [← h.defers]; cases o.dst <;> rfl, by rw [← h.size]; cases o.dst <;> simp [Act.put], fun e ob' oe d he hoe hd hlt => ?_, fun s hs => ?_⟩
  · by_cases hne : e = i
    · subst hne
      rw [ho] at hoe; cases hoe
      simp only [addE, if_true, Option.some.injEq] at he
      subst he
      rw [hd]
      simp only [Act.put]
      have : d < a.tmps.size := by rw [h.size]; exact hlt
      simp [this]
    · have he' : E e = some ob' := by simpa [addE, hne] using he
      have hh := h.hit e ob' oe d he' hoe hd hlt
      have hdd := (Oper.apart_spec (hap e ob' oe he' hne hoe)).2.1 d hd
      cases hod : o.dst with
      | none => exact hh
      | some d' =>
        have hne' : d' ≠ d := fun e => hdd (by rw [hod, e])
        simp only [Act.put]
        rw [Array.getElem?_setIfInBounds_ne hne']
        exact hh
  · have hos : o.dst ≠ some s := hs i ob o (by simp [addE]) ho
    have hm := h.miss s fun e ob' oe he hoe hd => by
      by_cases hne : e = i
      · subst hne; rw [hoe] at ho; cases ho; exact hos hd
      · exact hs e ob' oe (by simpa [addE, hne] using he) hoe hd
    cases hod : o.dst with
    | none => exact hm
    | some d =>
      have hds : d ≠ s := fun e => hos (by rw [hod, e])
      simp only [Act.put]
      rw [Array.getElem?_setIfInBounds_ne hds]
      exact hm

theorem valE_alloc {P : Program} {i b : Nat} {o : Oper} {obj : Obj} {mk : Nat → Value} (ho : ops[i]? = some o) (h : ∀ ρ : Operand → Value, (∀ v, ρ (.const v) = v) → allocOf P o.op ρ = some (obj, mk)) : valE P ops i (some b) = mk b := by
  unfold valE
  simp [ho, h constρ (fun _ => rfl)]

theorem sim (hsel : Region.noSelect ops = true) (hUU : ∀ i, i < ops.size → isU c.P kd ops i = true → apartU c.P kd ops (Array.replicate ops.size false) i = true)
    (hK : ∀ a w, K a w → Q .normal a w) (hQ : ∀ ch a a' w, Q (.panic ch) a w → Q (.panic ch) a' w) :
    ∀ (r : List Nat) (lc : Array Bool), canonGo c.P kd ops r lc = true → tailOk kd ops tail r = true →
      ∀ (fuel : Nat) (live : Bool) (listed : Array Bool) (H : SHeap) (F : SFrame) (E : Early) (ac a : Act) (w : World),
        JL c K (.draw Hs live) (sopsAt kd ops tail r) F H → Sim c kd ops Hs live r lc listed H F E ac a w (noAllocs (sopsAt kd ops tail r)) →
        r.countP (fun j => (E j).isNone) ≤ fuel → wpAnyC c.P kd ops Q (Src c Hs) fuel listed a w := by
  have hselS := Region.noSelect_spec hsel
  have hUA : ∀ i e, isU c.P kd ops i = true → isU c.P kd ops e = true → e ≠ i → apart2 ops i e = true := fun i e hi he hne => by
    obtain ⟨o, ho, _⟩ := isU_spec hi
    obtain ⟨oe, hoe, _⟩ := isU_spec he
    have hil := (Array.getElem?_eq_some_iff.1 ho).1
    have hel := (Array.getElem?_eq_some_iff.1 hoe).1
    exact apartU_spec (hUU i hil hi) hne (by simp [hel]) he
  intro r
  induction r with
  | nil =>
    intro lc hc _ fuel live listed H F E ac a w hj hs hf
    have hE : ∀ e, E e = none := fun e => by
      cases he : E e with
      | none => rfl
      | some ob =>
        obtain ⟨o, ho, _⟩ := isU_spec (hs.e.isU e ob he)
        have := hs.all e (Array.getElem?_eq_some_iff.1 ho).1 (hs.e.un e ob he)
        cases this
    have hlc : ∀ j, j < ops.size → listed.getD j false = true := fun j hj => by
      rw [hs.l j hj]
      cases h : lc.getD j true with
      | false => exact absurd (hs.all j hj h) (by simp)
      | true => rw [getD_lt (by rw [hs.lcz]; exact hj) true false] at h; simp [h]
    have hr := ready_nil hs.lsz hlc
    obtain rfl := hs.rel.nil hE
    have hq := hK _ _ (hj a w hs.st)
    cases fuel with
    | zero => exact ⟨hr, hq⟩
    | succ f => exact ⟨fun _ => hq, fun i hi => by rw [hr] at hi; cases hi⟩
  | cons i r ihr =>
    intro lc hc ht
    have hnr : i ∉ r := fun hm => by
      have hc' := hc
      simp only [canonGo, Bool.and_eq_true] at hc'
      have h1 := canonGo_unlisted r _ hc'.2 i hm
      have h2 := canonGo_unlisted _ _ hc i (by simp)
      have hlt : i < lc.size := by
        rcases Nat.lt_or_ge i lc.size with h | h
        · exact h
        · simp [Array.getElem?_eq_none h] at h2
      simp [hlt] at h1
    have hiun := canonGo_unlisted _ _ hc i (by simp)
    simp only [canonGo, Bool.and_eq_true] at hc
    obtain ⟨hc1, hc2⟩ := hc
    simp only [tailOk, Bool.and_eq_true] at ht
    obtain ⟨ht1, ht2⟩ := ht
    cases ho : ops[i]? with
    | none => rw [ho] at hc1; cases hc1
    | some o =>
    rw [ho] at hc1
    simp only [Bool.and_eq_true] at hc1
    obtain ⟨hrdy, hc1⟩ := hc1
    have hrdy : i ∈ Region.ready .any ops lc := by simpa using hrdy
    have hilt : i < ops.size := (Array.getElem?_eq_some_iff.1 ho).1
    have hso : sopsAt kd ops tail (i :: r) = toSOp ops (kd i o.op) (Nat.blt tail (r.length + 1)) o :: sopsAt kd ops tail r := by simp only [sopsAt, ho]
    have ih := ihr (lc.setIfInBounds i true) hc2 ht2
    generalize hns : Nat.blt tail (r.length + 1) = ns at hso ht1
    have hnsS : nsOf kd ops i = true → ns = true := fun h => by
      rw [h] at ht1
      simpa using ht1
    -- common parts of the next state
    have step_l : ∀ {live listed H F E ac a w noA}, Sim c kd ops Hs live (i :: r) lc listed H F E ac a w noA → E i = none →
        ∀ j, j < ops.size → (listed.setIfInBounds i true).getD j false = ((lc.setIfInBounds i true).getD j false || (E j).isSome) := by
      intro live listed H F E ac a w noA hs _ j hj
      rw [getD_set (by rw [hs.lsz]; exact hilt), getD_set (by rw [hs.lcz]; exact hilt), hs.l j hj]
      cases lc.getD j false <;> cases (E j).isSome <;> simp
    have step_all : ∀ {live listed H F E ac a w noA}, Sim c kd ops Hs live (i :: r) lc listed H F E ac a w noA →
        ∀ j, j < ops.size → (lc.setIfInBounds i true).getD j true = false → j ∈ r := by
      intro live listed H F E ac a w noA hs j hj h
      have hji : i ≠ j := fun e => by
        subst e
        have : i < lc.size := by rw [hs.lcz]; exact hilt
        simp [this] at h
      rw [getD_set_ne true hji] at h
      rcases List.mem_cons.1 (hs.all j hj h) with rfl | h'
      · exact absurd rfl hji
      · exact h'
    have step_un : ∀ {E : Early} (_ : E i = none) {e ob}, E e = some ob → lc.getD e true = false → (lc.setIfInBounds i true).getD e true = false := by
      intro E hEi e ob he h
      have : i ≠ e := fun e' => by subst e'; rw [hEi] at he; cases he
      rw [getD_set_ne true this]; exact h
    have lv_next : ∀ {live : Bool}, (live = true ∨ noAllocs (sopsAt kd ops tail (i :: r)) = true) → (live = true ∨ noAllocs (sopsAt kd ops tail r) = true) := by
      intro live h
      rcases h with h | h
      · exact .inl h
      refine .inr ?_
      rw [hso] at h
      simp only [noAllocs, List.all_cons, Bool.and_eq_true] at h
      exact h.2
    intro fuel live listed H F E ac a w hj hs hf
    -- the early ones are apart from i, if i is not among them
    have hjl := hj
    rw [hso] at hjl
    simp only [JL] at hjl
    obtain ⟨hd, hjl⟩ := hjl
    have hd : dstOk c.n o.dst = true := hd
    have hkind : (toSOp ops (kd i o.op) ns o).kind = kd i o.op := rfl
    rw [hkind] at hjl
    have hdst : (toSOp ops (kd i o.op) ns o).dst = o.dst := rfl
    rw [hdst] at hjl
    cases hEi : E i with
    | some ob =>
      -- it has come up early
      obtain ⟨o', ho', hk, obj, mk, hconst⟩ := isU_spec (hs.e.isU i ob hEi)
      rw [ho] at ho'; cases ho'
      rw [hk] at hjl
      have hlive : live = true := by
        rcases hs.lv with h | h
        · exact h
        · have := noAllocs_spec (P := c.P) h i (by simp)
          rw [hs.e.isU i ob hEi] at this; cases this
      have hap : ∀ e ob' oe, E e = some ob' → e ≠ i → ops[e]? = some oe → oe.apart ops o = true := fun e ob' oe he hne hoe =>
        (apart2_spec ho hoe (hUA i e (hs.e.isU i ob hEi) (hs.e.isU e ob' he) hne)).2
      have hw := hs.e.wanted i ob o hEi ho
      have hrel := hs.rel.consume hEi ho hap
      have hlt : i < lc.size := by rw [hs.lcz]; exact hilt
      -- the next state
      have mkSim : ∀ (H' : SHeap) (F' : SFrame), St c F' H' (ac.put o.dst (valE c.P ops i ob)) w →
          (∀ e b, E e = some (some b) → e ≠ i → b ∉ keys H') →
          Sim c kd ops Hs live r (lc.setIfInBounds i true) listed H' F' (dropE E i) (ac.put o.dst (valE c.P ops i ob)) a w (noAllocs (sopsAt kd ops tail r)) := by
        intro H' F' st' hfr
        have hdrop : ∀ e ob', dropE E i e = some ob' → e ≠ i ∧ E e = some ob' := fun e ob' he => by
          by_cases hne : e = i
          · subst hne; simp [dropE] at he
          · exact ⟨hne, by simpa [dropE, hne] using he⟩
        refine ⟨st', hs.hs, hrel, ⟨fun e ob' he => hs.e.isU e ob' (hdrop e ob' he).2, fun e ob' he => ?_, fun e ob' oe he hoe => hs.e.closed e ob' oe (hdrop e ob' he).2 hoe, fun e ob' oe he hoe => ?_,
          fun e b oe he hoe => hs.e.blk e b oe (hdrop e _ he).2 hoe, fun e b he => ?_, fun e e' b he he' => hs.e.inj e e' b (hdrop e _ he).2 (hdrop e' _ he').2⟩, hs.lsz, by simp [hs.lcz], fun j hj => ?_, step_all hs, lv_next hs.lv⟩
        · obtain ⟨hne, he'⟩ := hdrop e ob' he
          rw [getD_set_ne true (Ne.symm hne)]
          exact hs.e.un e ob' he'
        · obtain ⟨hne, he'⟩ := hdrop e ob' he
          rw [wanted_put oe ac o.dst _ (Oper.apart_spec (apart_symm (hap e ob' oe he' hne hoe))).1]
          exact hs.e.wanted e ob' oe he' hoe
        · obtain ⟨hne, he'⟩ := hdrop e _ he
          exact ⟨hfr e b he' hne, (hs.e.fresh e b he').2⟩
        · rw [getD_set hlt, hs.l j hj]
          by_cases hji : j = i
          · subst hji; simp [hEi, dropE]
          · have : (j == i) = false := by simpa using hji
            simp [dropE, hji, this]
      have hcnt : r.countP (fun j => (dropE E i j).isNone) ≤ fuel := by
        have h1 : r.countP (fun j => (dropE E i j).isNone) = r.countP (fun j => (E j).isNone) := by
          apply List.countP_congr
          intro x hx
          have : x ≠ i := fun e => hnr (e ▸ hx)
          simp [dropE, this]
        rw [h1]
        simpa [List.countP_cons, hEi] using hf
      cases ob with
      | none =>
        rcases hjl with ⟨hg, _, hjl⟩ | ⟨hg, _⟩
        · exact ih fuel live listed H _ (dropE E i) _ a w hjl (mkSim H _ ⟨hs.st.fr.put undef hd, hs.st.kp, hs.st.hs, hs.st.wr⟩ fun e b he _ => (hs.e.fresh e b he).1) hcnt
        · have := hs.st.fr.wanted hg
          rw [wanted_toSOp, hw] at this
          cases this
      | some b =>
        rcases hjl with ⟨hg, _⟩ | ⟨hg, hjl⟩
        · have := hs.st.fr.wanted hg
          rw [wanted_toSOp, hw] at this
          cases this
        · obtain ⟨_, obj', mk', hal, hjl⟩ := hjl
          have h1 := hal ac hs.st.fr
          have h2 : allocOf c.P o.op ac.eval = some (obj, mk) := hconst _ (fun v => rfl)
          have h1 : allocOf c.P o.op ac.eval = some (obj', mk') := h1
          rw [h2] at h1
          simp only [Option.some.injEq, Prod.mk.injEq] at h1
          obtain ⟨rfl, rfl⟩ := h1
          have hv : valE c.P ops i (some b) = mk b := valE_alloc ho hconst
          have hfr := hs.e.fresh i b hEi
          have hblk := hs.e.blk i b o hEi ho obj mk (hconst _ (fun v => rfl))
          refine ih fuel live listed ((b, obj) :: H) _ (dropE E i) _ a w (hjl b hfr.1) (mkSim _ _ ?_ ?_) hcnt
          · rw [hv]
            refine ⟨hs.st.fr.put _ hd, hs.st.kp, hs.st.hs.cons hblk hfr.1, fun p hp => ?_⟩
            rcases List.mem_cons.1 hp with rfl | hp
            · exact .inl hfr.2.1
            · exact hs.st.wr p hp
          · intro e b' he hne
            simp only [keys, List.map_cons, List.mem_cons, not_or]
            refine ⟨fun e' => hne ?_, (hs.e.fresh e b' he).1⟩
            subst e'
            exact hs.e.inj e i b' he hEi
    | none =>
      have hsub : ∀ j, j < ops.size → lc.getD j false = true → listed.getD j false = true := fun j hj h => by rw [hs.l j hj, h]; rfl
      have hrdyL : ∀ {listed : Array Bool} {E : Early}, listed.size = ops.size → (∀ j, j < ops.size → listed.getD j false = (lc.getD j false || (E j).isSome)) → E i = none → i ∈ Region.ready .any ops listed := by
        intro listed E hz hl hE
        obtain ⟨_, o', ho', hall⟩ := mem_ready.1 hrdy
        refine mem_ready.2 ⟨?_, o', ho', fun e he hb => ?_⟩
        · rw [getD_lt (by rw [hz]; exact hilt) true false, hl i hilt, hE, unlisted_not hiun]; rfl
        · have h1 := hall e he hb
          have hlt : e.on < ops.size := by
            rcases Nat.lt_or_ge e.on lc.size with h | h
            · rw [hs.lcz] at h; exact h
            · rw [show lc.getD e.on false = false from by simp [Array.getElem?_eq_none h]] at h1; cases h1
          rw [hl _ hlt, h1]; rfl
      by_cases hmv : kd i o.op = .mov ∨ kd i o.op = .ld
      · -- it leaves the world alone: it is taken first
        have hfreeC : Region.free .any ops lc i = true := by
          rcases hmv with h | h <;> rw [h] at hc1 <;> exact hc1
        have hclr : ∀ e ob oe, E e = some ob → ops[e]? = some oe → o.apart ops oe = true := fun e ob oe he hoe => by
          have hne : e ≠ i := fun e' => by subst e'; rw [hEi] at he; cases he
          refine Region.free_spec ho hfreeC e oe hoe hne (hs.e.un e ob he) fun x hx hb hxi => ?_
          have := hs.e.closed e ob oe he hoe x hx hb
          rw [hxi, hs.l i hilt, hEi, unlisted_not hiun] at this
          cases this
        have hClear : Clear ops E o := fun e ob oe he hoe => apart_symm (hclr e ob oe he hoe)
        have hfreeL : ∀ j oj, ops[j]? = some oj → j ≠ i → listed.getD j true = false → (∀ e ∈ oj.after, Region.binds .any e = true → e.on ≠ i) → o.apart ops oj = true := fun j oj hj hne hun hno => by
          refine Region.free_spec ho hfreeC j oj hj hne ?_ hno
          have hjlt : j < ops.size := (Array.getElem?_eq_some_iff.1 hj).1
          rw [getD_lt (by rw [hs.lsz]; exact hjlt) true false, hs.l j hjlt] at hun
          simp only [Bool.or_eq_false_iff] at hun
          rw [getD_lt (by rw [hs.lcz]; exact hjlt) true false]
          exact hun.1
        have hwa := hs.rel.wanted hClear
        cases fuel with
        | zero => simp [List.countP_cons, hEi] at hf
        | succ f =>
          have hcnt : r.countP (fun j => (E j).isNone) ≤ f := by
            simp only [List.countP_cons, hEi, Option.isNone_none, if_true] at hf
            omega
          -- the value
          have hy : ∃ v, YieldsIf c.P ops (fun w => (decide (kd i o.op = .ld)) = true → Src c Hs w) o v a ∧ (decide (kd i o.op = .ld) = true → live = true) ∧ JL c K (.draw Hs live) (sopsAt kd ops tail r) (putF F o.dst v) H := by
            rcases hjl with ⟨hg, hl, hjl⟩ | ⟨hg, hjl⟩
            · have := hs.st.fr.wanted hg
              rw [wanted_toSOp] at this
              exact ⟨undef, .inr ⟨by rw [hwa]; exact this, rfl⟩, fun h => hl (by simpa using h), hjl⟩
            · have hw := hs.st.fr.wanted hg
              rw [wanted_toSOp] at hw
              have hex := hs.rel.exec (fun cs b => hselS i o cs b ho) hClear
              rcases hmv with h | h
              · rw [h] at hjl
                obtain ⟨v, hr, hjl⟩ := hjl
                refine ⟨v, .inl ⟨by rw [hwa]; exact hw, fun w' _ => ?_⟩, fun h' => by rw [h] at h'; simp at h', hjl⟩
                have := hr ac w' hs.st.fr
                rw [execOp_oper] at this
                rw [hex]; exact this
              · rw [h] at hjl
                obtain ⟨hl, v, hr, hjl⟩ := hjl
                refine ⟨v, .inl ⟨by rw [hwa]; exact hw, fun w' hw' => ?_⟩, fun _ => hl, hjl⟩
                have := hr ac w' hs.st.fr (hw' (by simp [h]))
                rw [execOp_oper] at this
                rw [hex]; exact this
          obtain ⟨v, hy, hlv, hjl⟩ := hy
          refine wpAnyC_first ho hselS hQ (decide (kd i o.op = .ld)) (fun h => by
            have : kd i o.op = .ld := by simpa using h
            simp only [ldAt, ho, this]) f listed a w hfreeL (hrdyL hs.lsz hs.l hEi) hy (fun h => ⟨hs.st.kp, hs.hs (hlv h)⟩) ?_
          refine ih f live _ H _ E (ac.put o.dst v) (a.put o.dst v) w hjl ⟨⟨hs.st.fr.put v hd, hs.st.kp, hs.st.hs, hs.st.wr⟩, hs.hs, ?_, ⟨hs.e.isU, fun e ob he => step_un hEi he (hs.e.un e ob he), fun e ob oe he hoe x hx hb => getD_set_true (hs.e.closed e ob oe he hoe x hx hb),
            fun e ob oe he hoe => ?_, hs.e.blk, hs.e.fresh, hs.e.inj⟩, by simp [hs.lsz], by simp [hs.lcz], step_l hs hEi, step_all hs, lv_next hs.lv⟩ hcnt
          · exact hs.rel.put v fun e ob oe he hoe s hsd hde => (Oper.apart_spec (hclr e ob oe he hoe)).2.1 s hsd hde
          · rw [wanted_put oe ac o.dst v (Oper.apart_spec (hclr e ob oe he hoe)).1]
            exact hs.e.wanted e ob oe he hoe
      · -- it alone may come up, but for the early ones
        have hc1' : Region.ready .any ops (withU c.P kd ops lc i) = [i] ∧ apartU c.P kd ops lc i = true := by
          cases hkk : kd i o.op with
          | mov => exact absurd (.inl hkk) hmv
          | ld => exact absurd (.inr hkk) hmv
          | alloc => rw [hkk] at hc1; simpa using hc1
          | seq => rw [hkk] at hc1; simpa using hc1
        obtain ⟨hrU, haU⟩ := hc1'
        clear hsub
        clear hjl
        -- over the fuel: the early ones come up one by one
        have main : ∀ (fuel : Nat) (listed : Array Bool) (E : Early) (a : Act) (w : World), E i = none → Sim c kd ops Hs live (i :: r) lc listed H F E ac a w (noAllocs (sopsAt kd ops tail (i :: r))) →
            (i :: r).countP (fun j => (E j).isNone) ≤ fuel → wpAnyC c.P kd ops Q (Src c Hs) fuel listed a w := by
          intro fuel
          induction fuel with
          | zero => intro listed E a w hEi hs hf; simp [List.countP_cons, hEi] at hf
          | succ f ihf =>
            intro listed E a w hEi hs hf
            have hri := hrdyL hs.lsz hs.l hEi
            refine ⟨fun h => (by rw [h] at hri; cases hri), fun j hjr => ?_⟩
            have hcntR : r.countP (fun j => (E j).isNone) ≤ f := by
              simp only [List.countP_cons, hEi, Option.isNone_none, if_true] at hf
              omega
            have hclr : ∀ e ob oe, E e = some ob → ops[e]? = some oe → o.apart ops oe = true := fun e ob oe he hoe => by
              have hne : e ≠ i := fun e' => by subst e'; rw [hEi] at he; cases he
              exact (apart2_spec ho hoe (apartU_spec haU hne (hs.e.un e ob he) (hs.e.isU e ob he))).1
            have hClear : Clear ops E o := fun e ob oe he hoe => apart_symm (hclr e ob oe he hoe)
            by_cases hji : j = i
            · subst hji
              have hwa := hs.rel.wanted hClear
              have hjl := hj
              rw [hso] at hjl
              simp only [JL] at hjl
              obtain ⟨_, hjl⟩ := hjl
              rw [hkind, hdst] at hjl
              -- the next state, at a new heap and world
              have mkSim : ∀ {live' : Bool} {H' : SHeap} {F' : SFrame} {ac' a' : Act} {w' : World}, St c F' H' ac' w' → (live' = true → Hsat Hs w') → Rel c.P ops E ac' a' →
                  (∀ e ob oe, E e = some ob → ops[e]? = some oe → Region.wanted oe (yielded ops ac'.tmps) = ob.isSome) →
                  (∀ e b, E e = some (some b) → b ∉ keys H' ∧ w'.heap[b]? = w.heap[b]?) → w.heap.size ≤ w'.heap.size → (live' = true ∨ noAllocs (sopsAt kd ops tail r) = true) →
                  Sim c kd ops Hs live' r (lc.setIfInBounds j true) (listed.setIfInBounds j true) H' F' E ac' a' w' (noAllocs (sopsAt kd ops tail r)) := by
                intro live' H' F' ac' a' w' st' hs' hrel' hwt hbl hsz hlv'
                refine ⟨st', hs', hrel', ⟨hs.e.isU, fun e ob he => step_un hEi he (hs.e.un e ob he), fun e ob oe he hoe x hx hb => getD_set_true (hs.e.closed e ob oe he hoe x hx hb), hwt,
                  fun e b oe he hoe obj mk hal => ?_, fun e b he => ?_, hs.e.inj⟩, by simp [hs.lsz], by simp [hs.lcz], step_l hs hEi, step_all hs, hlv'⟩
                · rw [(hbl e b he).2]; exact hs.e.blk e b oe he hoe obj mk hal
                · have := (hs.e.fresh e b he).2
                  exact ⟨(hbl e b he).1, this.1, by omega⟩
              have hwput : ∀ v e ob oe, E e = some ob → ops[e]? = some oe → Region.wanted oe (yielded ops (ac.put o.dst v).tmps) = ob.isSome := fun v e ob oe he hoe => by
                rw [wanted_put oe ac o.dst v (Oper.apart_spec (hclr e ob oe he hoe)).1]
                exact hs.e.wanted e ob oe he hoe
              have hrelput : ∀ v, Rel c.P ops E (ac.put o.dst v) (a.put o.dst v) := fun v => hs.rel.put v fun e ob oe he hoe s hsd hde => (Oper.apart_spec (hclr e ob oe he hoe)).2.1 s hsd hde
              unfold wpOp
              simp only [ho]
              rcases hjl with ⟨hg, _, hjl⟩ | ⟨hg, hjl⟩
              · have hw := hs.st.fr.wanted hg
                rw [wanted_toSOp] at hw
                rw [if_neg (by rw [hwa, hw]; simp)]
                exact ⟨by simp, ih f live _ H _ E _ _ w hjl (mkSim ⟨hs.st.fr.put undef hd, hs.st.kp, hs.st.hs, hs.st.wr⟩ hs.hs (hrelput _) (hwput _) (fun e b he => ⟨(hs.e.fresh e b he).1, rfl⟩) (Nat.le_refl _) (lv_next hs.lv)) hcntR⟩
              · have hw := hs.st.fr.wanted hg
                rw [wanted_toSOp] at hw
                rw [if_pos (by rw [hwa, hw])]
                refine .inl ?_
                cases hkk : kd j o.op with
                | mov => exact absurd (.inl hkk) hmv
                | ld => exact absurd (.inr hkk) hmv
                | alloc =>
                  rw [hkk] at hjl
                  obtain ⟨hlive, obj, mk, hal, hjl⟩ := hjl
                  have hlive : live = true := hlive
                  have hrun := run_allocOf (o := o) (hal ac hs.st.fr) w
                  unfold Oper.wp
                  rw [hs.rel.exec (fun cs b => hselS j o cs b ho) hClear, hrun]
                  refine ⟨.inr fun _ => ⟨hs.st.kp.trans (Kp.alloc _ _ _), (hs.hs hlive).alloc obj⟩, ?_⟩
                  have hfr := hs.st.hs.fresh
                  refine ih f live _ ((w.heap.size, obj) :: H) _ E _ _ (w.alloc obj) (hjl _ hfr) (mkSim ⟨hs.st.fr.put _ hd, (hs.st.alloc obj).kp, (hs.st.hs.alloc obj).cons (alloc_at w obj) hfr, fun p hp => ?_⟩ (fun h => (hs.hs h).alloc obj) (hrelput _) (hwput _) (fun e b he => ?_) (Kp.alloc [] w obj).size (.inl hlive)) hcntR
                  · rcases List.mem_cons.1 hp with rfl | hp
                    · exact .inl hs.st.kp.size
                    · exact hs.st.wr p hp
                  · have h1 := hs.e.fresh e b he
                    refine ⟨?_, (Kp.alloc [] w obj).block b h1.2.2 (by simp)⟩
                    simp only [keys, List.map_cons, List.mem_cons, not_or]
                    exact ⟨by have := h1.2.2; omega, h1.1⟩
                | seq =>
                  rw [hkk] at hjl
                  have hwp := hjl ac w hs.st (fun h => hs.hs h)
                  rw [wp_oper] at hwp
                  refine hs.rel.wp (fun cs b => hselS j o cs b ho) hClear ?_ (fun e x y h => by cases e <;> exact h) hwp
                  -- the frames behind are related; so is their guard
                  intro a1 a2 w' hv1 hrel' h
                  obtain ⟨hstep, F', H', m', st', hkeys, hm, hjl'⟩ := h
                  cases m' with
                  | text => exact hm.elim
                  | draw Hs' live' =>
                    obtain ⟨rfl, hm1, hm2, hm3⟩ := hm
                    refine ⟨.inr fun h => ⟨st'.kp, (hm1 (hm2 (hnsS h))).2⟩, ?_⟩
                    refine ih f live' _ H' F' E a1 a2 w' hjl' (mkSim st' (fun h => (hm1 h).2) hrel' ?_ (fun e b he => ?_) hstep.size hm3) hcntR
                    · intro e ob oe he hoe
                      obtain ⟨v, hv1⟩ := hv1
                      rw [hv1]
                      exact hwput v e ob oe he hoe
                    · have h1 := hs.e.fresh e b he
                      have hbM : b ∉ c.M := fun hb => by have := c.hM b hb; omega
                      refine ⟨fun hk => ?_, hstep.block b h1.2.2 h1.1 hbM⟩
                      rcases hkeys b hk with h | h | h
                      · exact h1.1 h
                      · exact hbM h
                      · omega
            · -- one that comes up early
              have hju : isU c.P kd ops j = true := (ready_next hs.lsz hs.l hs.e.isU hEi hrU hjr).resolve_left hji
              obtain ⟨oj, hoj, hkj, obj, mk, hconst⟩ := isU_spec hju
              have hjlt : j < ops.size := (Array.getElem?_eq_some_iff.1 hoj).1
              obtain ⟨hjun, oj', hoj', hjall⟩ := mem_ready.1 hjr
              rw [hoj] at hoj'; cases hoj'
              have hjl2 := hjun
              rw [getD_lt (by rw [hs.lsz]; exact hjlt) true false, hs.l j hjlt] at hjl2
              simp only [Bool.or_eq_false_iff] at hjl2
              obtain ⟨hjlc, hjE⟩ := hjl2
              have hjE : E j = none := by cases h : E j with | none => rfl | some x => rw [h] at hjE; cases hjE
              have hjlc' : lc.getD j true = false := by rw [getD_lt (by rw [hs.lcz]; exact hjlt) true false]; exact hjlc
              have hjm := hs.all j hjlt hjlc'
              have hlive : live = true := by
                rcases hs.lv with h | h
                · exact h
                · have := noAllocs_spec (P := c.P) h j hjm
                  rw [hju] at this; cases this
              have hap : ∀ e ob' oe, E e = some ob' → e ≠ j → ops[e]? = some oe → oe.apart ops oj = true := fun e ob' oe he hne hoe =>
                (apart2_spec hoj hoe (hUA j e hju (hs.e.isU e ob' he) hne)).2
              have hneE : ∀ e ob', E e = some ob' → e ≠ j := fun e ob' he e' => by subst e'; rw [hjE] at he; cases he
              have hClearJ : Clear ops E oj := fun e ob oe he hoe => hap e ob oe he (hneE e ob he) hoe
              have hwa := hs.rel.wanted hClearJ
              have hcnt' : ∀ ob, (i :: r).countP (fun x => (addE E j ob x).isNone) ≤ f := fun ob => by
                have := countP_step (p := fun x => (addE E j ob x).isNone) (q := fun x => (E x).isNone) (l := i :: r) (j := j) (fun x hx => by
                  by_cases h : x = j
                  · subst h; simp [addE] at hx
                  · simpa [addE, h] using hx) hjm (by simp [hjE]) (by simp [addE])
                omega
              have mkSim : ∀ (ob : Option Nat) (w' : World), St c F H ac w' → Hsat Hs w' → Region.wanted oj (yielded ops ac.tmps) = ob.isSome → (∀ k, k < w.heap.size → w'.heap[k]? = w.heap[k]?) → w.heap.size ≤ w'.heap.size →
                  (∀ b, ob = some b → b = w.heap.size ∧ w'.heap[b]? = some obj ∧ b < w'.heap.size) →
                  Sim c kd ops Hs live (i :: r) lc (listed.setIfInBounds j true) H F (addE E j ob) ac (a.put oj.dst (valE c.P ops j ob)) w' (noAllocs (sopsAt kd ops tail (i :: r))) := by
                intro ob w' st' hs' hwt hold hsz hb
                have hadd : ∀ e ob', addE E j ob e = some ob' → (e = j ∧ ob' = ob) ∨ (e ≠ j ∧ E e = some ob') := fun e ob' he => by
                  by_cases h : e = j
                  · subst h; simp only [addE, if_true, Option.some.injEq] at he; exact .inl ⟨rfl, he.symm⟩
                  · exact .inr ⟨h, by simpa [addE, h] using he⟩
                refine ⟨st', fun _ => hs', hs.rel.add ob hoj hap, ⟨fun e ob' he => ?_, fun e ob' he => ?_, fun e ob' oe he hoe x hx hbx => ?_, fun e ob' oe he hoe => ?_, fun e b oe he hoe obj' mk' hal => ?_, fun e b he => ?_, fun e e' b he he' => ?_⟩,
                  by simp [hs.lsz], hs.lcz, fun x hx => ?_, hs.all, .inl hlive⟩
                · rcases hadd e ob' he with ⟨rfl, _⟩ | ⟨_, he⟩
                  · exact hju
                  · exact hs.e.isU e ob' he
                · rcases hadd e ob' he with ⟨rfl, _⟩ | ⟨_, he⟩
                  · exact hjlc'
                  · exact hs.e.un e ob' he
                · rcases hadd e ob' he with ⟨rfl, _⟩ | ⟨_, he⟩
                  · rw [hoj] at hoe; cases hoe
                    exact getD_set_true (hjall x hx hbx)
                  · exact getD_set_true (hs.e.closed e ob' oe he hoe x hx hbx)
                · rcases hadd e ob' he with ⟨rfl, rfl⟩ | ⟨_, he⟩
                  · rw [hoj] at hoe; cases hoe
                    exact hwt
                  · exact hs.e.wanted e ob' oe he hoe
                · rcases hadd e _ he with ⟨rfl, h⟩ | ⟨_, he⟩
                  · rw [hoj] at hoe; cases hoe
                    rw [hconst _ (fun v => rfl)] at hal
                    simp only [Option.some.injEq, Prod.mk.injEq] at hal
                    obtain ⟨rfl, rfl⟩ := hal
                    exact (hb b h.symm).2.1
                  · rw [hold b (hs.e.fresh e b he).2.2]
                    exact hs.e.blk e b oe he hoe obj' mk' hal
                · rcases hadd e _ he with ⟨rfl, h⟩ | ⟨_, he⟩
                  · obtain ⟨rfl, _, h3⟩ := hb b h.symm
                    exact ⟨hs.st.hs.fresh, hs.st.kp.size, h3⟩
                  · have := hs.e.fresh e b he
                    exact ⟨this.1, this.2.1, by omega⟩
                · rcases hadd e _ he with ⟨rfl, h⟩ | ⟨_, heE⟩
                  · rcases hadd e' _ he' with ⟨rfl, h'⟩ | ⟨_, he'⟩
                    · rfl
                    · have h1 := (hb b h.symm).1
                      have h2 := (hs.e.fresh e' b he').2.2
                      omega
                  · rcases hadd e' _ he' with ⟨rfl, h'⟩ | ⟨_, he'⟩
                    · have h1 := (hb b h'.symm).1
                      have h2 := (hs.e.fresh e b heE).2.2
                      omega
                    · exact hs.e.inj e e' b heE he'
                · rw [getD_set (by rw [hs.lsz]; exact hjlt), hs.l x hx]
                  by_cases h : x = j
                  · subst h; simp [addE]
                  · have : (x == j) = false := by simpa using h
                    simp [addE, h, this]
              have hEi' : ∀ ob, addE E j ob i = none := fun ob => by simp [addE, Ne.symm hji, hEi]
              unfold wpOp
              simp only [hoj]
              cases hw : Region.wanted oj (yielded ops ac.tmps) with
              | false =>
                rw [if_neg (by rw [hwa, hw]; simp)]
                exact ⟨by simp, ihf _ (addE E j none) _ w (hEi' _) (mkSim none w hs.st (hs.hs hlive) hw (fun _ _ => rfl) (Nat.le_refl _) (fun b h => by cases h)) (hcnt' _)⟩
              | true =>
                rw [if_pos (by rw [hwa, hw])]
                refine .inl ?_
                have hrun := run_allocOf (o := oj) (hconst a.eval (fun v => rfl)) w
                unfold Oper.wp
                rw [hrun]
                refine ⟨.inr fun _ => ⟨hs.st.kp.trans (Kp.alloc _ _ _), (hs.hs hlive).alloc obj⟩, ?_⟩
                have hk := Kp.alloc [] w obj
                have := ihf _ (addE E j (some w.heap.size)) (a.put oj.dst (valE c.P ops j (some w.heap.size))) (w.alloc obj) (hEi' _)
                  (mkSim (some w.heap.size) (w.alloc obj) (hs.st.alloc obj) ((hs.hs hlive).alloc obj) hw (fun k hk' => hk.block k hk' (by simp)) hk.size (fun b h => by
                    obtain rfl := (Option.some.inj h).symm
                    exact ⟨rfl, alloc_at w obj, by show _ < (w.heap.push obj).size; simp⟩)) (hcnt' _)
                rw [valE_alloc hoj hconst] at this
                exact this
        exact main fuel listed E a w hEi hs hf

end
end Go.Proofs.YtdehklhdjbkneaaDoor
