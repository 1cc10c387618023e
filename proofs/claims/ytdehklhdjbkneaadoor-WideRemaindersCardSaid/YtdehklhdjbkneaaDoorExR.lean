/- A range over a function: its body and what follows it, by the judgement. -/
import Derived.Test.YtdehklhdjbkneaaDoorWidQ
namespace Go.Proofs.YtdehklhdjbkneaaDoor
open Go Go.RowKit
set_option linter.unusedSimpArgs false
set_option linter.unusedVariables false
set_option linter.unusedSectionVars false

/-! ## Code behind which deferred calls lie -/

/-- The same activation, with more deferred calls behind. -/
def ad (D : List Deferred) (a : Act) : Act := { a with defers := a.defers ++ D }
theorem ad_put (D : List Deferred) (a : Act) (d : Option Tmp) (v : Value) : (ad D a).put d v = ad D (a.put d v) := by cases d <;> rfl
theorem ad_eval (D : List Deferred) (a : Act) : (ad D a).eval = a.eval := rfl

theorem upon_ad {P : Program} {o : Oper} {D : List Deferred} {a : Act} {next next' : Act → World → Prop} {Q Q' : Exit → Act → World → Prop} (hn : ∀ a w, next a w → next' (ad D a) w) (hQ : ∀ e a w, Q e a w → Q' e (ad D a) w) :
    ∀ {r : Result Next}, o.upon P a next Q r → o.upon P (ad D a) next' Q' r := by
  intro r h
  cases r with
  | ok n w' =>
    cases n <;> simp only [Oper.upon] at h ⊢ <;>
      first
        | exact h.elim
        | (rw [ad_put]; exact hn _ _ h)
        | (have h2 := hn _ _ h
           rename_i d
           have e : ∀ (b : Act) (x : Option Tmp), ad D ({ b with defers := d :: b.defers }.put x undef) = ({ ad D b with defers := d :: (ad D b).defers } : Act).put x undef := fun b x => by cases x <;> rfl
           rw [e] at h2; exact h2)
        | (refine Calls.mono h (fun e w'' he => ?_); cases e <;> first | (have h3 := hn _ _ he; rw [← ad_put] at h3; exact h3) | exact hQ _ _ _ he | (obtain ⟨a', w', h'⟩ := he; exact ⟨_, _, hQ _ _ _ h'⟩))
        | exact Rows.mono h (fun v w' h' => by rw [ad_put]; exact hn _ _ h')
  | halt x w' => cases x <;> simp only [Oper.upon] at h ⊢ <;> first | exact hQ _ _ _ h | exact h.elim

theorem wpList_ad {P : Program} {ops : Array Oper} {D : List Deferred} {Q Q' : Exit → Act → World → Prop} (hQ : ∀ e a w, Q e a w → Q' e (ad D a) w) : ∀ {l : List Oper} {a : Act} {w : World}, wpList P ops Q l a w → wpList P ops Q' l (ad D a) w
  | [], a, w, h => hQ _ _ _ h
  | o :: l, a, w, h => by
    unfold wpList at h ⊢
    have e : (ad D a).tmps = a.tmps := rfl
    rw [e]
    split at h
    · rename_i hw
      rw [if_pos hw]
      rcases h with h | ⟨h, a', w', h'⟩
      · refine .inl ?_
        unfold Oper.wp at h ⊢
        rw [ad_eval]
        exact upon_ad (fun a w h => wpList_ad hQ h) hQ h
      · exact .inr ⟨h, _, _, hQ _ _ _ h'⟩
    · rename_i hw
      rw [if_neg hw, ad_put]
      exact wpList_ad hQ h

def tailOK : Code → Bool
  | .region _ _ d => !d
  | .seq a b => tailOK a && tailOK b
  | .ret => true
  | _ => false

theorem wp_of_toS_ad {c : Cx} (od : List Od) (D : List Deferred) : ∀ (s : Code) (Q Q' : Exit → Act → World → Prop), tailOK s = true → (∀ e a w, Q e a w → Q' e (ad D a) w) → ∀ a w, (toS od s).wp c Q a w → s.wp c.P Q' (ad D a) w
  | .region id ops false, Q, Q', _, hQ, a, w, h => by
    obtain ⟨F, H, st, h⟩ := h
    obtain ⟨kd, hl, he⟩ := textOps_eq (odAt od id).ov ops ops.toList 0
    rw [he] at h
    have := wpList_of_JL (P := c.P) (ops := ops) (Q := Q) rfl _ F H h a w st
    rw [List.map_fst_zip (by omega)] at this
    exact wp_region_list (wpList_ad hQ this)
  | .region id ops true, Q, Q', hk, hQ, a, w, h => by cases hk
  | .seq x y, Q, Q', hk, hQ, a, w, h => by
    simp only [tailOK, Bool.and_eq_true] at hk
    refine wp_seq (wp_of_toS_ad od D x _ _ hk.1 (fun e a w hq => ?_) a w h)
    cases e <;> first | exact hQ _ _ _ hq | exact wp_of_toS_ad od D y _ _ hk.2 hQ _ _ hq
  | .ret, Q, Q', _, hQ, a, w, h => wp_ret (hQ _ _ _ h)

/-! ## A round's body -/

def noDefer : List Oper → Bool
  | [] => true
  | o :: l => (match o.op with | .defer _ => false | _ => true) && noDefer l

theorem uponIn_of {P : Program} {o : Oper} {l m : Nat} {a : Act} {next : Act → World → Prop} {Q : Exit → Act → World → Prop} : ∀ {r : Result Next}, o.upon P a next Q r → o.uponIn (Fence.wide.inRound l) m P a next Q r := by
  intro r h
  cases r with
  | ok n w' =>
    cases n <;> simp only [Oper.upon, Oper.uponIn] at h ⊢ <;>
      first
        | exact h
        | exact h.elim
        | exact ⟨fun h0 => (by cases h0), CallsIn.inRound l (callsIn_wide.2 h)⟩
        | exact ⟨fun h0 => (by cases h0), fun c cs _ => let ⟨v, w', r, s⟩ := h c cs; ⟨v, w', r, stepsIn_wide.2 s⟩⟩
  | halt x w' => cases x <;> simp only [Oper.upon, Oper.uponIn] at h ⊢ <;> first | exact h | exact h.elim

theorem wpListIn_of {P : Program} {ops : Array Oper} {l m : Nat} {Q : Exit → Act → World → Prop} (hQ : ¬ LetsOut Q) : ∀ {os : List Oper} {a : Act} {w : World}, noDefer os = true → wpList P ops Q os a w → wpListIn (Fence.wide.inRound l) m P ops Q os a w
  | [], a, w, _, h => h
  | o :: os, a, w, hd, h => by
    simp only [noDefer, Bool.and_eq_true] at hd
    unfold wpList at h
    unfold wpListIn
    split at h
    · rename_i hw
      rw [if_pos hw]
      rcases h with h | ⟨_, h⟩
      · refine ⟨fun f _ => trivial, ?_⟩
        rw [Oper.semAt_eq _ _ _ (fun c hc => by rw [hc] at hd; exact absurd hd.1 (by simp))]
        unfold Oper.wp at h
        have h2 := uponIn_of (l := l) (m := m) h
        revert h2
        generalize (execOp a.eval o).run P w = r
        intro h2
        exact uponIn_mono' (fun a w h => wpListIn_of hQ hd.2 h) h2
      · exact absurd h hQ
    · rename_i hw
      rw [if_neg hw]
      exact ⟨fun f _ => trivial, wpListIn_of hQ hd.2 h⟩
where
  uponIn_mono' {P : Program} {o : Oper} {l m : Nat} {a : Act} {next next' : Act → World → Prop} {Q : Exit → Act → World → Prop} (hn : ∀ a w, next a w → next' a w) : ∀ {r : Result Next}, o.uponIn (Fence.wide.inRound l) m P a next Q r → o.uponIn (Fence.wide.inRound l) m P a next' Q r := by
    intro r h
    cases r with
    | ok n w' =>
      cases n <;> simp only [Oper.uponIn] at h ⊢ <;>
        first
          | exact h.elim
          | exact hn _ _ h
          | exact ⟨h.1, h.2.mono (fun e w'' he => by cases e <;> first | exact hn _ _ he | exact he)⟩
          | exact ⟨h.1, h.2.mono (fun v w'' he => hn _ _ he)⟩
    | halt x w' => cases x <;> simp only [Oper.uponIn] at h ⊢ <;> first | exact h | exact h.elim

/-- A region of a round. -/
theorem wpIn_region_JO {c : Cx} {id l m : Nat} {ops : Array Oper} {ov : List (Nat × Kind)} {K : Act → World → Prop} {F : SFrame} {H : SHeap} (hd : noDefer ops.toList = true) (h : JO c (Only K) .text (textOps ov ops 0 ops.toList) F H) :
    ∀ a w, St c F H a w → (Code.region id ops false).wpIn (Fence.wide.inRound l) m c.P (Only K) a w := fun a w st => by
  obtain ⟨kd, hl, he⟩ := textOps_eq ov ops ops.toList 0
  have h := h.h
  rw [he] at h
  have := wpList_of_JL (P := c.P) (ops := ops) (Q := Only K) rfl _ F H h a w st
  rw [List.map_fst_zip (by omega)] at this
  exact wpIn_region_list (wpListIn_of (fun ⟨_, _, h⟩ => h) hd this)

/-! ## The function as a whole -/

def hasRF : Code → Bool
  | .seq a b => hasRF a || hasRF b
  | .block _ c => hasRF c
  | .rangeFunc .. => true
  | _ => false
/-- What follows a range over a function stays as it is. -/
def toZ (od : List Od) : Code → SCode
  | .seq a b => bif hasRF a then .seq (toZ od a) (.raw b) else .seq (toS od a) (toZ od b)
  | .block id c => .block id (toZ od c)
  | c => toS od c
def okZ (P : Program) (od : List Od) : Code → Bool
  | .seq a b => bif hasRF a then okZ P od a else okS P od a && okZ P od b
  | .block _ c => okZ P od c
  | c => okS P od c
theorem wp_of_toZ {c : Cx} (od : List Od) (hm : c.P.follows .mixedOrders = true) : ∀ (s : Code) (Q : Exit → Act → World → Prop) (a : Act) (w : World), okZ c.P od s = true → (toZ od s).wp c Q a w → s.wp c.P Q a w
  | .seq x y, Q, a, w, hk, h => by
    unfold toZ at h
    unfold okZ at hk
    cases hr : hasRF x with
    | true =>
      rw [hr] at h hk
      exact wp_seq (wp_of_toZ od hm x _ a w hk h)
    | false =>
      rw [hr] at h hk
      simp only [cond_false, Bool.and_eq_true] at h hk
      refine wp_seq (wp_of_toS od hm x _ a w hk.1 ?_)
      refine wp_of_toS.wp_mono' (fun e a w hq => ?_) h
      cases e <;> first | exact hq | exact wp_of_toZ od hm y _ _ _ hk.2 hq
  | .block id s, Q, a, w, hk, h => wp_block (wp_of_toZ od hm s _ _ _ hk h)
  | .skip, Q, a, w, hk, h => wp_of_toS od hm _ _ _ _ hk h
  | .region _ _ _, Q, a, w, hk, h => wp_of_toS od hm _ _ _ _ hk h
  | .cond _ _ _, Q, a, w, hk, h => wp_of_toS od hm _ _ _ _ hk h
  | .loop _, Q, a, w, hk, h => wp_of_toS od hm _ _ _ _ hk h
  | .exit _, Q, a, w, hk, h => wp_of_toS od hm _ _ _ _ hk h
  | .scope _, Q, a, w, hk, h => wp_of_toS od hm _ _ _ _ hk h
  | .ret, Q, a, w, hk, h => wp_of_toS od hm _ _ _ _ hk h
  | .label _, Q, a, w, hk, h => wp_of_toS od hm _ _ _ _ hk h
  | .goto _, Q, a, w, hk, h => wp_of_toS od hm _ _ _ _ hk h
  | .refuse _, Q, a, w, hk, h => wp_of_toS od hm _ _ _ _ hk h
  | .rangeFunc .., Q, a, w, hk, h => wp_of_toS od hm _ _ _ _ hk h

theorem calls_of_Z {P : Program} {f : FuncId} {fn : Func} {s : Code} {args : Array Value} {w : World} {R : Ending → World → Prop} {n : Nat} (m : Nat) (od : List Od)
    (hf : P.funcs[f]? = some fn) (hb : fn.body = some s) (hm : P.follows .mixedOrders = true) (hk : okZ P od s = true)
    (hn : fn.ntmps = n) (hF : Nat.ble args.size n = true)
    (h : JC ⟨P, n, w, [], by simp⟩ (bodyPostM Fence.wide m P fn R) (toZ od s) (zipF 0 args.toList) []) : Calls P f args w R := by
  subst hn
  have hF := Nat.le_of_ble_eq_true hF
  refine callsIn_wide.1 (callsIn_of_wp_marks (n := m) hf hb trivial (wpIn_wide.2 ?_) rfl)
  refine wp_of_toZ (c := ⟨P, fn.ntmps, w, [], by simp⟩) od hm s _ _ _ hk (h.h _ _ ⟨⟨rfl, ?_, fun i v hl => ?_⟩, Kp.refl _ _, ⟨by simp, by simp⟩, fun p hp => by cases hp⟩)
  · simp; omega
  · obtain ⟨_, h1⟩ := zipF_look _ _ _ _ hl
    have h1 : args[i]? = some v := by simpa using h1
    have h2 : i < args.size := by
      rcases Nat.lt_or_ge i args.size with h | h
      · exact h
      · rw [Array.getElem?_eq_none h] at h1; cases h1
    rw [Array.getElem?_append_left h2]; exact h1

section
variable {c : Cx} {Q : Exit → Act → World → Prop} {F : SFrame} {H : SHeap}
theorem JC.raw {s : Code} (h : ∀ a w, St c F H a w → s.wp c.P Q a w) : JC c Q (.raw s) F H := ⟨h⟩
theorem JX.thenRaw {s : Code} (h : ∀ a w, St c F H a w → s.wp c.P Q a w) : JX c (Exit.then ((SCode.raw s).wp c Q) Q) .normal F H := ⟨h⟩
end

end Go.Proofs.YtdehklhdjbkneaaDoor
