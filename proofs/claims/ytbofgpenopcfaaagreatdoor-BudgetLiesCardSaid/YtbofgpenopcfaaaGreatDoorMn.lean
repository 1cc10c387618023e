import Derived.Test.YtbofgpenopcfaaaGreatDoorMm
import Derived.Test.YtbofgpenopcfaaaGreatDoorMk
import Derived.Test.YtbofgpenopcfaaaGreatDoorMh
import Derived.Test.YtbofgpenopcfaaaGreatDoorRows
import Derived.WalkKit
import Derived.ProofKit
import Derived.OpenShut
import Derived.ShutString
import Derived.ChangeOld
import Derived.Below
import Derived.Lib.SmallJoins
import Derived.SizedLaws
import Derived.Shelf.Vars
namespace Go.Proofs.YtbofgpenopcfaaaGreatDoor
open Go Go.RowKit
set_option linter.unusedSimpArgs false
set_option linter.unusedVariables false
set_option linter.unusedSectionVars false

def hdK (a b c d : Int) : Nat → Array Value
 | 0 => #[iv 0, iv 0, iv 0, iv 0]
 | 1 => #[iv a, iv 0, iv 0, iv 0]
 | 2 => #[iv a, iv b, iv 0, iv 0]
 | 3 => #[iv a, iv b, iv c, iv 0]
 | _ => #[iv a, iv b, iv c, iv d]
theorem Wy {A B C : List Int} {o k : Nat} (ho : A.length = o) (hk : B.length = k) : ((A ++ (B ++ C)).drop o).take k = B := by
 subst ho hk
 rw [List.drop_left, List.take_left]
theorem YT {c : Cx} {H N : SHeap} {w : World} {b Ln capL o r q cap : Nat} {A : Option Addr} {xs : List Int} {g : List (List Int)} (h : SubA b o (r * q) cap A) (hv : RdZ c N (.slice (some ⟨b, 0, none⟩) Ln capL) Ln xs) (ho : o + r * q ≤ Ln) (hg : Rec r q g) (hx : (xs.drop o).take (r * q) = g.flatten)
  (hk : Kp c.M c.w0 w) (hs : Hsat H w) (hN : HSub N H) : IsM w (.agg #[nv r, nv q, .slice A (r * q) cap]) (gM r q g) :=
 ⟨_, rfl, by
  have h1 := (h.rd hv ho).at hk hs hN
  rw [hx] at h1
  show WZ w _ (gM r q g).e.length g.flatten
  rw [show (gM r q g).e.length = r * q from QK hg]
  exact h1⟩
theorem Q5n {K r c : Nat} {g : List (List Int)} (h : okG K g = true) : BdZ K (gM r c g) := fun k => by
 show (g.flatten.getD k 0).natAbs < _
 by_cases hk : k < g.flatten.length
 ·exact WW h (Ze hk)
 ·rw [List.getD, List.getElem?_eq_none oq]
  exact pos256 K
theorem Ws {m : ZM} {i j : Nat} (hm : RtZ m) (hi : i < m.r) (hj : j < m.c) : gE (rowsOf m) i j = m.at i j := by
 unfold gE rowsOf
 have e : ((List.range m.r).map (rowI m)).getD i [] = rowI m i := by
  rw [List.getD, List.getElem?_map, List.getElem?_range hi]
  rfl
 rw [e, Q6w hm hi]
 exact Q0p hj
theorem Q1j {r c : Nat} {g : List (List Int)} (h : Rec r c g) (hr : r ≤ 200) (hc : c ≤ 200) : rowsOf (gM r c g) = g :=
 (WM (Xm h hr hc)).ext h fun i j hi hj => by rw [Ws (Xm h hr hc) hi hj, Qay h hi hj]
theorem Q4l {r c : Nat} {g : List (List Int)} (h : Rec r c g) (hr : r ≤ 200) (hc : c ≤ 200) : rowsOf (trZ (gM r c g)) = trL r c g := by
 have hR : RtZ (trZ (gM r c g)) := X5 hc hr
 refine (WM hR).ext (Zt r c g) fun i j hi hj => ?_
 have hi' : i < c := hi
 have hj' : j < r := hj
 rw [Ws hR hi hj]
 refine Eq.trans ?_ (Xb hj' hi').symm
 show (zof c r (tr (gM r c g).at)).at i j = _
 rw [Qem hi' hj']
 exact Qay h hj' hi'
theorem Qaf {x y Nu tu Ni ti Nd td Nx tx Nj tj Mp Mq Nl : SHeap} :
  (x ++ (y ++ ((Nj ++ tj) ++ ((Nx ++ tx) ++ (Mq ++ ((Nd ++ td) ++ ((Ni ++ ti) ++ (Mp ++ ((Nu ++ tu) ++ (Nl ++ [])))))))))).Perm
  ((x ++ (Nu ++ (tu ++ (Ni ++ (ti ++ (Nd ++ (td ++ (Nx ++ (tx ++ (Nj ++ (tj ++ []))))))))))) ++ (y ++ (Mq ++ (Mp ++ Nl)))) := by
 classical
 rw [List.perm_iff_count]
 intro x
 simp only [List.count_append, List.count_nil]
 omega
theorem Qg0 {m n : Nat} {t s : Int} {S : Sm} (h : sndF m n t s S = true) : 0 ≤ t ∧ 0 ≤ s := by
 unfold sndF at h
 rw [Bool.and_eq_true] at h
 have := of_decide_eq_true h.1
 exact ⟨this.1, this.2.2.1⟩
def opnP (m n : Nat) (t s : Int) (S : Sm) : Prop := mulZ (gM m m S.u) (gM m m S.ui) = oneZ m ∧ mulZ (gM n n S.v) (gM n n S.vi) = oneZ n ∧ sndF m n t s S = true

set_option maxHeartbeats 32000000 in
theorem Q6b (K : Nat) (w : World) (m n : Nat) (t s : Int) (S : Sm) (hD : Dm m n S) (hm : m < 100) (hn : n < 100) (ht : t.natAbs < 100) (hs0 : s.natAbs < 100) (hK : 8 ≤ K) (hK2 : K ≤ 3000000) (hb : Ok K S) (hmax : MaxL w) (hlen : (encT (encZ m n t s S)).length < 4294967281) :
  Calls Tryz.prog 30 #[sv (encT (encZ m n t s S))] w (Ret fun v w' => Kp [] w w' ∧ ((opnP m n t s S ∧ ∃ b W T, v = .tuple #[.pointer (some ⟨b, 0, none⟩), iv 0] ∧ New (jgH b W m n t s T) w w' ∧ IsBj W m n T S) ∨ (¬ opnP m n t s S ∧ v = .tuple #[.pointer none, iv 11]))) := by
 have e8 : (256 : Nat) ^ 8 = 18446744073709551616 := by decide
 have hel := Q11 hD t s
 have hbd := Q42 (m := m) (n := n) (t := t) (s := s) (K := K) hK (by rw [e8]; omega) (by rw [e8]; omega) (by rw [e8]; omega) (by rw [e8]; omega) hb
 have hmm : m * m ≤ 10000 := Nat.mul_le_mul (show m ≤ 100 by omega) (show m ≤ 100 by omega)
 have hmn : m * n ≤ 10000 := Nat.mul_le_mul (show m ≤ 100 by omega) (show n ≤ 100 by omega)
 have hnn : n * n ≤ 10000 := Nat.mul_le_mul (show n ≤ 100 by omega) (show n ≤ 100 by omega)
 obtain ⟨L, hL⟩ : ∃ L, L = encZ m n t s S := ⟨_, rfl⟩
 obtain ⟨lr, hlr⟩ : ∃ lr, L = (m : Int) :: lr := ⟨_, hL⟩
 have hg0 : L.getD 0 0 = (m : Int) := by rw [hL]; rfl
 have hg1 : L.getD 1 0 = (n : Int) := by rw [hL]; rfl
 have hg2 : L.getD 2 0 = t := by rw [hL]; rfl
 have hg3 : L.getD 3 0 = s := by rw [hL]; rfl
 rw [← hL] at hel hbd hlen ⊢
 have hlrl : lr.length + 1 = L.length := by rw [hlr]; rfl
 refine Q8 [⟨21, 1, [], []⟩, ⟨29, 1, [0, 1, 2, 4, 7, 9, 12, 14, 15, 16, 17, 3, 5, 6, 8, 10, 11, 13, 18, 19, 20], []⟩] [] spq [] Tryz.func30 rfl mixed (by kernel_rfl) Tryz.ntmps30 Tryz.results30 rfl ⟨by simp, by simp⟩ spq ?_
 simp only [toS, textOps, toSOp, kindAt, kindOf, odAt, sopsAt, ordOf, zipF]
 repeat' first | apply jS | apply jO | apply jN | refine Q1 ?_ | refine Q0 ?_ | refine Qf fun _ => ?_ | apply jT
 rename_i b4
 refine Qk (A := [_]) (B := []) rfl pqq rfl eqq rfl (fun w hk hs => by
  have h := Qi6 w (m : Int) lr (by rw [← hlr]; exact hlen) oq (hmax.mono hk)
  rw [← hlr] at h
  exact h) fun w v23 w' _ _ _ hR => ?_
 obtain ⟨Ns, hNs, hOs⟩ := hR
 refine ⟨Ns, hNs, ?_⟩
 clear hNs
 obtain ⟨LL, hLL⟩ : ∃ LL, LL = L.length := ⟨_, rfl⟩
 have hOs' : OwnRow 9 1 Ns v23 LL (L.map fun x => sv (tx x)) := by rw [hLL]; exact hOs
 skip
 refine Xg rfl rfl rfl hOs'.rd ?_
 repeat' first | apply jN | apply jT | refine Q1 ?_ | apply jB
 refine Qj (ι := Nat × Value × SHeap) ⟨fun z => [(25, nv z.1), (24, nv LL), (23, v23), (4, .pointer (some ⟨b4, 0, none⟩)), (0, sv (encT L))], fun z => (b4, .cells #[z.2.1] 26) :: (z.2.2 ++ (Ns ++ [])),
  fun z => z.1 ≤ LL ∧ OwnZ z.2.2 z.2.1 z.1 (L.take z.1), fun z => LL - z.1⟩ (0, .slice none 0 0, []) ⟨by omega, OwnZ.nil⟩ cqq (HSub.refl _) (fun z hz => ?_)
 obtain ⟨k, v4, Nl⟩ := z
 obtain ⟨hk, hO⟩ := hz
 dsimp only at hk hO ⊢
 obtain ⟨A4, c4, rfl⟩ := hO.form
 by_cases hlt : k < LL
 ·have hxk : (tx (L.getD k 0)).length ≤ 10000000 := by
   have := Q6n (hbd (L.getD k 0) (Ze (show k < L.length by omega)))
   omega
  repeat' first | apply jS | apply jO | apply jN | apply jT | (refine Qi (h1 := ?_) (h2 := ?_) <;> intro hc <;> try (exfalso; omega)) | apply jK | refine Q5 rfl ?_ | apply jB
  refine YD rfl rfl rfl rfl hOs'.rd hlt ?_
  skip
  refine Q0m (u := sv (tx (L.getD k 0))) rfl rfl rfl rfl hOs'.rd (HSub.skip (Qh HSub.in0)) (by rw [List.getElem?_map, List.getD, List.getElem?_eq_getElem (show k < L.length by omega)]; rfl) ?_
  repeat' first | apply jS | apply jO | apply jN | refine Q1 ?_ | refine Q0 ?_ | apply jT
  refine Qb pqq rfl eqq rfl (fun w _ _ => Qi8 w (tx (L.getD k 0)) hxk) fun w v w' _ _ _ hR => ?_
  rw [Qgt] at hR
  subst hR
  repeat' first | apply jS | apply jO | apply jN | apply jT | refine Q1 ?_ | refine Q0 ?_ | refine Q7 ?_ | refine Qg ?_ | refine QT (h := ?_) | refine Qo (h := ?_) | refine Q3 ?_ | refine Qf fun _ => ?_ | refine Q3 ?_ | apply jK | refine Q4 rfl ?_
  refine Wn (sz := 2) (vs := [Wv (L.getD k 0)]) (cl := [.bool (wz (L.getD k 0)).1, sv (wz (L.getD k 0)).2]) rfl rfl (by first | rfl | trivial | exact ⟨rfl, rfl⟩) rfl rfl (fun v hv => by
   cases List.mem_singleton.1 hv; rfl) rfl dq dq (fun b38 => ?_)
  have h1 := Q3o b38 (L.getD k 0)
  skip
  refine Zn (A := [_, _, _]) (N := Nl) (B := Ns ++ []) hO h1.rd Q9 rfl pqq rfl rfl rfl rfl oq (fun v' N' hO' => ?_)
  rw [← Q67 oq] at hO'
  obtain ⟨A5, c5, rfl⟩ := hO'.form
  repeat' first | apply jO | apply jN | apply jT | refine Q1 ?_ | refine Qe ?_ | refine QL (k := _) (h := ?_) | apply jW
  exact Qa (k + 1, .slice A5 (k + 1) c5, N') ⟨by dsimp only; omega, hO'⟩ dgq cqq (HSub.skip (HSub.skip (HSub.refl _)))
 ·obtain rfl : k = LL := by omega
  rw [List.take_of_length_le oq] at hO
  clear hOs hOs'
  obtain ⟨bl, hA4⟩ : ∃ bl, A4 = some ⟨bl, 0, none⟩ := by
   obtain ⟨_, ⟨_, h2, _⟩ | ⟨b, cap, cur, h1, _⟩⟩ := hO
   ·omega
   ·exact ⟨b, by cases h1; rfl⟩
  subst hA4
  have hRl : ∀ c : Cx, RdZ c Nl (.slice (some ⟨bl, 0, none⟩) k c4) k L := fun c => hO.rd
  have hkc : k ≤ c4 := by
   obtain ⟨_, ⟨_, h2, _⟩ | ⟨b, cap, cur, h1, _, h3, _⟩⟩ := hO
   ·omega
   ·cases h1; exact h3
  repeat' first | apply jS | apply jO | apply jN | apply jT | refine Q1 ?_ | (refine Qi (h1 := ?_) (h2 := ?_) <;> intro hc <;> try (exfalso; omega)) | refine Qf fun _ => ?_ | apply jU | apply jE | refine Q4 rfl ?_ | apply jB | refine Qc ?_
  rename_i b9
  refine Qj (ι := Nat) ⟨fun z => [(41, nv z), (9, .pointer (some ⟨b9, 0, none⟩)), (4, .pointer (some ⟨b4, 0, none⟩)), (0, sv (encT L))], fun z => (b9, .cells (hdK m n t s z) 114) :: (b4, .cells #[.slice (some ⟨bl, 0, none⟩) k c4] 26) :: (Nl ++ []),
   fun z => z ≤ 4, fun z => 4 - z⟩ 0 oq cqq (HSub.at 0 rfl (HSub.at 0 rfl (by rw [List.append_nil]; exact HSub.in0))) (fun z hz => ?_)
  dsimp only at hz ⊢
  by_cases hlt4 : z < 4
  ·have hb8 : ∀ i, i < 4 → (L.getD i 0).natAbs < 256 ^ 8 := fun i hi => by
    rw [e8]
    rcases (show i = 0 ∨ i = 1 ∨ i = 2 ∨ i = 3 by omega) with rfl | rfl | rfl | rfl
    ·rw [hg0]; omega
    ·rw [hg1]; omega
    ·rw [hg2]; omega
    ·rw [hg3]; omega
   rcases (show z = 0 ∨ z = 1 ∨ z = 2 ∨ z = 3 by omega) with rfl | rfl | rfl | rfl
   ·repeat' first | apply jS | apply jO | apply jN | apply jT | refine Q1 ?_ | refine Q0 ?_ | refine Q7 ?_ | refine QV (h := ?_) | refine Yq (h := ?_) | refine ZH (h := ?_) | (refine Qi (h1 := ?_) (h2 := ?_) <;> intro hc <;> try (exfalso; omega)) | apply jK | refine Q5 rfl ?_ | refine Q4 rfl ?_ | apply jB
    all_goals first
     | (exfalso; omega)
     | skip
    refine Qb pqq rfl eqq rfl (fun w _ _ => Qe9 w _ (L.getD 0 0) 8 (Qq (hb8 0 oq)) oq) fun w v w' _ _ _ hR => ?_
    unfold IRes at hR
    rw [hg0, if_pos oq] at hR
    subst hR
    repeat' first | apply jS | apply jO | apply jN | apply jT | refine Q1 ?_ | refine Q0 ?_ | refine Qe ?_ | refine QT (h := ?_) | refine Qo (h := ?_) | refine ZB (h := ?_) | refine QL (k := _) (h := ?_) | apply jK | refine Q4 rfl ?_ | apply jW
    exact Qa 1 dgp dgp cqq (HSub.refl _)
   ·repeat' first | apply jS | apply jO | apply jN | apply jT | refine Q1 ?_ | refine Q0 ?_ | refine Q7 ?_ | refine QV (h := ?_) | refine Yq (h := ?_) | refine ZH (h := ?_) | (refine Qi (h1 := ?_) (h2 := ?_) <;> intro hc <;> try (exfalso; omega)) | apply jK | refine Q5 rfl ?_ | refine Q4 rfl ?_ | apply jB
    all_goals first
     | (exfalso; omega)
     | skip
    refine Qb pqq rfl eqq rfl (fun w _ _ => Qe9 w _ (L.getD 1 0) 8 (Qq (hb8 1 oq)) oq) fun w v w' _ _ _ hR => ?_
    unfold IRes at hR
    rw [hg1, if_pos oq] at hR
    subst hR
    repeat' first | apply jS | apply jO | apply jN | apply jT | refine Q1 ?_ | refine Q0 ?_ | refine Qe ?_ | refine QT (h := ?_) | refine Qo (h := ?_) | refine ZB (h := ?_) | refine QL (k := _) (h := ?_) | apply jK | refine Q4 rfl ?_ | apply jW
    exact Qa 2 dgp dgp cqq (HSub.refl _)
   ·repeat' first | apply jS | apply jO | apply jN | apply jT | refine Q1 ?_ | refine Q0 ?_ | refine Q7 ?_ | refine QV (h := ?_) | refine Yq (h := ?_) | refine ZH (h := ?_) | (refine Qi (h1 := ?_) (h2 := ?_) <;> intro hc <;> try (exfalso; omega)) | apply jK | refine Q5 rfl ?_ | refine Q4 rfl ?_ | apply jB
    all_goals first
     | (exfalso; omega)
     | skip
    refine Qb pqq rfl eqq rfl (fun w _ _ => Qe9 w _ (L.getD 2 0) 8 (Qq (hb8 2 oq)) oq) fun w v w' _ _ _ hR => ?_
    unfold IRes at hR
    rw [hg2, if_pos oq] at hR
    subst hR
    repeat' first | apply jS | apply jO | apply jN | apply jT | refine Q1 ?_ | refine Q0 ?_ | refine Qe ?_ | refine QT (h := ?_) | refine Qo (h := ?_) | refine ZB (h := ?_) | refine QL (k := _) (h := ?_) | apply jK | refine Q4 rfl ?_ | apply jW
    exact Qa 3 dgp dgp cqq (HSub.refl _)
   ·repeat' first | apply jS | apply jO | apply jN | apply jT | refine Q1 ?_ | refine Q0 ?_ | refine Q7 ?_ | refine QV (h := ?_) | refine Yq (h := ?_) | refine ZH (h := ?_) | (refine Qi (h1 := ?_) (h2 := ?_) <;> intro hc <;> try (exfalso; omega)) | apply jK | refine Q5 rfl ?_ | refine Q4 rfl ?_ | apply jB
    all_goals first
     | (exfalso; omega)
     | skip
    refine Qb pqq rfl eqq rfl (fun w _ _ => Qe9 w _ (L.getD 3 0) 8 (Qq (hb8 3 oq)) oq) fun w v w' _ _ _ hR => ?_
    unfold IRes at hR
    rw [hg3, if_pos oq] at hR
    subst hR
    repeat' first | apply jS | apply jO | apply jN | apply jT | refine Q1 ?_ | refine Q0 ?_ | refine Qe ?_ | refine QT (h := ?_) | refine Qo (h := ?_) | refine ZB (h := ?_) | refine QL (k := _) (h := ?_) | apply jK | refine Q4 rfl ?_ | apply jW
    exact Qa 4 dgp dgp cqq (HSub.refl _)
  ·obtain rfl : z = 4 := by omega
   clear hlt4 hlt
   repeat' first | apply jS | apply jO | apply jD | apply jN | apply jT | (refine Qi (h1 := ?_) (h2 := ?_) <;> intro hc <;> try (exfalso; omega)) | apply jU | apply jE | refine Q4 rfl ?_ | refine Qc ?_
   refine ZB (j := 0) rfl rfl rfl rfl oq ?_
   repeat' first | refine Q7 ?_ | fail
   refine ZB (j := 1) rfl rfl rfl rfl oq ?_
   repeat' first | apply jS | apply jO | apply jN | refine Q1 ?_ | refine Q0 ?_ | refine Q7 ?_ | refine ZH (h := ?_) | refine Qge (h := ?_) | refine Q8e (h := ?_) | refine Qgf (h := ?_) | refine Qn ?_ | (refine Qi (h1 := ?_) (h2 := ?_) <;> intro hc <;> try (exfalso; omega)) | (refine QM (h1 := ?_) (h2 := ?_) <;> intro hc <;> try (exfalso; omega)) | apply jT
   have hmI : 2 * (m : Int) * (m : Int) = ((2 * (m * m) : Nat) : Int) := by rw [Int.mul_assoc, Int.natCast_mul, Int.natCast_mul]; rfl
   have hnI : 2 * (n : Int) * (n : Int) = ((2 * (n * n) : Nat) : Int) := by rw [Int.mul_assoc, Int.natCast_mul, Int.natCast_mul]; rfl
   refine Qge (i := 2 * (m : Int)) (j := (m : Int)) rfl rfl rfl rfl (by rw [hmI]; omega) ?_
   rw [hmI]
   repeat' first | apply jS | apply jO | apply jN | apply jT | refine Q1 ?_ | refine Q7 ?_ | refine Z2 (h := ?_) | refine Q60 (h := ?_) | refine Qge (h := ?_) | refine Qn ?_ | (refine Yf (h1 := ?_) (h2 := ?_) <;> intro hc <;> try (exfalso; omega)) | apply jK | refine Q4 rfl ?_
   refine XP (b := bl) (o := 0) (l := 4) (h' := k) rfl rfl rfl (fun _ => rfl) rfl rfl (.inl rfl) rfl rfl (.inr ⟨rfl, rfl⟩) oq oq hkc (fun B0 hB0 => ?_)
   have hS0 : SubA bl 4 (k - 4) (c4 - 4) B0 := ⟨fun h => by have := hB0 oq; simpa using this, by omega⟩
   clear hB0
   obtain ⟨d0, hd0⟩ : ∃ d0, d0 = c4 - 4 := ⟨_, rfl⟩
   rw [← hd0] at hS0 ⊢
   repeat' first | apply jS | apply jO | apply jN | refine Q1 ?_ | refine Q0 ?_ | refine ZG (h := ?_) | refine QL (k := _) (h := ?_) | apply jT
   refine Wl (A := [(b9, .cells (hdK m n t s 4) 114)]) (N := [(b4, .cells #[.slice B0 (k - 4) d0] 26)]) (B := Nl ++ []) (first := #[]) (cap := #[.pointer (some ⟨b4, 0, none⟩)]) (R := fun _ v w' => ∃ A1 c1 A2 c2, v = .agg #[nv m, nv m, .slice A1 (m * m) c1] ∧ SubA bl (4) (m * m) c1 A1 ∧ SubA bl (4 + m * m) (k - 4 - m * m) c2 A2 ∧ w'.heap[b4]? = some (.cells #[.slice A2 (k - 4 - m * m) c2] 26)) rfl pqq rfl eqq rfl rfl (fun w _ hs => Q28 w b4 bl (4) (k - 4) d0 m m B0 hS0 ((HSub.at 1 rfl (HSub.nil _)).hsat hs) oq oq oq) (fun w1 v1 w2 _ _ _ hR => ?_)
   obtain ⟨E1, e1, B1, d1, rfl, hE1, hS1, hin⟩ := hR
   refine ⟨[(b4, .cells #[.slice B1 (k - 4 - m * m) d1] 26)], rfl, fun p hp => by cases List.mem_singleton.1 hp; exact hin, ?_⟩
   clear hin
   repeat' first | refine Q1 ?_ | fail
   refine Wl (A := [(b9, .cells (hdK m n t s 4) 114)]) (N := [(b4, .cells #[.slice B1 (k - 4 - m * m) d1] 26)]) (B := Nl ++ []) (first := #[]) (cap := #[.pointer (some ⟨b4, 0, none⟩)]) (R := fun _ v w' => ∃ A1 c1 A2 c2, v = .agg #[nv m, nv m, .slice A1 (m * m) c1] ∧ SubA bl (4 + m * m) (m * m) c1 A1 ∧ SubA bl (4 + m * m + m * m) (k - 4 - m * m - m * m) c2 A2 ∧ w'.heap[b4]? = some (.cells #[.slice A2 (k - 4 - m * m - m * m) c2] 26)) rfl pqq rfl eqq rfl rfl (fun w _ hs => Q28 w b4 bl (4 + m * m) (k - 4 - m * m) d1 m m B1 hS1 ((HSub.at 1 rfl (HSub.nil _)).hsat hs) oq oq oq) (fun w1 v1 w2 _ _ _ hR => ?_)
   obtain ⟨E2, e2, B2, d2, rfl, hE2, hS2, hin⟩ := hR
   refine ⟨[(b4, .cells #[.slice B2 (k - 4 - m * m - m * m) d2] 26)], rfl, fun p hp => by cases List.mem_singleton.1 hp; exact hin, ?_⟩
   clear hin
   repeat' first | refine Q1 ?_ | fail
   refine Wl (A := [(b9, .cells (hdK m n t s 4) 114)]) (N := [(b4, .cells #[.slice B2 (k - 4 - m * m - m * m) d2] 26)]) (B := Nl ++ []) (first := #[]) (cap := #[.pointer (some ⟨b4, 0, none⟩)]) (R := fun _ v w' => ∃ A1 c1 A2 c2, v = .agg #[nv m, nv n, .slice A1 (m * n) c1] ∧ SubA bl (4 + m * m + m * m) (m * n) c1 A1 ∧ SubA bl (4 + m * m + m * m + m * n) (k - 4 - m * m - m * m - m * n) c2 A2 ∧ w'.heap[b4]? = some (.cells #[.slice A2 (k - 4 - m * m - m * m - m * n) c2] 26)) rfl pqq rfl eqq rfl rfl (fun w _ hs => Q28 w b4 bl (4 + m * m + m * m) (k - 4 - m * m - m * m) d2 m n B2 hS2 ((HSub.at 1 rfl (HSub.nil _)).hsat hs) oq oq oq) (fun w1 v1 w2 _ _ _ hR => ?_)
   obtain ⟨E3, e3, B3, d3, rfl, hE3, hS3, hin⟩ := hR
   refine ⟨[(b4, .cells #[.slice B3 (k - 4 - m * m - m * m - m * n) d3] 26)], rfl, fun p hp => by cases List.mem_singleton.1 hp; exact hin, ?_⟩
   clear hin
   repeat' first | refine Q1 ?_ | fail
   refine Wl (A := [(b9, .cells (hdK m n t s 4) 114)]) (N := [(b4, .cells #[.slice B3 (k - 4 - m * m - m * m - m * n) d3] 26)]) (B := Nl ++ []) (first := #[]) (cap := #[.pointer (some ⟨b4, 0, none⟩)]) (R := fun _ v w' => ∃ A1 c1 A2 c2, v = .agg #[nv n, nv n, .slice A1 (n * n) c1] ∧ SubA bl (4 + m * m + m * m + m * n) (n * n) c1 A1 ∧ SubA bl (4 + m * m + m * m + m * n + n * n) (k - 4 - m * m - m * m - m * n - n * n) c2 A2 ∧ w'.heap[b4]? = some (.cells #[.slice A2 (k - 4 - m * m - m * m - m * n - n * n) c2] 26)) rfl pqq rfl eqq rfl rfl (fun w _ hs => Q28 w b4 bl (4 + m * m + m * m + m * n) (k - 4 - m * m - m * m - m * n) d3 n n B3 hS3 ((HSub.at 1 rfl (HSub.nil _)).hsat hs) oq oq oq) (fun w1 v1 w2 _ _ _ hR => ?_)
   obtain ⟨E4, e4, B4, d4, rfl, hE4, hS4, hin⟩ := hR
   refine ⟨[(b4, .cells #[.slice B4 (k - 4 - m * m - m * m - m * n - n * n) d4] 26)], rfl, fun p hp => by cases List.mem_singleton.1 hp; exact hin, ?_⟩
   clear hin
   repeat' first | refine Q1 ?_ | fail
   refine Wl (A := [(b9, .cells (hdK m n t s 4) 114)]) (N := [(b4, .cells #[.slice B4 (k - 4 - m * m - m * m - m * n - n * n) d4] 26)]) (B := Nl ++ []) (first := #[]) (cap := #[.pointer (some ⟨b4, 0, none⟩)]) (R := fun _ v w' => ∃ A1 c1 A2 c2, v = .agg #[nv n, nv n, .slice A1 (n * n) c1] ∧ SubA bl (4 + m * m + m * m + m * n + n * n) (n * n) c1 A1 ∧ SubA bl (4 + m * m + m * m + m * n + n * n + n * n) (k - 4 - m * m - m * m - m * n - n * n - n * n) c2 A2 ∧ w'.heap[b4]? = some (.cells #[.slice A2 (k - 4 - m * m - m * m - m * n - n * n - n * n) c2] 26)) rfl pqq rfl eqq rfl rfl (fun w _ hs => Q28 w b4 bl (4 + m * m + m * m + m * n + n * n) (k - 4 - m * m - m * m - m * n - n * n) d4 n n B4 hS4 ((HSub.at 1 rfl (HSub.nil _)).hsat hs) oq oq oq) (fun w1 v1 w2 _ _ _ hR => ?_)
   obtain ⟨E5, e5, B5, d5, rfl, hE5, hS5, hin⟩ := hR
   refine ⟨[(b4, .cells #[.slice B5 (k - 4 - m * m - m * m - m * n - n * n - n * n) d5] 26)], rfl, fun p hp => by cases List.mem_singleton.1 hp; exact hin, ?_⟩
   clear hin
   repeat' first | refine Q3 ?_ | refine Qf fun _ => ?_ | refine Q3 ?_ | apply jN
   rename_i b16 b17 b18 b19 b20
   refine JX.part (F' := [(20, .pointer (some ⟨b20, 0, none⟩)), (19, .pointer (some ⟨b19, 0, none⟩)), (18, .pointer (some ⟨b18, 0, none⟩)), (17, .pointer (some ⟨b17, 0, none⟩)), (16, .pointer (some ⟨b16, 0, none⟩)), (13, nv m), (14, nv n), (9, .pointer (some ⟨b9, 0, none⟩)), (0, sv (encT L))]) (H' := [(b20, .cells #[nv n, nv n, .slice E5 (n * n) e5] 28), (b19, .cells #[nv n, nv n, .slice E4 (n * n) e4] 28), (b18, .cells #[nv m, nv n, .slice E3 (m * n) e3] 28), (b17, .cells #[nv m, nv m, .slice E2 (m * m) e2] 28), (b16, .cells #[nv m, nv m, .slice E1 (m * m) e1] 28), (b9, .cells #[nv m, nv n, iv t, iv s] 114)] ++ (Nl ++ [])) cqq Qv ?_
   refine QE ?_
   have hLe : L = [(m : Int), (n : Int), t, s] ++ (S.u.flatten ++ (S.ui.flatten ++ (S.d.flatten ++ (S.v.flatten ++ (S.vi.flatten ++ []))))) := by rw [hL, List.append_nil]; rfl
   have hp1 : (L.drop (4)).take (m * m) = S.u.flatten := by
    have h := Wy (A := [(m : Int), (n : Int), t, s]) (B := S.u.flatten) (C := S.ui.flatten ++ (S.d.flatten ++ (S.v.flatten ++ (S.vi.flatten ++ [])))) (o := 4) (k := m * m) (by simp only [List.length_append, List.length_cons]; rfl) (QK hD.u)
    rw [hLe]
    simpa only [List.append_assoc] using h
   have hp2 : (L.drop (4 + m * m)).take (m * m) = S.ui.flatten := by
    have h := Wy (A := ([(m : Int), (n : Int), t, s] ++ S.u.flatten)) (B := S.ui.flatten) (C := S.d.flatten ++ (S.v.flatten ++ (S.vi.flatten ++ []))) (o := 4 + m * m) (k := m * m) (by simp only [List.length_append, QK hD.u]; rfl) (QK hD.ui)
    rw [hLe]
    simpa only [List.append_assoc] using h
   have hp3 : (L.drop (4 + m * m + m * m)).take (m * n) = S.d.flatten := by
    have h := Wy (A := (([(m : Int), (n : Int), t, s] ++ S.u.flatten) ++ S.ui.flatten)) (B := S.d.flatten) (C := S.v.flatten ++ (S.vi.flatten ++ [])) (o := 4 + m * m + m * m) (k := m * n) (by simp only [List.length_append, QK hD.u, QK hD.ui]; rfl) (QK hD.d)
    rw [hLe]
    simpa only [List.append_assoc] using h
   have hp4 : (L.drop (4 + m * m + m * m + m * n)).take (n * n) = S.v.flatten := by
    have h := Wy (A := ((([(m : Int), (n : Int), t, s] ++ S.u.flatten) ++ S.ui.flatten) ++ S.d.flatten)) (B := S.v.flatten) (C := S.vi.flatten ++ []) (o := 4 + m * m + m * m + m * n) (k := n * n) (by simp only [List.length_append, QK hD.u, QK hD.ui, QK hD.d]; rfl) (QK hD.v)
    rw [hLe]
    simpa only [List.append_assoc] using h
   have hp5 : (L.drop (4 + m * m + m * m + m * n + n * n)).take (n * n) = S.vi.flatten := by
    have h := Wy (A := (((([(m : Int), (n : Int), t, s] ++ S.u.flatten) ++ S.ui.flatten) ++ S.d.flatten) ++ S.v.flatten)) (B := S.vi.flatten) (C := []) (o := 4 + m * m + m * m + m * n + n * n) (k := n * n) (by simp only [List.length_append, QK hD.u, QK hD.ui, QK hD.d, QK hD.v]; rfl) (QK hD.vi)
    rw [hLe]
    simpa only [List.append_assoc] using h
   repeat' first | apply jS | refine Qg ?_ | apply jO
   refine Qb pqq rfl eqq rfl (fun w hk hs => Qfh K K w _ _ (gM m m S.u) (gM m m S.ui) (Xm hD.u oq oq) (Xm hD.ui oq oq) oq (Q5n hb.u) (Q5n hb.ui) (YT hE1 (hRl _) oq hD.u hp1 hk hs Q9) (YT hE2 (hRl _) oq hD.ui hp2 hk hs Q9) rfl) fun w v w' _ _ _ hR => ?_
   obtain ⟨y1, rfl, hy1⟩ := hR
   cases y1 with
   | false =>
    have hno : ¬ opnP m n t s S := fun h => by have := hy1.2 h.1; cases this
    repeat' first | apply jS | apply jO | apply jN | apply jT | refine Q1 ?_ | refine Q0 ?_ | refine Ql ?_ | refine QT (h := ?_) | apply jV | refine Q5 rfl ?_ | refine Qy (h := ?_) | apply jR
    exact Zp rfl rfl (fun a w' st => ⟨st.kp, .inr ⟨hno, rfl⟩⟩)
   | true =>
    have hy1 := hy1.1 rfl
    repeat' first | refine Q1 ?_ | refine Qg ?_ | refine QT (h := ?_) | fail
    refine Qb pqq rfl eqq rfl (fun w hk hs => Qfh K K w _ _ (gM n n S.v) (gM n n S.vi) (Xm hD.v oq oq) (Xm hD.vi oq oq) oq (Q5n hb.v) (Q5n hb.vi) (YT hE4 (hRl _) oq hD.v hp4 hk hs Q9) (YT hE5 (hRl _) oq hD.vi hp5 hk hs Q9) rfl) fun w v w' _ _ _ hR => ?_
    obtain ⟨y2, rfl, hy2⟩ := hR
    cases y2 with
    | false =>
     have hno : ¬ opnP m n t s S := fun h => by have := hy2.2 h.2.1; cases this
     repeat' first | apply jS | apply jO | apply jN | apply jT | refine Q0 ?_ | refine Qn ?_ | refine QT (h := ?_) | apply jV | apply jR | refine Q5 rfl ?_
     exact Zp rfl rfl (fun a w' st => ⟨st.kp, .inr ⟨hno, rfl⟩⟩)
    | true =>
     have hy2 := hy2.1 rfl
     repeat' first | apply jS | apply jD | apply jN | apply jT | refine Q1 ?_ | refine Qg ?_ | refine Qn ?_ | refine QT (h := ?_) | apply jK | refine Q4 rfl ?_
     refine ZB (j := 2) rfl rfl rfl rfl oq ?_
     repeat' first | refine Q7 ?_ | fail
     refine ZB (j := 3) rfl rfl rfl rfl oq ?_
     repeat' first | refine Q7 ?_ | fail
     refine Qk (A := [_, _, _, _, _, _]) (B := Nl ++ []) rfl pqq rfl eqq rfl (fun w hk hs => Y1 w _ (gM m m S.u) (Xm hD.u oq oq) (YT hE1 (hRl _) oq hD.u hp1 hk hs Q9)) fun w v w' _ _ _ hR => ?_
     obtain ⟨Nu, tu, hNu, hTu, hLu⟩ := hR
     obtain ⟨Au, cu, rfl⟩ := hTu.form
     refine ⟨Nu ++ tH tu, hNu, ?_⟩
     clear hNu
     skip
     refine Qk (A := [_, _, _, _, _, _]) (B := (Nu ++ tH tu) ++ (Nl ++ [])) rfl pqq rfl eqq rfl (fun w hk hs => X3 w _ (gM m m S.ui) (Xm hD.ui oq oq) (YT hE2 (hRl _) oq hD.ui hp2 hk hs Q9)) fun w v w' _ _ _ hR => ?_
     obtain ⟨Mp, hMp, Fp, rfl, hOp⟩ := hR
     obtain ⟨Gp, gp, rfl⟩ := hOp.form
     refine ⟨Mp, hMp, ?_⟩
     clear hMp
     skip
     refine Qk (A := [_, _, _, _, _, _]) (B := Mp ++ ((Nu ++ tH tu) ++ (Nl ++ []))) rfl pqq rfl eqq rfl (fun w hk hs => Y1 w _ (trZ (gM m m S.ui)) (X5 (show m ≤ 200 by omega) (show m ≤ 200 by omega)) ⟨_, rfl, hOp.rd.at hk hs Q9⟩) fun w v w' _ _ _ hR => ?_
     obtain ⟨Ni, ti, hNi, hTi, hLi⟩ := hR
     obtain ⟨Ai, ci, rfl⟩ := hTi.form
     refine ⟨Ni ++ tH ti, hNi, ?_⟩
     clear hNi
     skip
     refine Qk (A := [_, _, _, _, _, _]) (B := (Ni ++ tH ti) ++ (Mp ++ ((Nu ++ tH tu) ++ (Nl ++ [])))) rfl pqq rfl eqq rfl (fun w hk hs => Y1 w _ (gM m n S.d) (Xm hD.d oq oq) (YT hE3 (hRl _) oq hD.d hp3 hk hs Q9)) fun w v w' _ _ _ hR => ?_
     obtain ⟨Nd, td, hNd, hTd, hLd⟩ := hR
     obtain ⟨Ad, cd, rfl⟩ := hTd.form
     refine ⟨Nd ++ tH td, hNd, ?_⟩
     clear hNd
     skip
     refine Qk (A := [_, _, _, _, _, _]) (B := (Nd ++ tH td) ++ ((Ni ++ tH ti) ++ (Mp ++ ((Nu ++ tH tu) ++ (Nl ++ []))))) rfl pqq rfl eqq rfl (fun w hk hs => X3 w _ (gM n n S.v) (Xm hD.v oq oq) (YT hE4 (hRl _) oq hD.v hp4 hk hs Q9)) fun w v w' _ _ _ hR => ?_
     obtain ⟨Mq, hMq, Fq, rfl, hOq⟩ := hR
     obtain ⟨Gq, gq, rfl⟩ := hOq.form
     refine ⟨Mq, hMq, ?_⟩
     clear hMq
     skip
     refine Qk (A := [_, _, _, _, _, _]) (B := Mq ++ ((Nd ++ tH td) ++ ((Ni ++ tH ti) ++ (Mp ++ ((Nu ++ tH tu) ++ (Nl ++ [])))))) rfl pqq rfl eqq rfl (fun w hk hs => Y1 w _ (trZ (gM n n S.v)) (X5 (show n ≤ 200 by omega) (show n ≤ 200 by omega)) ⟨_, rfl, hOq.rd.at hk hs Q9⟩) fun w v w' _ _ _ hR => ?_
     obtain ⟨Nx, tx, hNx, hTx, hLx⟩ := hR
     obtain ⟨Ax, cx, rfl⟩ := hTx.form
     refine ⟨Nx ++ tH tx, hNx, ?_⟩
     clear hNx
     skip
     refine Qk (A := [_, _, _, _, _, _]) (B := (Nx ++ tH tx) ++ (Mq ++ ((Nd ++ tH td) ++ ((Ni ++ tH ti) ++ (Mp ++ ((Nu ++ tH tu) ++ (Nl ++ []))))))) rfl pqq rfl eqq rfl (fun w hk hs => Y1 w _ (gM n n S.vi) (Xm hD.vi oq oq) (YT hE5 (hRl _) oq hD.vi hp5 hk hs Q9)) fun w v w' _ _ _ hR => ?_
     obtain ⟨Nj, tj, hNj, hTj, hLj⟩ := hR
     obtain ⟨Aj, cj, rfl⟩ := hTj.form
     refine ⟨Nj ++ tH tj, hNj, ?_⟩
     clear hNj
     skip
     obtain ⟨W, hWd⟩ : ∃ W : WV, W = ⟨.slice Au tu.length cu, .slice Ai ti.length ci, .slice Ad td.length cd, .slice Ax tx.length cx, .slice Aj tj.length cj, Nu, Ni, Nd, Nx, Nj⟩ := ⟨_, rfl⟩
     obtain ⟨T, hTd'⟩ : ∃ T : WT, T = ⟨tu, ti, td, tx, tj⟩ := ⟨_, rfl⟩
     have hW : IsBj W m n T S := by
      subst hWd hTd'
      rw [Q1j hD.u oq oq] at hLu
      rw [Q4l hD.ui oq oq] at hLi
      rw [Q1j hD.d oq oq] at hLd
      rw [Q4l hD.v oq oq] at hLx
      rw [Q1j hD.vi oq oq] at hLj
      have hln : ∀ {r c : Nat} {g : List (List Int)} {ts : List TR}, ts.map (·.2.2) = g → Rec r c g → ts.length = r := fun h hr => by rw [← hr.len, ← h, List.length_map]
      exact ⟨⟨hTu, hln hLu hD.u, hLu⟩, ⟨hTi, hln hLi (Zt _ _ _), hLi⟩, ⟨hTd, hln hLd hD.d, hLd⟩, ⟨hTx, hln hLx (Zt _ _ _), hLx⟩, ⟨hTj, hln hLj hD.vi, hLj⟩⟩
     refine Zv (l := [(0, nv m), (1, nv n), (2, .slice Au tu.length cu), (3, .slice Ai ti.length ci), (4, .slice Ad td.length cd), (5, .slice Ax tx.length cx), (6, .slice Aj tj.length cj), (7, iv t), (8, iv s)]) (cs := #[nv m, nv n, .slice Au tu.length cu, .slice Ai ti.length ci, .slice Ad td.length cd, .slice Ax tx.length cx, .slice Aj tj.length cj, iv t, iv s]) rfl rfl rfl (by kernel_rfl) ?_
     refine QB rfl rfl rfl rfl (fun b21 => ?_)
     repeat' first | refine Q0 ?_ | apply jN
     refine JX.part (F' := [(21, .pointer (some ⟨b21, 0, none⟩)), (0, sv (encT L))]) (H' := jgH b21 W m n t s T) cqq (by subst hWd hTd'; exact ⟨_, Qaf (x := [_]) (y := [_, _, _, _, _, _])⟩) ?_
     refine QE ?_
     clear hLu hLi hLd hLx hLj hTu hTi hTd hTx hTj hWd hTd' hOp hOq
     repeat' first | apply jS | refine Q1 ?_ | apply jO
     refine Qb pqq rfl eqq rfl (fun w _ hs => Qe4 K w b21 W m n t s T S hW hs oq oq oq oq oq hb.d) fun w v w' _ _ _ hR => ?_
     subst hR
     cases hsn : sndF m n t s S with
     | false =>
      have hno : ¬ opnP m n t s S := fun h => by have := h.2.2; rw [hsn] at this; cases this
      repeat' first | apply jS | apply jO | apply jN | apply jT | refine Q1 ?_ | refine Q0 ?_ | refine Ql ?_ | refine QT (h := ?_) | apply jV | refine Q5 rfl ?_ | refine Qy (h := ?_) | apply jR
      exact Zp rfl rfl (fun a w' st => ⟨st.kp, .inr ⟨hno, rfl⟩⟩)
     | true =>
      have hopn : opnP m n t s S := ⟨hy1, hy2, hsn⟩
      obtain ⟨ht0, hs1⟩ := Qg0 hsn
      obtain ⟨tn, rfl⟩ := Int.eq_ofNat_of_zero_le ht0
      obtain ⟨sn, rfl⟩ := Int.eq_ofNat_of_zero_le hs1
      repeat' first | refine Q1 ?_ | refine QT (h := ?_) | fail
      refine Qb pqq rfl eqq rfl (fun w _ hs => WB K w b21 W m n tn sn T S hW hD hs hm hn oq oq hK oq hb) fun w v w' _ _ _ hR => ?_
      rw [← hL] at hR
      subst hR
      repeat' first | apply jN | refine Q1 ?_ | refine Qn ?_ | refine Yg (h := ?_) | apply jT
      rw [show decide (encT L ≠ encT L) = false from decide_eq_false (fun h => h rfl)]
      repeat' first | apply jS | apply jO | apply jN | apply jT | refine Q1 ?_ | refine Q0 ?_ | apply jK | apply jR | refine Q4 rfl ?_
      exact Zp rfl rfl (fun a w' st => ⟨st.kp, .inl ⟨hopn, b21, W, T, rfl, st.newOf rfl (HSub.refl _), hW⟩⟩)


theorem Q10 {w : World} {r q c : Nat} {A : Option Addr} {g : List (List Int)} (hg : Rec r q g) (h : WZ w (.slice A (r * q) c) (r * q) (tbz r q (gE g))) : IsM w (.agg #[nv r, nv q, .slice A (r * q) c]) (gM r q g) := ⟨_, rfl, by
 show WZ w _ (gM r q g).e.length g.flatten
 rw [show (gM r q g).e.length = r * q from QK hg, ← Yu hg]
 exact h⟩

set_option maxHeartbeats 16000000 in
theorem Q5g (K : Nat) (w : World) (b : Nat) (J : JV) (m n : Nat) (t s : Int) (S : Sm) (hJ : IsJ J m n S) (hD : Dm m n S) (hs : Hsat (jbH b J m n t s) w) (hm : m ≤ 200) (hn : n ≤ 200) (ht : t.natAbs < 1099511627776) (hs0 : s.natAbs < 1099511627776) (hK : K ≤ 42000000) (hb : Ok K S) :
  Calls Tryz.prog 36 #[.pointer (some ⟨b, 0, none⟩)] w (Ret fun v w' => Kp [] w w' ∧ IsB (opnP m n t s S) v) := by
 have hM := QC hs
 have hJu := hJ.u
 have hJui := hJ.ui
 have hJv := hJ.v
 have hJvi := hJ.vi
 have hres : ∀ w', Kp (keys (jbH b J m n t s)) w w' → (∀ p ∈ jbH b J m n t s, w'.heap[p.1]? = some p.2) → Kp [] w w' := fun w' h1 h2 => Z1 hs h1 h2
 have hmin : (if (n : Int) < (m : Int) then (n : Int) else (m : Int)) = ((min m n : Nat) : Int) := by split <;> omega
 refine Q8 [⟨1, 2, [], []⟩, ⟨2, 2, [], []⟩] (keys (jbH b J m n t s)) hM (jbH b J m n t s) Tryz.func36 rfl mixed (by kernel_rfl) Tryz.ntmps36 Tryz.results36 rfl hs (fun p hp => List.mem_map.2 ⟨p, hp, rfl⟩) ?_
 simp only [toS, textOps, toSOp, kindAt, kindOf, odAt, sopsAt, ordOf, zipF]
 unfold jbH jbC
 repeat' first | apply jS | apply jO | apply jD | apply jN | refine Q1 ?_ | refine Q2 ?_ | refine Q0 ?_ | refine Q6 ?_ | apply jT
 refine Qz 0 rfl rfl rfl rfl rfl rfl rfl rfl ?_
 repeat' first | refine Q1 ?_ | refine Q2 ?_ | refine Q6 ?_ | fail
 refine Qz 0 rfl rfl rfl rfl rfl rfl rfl rfl ?_
 skip
 refine Qb pqq rfl eqq rfl (fun w hk hs => Qbp K K w _ _ (gM m m S.u) (gM m m S.ui) (Xm hD.u hm hm) (Xm hD.ui hm hm) oq (Q5n hb.u) (Q5n hb.ui) (Q10 hD.u (hJu.rd.at hk hs Q9)) (Q10 hD.ui (hJui.rd.at hk hs Q9)) rfl) fun w v w' _ _ _ hR => ?_
 obtain ⟨y1, rfl, hy1⟩ := hR
 repeat' first | apply jS | apply jD | apply jN | refine Q1 ?_ | refine Q2 ?_ | refine Q0 ?_ | refine Q6 ?_ | apply jT
 refine Qz 0 rfl rfl rfl rfl rfl rfl rfl rfl ?_
 repeat' first | refine Q1 ?_ | refine Q2 ?_ | refine Q6 ?_ | fail
 refine Qz 0 rfl rfl rfl rfl rfl rfl rfl rfl ?_
 skip
 refine Qb pqq rfl eqq rfl (fun w hk hs => Qbp K K w _ _ (gM n n S.v) (gM n n S.vi) (Xm hD.v hn hn) (Xm hD.vi hn hn) oq (Q5n hb.v) (Q5n hb.vi) (Q10 hD.v (hJv.rd.at hk hs Q9)) (Q10 hD.vi (hJvi.rd.at hk hs Q9)) rfl) fun w v w' _ _ _ hR => ?_
 obtain ⟨y2, rfl, hy2⟩ := hR
 cases y1 with
 | false =>
  repeat' first | apply jS | apply jO | apply jD | apply jN | apply jT | refine Q1 ?_ | refine Q0 ?_ | refine Ql ?_ | refine QT (h := ?_) | apply jV | refine Q5 rfl ?_ | refine Qy (h := ?_) | apply jR
  exact Qd rfl (fun a w' st => ⟨hres w' st.kp (fun p hp => st.hs.blk p (by exact hp)), false, rfl, (⟨fun h => Bool.noConfusion h, fun h => hy1.2 h.1⟩ : (_ ↔ _)).trans .rfl⟩)
 | true =>
  cases y2 with
  | false =>
   repeat' first | apply jS | apply jO | apply jD | apply jN | apply jT | refine Q1 ?_ | refine Q0 ?_ | refine Ql ?_ | refine Qn ?_ | refine QT (h := ?_) | apply jV | refine Q5 rfl ?_ | refine Qy (h := ?_) | apply jR
   exact Qd rfl (fun a w' st => ⟨hres w' st.kp (fun p hp => st.hs.blk p (by exact hp)), false, rfl, (⟨fun h => Bool.noConfusion h, fun h => hy2.2 h.2.1⟩ : (_ ↔ _)).trans .rfl⟩)
  | true =>
   have hfin : ∀ y, sndF m n t s S = y → IsB (opnP m n t s S) (.bool y) := fun y hy => ⟨y, rfl, by rw [← hy]; exact ⟨fun h => ⟨hy1.1 rfl, hy2.1 rfl, h⟩, fun h => h.2.2⟩⟩
   by_cases hr : 0 ≤ t ∧ t ≤ (min m n : Nat) ∧ 0 ≤ s ∧ s ≤ 1099511627776
   ·obtain ⟨hr1, hr2, hr3, hr4⟩ := hr
    obtain ⟨tn, rfl⟩ := Int.eq_ofNat_of_zero_le hr1
    have hsf : sndF m n tn s S = (List.range' 0 (tn - 0)).all (sndT S m n) := by
     unfold sndF
     rw [decide_eq_true ⟨hr1, hr2, hr3, hr4⟩, Bool.true_and]
     rfl
    have htm : tn ≤ m := by omega
    have htn : tn ≤ n := by omega
    repeat' first | apply jS | apply jO | apply jD | apply jN | apply jT | refine Q1 ?_ | refine Q2 ?_ | refine Q0 ?_ | refine Q7 ?_ | refine Q8e (h := ?_) | refine Qn ?_ | refine QT (h := ?_) | refine Q6 ?_ | (refine Qi (h1 := ?_) (h2 := ?_) <;> intro hc <;> try (exfalso; omega)) | (refine QM (h1 := ?_) (h2 := ?_) <;> intro hc <;> try (exfalso; omega)) | apply jK | refine Q4 rfl ?_ | apply jB
    all_goals first
     | (exfalso; omega)
     | (exfalso; simp only [hmin] at *; omega)
     | skip
    refine Qj (ι := Nat) ⟨fun z => [(5, nv z), (0, .pointer (some ⟨b, 0, none⟩))], fun _ => jbH b J m n tn s,
     fun z => z ≤ tn ∧ (List.range' 0 (tn - 0)).all (sndT S m n) = (List.range' z (tn - z)).all (sndT S m n), fun z => tn - z⟩ 0 ⟨by omega, rfl⟩ cqq (HSub.refl _) (fun z hz => ?_)
    obtain ⟨hz, hal⟩ := hz
    dsimp only at hz hal ⊢
    by_cases hlt : z < tn
    ·have hzm : z < m := by omega
     have hzn : z < n := by omega
     rw [QH hlt, List.all_cons] at hal
     unfold jbH jbC
     repeat' first | apply jS | apply jO | apply jN | apply jT | refine Q1 ?_ | refine Q2 ?_ | refine Q7 ?_ | refine Q6 ?_ | (refine Qi (h1 := ?_) (h2 := ?_) <;> intro hc <;> try (exfalso; omega)) | apply jK | refine Q5 rfl ?_ | apply jB
     refine Qb pqq rfl eqq rfl (fun w _ hs => Yd w b J m n tn s S z z hJ (by exact HSub.hsat (HSub.refl _) hs) oq oq hm hn) fun w v w' _ _ _ hR => ?_
     subst hR
     skip
     refine Qb pqq rfl eqq rfl (fun w _ _ => Q6d w _ (gE S.d z z) K (Qq (QW hb.d _ _)) oq) fun w v w' _ _ _ hR => ?_
     subst hR
     by_cases hpv : 0 < gE S.d z z
     ·have hsg : (gE S.d z z).sign = 1 := Int.sign_eq_one_of_pos hpv
      rw [hsg]
      have hpe : sndT S m n z = (List.range' z (m - z)).all (sndRow S z n) := by unfold sndT; rw [decide_eq_true hpv, Bool.true_and]
      rw [hpe] at hal
      repeat' first | apply jS | apply jO | apply jN | apply jT | refine Q1 ?_ | refine Q0 ?_ | (refine XR (h1 := ?_) (h2 := ?_) <;> intro hc <;> try (exfalso; omega)) | apply jK | refine Q4 rfl ?_ | apply jB
      all_goals first
       | (exfalso; omega)
       | skip
      refine Qj (ι := Nat) ⟨fun i => [(6, nv i), (5, nv z), (0, .pointer (some ⟨b, 0, none⟩))], fun _ => jbH b J m n tn s,
       fun i => z ≤ i ∧ i ≤ m ∧ (List.range' 0 (tn - 0)).all (sndT S m n) = ((List.range' i (m - i)).all (sndRow S z n) && (List.range' (z + 1) (tn - (z + 1))).all (sndT S m n)), fun i => m - i⟩ z ⟨by omega, by omega, hal⟩ cqq (HSub.refl _) (fun i hi => ?_)
      clear hal
      obtain ⟨hzi, him, hal⟩ := hi
      dsimp only at hzi him hal ⊢
      by_cases hlti : i < m
      ·rw [QH hlti, List.all_cons] at hal
       unfold jbH jbC
       repeat' first | apply jS | apply jO | apply jN | apply jT | refine Q1 ?_ | refine Q2 ?_ | refine Q0 ?_ | refine Q7 ?_ | refine Q6 ?_ | (refine Qi (h1 := ?_) (h2 := ?_) <;> intro hc <;> try (exfalso; omega)) | apply jK | refine Q5 rfl ?_ | apply jB
       refine Qj (ι := Nat) ⟨fun k => [(7, nv k), (6, nv i), (5, nv z), (0, .pointer (some ⟨b, 0, none⟩))], fun _ => jbH b J m n tn s,
        fun k => z ≤ k ∧ k ≤ n ∧ (List.range' 0 (tn - 0)).all (sndT S m n) = ((List.range' k (n - k)).all (sndAt S z i) && (List.range' (i + 1) (m - (i + 1))).all (sndRow S z n) && (List.range' (z + 1) (tn - (z + 1))).all (sndT S m n)), fun k => n - k⟩ z ⟨by omega, by omega, hal⟩ cqq (HSub.refl _) (fun k hk => ?_)
       clear hal
       obtain ⟨hzk, hkn, hal⟩ := hk
       dsimp only at hzk hkn hal ⊢
       by_cases hltk : k < n
       ·rw [QH hltk, List.all_cons] at hal
        unfold jbH jbC
        repeat' first | apply jS | apply jO | apply jN | apply jT | refine Q1 ?_ | refine Q2 ?_ | refine Q7 ?_ | refine Q6 ?_ | (refine Qi (h1 := ?_) (h2 := ?_) <;> intro hc <;> try (exfalso; omega)) | apply jK | refine Q5 rfl ?_ | apply jB
        refine Qb pqq rfl eqq rfl (fun w _ hs => Yd w b J m n tn s S i k hJ (by exact HSub.hsat (HSub.refl _) hs) oq oq hm hn) fun w v w' _ _ _ hR => ?_
        subst hR
        repeat' first | refine Q1 ?_ | fail
        refine Qb pqq rfl eqq rfl (fun w _ hs => Yd w b J m n tn s S z z hJ (by exact HSub.hsat (HSub.refl _) hs) oq oq hm hn) fun w v w' _ _ _ hR => ?_
        subst hR
        skip
        refine Qb pqq rfl eqq rfl (fun w _ _ => Qbv w _ _ (gE S.d i k) (gE S.d z z) K (Qq (QW hb.d _ _)) (Qq (QW hb.d _ _)) oq) fun w v w' _ _ _ hR => ?_
        rw [if_neg (show gE S.d z z ≠ 0 by omega)] at hR
        subst hR
        repeat' first | apply jS | apply jO | apply jN | refine Q1 ?_ | refine Q2 ?_ | refine Q0 ?_ | refine Q7 ?_ | refine Qo (h := ?_) | refine Q3 ?_ | refine Yg (h := ?_) | refine Qf fun _ => ?_ | refine Q3 ?_ | apply jT
        rename_i b8 b9
        have hrz : remZ (gE S.d i k) (gE S.d z z) = gE S.d i k % gE S.d z z := by unfold remZ; rw [if_neg oq]
        have hsa : sndAt S z i k = (decide (gE S.d i k % gE S.d z z = 0) && (decide (decide (i = z) = decide (k = z)) || decide (gE S.d i k = 0))) := by unfold sndAt; rw [hrz]
        rw [hsa] at hal
        have hmg : ∀ x : Int, decide (magU x.natAbs ≠ []) = decide (x ≠ 0) := fun x => decide_eq_decide.2 (not_congr (magU_nil.trans Int.natAbs_eq_zero))
        rw [hmg]
        by_cases h0 : gE S.d i k % gE S.d z z = 0
        ·rw [decide_eq_true h0, Bool.true_and] at hal
         rw [decide_eq_false (not_not_intro h0)]
         by_cases e1 : i = z
         ·by_cases e2 : k = z
          ·have he : decide (i = z) = decide (k = z) := by rw [decide_eq_true e1, decide_eq_true e2]
           rw [decide_eq_true he, Bool.true_or, Bool.true_and] at hal
           repeat' first | apply jO | apply jN | apply jT | refine Q1 ?_ | refine Q0 ?_ | refine Qe ?_ | refine Qn ?_ | (refine Z0 (h1 := ?_) (h2 := ?_) <;> intro hc <;> try (exfalso; omega)) | refine Qa2 (h := ?_) | apply jK | refine Q4 rfl ?_ | refine Qy (h := ?_) | apply jW
           all_goals first
            | (exfalso; omega)
            | exact Qa (k + 1) ⟨by first | omega | (dsimp only; omega), by first | omega | (dsimp only; omega), hal⟩ dgp cqq (by exact HSub.skip (HSub.skip (HSub.refl _)))
          ·have he : ¬ (decide (i = z) = decide (k = z)) := by rw [decide_eq_true e1, decide_eq_false e2]; decide
           rw [decide_eq_false he, Bool.false_or] at hal
           repeat' first | refine Q1 ?_ | (refine Z0 (h1 := ?_) (h2 := ?_) <;> intro hc <;> try (exfalso; omega)) | refine XQ (h := ?_) | fail
           all_goals first
            | (exfalso; omega)
            | skip
           refine Qb pqq rfl eqq rfl (fun w _ hs => Yd w b J m n tn s S i k hJ (by exact HSub.hsat (HSub.skip (HSub.skip (HSub.refl _))) hs) oq oq hm hn) fun w v w' _ _ _ hR => ?_
           subst hR
           skip
           refine Q3l Tryz.underlying75 rfl (show T1 Tryz.prog 9 from inferInstance) rfl eqq rfl rfl ?_
           repeat' first | apply jN | refine Ql ?_ | refine Qn ?_ | refine Yg (h := ?_) | apply jT
           rw [hmg]
           by_cases hx0 : gE S.d i k = 0
           ·rw [decide_eq_true hx0, Bool.true_and] at hal
            rw [decide_eq_false (not_not_intro hx0)]
            repeat' first | apply jO | apply jN | apply jT | refine Q1 ?_ | refine Q0 ?_ | refine Qe ?_ | apply jK | refine Q4 rfl ?_ | apply jW
            exact Qa (k + 1) ⟨by first | omega | (dsimp only; omega), by first | omega | (dsimp only; omega), hal⟩ dgp cqq (by exact HSub.skip (HSub.skip (HSub.refl _)))
           ·rw [decide_eq_false hx0, Bool.false_and, Bool.false_and] at hal
            rw [decide_eq_true hx0]
            repeat' first | apply jS | apply jO | apply jN | apply jT | refine Q0 ?_ | apply jV | apply jR | refine Q5 rfl ?_ | refine Qt ?_
            exact Qd rfl (fun a w' st => ⟨hres w' st.kp (fun p hp => st.hs.blk p (by exact List.mem_cons_of_mem _ (List.mem_cons_of_mem _ hp))), hfin _ (hsf.trans hal)⟩)
         ·by_cases e2 : k = z
          ·have he : ¬ (decide (i = z) = decide (k = z)) := by rw [decide_eq_false e1, decide_eq_true e2]; decide
           rw [decide_eq_false he, Bool.false_or] at hal
           repeat' first | refine Q1 ?_ | (refine Z0 (h1 := ?_) (h2 := ?_) <;> intro hc <;> try (exfalso; omega)) | refine XQ (h := ?_) | fail
           all_goals first
            | (exfalso; omega)
            | skip
           refine Qb pqq rfl eqq rfl (fun w _ hs => Yd w b J m n tn s S i k hJ (by exact HSub.hsat (HSub.skip (HSub.skip (HSub.refl _))) hs) oq oq hm hn) fun w v w' _ _ _ hR => ?_
           subst hR
           skip
           refine Q3l Tryz.underlying75 rfl (show T1 Tryz.prog 9 from inferInstance) rfl eqq rfl rfl ?_
           repeat' first | apply jN | refine Ql ?_ | refine Qn ?_ | refine Yg (h := ?_) | apply jT
           rw [hmg]
           by_cases hx0 : gE S.d i k = 0
           ·rw [decide_eq_true hx0, Bool.true_and] at hal
            rw [decide_eq_false (not_not_intro hx0)]
            repeat' first | apply jO | apply jN | apply jT | refine Q1 ?_ | refine Q0 ?_ | refine Qe ?_ | apply jK | refine Q4 rfl ?_ | apply jW
            exact Qa (k + 1) ⟨by first | omega | (dsimp only; omega), by first | omega | (dsimp only; omega), hal⟩ dgp cqq (by exact HSub.skip (HSub.skip (HSub.refl _)))
           ·rw [decide_eq_false hx0, Bool.false_and, Bool.false_and] at hal
            rw [decide_eq_true hx0]
            repeat' first | apply jS | apply jO | apply jN | apply jT | refine Q0 ?_ | apply jV | apply jR | refine Q5 rfl ?_ | refine Qt ?_
            exact Qd rfl (fun a w' st => ⟨hres w' st.kp (fun p hp => st.hs.blk p (by exact List.mem_cons_of_mem _ (List.mem_cons_of_mem _ hp))), hfin _ (hsf.trans hal)⟩)
          ·have he : decide (i = z) = decide (k = z) := by rw [decide_eq_false e1, decide_eq_false e2]
           rw [decide_eq_true he, Bool.true_or, Bool.true_and] at hal
           repeat' first | apply jO | apply jN | apply jT | refine Q1 ?_ | refine Q0 ?_ | refine Qe ?_ | refine Qn ?_ | (refine Z0 (h1 := ?_) (h2 := ?_) <;> intro hc <;> try (exfalso; omega)) | refine Qa2 (h := ?_) | apply jK | refine Q4 rfl ?_ | refine Qy (h := ?_) | apply jW
           all_goals first
            | (exfalso; omega)
            | exact Qa (k + 1) ⟨by first | omega | (dsimp only; omega), by first | omega | (dsimp only; omega), hal⟩ dgp cqq (by exact HSub.skip (HSub.skip (HSub.refl _)))
        ·rw [decide_eq_false h0, Bool.false_and, Bool.false_and, Bool.false_and] at hal
         rw [decide_eq_true h0]
         repeat' first | apply jS | apply jO | apply jN | apply jT | refine Q0 ?_ | refine Ql ?_ | apply jV | refine Q5 rfl ?_ | refine Qt ?_ | refine Qy (h := ?_) | apply jR
         exact Qd rfl (fun a w' st => ⟨hres w' st.kp (fun p hp => st.hs.blk p (by exact List.mem_cons_of_mem _ (List.mem_cons_of_mem _ hp))), hfin _ (hsf.trans hal)⟩)
       ·rw [show n - k = 0 by omega] at hal
        have hal : (List.range' 0 (tn - 0)).all (sndT S m n) = ((List.range' (i + 1) (m - (i + 1))).all (sndRow S z n) && (List.range' (z + 1) (tn - (z + 1))).all (sndT S m n)) := by
         rw [hal]
         rfl
        unfold jbH jbC
        repeat' first | apply jS | apply jO | apply jN | apply jT | refine Q1 ?_ | refine Q2 ?_ | refine Q0 ?_ | refine Q7 ?_ | refine Qe ?_ | refine Q6 ?_ | (refine Qi (h1 := ?_) (h2 := ?_) <;> intro hc <;> try (exfalso; omega)) | apply jU | apply jE | refine Q4 rfl ?_ | apply jW | refine Qc ?_
        exact Qa (i + 1) ⟨by first | omega | (dsimp only; omega), by first | omega | (dsimp only; omega), hal⟩ dgp cqq (HSub.refl _)
      ·rw [show m - i = 0 by omega] at hal
       have hal : (List.range' 0 (tn - 0)).all (sndT S m n) = (List.range' (z + 1) (tn - (z + 1))).all (sndT S m n) := by
        rw [hal]
        rfl
       unfold jbH jbC
       repeat' first | apply jS | apply jO | apply jN | apply jT | refine Q1 ?_ | refine Q2 ?_ | refine Q0 ?_ | refine Q7 ?_ | refine Qe ?_ | refine Q6 ?_ | (refine Qi (h1 := ?_) (h2 := ?_) <;> intro hc <;> try (exfalso; omega)) | apply jU | apply jE | refine Q4 rfl ?_ | apply jW | refine Qc ?_
       exact Qa (z + 1) ⟨by first | omega | (dsimp only; omega), hal⟩ dgp cqq (HSub.refl _)
     ·have hsg : ¬ 0 < (gE S.d z z).sign := fun h => hpv (Int.sign_pos_iff.1 h)
      have hpe : sndT S m n z = false := by unfold sndT; rw [decide_eq_false hpv, Bool.false_and]
      rw [hpe, Bool.false_and] at hal
      repeat' first | apply jS | apply jO | apply jN | apply jT | refine Q0 ?_ | (refine XR (h1 := ?_) (h2 := ?_) <;> intro hc <;> try (exfalso; omega)) | apply jV | apply jR | refine Q5 rfl ?_ | refine Qt ?_
      all_goals first
       | (exfalso; omega)
       | skip
      exact Qd rfl (fun a w' st => ⟨hres w' st.kp (fun p hp => st.hs.blk p (by exact hp)), hfin _ (hsf.trans hal)⟩)
    ·rw [show tn - z = 0 by omega] at hal
     have hal : (List.range' 0 (tn - 0)).all (sndT S m n) = true := hal
     unfold jbH jbC
     repeat' first | apply jS | apply jO | apply jN | apply jT | refine Q1 ?_ | refine Q2 ?_ | refine Q0 ?_ | refine Q7 ?_ | refine Q6 ?_ | (refine Qi (h1 := ?_) (h2 := ?_) <;> intro hc <;> try (exfalso; omega)) | apply jU | apply jE | apply jR | refine Q4 rfl ?_ | refine Qc ?_
     all_goals first
      | (exfalso; omega)
      | skip
     exact Qd rfl (fun a w' st => ⟨hres w' st.kp (fun p hp => st.hs.blk p (by exact hp)), hfin _ (hsf.trans hal)⟩)
   ·have hsf : sndF m n t s S = false := by
     unfold sndF
     rw [decide_eq_false hr, Bool.false_and]
    repeat' first | apply jS | apply jO | apply jD | apply jN | apply jT | refine Q1 ?_ | refine Q2 ?_ | refine Q0 ?_ | refine Q7 ?_ | refine Q8e (h := ?_) | refine Ql ?_ | refine Qn ?_ | refine QT (h := ?_) | refine Q6 ?_ | (refine Qi (h1 := ?_) (h2 := ?_) <;> intro hc <;> try (exfalso; omega)) | (refine QM (h1 := ?_) (h2 := ?_) <;> intro hc <;> try (exfalso; omega)) | apply jV | refine Q5 rfl ?_ | refine Qy (h := ?_) | apply jR
    all_goals first
     | (exfalso; omega)
     | (exfalso; simp only [hmin] at *; omega)
     | exact Qd rfl (fun a w' st => ⟨hres w' st.kp (fun p hp => st.hs.blk p (by exact hp)), hfin _ hsf⟩)

theorem Q2j (n : Int) {m : Int} (hm : 0 < m) : -m < n.tmod m ∧ n.tmod m < m := by
 have h1 := Int.tmod_lt_of_pos n hm
 have h2 := Int.lt_tmod_of_pos n hm
 omega
theorem Qdk (n : Int) {m : Int} (hm : 0 < m) : (n.tmod m + m).tmod m = n % m := by
 have h := Q2j n hm
 rw [Int.tmod_eq_emod_of_nonneg oq]
 have h1 : (n.tmod m + m) % m = n.tmod m % m := by simp
 rw [h1]
 have h2 := Int.tmod_add_mul_tdiv n m
 rw [show n.tmod m = n + m * (-(n.tdiv m)) by rw [Int.mul_neg]; omega, Int.add_mul_emod_self_left]

set_option maxHeartbeats 1000000 in
theorem Qi0 (w : World) (n m : Int) (hm : 0 < m) (hb : m < 1000000000000) :
  Calls Tryz.prog 43 #[iv n, iv m] w (Ret fun v w' => Kp [] w w' ∧ v = iv (n % m)) := by
 have h := Q2j n hm
 refine Q8 [] [] spq [] Tryz.func43 rfl mixed (by kernel_rfl) Tryz.ntmps43 Tryz.results43 rfl ⟨by simp, by simp⟩ spq ?_
 simp only [toS, textOps, toSOp, kindAt, kindOf, odAt, sopsAt, ordOf, zipF]
 repeat' first | apply jS | apply jO | apply jN | apply jT | refine Q1 ?_ | refine Q0 ?_ | refine Q60 (h := ?_) | refine Qkt (h := ?_) | apply jR
 exact Qd rfl (fun a' w' st => ⟨st.kp, congrArg iv (Qdk n hm)⟩)

def szF (L : List Int) (k : Nat) : Int := if L = [] then 0 else (L.getD ((k + k / L.length) % L.length) 0) % 13 - 6
def szZ (L : List Int) (r c : Nat) : ZM := ⟨r, c, tab (r * c) (szF L)⟩
theorem Qfl (L : List Int) {r c : Nat} (hr : r ≤ 200) (hc : c ≤ 200) : RtZ (szZ L r c) := ⟨hr, hc, by simp [szZ, tab]⟩
theorem Qes (L : List Int) (k : Nat) : -6 ≤ szF L k ∧ szF L k ≤ 6 := by
 unfold szF
 split
 ·decide
 ·generalize L.getD ((k + k / L.length) % L.length) 0 = e
  omega
def szS (n : Nat) (L : List Int) (k : Nat) : List Int := tab n fun i => if i < k then szF L i else 0
theorem Qco (n : Nat) (L : List Int) : szS n L 0 = tab n fun _ => 0 := by
 unfold szS
 exact Y5 fun i _ => by simp
theorem Q9f {n k : Nat} {L : List Int} (h : n ≤ k ∨ L = []) : szS n L k = tab n (szF L) := by
 unfold szS
 refine Y5 fun i hi => ?_
 rcases h with h | h
 ·rw [if_pos oq]
 ·subst h; simp [szF]
theorem Qfv {n k : Nat} {L : List Int} (hk : k < n) : (szS n L k).set k (szF L k) = szS n L (k + 1) := by
 unfold szS
 rw [Q9d]
 refine Y5 fun i hi => ?_
 by_cases h : i = k
 ·subst h; rw [if_pos rfl, if_pos oq]
 ·rw [if_neg h]
  by_cases h2 : i < k
  ·rw [if_pos h2, if_pos oq]
  ·rw [if_neg h2, if_neg oq]

set_option maxHeartbeats 4000000 in
theorem Qbt (w : World) (v : Value) (R C : Nat) (L : List Int) (hv : IsS w v R C L) :
  Calls Tryz.prog 14 #[v] w (Ret fun v w' => Kp [] w w' ∧ GivesM (szZ L (R % 6) (C % 6)) w v w') := by
 obtain ⟨h1, h2, h3, E, rfl, hE⟩ := hv
 have hr6 : R % 6 < 6 := Nat.mod_lt _ dq
 have hc6 : C % 6 < 6 := Nat.mod_lt _ dq
 refine Q8 [⟨5, 2, [], []⟩] [] spq [] Tryz.func14 rfl mixed (by kernel_rfl) Tryz.ntmps14 Tryz.results14 rfl ⟨by simp, by simp⟩ spq ?_
 simp only [toS, textOps, toSOp, kindAt, kindOf, odAt, sopsAt, ordOf, zipF]
 repeat' first | apply jS | apply jO | apply jN | refine Q2 ?_ | refine Q7 ?_ | refine Qf fun _ => ?_ | refine QB (h := fun _ => ?_) | apply jT
 rename_i b1 b2
 refine Q2r (i := R) 6 rfl rfl rfl rfl oq ?_
 repeat' first | refine Q2 ?_ | refine Q7 ?_ | refine YU (h := ?_) | fail
 refine Q2r (i := C) 6 rfl rfl rfl rfl oq ?_
 repeat' first | refine YU (h := ?_) | fail
 refine Qk (A := [_, _]) (B := []) rfl pqq rfl eqq rfl (fun w hk _ => Q25 (R % 6) (C % 6) oq oq w) fun w v w' _ _ _ hR => ?_
 obtain ⟨N, Eo, hN, rfl, hO⟩ := hR
 obtain ⟨Ao, co, rfl⟩ := hO.form
 refine ⟨N, hN, ?_⟩
 generalize R % 6 = r at *
 generalize C % 6 = c at *
 have hrc : r * c ≤ 40000 := Nat.mul_le_mul (show r ≤ 200 by omega) (show c ≤ 200 by omega)
 repeat' first | apply jS | apply jO | apply jN | apply jT | refine Q0 ?_ | refine Q3 ?_ | refine Qf fun _ => ?_ | refine Q3 ?_ | apply jB
 rename_i b3
 refine Qj (ι := Nat × SHeap) ⟨fun z => [(4, nv z.1), (3, .pointer (some ⟨b3, 0, none⟩)), (2, .pointer (some ⟨b2, 0, none⟩)), (1, .pointer (some ⟨b1, 0, none⟩))],
  fun z => [(b3, .cells #[nv r, nv c, .slice Ao (r * c) co] 28), (b2, .cells #[iv 0, iv 0, .slice none 0 0] 28), (b1, .cells #[.int .u8 (R : Int), .int .u8 (C : Int), E] 24)] ++ (z.2 ++ []),
  fun z => z.1 ≤ r * c ∧ OwnZ z.2 (.slice Ao (r * c) co) (r * c) (szS (r * c) L z.1), fun z => r * c - z.1⟩ (0, N) ⟨by dsimp only; omega, by rw [Qco]; exact hO⟩ cqq Qr (fun z hz => ?_)
 clear hO
 obtain ⟨k, N⟩ := z
 obtain ⟨hk, hO⟩ := hz
 dsimp only at hk hO ⊢
 by_cases hkk : k < r * c
 ·by_cases hL : 0 < L.length
  ·have hq1 : k / L.length ≤ k := Nat.div_le_self _ _
   have hlt : (k + k / L.length) % L.length < L.length := Nat.mod_lt _ hL
   have hne : L ≠ [] := fun e => by subst e; exact Nat.lt_irrefl _ hL
   repeat' first | apply jS | apply jO | apply jN | apply jT | refine Q1 ?_ | refine Q2 ?_ | refine Q7 ?_ | refine ZH (h := ?_) | refine Q1o (h := ?_) | refine Ql ?_ | (refine Qi (h1 := ?_) (h2 := ?_) <;> intro hc <;> try (exfalso; omega)) | (refine QM (h1 := ?_) (h2 := ?_) <;> intro hc <;> try (exfalso; omega)) | apply jK | refine Q5 rfl ?_ | apply jB
   refine Q15 [(b3, .cells #[nv r, nv c, .slice Ao (r * c) co] 28), (b2, .cells #[iv 0, iv 0, .slice none 0 0] 28), (b1, .cells #[.int .u8 (R : Int), .int .u8 (C : Int), E] 24)] Qr ?_
   repeat' first | refine Q1 ?_ | refine Q2 ?_ | refine Q7 ?_ | refine Qa6 (h := ?_) | refine Qgl (h := ?_) | refine Q1o (h := ?_) | refine QZ (h := ?_) | refine Xe (h := ?_) | refine X7 (h := ?_) | fail
   refine Qb pqq rfl eqq rfl (fun w _ _ => Qi0 w (L.getD ((k + k / L.length) % L.length) 0) 13 dq dq) fun w v w' _ _ _ hR => ?_
   subst hR
   have hF : L.getD ((k + k / L.length) % L.length) 0 % 13 - 6 = szF L k := by unfold szF; rw [if_neg hne]
   have hbd := Qes L k
   rw [← hF] at hbd
   generalize L.getD ((k + k / L.length) % L.length) 0 % 13 = e at *
   repeat' first | refine Ym (h := ?_) | fail
   refine Qb pqq rfl eqq rfl (fun w _ _ => YF w (e - 6) oq oq) fun w v w' _ _ _ hR => ?_
   subst hR
   rw [hF]
   repeat' first | refine QV (h := ?_) | fail
   refine XO (A := [_, _, _]) (u := szF L k) hO rfl rfl pqq rfl rfl hkk (fun N' hO' => ?_)
   rw [Qfv hkk] at hO'
   repeat' first | apply jO | apply jN | apply jT | refine Q1 ?_ | refine Q0 ?_ | refine Qe ?_ | apply jW
   exact Qa (k + 1, N') ⟨by dsimp only; omega, hO'⟩ dgq cqq Qr
  ·repeat' first | apply jS | apply jO | apply jN | apply jT | refine Q1 ?_ | refine Q2 ?_ | refine Q7 ?_ | refine Qg ?_ | refine ZH (h := ?_) | refine Q1o (h := ?_) | refine Ql ?_ | refine Q3 ?_ | (refine Qi (h1 := ?_) (h2 := ?_) <;> intro hc <;> try (exfalso; omega)) | (refine QM (h1 := ?_) (h2 := ?_) <;> intro hc <;> try (exfalso; omega)) | refine Q3 ?_ | apply jU | apply jE | apply jR | refine Q4 rfl ?_ | refine Qc ?_
   have hL0 : L = [] := List.eq_nil_of_length_eq_zero oq
   rw [Q9f (.inr hL0)] at hO
   exact QG 1 rfl rfl rfl (fun a w' st => ⟨st.kp, N, st.newOf rfl Q9, OwnM.mk' hO⟩)
 ·repeat' first | apply jS | apply jO | apply jN | apply jT | refine Q1 ?_ | refine Q2 ?_ | refine Q7 ?_ | refine Qg ?_ | refine ZH (h := ?_) | refine Qn ?_ | refine Q3 ?_ | (refine Qi (h1 := ?_) (h2 := ?_) <;> intro hc <;> try (exfalso; omega)) | refine Q3 ?_ | apply jU | apply jE | refine Q4 rfl ?_ | refine Qc ?_ | refine Qy (h := ?_) | apply jR
  rw [Q9f (.inl oq)] at hO
  exact QG 1 rfl rfl rfl (fun a w' st => ⟨st.kp, N, st.newOf rfl Q9, OwnM.mk' hO⟩)

theorem Qdg (b : Nat) (z : Int) : OwnZ [(b, .cells ⟨[.bool (wz z).1, sv (wz z).2]⟩ 75)] (.slice (some ⟨b, 0, none⟩) 1 1) 1 [z] := by
 have h := OwnRow.mk' (e := 75) (sz := 2) (n := 1) (b := b) (cs := ⟨[.bool (wz z).1, sv (wz z).2]⟩) spq (by simp only [maxLen]; omega)
 exact h

set_option maxHeartbeats 2000000 in
theorem Qbw (w : World) (v : Value) (n : Nat) (L : List Int) (hv : WI w v n L) (hn : n ≤ 1000) (hI : ∀ i, I64 (L.getD i 0)) :
  Calls Tryz.prog 41 #[v] w (Ret fun v w' => Kp [] w w' ∧ ∃ N, New N w w' ∧ OwnZ N v n L) := by
 have hlen : L.length = n := by simpa using hv.1
 refine Q8 [] [] spq [] Tryz.func41 rfl mixed (by kernel_rfl) Tryz.ntmps41 Tryz.results41 rfl ⟨by simp, by simp⟩ spq ?_
 simp only [toS, textOps, toSOp, kindAt, kindOf, odAt, sopsAt, ordOf, zipF]
 have hR : RdI ⟨Tryz.prog, 20, w, [], by simp⟩ [] v n L := hv.rd rfl []
 repeat' first | apply jS | apply jO | apply jN | apply jT | refine Q0 ?_ | apply jB
 refine Qj (ι := Nat × SHeap × Value) ⟨fun z => [(4, nv z.1), (3, z.2.2), (0, v)], fun z => z.2.1 ++ [],
  fun z => z.1 ≤ n ∧ OwnZ z.2.1 z.2.2 z.1 (L.take z.1), fun z => n - z.1⟩ (0, [], .slice none 0 0) ⟨by omega, by simpa using OwnZ.nil⟩ cqq (HSub.nil _) (fun z hz => ?_)
 obtain ⟨k, N, vo⟩ := z
 obtain ⟨hk, hO⟩ := hz
 dsimp only at hk hO ⊢
 obtain ⟨Ao, co, rfl⟩ := hO.form
 by_cases hkk : k < n
 ·have hIk := hI k
  repeat' first | apply jS | apply jO | apply jN | apply jT | refine Q1 ?_ | refine Qa6 (h := ?_) | refine Qgl (h := ?_) | refine Q1o (h := ?_) | (refine Qi (h1 := ?_) (h2 := ?_) <;> intro hc <;> try (exfalso; omega)) | apply jK | refine Q5 rfl ?_ | apply jB
  refine Qb pqq rfl rfl rfl (fun w _ _ => YF w (L.getD k 0) hIk.1 hIk.2) fun w v w' _ _ _ hR => ?_
  subst hR
  skip
  refine Wn (sz := 2) (vs := [Wv (L.getD k 0)]) (cl := [.bool (wz (L.getD k 0)).1, sv (wz (L.getD k 0)).2]) rfl rfl (by first | rfl | trivial | exact ⟨rfl, rfl⟩) rfl rfl (fun v hv => by
   cases List.mem_singleton.1 hv; rfl) rfl dq dq (fun b => ?_)
  have h1 := Qdg b (L.getD k 0)
  skip
  refine Zn (A := [_]) (B := []) hO h1.rd Q9 rfl pqq rfl rfl rfl rfl oq (fun v' N' hO' => ?_)
  rw [show L.take k ++ [L.getD k 0] = L.take (k + 1) by
   rw [List.take_add_one, YN (d := 0) oq]; rfl] at hO'
  repeat' first | apply jO | apply jN | apply jT | refine Q1 ?_ | refine Q0 ?_ | refine Qe ?_ | apply jW
  exact Qa (k + 1, N', v') ⟨by dsimp only; omega, hO'⟩ dgq cqq (by exact HSub.skip (HSub.refl _))
 ·repeat' first | apply jS | apply jO | apply jN | apply jT | refine Q1 ?_ | refine Q0 ?_ | refine Q1o (h := ?_) | (refine Qi (h1 := ?_) (h2 := ?_) <;> intro hc <;> try (exfalso; omega)) | apply jU | apply jE | apply jR | refine Q4 rfl ?_ | refine Qc ?_
  obtain rfl : k = n := by omega
  rw [← hlen, List.take_length, hlen] at hO
  exact Qd rfl (fun a w' st => ⟨st.kp, N, st.newOf rfl Q9, hO⟩)

open Classical in
def GivesLB (zs : List Int) (b : Bool) (w : World) (v : Value) (w' : World) : Prop := ∃ N E, New N w w' ∧ v = .tuple #[E, .bool b] ∧ OwnZ N E zs.length zs
theorem GivesLB.nil {w w' : World} {v : Value} (h : v = .tuple #[.slice none 0 0, .bool false]) : GivesLB [] false w v w' := ⟨[], _, New.nil _ _, h, OwnZ.nil⟩
theorem BdL.of {L : Nat} {zs : List Int} (h : ∀ i, (zs.getD i 0).natAbs < 256 ^ L) : BdL L zs := h

section
variable {c : Cx} {Q : Exit → Act → World → Prop} {m : Mode} {F : SFrame} {H : SHeap} {r : List SOp} {g : Option (Option Tmp × Bool)} {ns : Bool} {d : Tmp} {ty t t' : TypeId} {x y : Operand} {N : SHeap} {n : Nat} {v : Value}
end


theorem WI.lit {w : World} {b n : Nat} {vs : List Value} (xs : List Int) (hb : w.heap[b]? = some (.cells ⟨vs⟩ 3)) (hv : vs = xs.map iv) (hn : xs.length = n) : WI w (.slice (some ⟨b, 0, none⟩) n n) n xs := by
 subst hv
 refine ⟨by simp [hn], _, _, rfl, Nat.le_refl _, fun _ => ⟨⟨b, 0, rfl⟩, fun j u hu => ?_⟩⟩
 simp only [vAt, Nat.zero_add]
 exact QN hb (by simpa using hu)
theorem IsRows.lit {w : World} {b n : Nat} {ss : List Value} (xss : List (List Int)) (hb : w.heap[b]? = some (.cells ⟨ss⟩ 22)) (hl : ss.length = n) (hx : xss.length = n) (h : ∀ i, i < n → WI w (ss.getD i (iv 0)) (xss.getD i []).length (xss.getD i [])) : IsRows w (.slice (some ⟨b, 0, none⟩) n n) xss := by
 subst hx
 refine ⟨ss, ⟨by omega, _, _, rfl, Nat.le_refl _, fun _ => ⟨⟨b, 0, rfl⟩, fun j u hu => ?_⟩⟩, h⟩
 simp only [vAt, Nat.zero_add]
 exact QN hb (by simpa using hu)
theorem Q6i {w : World} {b : Nat} {s s' : Value} (xs xs' : List Int) (hb : w.heap[b]? = some (.cells ⟨[s, s']⟩ 22)) (h : WI w s xs.length xs) (h' : WI w s' xs'.length xs') : IsRows w (.slice (some ⟨b, 0, none⟩) 2 2) [xs, xs'] :=
 IsRows.lit [xs, xs'] hb rfl rfl fun i hi => by
  rcases (show i = 0 ∨ i = 1 by omega) with rfl | rfl
  ·exact h
  ·exact h'
theorem Qhe {xss : List (List Int)} (h : ∀ l ∈ xss, ∀ x ∈ l, I64 x) : ∀ i j, I64 ((xss.getD i []).getD j 0) := fun i j => by
 have h0 : I64 0 := ⟨by decide, by decide⟩
 rw [List.getD]
 cases hj : (xss.getD i [])[j]? with
 | none => exact h0
 | some x =>
  have hx := List.mem_of_getElem? hj
  rw [List.getD] at hx
  cases hi : xss[i]? with
  | none => rw [hi] at hx; cases hx
  | some l => rw [hi] at hx; exact h l (List.mem_of_getElem? hi) x hx
instance (n : Int) : Decidable (I64 n) := by unfold I64; infer_instance
theorem Qjw {xs : List Int} (h : ∀ x ∈ xs, I64 x) (i : Nat) : I64 (xs.getD i 0) := by
 rw [List.getD]
 cases hi : xs[i]? with
 | none => exact ⟨by decide, by decide⟩
 | some x => exact h x (List.mem_of_getElem? hi)

theorem Qha {P : Prop} {v : Value} (h : IsB P v) (hp : P) : v = .bool true := by
 obtain ⟨y, rfl, hy⟩ := h
 rw [hy.2 hp]
def sn0 : Sm := ⟨[[1, 0], [0, 1]], [[1, 0], [0, 1]], [[2, 4], [3, 5]], [[1, 0], [0, 1]], [[1, 0], [0, 1]]⟩
def sn1 : Sm := ⟨[[1, 0], [-1, 1]], [[1, 0], [1, 1]], [[2, 4], [1, 1]], [[1, 0], [0, 1]], [[1, 0], [0, 1]]⟩
def sn2 : Sm := ⟨[[-1, 1], [3, -2]], [[2, 1], [3, 1]], [[1, 0], [0, 2]], [[1, -1], [0, 1]], [[1, 1], [0, 1]]⟩
def snZ : Sm := ⟨[], [], [], [], []⟩
def snF : Sm := ⟨[[1]], [[1]], [[0]], [[1]], [[1]]⟩
theorem Qdz {m n : Nat} {S : Sm} (h : (S.u.length = m ∧ ∀ x ∈ S.u, x.length = m) ∧ (S.ui.length = m ∧ ∀ x ∈ S.ui, x.length = m) ∧ (S.d.length = m ∧ ∀ x ∈ S.d, x.length = n) ∧ (S.v.length = n ∧ ∀ x ∈ S.v, x.length = n) ∧ (S.vi.length = n ∧ ∀ x ∈ S.vi, x.length = n)) : Dm m n S :=
 ⟨⟨h.1.1, h.1.2⟩, ⟨h.2.1.1, h.2.1.2⟩, ⟨h.2.2.1.1, h.2.2.1.2⟩, ⟨h.2.2.2.1.1, h.2.2.2.1.2⟩, ⟨h.2.2.2.2.1, h.2.2.2.2.2⟩⟩
theorem Q9m : Dm 2 2 sn0 := Qdz dq
theorem Qeu : Dm 2 2 sn1 := Qdz dq
theorem Qet : Dm 0 0 snZ := Qdz dq
theorem Qj1 : Dm 1 1 snF := Qdz dq
theorem rn0 : runB 2 2 0 0 sn0 = (sn0, 0, 0) := rfl
theorem rn1 : runB 2 2 1 0 sn0 = (sn1, 0, 1) := by kernel_rfl
theorem rn2 : runB 2 2 1000 0 sn1 = (sn2, 2, 5) := by kernel_rfl
theorem rnZ : runB 0 0 0 0 snZ = (snZ, 0, 0) := rfl
theorem Qcv {m n t s k t' r : Nat} {S S' : Sm} {e : Int} {w : World} {b : Nat} {W : WV} {T : WT} (hrun : runB m n k t S = (S', t', r)) (hok : (List.range (r + 1)).all (fun j => (runB m n j t S).1.ok 8) = true) (he : (if (leastF S' t' m n).2.2 = true then (60 : Int) else 0) = e) (hD : Dm m n S) (hm : m ≤ 200) (hn : n ≤ 200) (htm : t ≤ m) (htn : t ≤ n) (hsk : s + k < 1099511627776)
  (hW : IsBj W m n T S) (hs : Hsat (jgH b W m n t s T) w) :
  Calls Tryz.prog 17 #[.pointer (some ⟨b, 0, none⟩), nv k] w (Ret fun v w' => Kp (keys (jgH b W m n t s T)) w w' ∧ (JgR b W m n t s T (t' : Nat) ((s + r : Nat) : Int) S' w w' ∧ v = iv e)) := by
 have h := Qk0 8 w b W m n t s k T S hW hD hs hm hn htm htn dq dq hsk (by
  rw [hrun]
  intro j hj
  exact Ok.of (List.all_eq_true.1 hok j (List.mem_range.2 (Nat.lt_succ_of_le hj))))
 rw [hrun] at h
 refine Z8 h fun v w' h => ⟨h.1.1, h.1, ?_⟩
 rw [h.2]
 exact congrArg iv he

def tS0 : List UInt8 := [50, 32, 50, 32, 48, 32, 48, 32, 49, 32, 48, 32, 48, 32, 49, 32, 49, 32, 48, 32, 48, 32, 49, 32, 50, 32, 52, 32, 51, 32, 53, 32, 49, 32, 48, 32, 48, 32, 49, 32, 49, 32, 48, 32, 48, 32, 49]
def tS1 : List UInt8 := [50, 32, 50, 32, 48, 32, 49, 32, 49, 32, 48, 32, 45, 49, 32, 49, 32, 49, 32, 48, 32, 49, 32, 49, 32, 50, 32, 52, 32, 49, 32, 49, 32, 49, 32, 48, 32, 48, 32, 49, 32, 49, 32, 48, 32, 48, 32, 49]
theorem en0 : encT (encZ (2 : Nat) (2 : Nat) (0 : Nat) (0 : Nat) sn0) = tS0 := by kernel_rfl
theorem en1 : encT (encZ (2 : Nat) (2 : Nat) (0 : Nat) (1 : Nat) sn1) = tS1 := by kernel_rfl
theorem enZ : sv (encT (encZ (0 : Nat) (0 : Nat) 0 0 snZ)) = .string ⟨#[48, 32, 48, 32, 48, 32, 48]⟩ := by kernel_rfl
theorem enF : sv (encT (encZ (1 : Nat) (1 : Nat) 1 5 snF)) = .string ⟨#[49, 32, 49, 32, 49, 32, 53, 32, 49, 32, 49, 32, 48, 32, 49, 32, 49]⟩ := by kernel_rfl
theorem Qkq (w : World) (v : Value) (hv : IsM w v (ofZ [[2, 4], [3, 5]])) : Calls Tryz.prog 15 #[v] w (Ret fun v w' => Kp [] w w' ∧ ∃ b W T, v = .pointer (some ⟨b, 0, none⟩) ∧ New (jgH b W 2 2 (0 : Nat) (0 : Nat) T) w w' ∧ IsBj W 2 2 T sn0) := by
 have h := Qk1 w v (ofZ [[2, 4], [3, 5]]) ⟨by decide, by decide, by decide⟩ hv
 have e : startS (ofZ [[2, 4], [3, 5]]).r (ofZ [[2, 4], [3, 5]]).c (rowsOf (ofZ [[2, 4], [3, 5]])) = sn0 := by kernel_rfl
 rw [e] at h
 exact h
theorem Qg3 (w : World) (hmax : MaxL w) : Calls Tryz.prog 30 #[.string ⟨#[48, 32, 48, 32, 48, 32, 48]⟩] w (Ret fun v w' => Kp [] w w' ∧ ∃ b W T, v = .tuple #[.pointer (some ⟨b, 0, none⟩), iv 0] ∧ New (jgH b W 0 0 (0 : Nat) (0 : Nat) T) w w' ∧ IsBj W 0 0 T snZ) := by
 have h := Q6b 8 w 0 0 0 0 snZ Qet dq dq dq dq dq dq (Ok.of (by kernel_rfl)) hmax (of_decide_eq_true (by kernel_rfl))
 rw [enZ] at h
 refine Z8 h fun v w' h => ⟨h.1, ?_⟩
 rcases h.2 with h | h
 ·exact h.2
 ·exact absurd ⟨by kernel_rfl, by kernel_rfl, by kernel_rfl⟩ h.1
theorem Qg4 (w : World) (hmax : MaxL w) : Calls Tryz.prog 30 #[.string ⟨#[49, 32, 49, 32, 49, 32, 53, 32, 49, 32, 49, 32, 48, 32, 49, 32, 49]⟩] w (Ret fun v w' => Kp [] w w' ∧ v = .tuple #[.pointer none, iv 11]) := by
 have h := Q6b 8 w 1 1 1 5 snF Qj1 dq dq dq dq dq dq (Ok.of (by kernel_rfl)) hmax (of_decide_eq_true (by kernel_rfl))
 rw [enF] at h
 refine Z8 h fun v w' h => ⟨h.1, ?_⟩
 rcases h.2 with h | h
 ·exact absurd h.1.2.2 (by rw [show sndF 1 1 1 5 snF = false by kernel_rfl]; decide)
 ·exact h.2
theorem lf0 : (leastF sn0 0 2 2).2.2 = true := by kernel_rfl
theorem lf2 : (leastF sn2 2 2 2).2.2 = false := by kernel_rfl
theorem Qg5 (w : World) (v u : Value) (h : WZ w v 2 [1, 2]) (hu : WZ w u 2 [1, 2]) : Calls Tryz.prog 19 #[v, u] w (Ret fun v w' => Kp [] w w' ∧ v = .bool true) :=
 Z8 (Qby w v u 2 2 _ _ h hu dq dq) fun v w' h => ⟨h.1, Qha h.2 rfl⟩
section
variable {c : Cx} {Q : Exit → Act → World → Prop} {m : Mode} {F : SFrame} {H : SHeap} {r : List SOp} {g : Option (Option Tmp × Bool)} {ns : Bool} {d : Tmp} {ty t t' : TypeId} {x y : Operand} {l : List UInt8}
theorem Qje [TStr c.P t] (hd : dstOk c.n (some d) = true) (hg : guardF F g = some true) (hx : ev F x = some (sv l)) (hy : ev F y = some (sv l))
  (h : JO c Q m r ((d, .bool false) :: F) H) : JO c Q m (⟨some d, .binOp .neq t x y t', ty, g, .mov, ns⟩ :: r) F H :=
 Yg hd hg hx hy (by rw [decide_eq_false (fun h => h rfl)]; exact h)
theorem Qf4 [TStr c.P t] (hd : dstOk c.n (some d) = true) (hg : guardF F g = some true) (hx : ev F x = some (sv l)) (hy : ev F y = some (sv l))
  (h : JO c Q m r ((d, .bool true) :: F) H) : JO c Q m (⟨some d, .binOp .eql t x y t', ty, g, .mov, ns⟩ :: r) F H :=
 Z9 hd hg (fun a w fr => by
  simp [execOp, fr.ev hx, fr.ev hy, eqGuard, binOp_string_eql, Xc]) h
end

set_option maxHeartbeats 32000000 in
theorem Q8t (w : World) (hmax : MaxL w) : Calls Tryz.prog 13 #[] w (Ret fun v w' => Kp [] w w' ∧ v = .bool true) := by
 have hmax0 := hmax
 refine Q8 [] [] spq [] Tryz.func13 rfl mixed (by kernel_rfl) Tryz.ntmps13 Tryz.results13 rfl ⟨by simp, by simp⟩ spq ?_
 simp only [toS, textOps, toSOp, kindAt, kindOf, odAt, sopsAt, ordOf, zipF]
 repeat' first | apply jS | apply jO | apply jN | refine Q0 ?_ | refine Qw (h := fun _ => ?_) | apply jT
 refine Qk (A := [_, _, _]) (B := []) rfl pqq rfl eqq rfl (fun w hk hs => c_Of w _ [[2, 4], [3, 5]] (Q6i [2, 4] [3, 5] (Q0n hs 0 rfl) (WI.lit [2, 4] (Q0n hs 2 rfl) rfl rfl) (WI.lit [3, 5] (Q0n hs 1 rfl) rfl rfl)) dq dq (Qhe dq)) fun w v w' _ _ _ hR => ?_
 obtain ⟨N1, hN1, E1, rfl, hO1⟩ := hR
 refine ⟨N1, hN1, ?_⟩
 skip
 refine Qk (A := [_, _, _]) (B := N1 ++ []) rfl pqq rfl eqq rfl (fun w hk hs => Qkq w _ ⟨_, rfl, hO1.rd.at hk hs Q9⟩) fun w v w' _ _ _ hR => ?_
 obtain ⟨b, W0, T0, rfl, hN, hW0⟩ := hR
 refine ⟨_, hN, ?_⟩
 clear hN hN1
 repeat' first | refine Q0 ?_ | apply jN
 refine JX.part (F' := [(1, .pointer (some ⟨b, 0, none⟩))]) (H' := jgH b W0 2 2 (0 : Nat) (0 : Nat) T0 ++ []) cqq (by rw [List.append_nil]; exact HSub.skip (HSub.skip (HSub.skip HSub.in0))) ?_
 clear hO1
 refine QE ?_
 repeat' first | apply jS | refine Q1 ?_ | apply jO
 refine Q8f (by kernel_rfl) rfl rfl rfl rfl ?_
 repeat' first | refine Q1 ?_ | fail
 refine YV (A := []) (N := jgH b W0 2 2 (0 : Nat) (0 : Nat) T0) (B := []) (R := fun w v w' => JgR b W0 2 2 (0 : Nat) (0 : Nat) T0 (0 : Nat) (0 : Nat) sn0 w w' ∧ v = iv 60) rfl pqq rfl eqq rfl (fun w _ hs => Qcv rn0 (by kernel_rfl) (by kernel_rfl) Q9m dq dq dq dq dq hW0 (by exact HSub.hsat HSub.in0 hs)) (fun w1 v1 w2 _ _ _ hR => ?_)
 obtain ⟨⟨_, W1, T1, hk, hin, hW1, _⟩, rfl⟩ := hR
 refine ⟨jgH b W1 2 2 (0 : Nat) (0 : Nat) T1, hk, hin, ?_⟩
 clear hk hin hW0
 repeat' first | refine Q1 ?_ | refine Qn ?_ | (refine Yf (h1 := ?_) (h2 := ?_) <;> intro hc <;> try (exfalso; omega)) | fail
 all_goals first
  | (exfalso; omega)
  | skip
 refine Qb pqq rfl eqq rfl (fun w _ hs => WB 8 w b W1 2 2 0 0 T1 sn0 hW1 Q9m ((show HSub (jgH b W1 2 2 (0 : Nat) (0 : Nat) T1) _ by exact HSub.in0).hsat hs) dq dq dq dq dq dq (Ok.of (by kernel_rfl))) fun w v w' _ _ _ hR => ?_
 rw [en0] at hR
 subst hR
 refine Qje (l := tS0) rfl rfl rfl rfl ?_
 repeat' first | apply jS | apply jO | apply jN | apply jT | refine Q1 ?_ | refine Qn ?_ | apply jK | refine Q4 rfl ?_
 refine Qk (A := []) (B := jgH b W1 2 2 (0 : Nat) (0 : Nat) T1 ++ []) rfl pqq rfl eqq rfl (fun w _ hs => Q48 8 w b W1 2 2 0 0 T1 sn0 hW1 ((show HSub (jgH b W1 2 2 (0 : Nat) (0 : Nat) T1) _ by exact HSub.in0).hsat hs) dq dq dq dq dq (by kernel_rfl)) fun w v w' _ _ _ hR => ?_
 rw [lf0] at hR
 obtain ⟨Na, Ea, rfl, hN, hONa⟩ := hR
 rw [show (List.range 0).map (fun k => gE sn0.d k k) = [] by kernel_rfl] at hONa
 obtain ⟨Aa, ca, rfl⟩ := hONa.form
 refine ⟨Na, hN, ?_⟩
 clear hN
 repeat' first | refine Q1 ?_ | refine Q0 ?_ | refine Qo (h := ?_) | apply jN
 refine JX.part (F' := [(2, .slice Aa 0 ca), (3, nv 0), (4, .bool false), (1, .pointer (some ⟨b, 0, none⟩))]) (H' := Na ++ (jgH b W1 2 2 (0 : Nat) (0 : Nat) T1 ++ [])) cqq (HSub.refl _) ?_
 refine QE ?_
 repeat' first | apply jS | refine Q1 ?_ | apply jO
 refine YV (A := Na) (N := jgH b W1 2 2 (0 : Nat) (0 : Nat) T1) (B := []) (R := fun w v w' => JgR b W1 2 2 (0 : Nat) (0 : Nat) T1 (0 : Nat) (1 : Nat) sn1 w w' ∧ v = iv 60) rfl pqq rfl eqq rfl (fun w _ hs => Qcv rn1 (by kernel_rfl) (by kernel_rfl) Q9m dq dq dq dq dq hW1 (by exact HSub.hsat (Qh HSub.in0) hs)) (fun w1 v1 w2 _ _ _ hR => ?_)
 obtain ⟨⟨_, W2, T2, hk, hin, hW2, _⟩, rfl⟩ := hR
 refine ⟨jgH b W2 2 2 (0 : Nat) (1 : Nat) T2, hk, hin, ?_⟩
 clear hk hin hW1
 repeat' first | apply jS | apply jO | apply jN | refine Q1 ?_ | refine Q0 ?_ | apply jT
 refine Qb pqq rfl eqq rfl (fun w _ hs => WB 8 w b W2 2 2 0 1 T2 sn1 hW2 Qeu ((show HSub (jgH b W2 2 2 (0 : Nat) (1 : Nat) T2) _ by exact Qh HSub.in0).hsat hs) dq dq dq dq dq dq (Ok.of (by kernel_rfl))) fun w v w' _ _ _ hR => ?_
 rw [en1] at hR
 subst hR
 refine Qf4 (l := tS1) rfl rfl rfl rfl ?_
 repeat' first | apply jS | apply jO | apply jN | refine Q1 ?_ | refine Q0 ?_ | apply jT
 refine YV (A := Na) (N := jgH b W2 2 2 (0 : Nat) (1 : Nat) T2) (B := []) (R := fun w v w' => JgR b W2 2 2 (0 : Nat) (1 : Nat) T2 (2 : Nat) (6 : Nat) sn2 w w' ∧ v = iv 0) rfl pqq rfl eqq rfl (fun w _ hs => Qcv rn2 (by kernel_rfl) (by kernel_rfl) Qeu dq dq dq dq dq hW2 (by exact HSub.hsat (Qh HSub.in0) hs)) (fun w1 v1 w2 _ _ _ hR => ?_)
 obtain ⟨⟨_, W3, T3, hk, hin, hW3, _⟩, rfl⟩ := hR
 refine ⟨jgH b W3 2 2 (2 : Nat) (6 : Nat) T3, hk, hin, ?_⟩
 clear hk hin hW2
 repeat' first | apply jS | apply jO | apply jN | refine Q1 ?_ | refine Q0 ?_ | apply jT
 refine Qk (A := []) (B := Na ++ (jgH b W3 2 2 (2 : Nat) (6 : Nat) T3 ++ [])) rfl pqq rfl eqq rfl (fun w _ hs => Q48 8 w b W3 2 2 2 6 T3 sn2 hW3 ((show HSub (jgH b W3 2 2 (2 : Nat) (6 : Nat) T3) _ by exact Qh HSub.in0).hsat hs) dq dq dq dq dq (by kernel_rfl)) fun w v w' _ _ _ hR => ?_
 rw [lf2] at hR
 obtain ⟨Nb, Eb, rfl, hN, hONb⟩ := hR
 rw [show (List.range 2).map (fun k => gE sn2.d k k) = [1, 2] by kernel_rfl] at hONb
 obtain ⟨Ab, cb, rfl⟩ := hONb.form
 refine ⟨Nb, hN, ?_⟩
 clear hN
 repeat' first | refine Q1 ?_ | refine Q0 ?_ | refine Qo (h := ?_) | apply jN
 refine JX.part (F' := [(8, .slice Ab 2 cb), (9, nv 2), (10, .bool true), (7, iv 0), (6, .bool true), (5, iv 60), (2, .slice Aa 0 ca), (3, nv 0), (4, .bool false)]) (H' := Nb ++ (Na ++ [])) cqq (by exact Qca (by rw [List.append_nil Na]; exact HSub.in0)) ?_
 refine QE ?_
 repeat' first | apply jS | apply jO
 refine Qk (A := []) (B := Nb ++ (Na ++ [])) rfl pqq rfl eqq rfl (fun w hk _ => Qg3 w (hmax0.mono hk)) fun w v w' _ _ _ hR => ?_
 obtain ⟨b2, W4, T4, rfl, hN, hW4⟩ := hR
 refine ⟨_, hN, ?_⟩
 clear hN
 repeat' first | apply jS | apply jO | apply jN | refine Q1 ?_ | refine Q0 ?_ | refine Qo (h := ?_) | apply jT
 refine Qb pqq rfl eqq rfl (fun w hk _ => Qg4 w (hmax0.mono hk)) fun w v w' _ _ _ hR => ?_
 subst hR
 repeat' first | refine Q1 ?_ | refine Q0 ?_ | refine Qo (h := ?_) | apply jN
 refine JX.part (F' := [(13, .pointer none), (14, iv 11), (11, .pointer (some ⟨b2, 0, none⟩)), (12, iv 0), (8, .slice Ab 2 cb), (9, nv 2), (10, .bool true), (7, iv 0), (6, .bool true), (5, iv 60), (2, .slice Aa 0 ca), (3, nv 0), (4, .bool false)]) (H' := jgH b2 W4 0 0 (0 : Nat) (0 : Nat) T4 ++ (Nb ++ (Na ++ []))) cqq (HSub.refl _) ?_
 refine QE ?_
 repeat' first | apply jS | refine Q1 ?_ | refine ZH (h := ?_) | refine Ql ?_ | refine QT (h := ?_) | (refine Z0 (h1 := ?_) (h2 := ?_) <;> intro hc <;> try (exfalso; omega)) | refine Qw (h := fun _ => ?_) | apply jO
 refine Qk (A := [_]) (B := jgH b2 W4 0 0 (0 : Nat) (0 : Nat) T4 ++ (Nb ++ (Na ++ []))) rfl pqq rfl eqq rfl (fun w _ hs => Qbw w _ 2 [1, 2] (WI.lit [1, 2] (Q0n hs 0 rfl) rfl rfl) dq (Qjw dq)) fun w v w' _ _ _ hR => ?_
 obtain ⟨Nc, hN, hONc⟩ := hR
 refine ⟨Nc, hN, ?_⟩
 clear hN
 skip
 refine Qb pqq rfl eqq rfl (fun w hk hs => Qg5 w _ _ (hONb.rd.at hk hs Q9) (hONc.rd.at hk hs Q9)) fun w v w' _ _ _ hR => ?_
 subst hR
 repeat' first | refine Q1 ?_ | refine Ql ?_ | (refine Z0 (h1 := ?_) (h2 := ?_) <;> intro hc <;> try (exfalso; omega)) | fail
 all_goals first
  | (exfalso; omega)
  | skip
 refine Qgd (by kernel_rfl) rfl rfl rfl rfl ?_
 repeat' first | refine Q1 ?_ | refine Ql ?_ | fail
 refine YV (A := _ :: Nc) (N := jgH b2 W4 0 0 (0 : Nat) (0 : Nat) T4) (B := Nb ++ (Na ++ [])) (R := fun w v w' => JgR b2 W4 0 0 (0 : Nat) (0 : Nat) T4 (0 : Nat) (0 : Nat) snZ w w' ∧ v = iv 0) rfl pqq rfl eqq rfl (fun w _ hs => Qcv rnZ (by kernel_rfl) (by kernel_rfl) Qet dq dq dq dq dq hW4 ((HSub.skip (Qh HSub.in0)).hsat hs)) (fun w1 v1 w2 _ _ _ hR => ?_)
 obtain ⟨⟨_, W5, T5, hk, hin, _, _⟩, rfl⟩ := hR
 refine ⟨jgH b2 W5 0 0 (0 : Nat) (0 : Nat) T5, hk, hin, ?_⟩
 repeat' first | apply jN | apply jT | refine Q1 ?_ | refine Q0 ?_ | refine Ql ?_ | (refine Z0 (h1 := ?_) (h2 := ?_) <;> intro hc <;> try (exfalso; omega)) | apply jR
 all_goals first
  | (exfalso; omega)
  | exact Qd rfl (fun a w' st => ⟨st.kp, rfl⟩)


set_option maxHeartbeats 16000000 in
theorem Qe7 (K : Nat) (w : World) (b b' : Nat) (W : WV) (T : WT) (J : JV) (m n t s : Nat) (S : Sm) (hW : IsBj W m n T S) (hJ : IsJ J m n S) (hD : Dm m n S) (hs0 : Hsat (jbH b' J m n t s ++ (jgH b W m n t s T ++ [])) w) (hm : m < 100) (hn : n < 100) (htm : t ≤ m) (htn : t ≤ n) (hs9 : s < 100) (hK : 8 ≤ K) (hK2 : K ≤ 90000000) (hb : Ok K S) :
  Calls Tryz.prog 28 #[.pointer (some ⟨b, 0, none⟩), .pointer (some ⟨b', 0, none⟩)] w (Ret fun v w' => Kp [] w w' ∧ v = .bool true) := by
 obtain ⟨R, hRe⟩ : ∃ R, R = J.u.N ++ (J.ui.N ++ (J.d.N ++ (J.v.N ++ (J.vi.N ++ [])))) := ⟨_, rfl⟩
 have hjb : jbH b' J m n t s = (b', .cells (jbC J m n t s) 72) :: R := by rw [hRe]; rfl
 have hs : Hsat ((b', .cells (jbC J m n t s) 72) :: (R ++ (jgH b W m n t s T ++ []))) w := by rw [hjb] at hs0; exact hs0
 have hM := QC hs
 have ej : HSub (jbH b' J m n t s) ((b', .cells (jbC J m n t s) 72) :: R) := by rw [hjb]; exact HSub.refl _
 refine Q8 [⟨4, 1, [0, 2, 1, 3, 4, 5, 6, 7, 8, 9, 10, 11, 12, 13, 14, 15, 16, 17, 18, 19, 20, 21, 22, 23, 24, 25, 26, 28, 29, 30, 31, 27, 32, 33, 34], []⟩] (keys ((b', .cells (jbC J m n t s) 72) :: (R ++ (jgH b W m n t s T ++ [])))) hM ((b', .cells (jbC J m n t s) 72) :: (R ++ (jgH b W m n t s T ++ []))) Tryz.func28 rfl mixed (by kernel_rfl) Tryz.ntmps28 Tryz.results28 rfl hs (fun p hp => List.mem_map.2 ⟨p, hp, rfl⟩) ?_
 simp only [toS, textOps, toSOp, kindAt, kindOf, odAt, sopsAt, ordOf, zipF]
 unfold jbC at ej ⊢
 repeat' first | apply jS | apply jO | apply jN | refine Q1 ?_ | refine Q0 ?_ | apply jT
 refine Q8f (by kernel_rfl) rfl rfl rfl rfl ?_
 repeat' first | apply jS | apply jO | apply jN | apply jT | refine Q1 ?_ | apply jK | refine Q4 rfl ?_
 all_goals first
  | (exfalso; omega)
  | skip
 refine Qk (A := [_]) (B := R ++ (jgH b W m n t s T ++ [])) rfl pqq rfl eqq rfl (fun w _ hs => Q48 K w b W m n t s T S hW ((show HSub (jgH b W m n t s T) _ by exact HSub.skip (Qh HSub.in0)).hsat hs) oq oq htm htn hK2 hb.d) fun w v w' _ _ _ hR => ?_
 obtain ⟨Na, Ea, rfl, hN, hONa⟩ := hR
 obtain ⟨Aa, ca, rfl⟩ := hONa.form
 refine ⟨Na, hN, ?_⟩
 clear hN
 repeat' first | refine Q1 ?_ | refine Q0 ?_ | refine Qo (h := ?_) | apply jN
 refine JX.part (F' := [(5, .slice Aa t ca), (6, nv t), (7, .bool (!(leastF S t m n).2.2)), (0, .pointer (some ⟨b, 0, none⟩)), (1, .pointer (some ⟨b', 0, none⟩))]) (H' := (b', .cells #[nv m, nv m, .slice J.u.A (m * m) J.u.c, nv m, nv m, .slice J.ui.A (m * m) J.ui.c, nv m, nv n, .slice J.d.A (m * n) J.d.c, nv n, nv n, .slice J.v.A (n * n) J.v.c, nv n, nv n, .slice J.vi.A (n * n) J.vi.c, nv t, nv s] 72) :: (Na ++ (R ++ (jgH b W m n t s T ++ [])))) cqq (HSub.refl _) ?_
 refine QE ?_
 repeat' first | apply jS | refine Q1 ?_ | apply jD
 refine Qb pqq rfl eqq rfl (fun w _ hs => WB K w b W m n t s T S hW hD ((show HSub (jgH b W m n t s T) _ by exact HSub.skip (Qh (Qh HSub.in0))).hsat hs) hm hn oq hs9 hK hK2 hb) fun w v w' _ _ _ hR => ?_
 subst hR
 skip
 refine Qb pqq rfl eqq rfl (fun w _ hs => Q36 K w b' J m n t s S hJ hD ((ej.trans (HSub.at 0 rfl (Qh HSub.in0))).hsat hs) oq oq oq oq hK hK2 hb) fun w v w' _ _ _ hR => ?_
 subst hR
 refine Qf4 (l := encT (encZ m n t s S)) rfl rfl rfl rfl ?_
 repeat' first | refine Q1 ?_ | fail
 refine Qk (A := [_]) (B := Na ++ (R ++ (jgH b W m n t s T ++ []))) rfl pqq rfl eqq rfl (fun w _ hs => Qbz K w b' J m n t s S hJ ((ej.trans (HSub.at 0 rfl (Qh HSub.in0))).hsat hs) oq oq htm htn hb.d) fun w v w' _ _ _ hR => ?_
 obtain ⟨Nb, hN, hONb⟩ := hR
 obtain ⟨Ab, cb, rfl⟩ := hONb.form
 refine ⟨Nb, hN, ?_⟩
 clear hN
 skip
 refine Qb pqq rfl eqq rfl (fun w hk hs => Qby w _ _ t t _ _ (hONa.rd.at hk hs Q9) (hONb.rd.at hk hs Q9) oq oq) fun w v w' _ _ _ hR => ?_
 obtain rfl := Qha hR rfl
 repeat' first | refine Q1 ?_ | refine Q2 ?_ | refine Q7 ?_ | refine Ql ?_ | refine Q6 ?_ | (refine Z0 (h1 := ?_) (h2 := ?_) <;> intro hc <;> try (exfalso; omega)) | fail
 refine Qb pqq rfl eqq rfl (fun w _ hs => Q14 K w b' J m n t s S hJ ((ej.trans (HSub.at 0 rfl (Qh (Qh HSub.in0)))).hsat hs) oq oq htm htn hK2 hb.d) fun w v w' _ _ _ hR => ?_
 subst hR
 refine Q1r (b := !(leastF S t m n).2.2) rfl rfl rfl rfl ?_
 repeat' first | refine Q1 ?_ | refine Q2 ?_ | refine Q7 ?_ | refine Ql ?_ | refine Q6 ?_ | fail
 refine Qb pqq rfl eqq rfl (fun w _ hs => Qe6 w b W m n t s T ((show HSub (jgH b W m n t s T) _ by exact Qh (Qh (Qh (Qh HSub.in0)))).hsat hs)) fun w v w' _ _ _ hR => ?_
 subst hR
 repeat' first | apply jN | apply jT | refine Q0 ?_ | refine Ql ?_ | (refine Z0 (h1 := ?_) (h2 := ?_) <;> intro hc <;> try (exfalso; omega)) | apply jR
 all_goals first
  | (exfalso; omega)
  | exact Qd rfl (fun a w' st => ⟨Z1 hs st.kp (fun p hp => ((show HSub ((b', .cells (jbC J m n t s) 72) :: (R ++ (jgH b W m n t s T ++ []))) _ by exact HSub.at 0 rfl (Qh (Qh (Qh (HSub.refl _))))).hsat st.hs).blk p hp), rfl⟩)

theorem Q0v (n : Nat) : Rec n n (oneL n) := ⟨by simp [oneL], fun x hx => by
 unfold oneL at hx
 obtain ⟨i, _, rfl⟩ := List.mem_map.1 hx
 simp⟩
theorem Q6p {r c : Nat} {g : List (List Int)} (h : Rec r c g) : Dm r c (startS r c g) := ⟨Q0v r, Q0v r, h, Q0v c, Q0v c⟩
theorem Q3p {n i j : Nat} (hi : i < n) (hj : j < n) : (gE (oneL n) i j).natAbs < 256 ^ 1 := by
 rw [Q3u hi hj]
 unfold idI
 split <;> decide
theorem Q9j {B r c : Nat} {g : List (List Int)} (h : Rec r c g) (hb : ∀ i j, i < r → j < c → (gE g i j).natAbs < 256 ^ B) : Inv B r c 0 0 (startS r c g) :=
 ⟨Q6p h, fun i hi => absurd hi (Nat.not_lt_zero _), 0, .inl ⟨Nat.le_refl _, hb⟩⟩
theorem Qcr {B r c : Nat} {g : List (List Int)} : Ob (Wb B 1 0) r c (startS r c g) :=
 ⟨fun _ _ h1 h2 => Q3p h1 h2, fun _ _ h1 h2 => Q3p h1 h2, fun _ _ h1 h2 => Q3p h1 h2, fun _ _ h1 h2 => Q3p h1 h2⟩
theorem Inv.okK {B W m n k t K : Nat} {S : Sm} (h : Inv B m n k t S) (ho : Ob (Wb B W k) m n S) (h1 : Wb B W k ≤ K) (h2 : Mb B ((k + 1) / 2) ≤ K) : Ok K S :=
 ⟨Xi h.dm.u fun a b ha hb => QI (ho.u a b ha hb) h1, Xi h.dm.ui fun a b ha hb => QI (ho.ui a b ha hb) h1,
  Xi h.dm.d fun a b ha hb => QI (h.fr a b ha hb) h2, Xi h.dm.v fun a b ha hb => QI (ho.v a b ha hb) h1, Xi h.dm.vi fun a b ha hb => QI (ho.vi a b ha hb) h1⟩
theorem Qew {m n : Nat} : ∀ (j t : Nat) (S : Sm), Dm m n S → t ≤ m → t ≤ n → Dm m n (runB m n j t S).1 ∧ (runB m n j t S).2.1 ≤ m ∧ (runB m n j t S).2.1 ≤ n
 | 0, t, S, h, h1, h2 => ⟨h, h1, h2⟩
 | j + 1, t, S, h, h1, h2 => by
  rw [runB]
  cases hs : stpB m n t S with
  | none => exact ⟨h, h1, h2⟩
  | some r =>
   obtain ⟨g1, g2, g3⟩ := WL h hs
   exact Qew j r.2 r.1 g1 g2 g3
theorem Qcq {B K r c k : Nat} {g : List (List Int)} (hB : 1 ≤ B) (h : Rec r c g) (hb : ∀ i j, i < r → j < c → (gE g i j).natAbs < 256 ^ B) (hW : Wb B 1 k ≤ K) (hM : Mb B ((k + 1) / 2) ≤ K) (j : Nat) (hj : j ≤ k) : Ok K (runB r c j 0 (startS r c g)).1 := by
 obtain ⟨h1, h2⟩ := Qex hB j 0 0 _ (Q9j h hb) (Qcr (B := B))
 have hle := Q5y (m := r) (n := c) j 0 (startS r c g)
 rw [Nat.zero_add] at h1 h2
 exact h1.okK h2 (Nat.le_trans (Qky oq) hW) (Nat.le_trans (Q0o oq) hM)
theorem Qcw {m : ZM} (hm : RtZ m) : m.e = tbz m.r m.c (gE (rowsOf m)) := by
 have h1 : tbz m.r m.c (enz m.c m.e) = m.e := Qeq hm.len
 refine h1.symm.trans (Qm fun i j hi hj => ?_)
 rw [Ws hm hi hj]
 rfl

def mkG (r c : Nat) (F : Mi) : List (List Int) := (List.range r).map fun a => (List.range c).map fun b => F a b
theorem Q01 (r c : Nat) (F : Mi) : Rec r c (mkG r c F) := ⟨by simp [mkG], fun x hx => by
 unfold mkG at hx
 obtain ⟨a, _, rfl⟩ := List.mem_map.1 hx
 simp⟩
theorem Qfa {r c a b : Nat} {F : Mi} (ha : a < r) (hb : b < c) : gE (mkG r c F) a b = F a b := by
 unfold gE mkG
 have e : ((List.range r).map fun a => (List.range c).map fun b => F a b).getD a [] = (List.range c).map fun b => F a b := by
  rw [List.getD, List.getElem?_map, List.getElem?_range ha]
  rfl
 rw [e, List.getD, List.getElem?_map, List.getElem?_range hb]
 rfl
def JV.sl (J : JV) : Nat → FV
 | 0 => J.u
 | 1 => J.ui
 | 2 => J.d
 | 3 => J.v
 | _ => J.vi
def JV.set (J : JV) (f : FV) : Nat → JV
 | 0 => { J with u := f }
 | 1 => { J with ui := f }
 | 2 => { J with d := f }
 | 3 => { J with v := f }
 | _ => { J with vi := f }
def Sm.sl (S : Sm) : Nat → List (List Int)
 | 0 => S.u
 | 1 => S.ui
 | 2 => S.d
 | 3 => S.v
 | _ => S.vi
def Sm.setG (S : Sm) (g : List (List Int)) : Nat → Sm
 | 0 => { S with u := g }
 | 1 => { S with ui := g }
 | 2 => { S with d := g }
 | 3 => { S with v := g }
 | _ => { S with vi := g }
def slR (m n k : Nat) : Nat := if k < 3 then m else n
def slC (m n k : Nat) : Nat := if k < 2 then m else n
def JV.tl (J : JV) : SHeap := J.u.N ++ (J.ui.N ++ (J.d.N ++ (J.v.N ++ (J.vi.N ++ []))))
theorem five {k : Nat} (h : k < 5) : k = 0 ∨ k = 1 ∨ k = 2 ∨ k = 3 ∨ k = 4 := by omega
theorem Qaw (b : Nat) (J : JV) (m n : Nat) (t s : Int) : jbH b J m n t s = (b, .cells (jbC J m n t s) 72) :: J.tl := rfl
theorem Qkn (J : JV) {k : Nat} (h : k < 5) : ∃ A B, J.tl = A ++ ((J.sl k).N ++ B) ∧ ∀ f, (J.set f k).tl = A ++ (f.N ++ B) := by
 rcases five h with rfl | rfl | rfl | rfl | rfl
 ·exact ⟨[], _, rfl, fun _ => rfl⟩
 ·exact ⟨J.u.N, _, rfl, fun _ => rfl⟩
 ·exact ⟨J.u.N ++ J.ui.N, _, (List.append_assoc _ _ _).symm, fun _ => (List.append_assoc _ _ _).symm⟩
 ·exact ⟨J.u.N ++ (J.ui.N ++ J.d.N), J.vi.N ++ [], by unfold JV.tl; simp only [List.append_assoc]; rfl, fun _ => by unfold JV.tl; simp only [List.append_assoc]; rfl⟩
 ·exact ⟨J.u.N ++ (J.ui.N ++ (J.d.N ++ J.v.N)), [], by unfold JV.tl; simp only [List.append_assoc]; rfl, fun _ => by unfold JV.tl; simp only [List.append_assoc]; rfl⟩
theorem Qg1 (J : JV) (m n : Nat) (t s : Int) {k : Nat} (h : k < 5) : (jbC J m n t s)[3 * k + 2]? = some (.slice (J.sl k).A (slR m n k * slC m n k) (J.sl k).c) := by
 rcases five h with rfl | rfl | rfl | rfl | rfl <;> rfl
theorem Qj2 {J : JV} {m n : Nat} {S : Sm} (hJ : IsJ J m n S) {k : Nat} (h : k < 5) : OwnZ (J.sl k).N (.slice (J.sl k).A (slR m n k * slC m n k) (J.sl k).c) (slR m n k * slC m n k) (tbz (slR m n k) (slC m n k) (gE (S.sl k))) := by
 rcases five h with rfl | rfl | rfl | rfl | rfl
 ·exact hJ.u
 ·exact hJ.ui
 ·exact hJ.d
 ·exact hJ.v
 ·exact hJ.vi
theorem Qj4 {K : Nat} {S : Sm} (hb : Ok K S) {k : Nat} (h : k < 5) : okG K (S.sl k) = true := by
 rcases five h with rfl | rfl | rfl | rfl | rfl
 ·exact hb.u
 ·exact hb.ui
 ·exact hb.d
 ·exact hb.v
 ·exact hb.vi
theorem Qkp {m n : Nat} {S : Sm} (hD : Dm m n S) (F : Mi) {k : Nat} (h : k < 5) : Dm m n (S.setG (mkG (slR m n k) (slC m n k) F) k) := by
 rcases five h with rfl | rfl | rfl | rfl | rfl
 ·exact { hD with u := Q01 _ _ _ }
 ·exact { hD with ui := Q01 _ _ _ }
 ·exact { hD with d := Q01 _ _ _ }
 ·exact { hD with v := Q01 _ _ _ }
 ·exact { hD with vi := Q01 _ _ _ }
theorem ZZ {K K' : Nat} {g : List (List Int)} (h : okG K g = true) (hK : K ≤ K') : okG K' g = true :=
 List.all_eq_true.2 fun x hx => List.all_eq_true.2 fun y hy => decide_eq_true (QI (of_decide_eq_true (List.all_eq_true.1 (List.all_eq_true.1 h x hx) y hy)) hK)
theorem Qj3 {K K' m n : Nat} {S : Sm} {F : Mi} (hb : Ok K S) (hK : K ≤ K') {k : Nat} (hF : ∀ a b, a < slR m n k → b < slC m n k → (F a b).natAbs < 256 ^ K') (h : k < 5) : Ok K' (S.setG (mkG (slR m n k) (slC m n k) F) k) := by
 have hg : okG K' (mkG (slR m n k) (slC m n k) F) = true := Xi (Q01 _ _ _) fun a b ha hb => by rw [Qfa ha hb]; exact hF a b ha hb
 have hb' : Ok K' S := ⟨ZZ hb.u hK, ZZ hb.ui hK, ZZ hb.d hK, ZZ hb.v hK, ZZ hb.vi hK⟩
 rcases five h with rfl | rfl | rfl | rfl | rfl
 ·exact { hb' with u := hg }
 ·exact { hb' with ui := hg }
 ·exact { hb' with d := hg }
 ·exact { hb' with v := hg }
 ·exact { hb' with vi := hg }
theorem Qj5 {J : JV} {m n : Nat} {S : Sm} (hJ : IsJ J m n S) {k : Nat} (h : k < 5) {N' : SHeap} {F : Mi} (hO : OwnZ N' (.slice (J.sl k).A (slR m n k * slC m n k) (J.sl k).c) (slR m n k * slC m n k) (tbz (slR m n k) (slC m n k) F)) :
  IsJ (J.set ⟨(J.sl k).A, (J.sl k).c, N'⟩ k) m n (S.setG (mkG (slR m n k) (slC m n k) F) k) ∧ ∀ t s, jbC (J.set ⟨(J.sl k).A, (J.sl k).c, N'⟩ k) m n t s = jbC J m n t s := by
 have hO' := hO
 rw [Qm (g' := gE (mkG (slR m n k) (slC m n k) F)) (fun a b ha hb => (Qfa ha hb).symm)] at hO'
 rcases five h with rfl | rfl | rfl | rfl | rfl
 ·exact ⟨{ hJ with u := hO' }, fun _ _ => rfl⟩
 ·exact ⟨{ hJ with ui := hO' }, fun _ _ => rfl⟩
 ·exact ⟨{ hJ with d := hO' }, fun _ _ => rfl⟩
 ·exact ⟨{ hJ with v := hO' }, fun _ _ => rfl⟩
 ·exact ⟨{ hJ with vi := hO' }, fun _ _ => rfl⟩
theorem Qcn (L : List Int) {r c : Nat} (i j : Nat) (hi : i < r) (hj : j < c) (hr : r ≤ 200) (hc : c ≤ 200) : (gE (rowsOf (szZ L r c)) i j).natAbs < 256 ^ 1 := by
 rw [Ws (Qfl L hr hc) hi hj]
 show ((tab (r * c) (szF L)).getD (i * c + j) 0).natAbs < _
 rw [Q0p (X8 hi hj)]
 have := Qes L (i * c + j)
 omega
theorem Qjo : Wb 1 1 29 ≤ 250000 := of_decide_eq_true (by kernel_rfl)
theorem Qjp : Mb 1 ((29 + 1) / 2) ≤ 250000 := of_decide_eq_true (by kernel_rfl)
theorem Qko {m n k : Nat} (hm : m < 6) (hn : n < 6) : slR m n k * slC m n k ≤ 25 := by
 have h1 : slR m n k ≤ 5 := by unfold slR; split <;> omega
 have h2 : slC m n k ≤ 5 := by unfold slC; split <;> omega
 exact Nat.mul_le_mul h1 h2
theorem Qdq {m n : Nat} {t s : Int} {S : Sm} {K : Nat} (hD : Dm m n S) (hm : m < 6) (hn : n < 6) (ht : t.natAbs < 100) (hs : s.natAbs < 100) (hK : 8 ≤ K) (hK2 : K ≤ 300000) (hb : Ok K S) : (encT (encZ m n t s S)).length < 4294967281 := by
 have e8 : (256 : Nat) ^ 8 = 18446744073709551616 := by decide
 have hbd := Q42 (m := m) (n := n) (t := t) (s := s) (K := K) hK (by rw [e8]; omega) (by rw [e8]; omega) (by rw [e8]; omega) (by rw [e8]; omega) hb
 have h1 := Q43 _ hbd
 rw [Q11 hD t s] at h1
 have hmm : m * m ≤ 25 := Nat.mul_le_mul (show m ≤ 5 by omega) (show m ≤ 5 by omega)
 have hmn : m * n ≤ 25 := Nat.mul_le_mul (show m ≤ 5 by omega) (show n ≤ 5 by omega)
 have hnn : n * n ≤ 25 := Nat.mul_le_mul (show n ≤ 5 by omega) (show n ≤ 5 by omega)
 have h2 := Nat.mul_le_mul (show 4 + (m * m + (m * m + (m * n + (n * n + n * n)))) ≤ 129 by omega) (show 3 * K + 2 ≤ 900002 by omega)
 omega

end Go.Proofs.YtbofgpenopcfaaaGreatDoor

namespace Go.Proofs.YtbofgpenopcfaaaGreatDoor
open Go Go.RowKit Go.ChangeShapes Go.WideShapes Go.ChangeAt
set_option linter.unusedSimpArgs false
set_option linter.unusedVariables false
set_option linter.unusedSectionVars false

theorem own : ownKnob Tryz.prog.godebug = none := by kernel_rfl
theorem laidOut : laidOutB Tryz.prog = true := by kernel_rfl

theorem cellsS : Tryz.prog.cellsOf 24 = 3 := by kernel_rfl

theorem Q1c {n : Int} (h : (Lit.int .u8 n).wf = true) : ∃ m : Nat, n = m ∧ m < 256 := by
 have h1 : 0 ≤ n ∧ n < 256 := by
  have hmin : IntKind.u8.min = 0 := by decide
  have hmax : IntKind.u8.max = 255 := by decide
  simp only [Lit.wf, Bool.and_eq_true, decide_eq_true_eq, hmin, hmax] at h
  omega
 exact ⟨n.toNat, by omega, by omega⟩
theorem Qjv {n : Int} (h : (Lit.int .i64 n).wf = true) : I64 n := by
 have hmin : IntKind.i64.min = -9223372036854775808 := by decide
 have hmax : IntKind.i64.max = 9223372036854775807 := by decide
 simp only [Lit.wf, Bool.and_eq_true, decide_eq_true_eq, hmin, hmax] at h
 unfold I64
 omega
theorem Qdx {l : List Int} (h : ∀ n ∈ l, I64 n) (i : Nat) : I64 (l.getD i 0) := by
 rw [List.getD]
 cases hi : l[i]? with
 | none => exact ⟨by decide, by decide⟩
 | some x => exact h x (List.mem_of_getElem? hi)

theorem Qc7 {w : World} {a : Addr} {len cap : Nat} {zs : List Int} (hl : len ≤ cap) (hz : zs.length = cap) (hc : ∀ i, i < zs.length → w.cell? (a.add i) = some (.int .i64 (zs.getD i 0))) : WI w (.slice (some a) len cap) len (zs.take len) := by
 refine ⟨by simp [hz]; omega, some a, cap, rfl, hl, fun h0 => ?_⟩
 obtain ⟨b, o, sp⟩ := a
 have hsp : sp = none := by
  have := hc 0 oq
  cases sp with
  | none => rfl
  | some s =>
   simp only [Addr.add, if_true, World.cell?] at this
   split at this <;> simp at this
 subst hsp
 refine ⟨⟨b, o, rfl⟩, fun j u hu => ?_⟩
 simp only [vAt]
 rw [List.getElem?_map, List.getElem?_take] at hu
 split at hu
 ·rename_i hj
  have hjz : j < zs.length := by omega
  rw [YN (d := 0) hjz] at hu
  cases hu
  rw [← Zf]
  exact hc j hjz
 ·cases hu

set_option maxRecDepth 100000 in
theorem Q8l {H : Type} {enc : TypeId × Value → H} {w : World} {r : Reach} {b0 : Nat} {held : Bool} {v : Value} {d : DataW H} {ps : List MemPlace} (hv : Value.okWide Tryz.prog w r b0 24 v)
  (h : DataW.Trod enc Tryz.prog w 0 (fun _ => true) held 24 v d ps) : ∃ R C L, IsS w v R C L := by
 obtain ⟨v0, v1, v2, y0, y1, y2, n, rfl, rfl, _, h0, h1, h2⟩ := Joins.open_agg3 Tryz.underlying24 (by kernel_rfl) cellsS hv h
 obtain ⟨n0, e0, _, w0⟩ := DataW.trod_int Tryz.underlying5 h0
 obtain ⟨n1, e1, _, w1⟩ := DataW.trod_int Tryz.underlying5 h1
 simp only [List.cons.injEq, and_true] at e0 e1
 subst e0 e1
 obtain ⟨m0, rfl, l0⟩ := Q1c w0
 obtain ⟨m1, rfl, l1⟩ := Q1c w1
 rcases open_ints Tryz.underlying22 Tryz.underlying3 (by kernel_rfl) h2 with ⟨hcs, _⟩ | ⟨x, l, c, zs, hcs, _, hl, hm, hz, _, hcell, hwz⟩
 ·simp only [List.cons.injEq, and_true] at hcs
  subst hcs
  exact ⟨m0, m1, [], l0, l1, fun i => ⟨by simp, by simp⟩, _, rfl, ⟨rfl, none, 0, rfl, Nat.le_refl _, fun h => absurd h (Nat.lt_irrefl _)⟩⟩
 ·simp only [List.cons.injEq, and_true] at hcs
  subst hcs
  have hzl : zs.length = c := by simpa using hz
  have hW := Qc7 hl hzl hcell
  have hlen : (zs.take l).length = l := by simp [hzl]; omega
  exact ⟨m0, m1, zs.take l, l0, l1, Qdx fun n hn => Qjv (hwz n (List.mem_of_mem_take hn)), _, rfl, by rw [hlen]; exact hW⟩


theorem Q4y {P : Program} {w : World} {r : Reach} {base : Nat} {t : TypeId} {v : Value} {n : Nat} {e : TypeId} (ht : P.underlying t = some (.array n e)) (h : Value.okWide P w r base t v) : ∃ cs, v = .agg cs ∧ cs.size = P.cellsOf t := by
 unfold Value.okWide at h
 rw [ht] at h
 cases v <;> simp at h
 exact ⟨_, rfl, h.1⟩


def IsL (w : World) (v : Value) (L : List Int) : Prop := (∀ i, I64 (L.getD i 0)) ∧ WI w v L.length L ∧ L.length < 9223372036854775808
theorem IsL.mono {w w' : World} {v : Value} {L : List Int} (h : IsL w v L) (hk : Kp [] w w') : IsL w' v L := ⟨h.1, h.2.1.mono hk, h.2.2⟩

def IsLL (w : World) (v : Value) (X : List (List Int)) : Prop := X.length < 9223372036854775808 ∧ ∃ ss : List Value, RdW w 1 v X.length ss ∧ ∀ i, i < X.length → IsL w (ss.getD i (iv 0)) (X.getD i [])
theorem IsLL.mono {w w' : World} {v : Value} {X : List (List Int)} (h : IsLL w v X) (hk : Kp [] w w') : IsLL w' v X := by
 obtain ⟨h0, ss, h1, h2⟩ := h
 exact ⟨h0, ss, h1.mono hk, fun i hi => (h2 i hi).mono hk⟩
set_option maxRecDepth 100000 in
theorem Qgv {H : Type} {enc : TypeId × Value → H} {w : World} {r : Reach} {b0 : Nat} {held : Bool} {v : Value} {d : DataW H} {ps : List MemPlace} (hv : Value.okWide Tryz.prog w r b0 5 v)
  (h : DataW.Trod enc Tryz.prog w 0 (fun _ => true) held 5 v d ps) : ∃ q : Nat, v = .int .u8 (q : Int) ∧ q < 256 := by
 obtain ⟨x, rfl, rfl, rfl, wx⟩ := open_int Tryz.underlying5 hv h
 obtain ⟨m, rfl, hm⟩ := Q1c wx
 exact ⟨m, rfl, hm⟩


theorem cellsB4 : Tryz.prog.cellsOf 69 = 4 := by kernel_rfl
theorem cellsB1 : Tryz.prog.cellsOf 5 = 1 := by kernel_rfl
set_option maxRecDepth 100000 in
theorem Qai {H : Type} {enc : TypeId × Value → H} {w : World} {r : Reach} {b0 : Nat} {held : Bool} {v : Value} {d : DataW H} {ps : List MemPlace} (hv : Value.okWide Tryz.prog w r b0 69 v)
  (h : DataW.Trod enc Tryz.prog w 0 (fun _ => true) held 69 v d ps) : ∃ q0 q1 q2 q3 : Nat, v = .agg #[.int .u8 (q0 : Int), .int .u8 (q1 : Int), .int .u8 (q2 : Int), .int .u8 (q3 : Int)] ∧ q0 < 256 ∧ q1 < 256 ∧ q2 < 256 ∧ q3 < 256 := by
 obtain ⟨cs, rfl, hsz⟩ := Q4y Tryz.underlying69 hv
 rw [cellsB4] at hsz
 obtain ⟨l⟩ := cs
 obtain ⟨c0, c1, c2, c3, rfl⟩ : ∃ c0 c1 c2 c3, l = [c0, c1, c2, c3] := by
  match l, hsz with
  | [a, b, c, d], _ => exact ⟨a, b, c, d, rfl⟩
 obtain ⟨fuel, hf⟩ := h
 obtain ⟨xs, m, _, _, _, hx, hall⟩ := DataW.trod_array Tryz.underlying69 hf
 have a0 := hall 0 oq
 have a1 := hall 1 oq
 have a2 := hall 2 oq
 have a3 := hall 3 oq
 rw [cellsB1] at a0 a1 a2 a3
 rw [List.getElem?_eq_getElem oq] at a0 a1 a2 a3
 obtain ⟨n0, e0, _, w0⟩ := DataW.trod_int Tryz.underlying5 (show DataW.trod enc Tryz.prog w 0 (fun _ => true) held m 5 [c0] = some _ from a0)
 obtain ⟨n1, e1, _, w1⟩ := DataW.trod_int Tryz.underlying5 (show DataW.trod enc Tryz.prog w 0 (fun _ => true) held m 5 [c1] = some _ from a1)
 obtain ⟨n2, e2, _, w2⟩ := DataW.trod_int Tryz.underlying5 (show DataW.trod enc Tryz.prog w 0 (fun _ => true) held m 5 [c2] = some _ from a2)
 obtain ⟨n3, e3, _, w3⟩ := DataW.trod_int Tryz.underlying5 (show DataW.trod enc Tryz.prog w 0 (fun _ => true) held m 5 [c3] = some _ from a3)
 simp only [List.cons.injEq, and_true] at e0 e1 e2 e3
 subst e0 e1 e2 e3
 obtain ⟨m0, rfl, l0⟩ := Q1c w0
 obtain ⟨m1, rfl, l1⟩ := Q1c w1
 obtain ⟨m2, rfl, l2⟩ := Q1c w2
 obtain ⟨m3, rfl, l3⟩ := Q1c w3
 exact ⟨m0, m1, m2, m3, rfl, l0, l1, l2, l3⟩

end Go.Proofs.YtbofgpenopcfaaaGreatDoor

namespace Go.Proofs.YtbofgpenopcfaaaGreatDoor
open Go Go.RowKit
set_option linter.unusedSimpArgs false
set_option linter.unusedVariables false
set_option linter.unusedSectionVars false

theorem Qh3 {W : World} (h : W.ShapedOpen Tryz.prog) : MaxL W :=
 cell_of_shapedOpen_int (g := 0) (t := 3) (zero := #[.int .i64 0]) h (of_decide_eq_true (by kernel_rfl)) (by kernel_rfl) rfl (by kernel_rfl) (by kernel_rfl) (by kernel_rfl)

end Go.Proofs.YtbofgpenopcfaaaGreatDoor

