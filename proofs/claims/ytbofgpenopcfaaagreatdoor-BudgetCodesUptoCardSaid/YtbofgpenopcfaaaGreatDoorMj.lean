import Derived.Test.YtbofgpenopcfaaaGreatDoorMi
import Derived.Test.YtbofgpenopcfaaaGreatDoorMh
import Derived.Test.YtbofgpenopcfaaaGreatDoorMc
set_option maxHeartbeats 16000000
namespace Go.Proofs.YtbofgpenopcfaaaGreatDoor
open Go Go.RowKit
set_option linter.unusedSimpArgs false
set_option linter.unusedVariables false
set_option linter.unusedSectionVars false


def aT (k:Int):Tn:=⟨1,k,0,1⟩
def bY (S:Sm) (i:Nat) (st:Nat × Nat × Bool) (j:Nat):Nat × Nat × Bool :=
 if gE S.d i j≠0∧(st.2.2=false∨(gE S.d i j).natAbs<(gE S.d st.1 st.2.1).natAbs) then (i,j,true) else st
def WH (S:Sm) (t n:Nat) (st:Nat × Nat × Bool) (i:Nat):Nat × Nat × Bool:=(List.range' t (n-t)).foldl (bY S i) st
def Qv (S:Sm) (t m n:Nat):Nat × Nat × Bool:=(List.range' t (m-t)).foldl (WH S t n) (0,0,false)

def eY (i k:Nat) (g:List (List Int)):List (List Int):=(g.set i (g.getD k [])).set k (g.getD i [])
def iR (i k:Nat) (g:List (List Int)):List (List Int):=g.map fun r=>(r.set i (r.getD k 0)).set k (r.getD i 0)
def jr (i k a:Nat):Nat:=if a=k then i else if a=i then k else a
theorem Q18 {i k a r:Nat} (hi:i<r) (hk:k<r) (ha:a<r):jr i k a<r:=by
 unfold jr
 split
 ·exact hi
 ·split
  ·exact hk
  ·exact ha
theorem Rec.eY {r c i k:Nat} {g:List (List Int)} (h:Rec r c g) (hi:i<r) (hk:k<r):Rec r c (eY i k g):=(h.set (h.at hk)).set (h.at hi)
theorem Rec.iR {r c i k:Nat} {g:List (List Int)} (h:Rec r c g):Rec r c (iR i k g) :=
 ⟨by unfold Go.Proofs.YtbofgpenopcfaaaGreatDoor.iR; rw [List.length_map, h.len], fun x hx => by
  unfold Go.Proofs.YtbofgpenopcfaaaGreatDoor.iR at hx
  obtain⟨y,hy,rfl⟩:=List.mem_map.1 hx
  rw[List.length_set,List.length_set];exact h.row y hy⟩
theorem Q43 {r c i k a b:Nat} {g:List (List Int)} (h:Rec r c g) (hi:i<r) (hk:k<r):gE (eY i k g) a b=gE g (jr i k a) b:=by
 have hl:=h.len
 unfold gE eY jr
 rw[YM (by rw[List.length_set];omega)]
 by_cases e1:a=k
 ·rw[if_pos e1,if_pos e1]
 ·rw[if_neg e1,if_neg e1,YM oq]
  by_cases e2:a=i
  ·rw[if_pos e2,if_pos e2]
  ·rw[if_neg e2,if_neg e2]
theorem Q2c {r c i k a b:Nat} {g:List (List Int)} (h:Rec r c g) (hi:i<c) (hk:k<c) (ha:a<r):gE (iR i k g) a b=gE g a (jr i k b):=by
 have h1:=h.at ha
 have hl:=h.len
 have e:(iR i k g).getD a []=((g.getD a []).set i ((g.getD a []).getD k 0)).set k ((g.getD a []).getD i 0):=by
  unfold iR
  rw[List.getD,List.getElem?_map,List.getD,List.getElem?_eq_getElem (show a<g.length by omega)]
  rfl
 unfold gE jr
 rw[e,YM (by rw[List.length_set];omega)]
 by_cases e1:b=k
 ·rw[if_pos e1,if_pos e1]
 ·rw[if_neg e1,if_neg e1,YM oq]
  by_cases e2:b=i
  ·rw[if_pos e2,if_pos e2]
  ·rw[if_neg e2,if_neg e2]
def Sm.ex (r c t:Nat) (S:Sm):Sm:=⟨eY r t S.u,iR r t S.ui,iR c t (eY r t S.d),iR c t S.v,eY c t S.vi⟩
theorem Dm.ex {m n r c t:Nat} {S:Sm} (h:Dm m n S) (hr:r<m) (hc:c<n) (bD:t<m) (htn:t<n):Dm m n (S.ex r c t) :=
 ⟨h.u.eY hr bD,h.ui.iR,(h.d.eY hr bD).iR,h.v.iR,h.vi.eY hc htn⟩

def ji (S:Sm) (t m:Nat):Option Nat:=(List.range' (t+1) (m-(t+1))).find? fun i=>decide (gE S.d i t≠0)
def jy (S:Sm) (t n:Nat):Option Nat:=(List.range' (t+1) (n-(t+1))).find? fun k=>decide (gE S.d t k≠0)
def dH (m n t:Nat) (S:Sm):Option (Sm × Nat) :=
 if (Qv S t m n).2.2=false then none
 else if (Qv S t m n).1≠t∨(Qv S t m n).2.1≠t then some (S.ex (Qv S t m n).1 (Qv S t m n).2.1 t,t)
 else match ji S t m with
 | some i=>some (S.rows i t (aT (-(gE S.d i t / gE S.d t t))),t)
 | none => match jy S t n with
  | some k=>some (S.cols k t (aT (-(gE S.d t k / gE S.d t t))),t)
  | none=>match Z7 S t m n with
   | some i=>some (S.rows t i (aT 1),t)
   | none=>some (if gE S.d t t<0 then S.neg t else S,t+1)
def aJ (m n:Nat):Nat→Nat→Sm→Sm × Nat × Nat
 | 0,t,S=>(S,t,0)
 | k+1,t,S=>match dH m n t S with
  | none=>(S,t,0)
  | some r=>((aJ m n k r.2 r.1).1,(aJ m n k r.2 r.1).2.1,(aJ m n k r.2 r.1).2.2+1)


theorem Qi7 {S:Sm} {R V:Nat→Nat→Prop} {i j:Nat} {st:Nat × Nat × Bool} (hr:R i j) (h1:st.2.2=true→R st.1 st.2.1∧gE S.d st.1 st.2.1≠0)
  (h2:∀ a b,V a b→gE S.d a b≠0→st.2.2=true∧(gE S.d st.1 st.2.1).natAbs≤(gE S.d a b).natAbs) :
  ((bY S i st j).2.2=true→R (bY S i st j).1 (bY S i st j).2.1∧gE S.d (bY S i st j).1 (bY S i st j).2.1≠0) ∧
  ∀ a b,(V a b∨(a=i∧b=j))→gE S.d a b≠0→(bY S i st j).2.2=true∧(gE S.d (bY S i st j).1 (bY S i st j).2.1).natAbs≤(gE S.d a b).natAbs:=by
 unfold bY
 by_cases h:gE S.d i j≠0∧(st.2.2=false∨(gE S.d i j).natAbs<(gE S.d st.1 st.2.1).natAbs)
 ·rw[if_pos h]
  refine⟨fun _=>⟨hr,h.1⟩,fun a b hv h0=>⟨rfl,?_⟩⟩
  dsimp only
  rcases hv with hv|⟨rfl,rfl⟩
  ·obtain⟨e1,e2⟩:=h2 a b hv h0
   rcases h.2 with h3|h3
   ·rw[e1]at h3;cases h3
   ·omega
  ·exact V7 _
 ·rw[if_neg h]
  refine⟨h1,fun a b hv h0=>?_⟩
  rcases hv with hv|⟨rfl,rfl⟩
  ·exact h2 a b hv h0
  ·cases hb:st.2.2 with
   | false=>exact absurd ⟨h0,.inl hb⟩ h
   | true=>exact⟨rfl,Nat.le_of_not_lt fun h3=>h ⟨h0,.inr h3⟩⟩
theorem Q7v {S:Sm} {R:Nat→Nat→Prop} {i:Nat}:∀ (l:List Nat),(∀ j∈l,R i j)→∀ (V:Nat→Nat→Prop) (st:Nat × Nat × Bool),(st.2.2=true→R st.1 st.2.1∧gE S.d st.1 st.2.1≠0) →
  (∀ a b,V a b→gE S.d a b≠0→st.2.2=true∧(gE S.d st.1 st.2.1).natAbs≤(gE S.d a b).natAbs) →
  ((l.foldl (bY S i) st).2.2=true→R (l.foldl (bY S i) st).1 (l.foldl (bY S i) st).2.1∧gE S.d (l.foldl (bY S i) st).1 (l.foldl (bY S i) st).2.1≠0) ∧
  ∀ a b,(V a b∨(a=i∧b∈l))→gE S.d a b≠0→(l.foldl (bY S i) st).2.2=true∧(gE S.d (l.foldl (bY S i) st).1 (l.foldl (bY S i) st).2.1).natAbs≤(gE S.d a b).natAbs
 | [],_,V,st,h1,h2=>⟨h1,fun a b hv h0=>by
  rcases hv with hv|⟨_,hv⟩
  ·exact h2 a b hv h0
  ·cases hv⟩
 | j :: l, hl, V, st, h1, h2 => by
  obtain⟨g1,g2⟩:=Qi7 (R:=R) (V:=V) (hl j (Vf ..)) h1 h2
  obtain⟨k1,k2⟩:=Q7v l (fun x hx=>hl x (Vc _ hx)) _ (bY S i st j) g1 g2
  refine⟨k1,fun a b hv h0=>k2 a b ?_ h0⟩
  rcases hv with hv|⟨rfl,hv⟩
  ·exact .inl (.inl hv)
  ·rcases List.mem_cons.1 hv with rfl|hv
   ·exact .inl (.inr ⟨rfl,rfl⟩)
   ·exact .inr ⟨rfl,hv⟩
theorem Q41 {S:Sm} {R:Nat→Nat→Prop} {t n:Nat}:∀ (l:List Nat),(∀ i∈l,∀ j∈List.range' t (n-t),R i j)→∀ (V:Nat→Nat→Prop) (st:Nat × Nat × Bool),(st.2.2=true→R st.1 st.2.1∧gE S.d st.1 st.2.1≠0) →
  (∀ a b,V a b→gE S.d a b≠0→st.2.2=true∧(gE S.d st.1 st.2.1).natAbs≤(gE S.d a b).natAbs) →
  ((l.foldl (WH S t n) st).2.2=true→R (l.foldl (WH S t n) st).1 (l.foldl (WH S t n) st).2.1∧gE S.d (l.foldl (WH S t n) st).1 (l.foldl (WH S t n) st).2.1≠0) ∧
  ∀ a b,(V a b∨(a∈l∧b∈List.range' t (n-t)))→gE S.d a b≠0→(l.foldl (WH S t n) st).2.2=true∧(gE S.d (l.foldl (WH S t n) st).1 (l.foldl (WH S t n) st).2.1).natAbs≤(gE S.d a b).natAbs
 | [],_,V,st,h1,h2=>⟨h1,fun a b hv h0=>by
  rcases hv with hv|⟨hv,_⟩
  ·exact h2 a b hv h0
  ·cases hv⟩
 | i :: l, hl, V, st, h1, h2 => by
  obtain⟨g1,g2⟩:=Q7v (R:=R) (i:=i) (List.range' t (n-t)) (hl i (Vf ..)) V st h1 h2
  obtain⟨k1,k2⟩:=Q41 l (fun x hx=>hl x (Vc _ hx)) _ (WH S t n st i) g1 g2
  refine⟨k1,fun a b hv h0=>k2 a b ?_ h0⟩
  rcases hv with hv|⟨hv,hb⟩
  ·exact .inl (.inl hv)
  ·rcases List.mem_cons.1 hv with rfl|hv
   ·exact .inl (.inr ⟨rfl,hb⟩)
   ·exact .inr ⟨hv,hb⟩
theorem Wm {t n a:Nat}:a∈List.range' t (n-t)↔t≤a∧a<n:=by
 rw[List.mem_range'_1];omega
theorem X7 {S:Sm} {t m n:Nat} (h:(Qv S t m n).2.2=true):(t≤(Qv S t m n).1∧(Qv S t m n).1<m∧t≤(Qv S t m n).2.1∧(Qv S t m n).2.1<n)∧gE S.d (Qv S t m n).1 (Qv S t m n).2.1≠0:=by
 obtain⟨g,_⟩:=Q41 (S:=S) (R:=fun a b=>t≤a∧a<m∧t≤b∧b<n) (t:=t) (n:=n) (List.range' t (m-t)) (fun i hi j hj=>by
  have h1:=Wm.1 hi
  have h2:=Wm.1 hj
  exact⟨h1.1,h1.2,h2.1,h2.2⟩) (fun _ _=>False) (0,0,false) (fun h=>by cases h) (fun _ _ h=>h.elim)
 exact g h
theorem Qcg {S:Sm} {t m n a b:Nat} (h1:t≤a) (h2:a<m) (h3:t≤b) (h4:b<n) (h0:gE S.d a b≠0):(Qv S t m n).2.2=true∧(gE S.d (Qv S t m n).1 (Qv S t m n).2.1).natAbs≤(gE S.d a b).natAbs:=by
 obtain⟨_,g⟩:=Q41 (S:=S) (R:=fun _ _=>True) (t:=t) (n:=n) (List.range' t (m-t)) (fun _ _ _ _=>trivial) (fun _ _=>False) (0,0,false) (fun h=>by cases h) (fun _ _ h=>h.elim)
 exact g a b (.inr ⟨Wm.2 ⟨h1,h2⟩,Wm.2 ⟨h3,h4⟩⟩) h0


theorem Q6e {S:Sm} {t m:Nat} (h:ji S t m=none) {i:Nat} (h1:t<i) (h2:i<m):gE S.d i t=0:=by
 have:=List.find?_eq_none.1 h i (Wm.2 ⟨h1,h2⟩)
 simpa using this
theorem Q6d {S:Sm} {t m i:Nat} (h:ji S t m=some i):t<i∧i<m∧gE S.d i t≠0:=by
 have h1:=Wm.1 (List.mem_of_find?_eq_some h)
 have h2:=List.find?_some h
 exact⟨h1.1,h1.2,by simpa using h2⟩
theorem Q6g {S:Sm} {t n:Nat} (h:jy S t n=none) {k:Nat} (h1:t<k) (h2:k<n):gE S.d t k=0:=by
 have:=List.find?_eq_none.1 h k (Wm.2 ⟨h1,h2⟩)
 simpa using this
theorem Q6f {S:Sm} {t n k:Nat} (h:jy S t n=some k):t<k∧k<n∧gE S.d t k≠0:=by
 have h1:=Wm.1 (List.mem_of_find?_eq_some h)
 have h2:=List.find?_some h
 exact⟨h1.1,h1.2,by simpa using h2⟩
theorem Q5u {S:Sm} {t m n i:Nat} (h:Z7 S t m n=some i):t<i∧i<m∧∃ k,t<k∧k<n∧gE S.d i k≠0:=by
 have h1:=Wm.1 (List.mem_of_find?_eq_some h)
 have h2:=List.find?_some h
 unfold Wd at h2
 obtain⟨k,hk,h3⟩:=List.any_eq_true.1 h2
 have h4:=Wm.1 hk
 refine⟨h1.1,h1.2,k,h4.1,h4.2,fun h0=>?_⟩
 have h5:=of_decide_eq_true h3
 unfold gQ at h5
 rw[h0]at h5
 simp at h5

def Zc (m n t:Nat) (S:Sm):Prop:=∀ i,i<t→(∀ k,k<n→k≠i→gE S.d i k=0)∧∀ k,k<m→k≠i→gE S.d k i=0
def Fr (M m n:Nat) (S:Sm):Prop:=∀ a b,a<m→b<n→(gE S.d a b).natAbs<256 ^ M
def Qs (M m n t:Nat) (S:Sm):Prop:=(∀ b,b<n→(gE S.d t b).natAbs<256 ^ M)∧∀ a,a<m→a≠t→(∀ b,b<n→(gE S.d a b).natAbs<256 ^ M)∨(t<a∧gE S.d a t=0∧∀ b,b<n→(gE S.d a b).natAbs<256 ^ (2*M+1))
def Calm (m n t:Nat) (S:Sm):Prop:=((Qv S t m n).1≠t∨(Qv S t m n).2.1≠t)∨(ji S t m=none∧jy S t n≠none)
theorem Fr.q {M m n t:Nat} {S:Sm} (h:Fr M m n S) (ht:t<m):Qs M m n t S:=⟨fun b hb=>h t b ht hb,fun a ha _=>.inl fun b hb=>h a b ha hb⟩
theorem Qs.fr {M m n t:Nat} {S:Sm} (h:Qs M m n t S):Fr (2*M+2) m n S:=fun a b ha hb=>by
 by_cases e:a=t
 ·subst e;exact Z2 (h.1 b hb) oq
 ·rcases h.2 a ha e with h1|⟨_,_,h1⟩
  ·exact Z2 (h1 b hb) oq
  ·exact Z2 (h1 b hb) oq
theorem Fr.mono {M M' m n:Nat} {S:Sm} (h:Fr M m n S) (hM:M≤M'):Fr M' m n S:=fun a b ha hb=>Z2 (h a b ha hb) hM
def Mb (B:Nat):Nat→Nat
 | 0=>B
 | l+1=>2*Mb B l+2
theorem Q28 {B k l:Nat} (h:k≤l):Mb B k≤Mb B l:=by
 induction l with
 | zero => obtain rfl : k = 0 := by omega
           exact V7 _
 | succ l ih =>
  by_cases e:k=l+1
  ·subst e;exact V7 _
  ·have:=ih oq;rw[Mb];omega
theorem Qcf {x y z:Int} {K L:Nat} (hx:x.natAbs<256 ^ K) (hy:y.natAbs<256 ^ L) (hz:z.natAbs<256 ^ K):(z+x*y).natAbs<256 ^ (K+L+1):=by
 have h1:=W9 hx hy
 have h2:=Int.natAbs_add_le z (x*y)
 have h3:=Z2 hz (Nat.le_add_right K L)
 rw[V9]
 omega
theorem Ys {M:Nat} {x p:Int} (h:x.natAbs<256 ^ M):(-(x / p)).natAbs<256 ^ M:=by
 rw[Int.natAbs_neg]
 exact V5 (Int.natAbs_ediv_le_natAbs x p) h
theorem Qjg {x p:Int} (hp:p≠0):(x + -(x / p)*p).natAbs<p.natAbs∧(x + -(x / p)*p=x % p):=by
 have h1:x + -(x / p)*p=x % p:=by rw[Int.emod_def,Int.neg_mul,Int.mul_comm];omega
 have h2:=Int.emod_nonneg x hp
 have h3:=Int.emod_lt x hp
 exact⟨by rw[h1];omega,h1⟩


theorem Qlw {m n r c t a b:Nat} {S:Sm} (h:Dm m n S) (hr:r<m) (hc:c<n) (bD:t<m) (htn:t<n) (ha:a<m) (hb:b<n):gE (S.ex r c t).d a b=gE S.d (jr r t a) (jr c t b):=by
 show gE (iR c t (eY r t S.d)) a b=_
 rw[Q2c (h.d.eY hr bD) hc htn ha,Q43 h.d hr bD]
theorem Qf7 {m n i k a b:Nat} {f:Int} {S:Sm} (h:Dm m n S) (hi:i<m) (hk:k<m) (hik:i≠k) (hb:b<n):gE (S.rows i k (aT f)).d a b=if a=i then gE S.d i b+f*gE S.d k b else gE S.d a b:=by
 show gE (Q08 i k (aT f) S.d) a b=_
 rw[Q0g h.d hi hk hb]
 by_cases e1:a=k
 ·subst e1
  rw[if_pos rfl,if_neg (fun e=>hik e.symm)]
  show 0*_+1*_=_
  omega
 ·rw[if_neg e1]
  by_cases e2:a=i
  ·rw[if_pos e2,if_pos e2]
   show 1*gE S.d i b+f*gE S.d k b=_
   omega
  ·rw[if_neg e2,if_neg e2]
theorem Qf8 {m n i k a b:Nat} {f:Int} {S:Sm} (h:Dm m n S) (hi:i<n) (hk:k<n) (hik:i≠k) (ha:a<m):gE (S.cols i k (aT f)).d a b=if b=i then gE S.d a i+f*gE S.d a k else gE S.d a b:=by
 show gE (XW i k (aT f) S.d) a b=_
 rw[Q0h h.d hi hk ha]
 by_cases e1:b=k
 ·subst e1
  rw[if_pos rfl,if_neg (fun e=>hik e.symm)]
  show 0*_+1*_=_
  omega
 ·rw[if_neg e1]
  by_cases e2:b=i
  ·rw[if_pos e2,if_pos e2]
   show 1*gE S.d a i+f*gE S.d a k=_
   omega
  ·rw[if_neg e2,if_neg e2]

structure Inv (B m n k t:Nat) (S:Sm):Prop where
 dm:Dm m n S
 z:Zc m n t S
 lv:∃ l,(2*l≤k∧Fr (Mb B l) m n S)∨(2*l≤k+1∧Fr (Mb B l) m n S∧Calm m n t S)∨(2*l+1≤k∧Qs (Mb B l) m n t S)

theorem Qo9 {B m n k t r c:Nat} {S:Sm} (h:Inv B m n k t S) (hr:r<m) (hc:c<n) (htr:t≤r) (htc:t≤c):Inv B m n (k+1) t (S.ex r c t):=by
 have bD:t<m:=by omega
 have htn:t<n:=by omega
 have fr:∀ {M},Fr M m n S→Fr M m n (S.ex r c t):=fun hf a b ha hb=>by
  rw[Qlw h.dm hr hc bD htn ha hb]
  exact hf _ _ (Q18 hr bD ha) (Q18 hc htn hb)
 refine⟨h.dm.ex hr hc bD htn,fun i hi=>⟨fun b hb hne=>?_,fun a ha hne=>?_⟩,?_⟩
 ·rw[Qlw h.dm hr hc bD htn oq hb]
  have e:jr r t i=i:=by unfold jr;rw[if_neg oq,if_neg oq]
  rw[e]
  refine(h.z i hi).1 _ (Q18 hc htn hb) ?_
  unfold jr
  split
  ·omega
  ·split<;>omega
 ·rw[Qlw h.dm hr hc bD htn ha oq]
  have e:jr c t i=i:=by unfold jr;rw[if_neg oq,if_neg oq]
  rw[e]
  refine(h.z i hi).2 _ (Q18 hr bD ha) ?_
  unfold jr
  split
  ·omega
  ·split<;>omega
 ·obtain⟨l,hl⟩:=h.lv
  rcases hl with ⟨h1,h2⟩|⟨h1,h2,_⟩|⟨h1,h2⟩
  ·exact⟨l,.inl ⟨by omega,fr h2⟩⟩
  ·exact⟨l,.inl ⟨by omega,fr h2⟩⟩
  ·exact⟨l+1,.inl ⟨by omega,fr h2.fr⟩⟩

structure Here (m n t:Nat) (S:Sm):Prop where
 tm:t<m
 tn:t<n
 p:gE S.d t t≠0
 ls:(Qv S t m n).1=t∧(Qv S t m n).2.1=t
theorem Here.calm {m n t:Nat} {S:Sm} (h:Here m n t S) (hc:Calm m n t S):ji S t m=none∧jy S t n≠none:=by
 rcases hc with h1|h1
 ·rcases h1 with h1|h1
  ·exact absurd h.ls.1 h1
  ·exact absurd h.ls.2 h1
 ·exact h1
theorem Inv.lev {B m n k t:Nat} {S:Sm} (h:Inv B m n k t S) (hh:Here m n t S) (hc:¬(ji S t m=none∧jy S t n≠none)):∃ l,2*l≤k∧Qs (Mb B l) m n t S:=by
 obtain⟨l,hl⟩:=h.lv
 rcases hl with ⟨h1,h2⟩|⟨_,_,h3⟩|⟨h1,h2⟩
 ·exact⟨l,h1,h2.q hh.tm⟩
 ·exact absurd (hh.calm h3) hc
 ·exact⟨l,by omega,h2⟩

theorem Qlp {B m n k t i:Nat} {S:Sm} (h:Inv B m n k t S) (hh:Here m n t S) (hf:ji S t m=some i):Inv B m n (k+1) t (S.rows i t (aT (-(gE S.d i t / gE S.d t t)))):=by
 obtain⟨hti,him,h0⟩:=Q6d hf
 have bD:=hh.tm
 have htn:=hh.tn
 have e:∀ a b,b<n→gE (S.rows i t (aT (-(gE S.d i t / gE S.d t t)))).d a b=if a=i then gE S.d i b + -(gE S.d i t / gE S.d t t)*gE S.d t b else gE S.d a b:=fun a b hb=>Qf7 h.dm him bD oq hb
 obtain⟨l,hlk,hq⟩:=h.lev hh (fun hc=>by rw[hf]at hc;cases hc.1)
 have hi0:∀ b,b<n→(gE S.d i b).natAbs<256 ^ Mb B l:=by
  rcases hq.2 i him oq with h1|⟨_,h1,_⟩
  ·exact h1
  ·exact absurd h1 h0
 have hnew:∀ b,b<n→(gE S.d i b + -(gE S.d i t / gE S.d t t)*gE S.d t b).natAbs<256 ^ (2*Mb B l+1):=fun b hb=>by
  have:=Qcf (Ys (p:=gE S.d t t) (hi0 t htn)) (hq.1 b hb) (hi0 b hb)
  exact Z2 this oq
 have hrem:=Qjg (x:=gE S.d i t) hh.p
 refine⟨h.dm.rows him bD,fun j hj=>⟨fun b hb hne=>?_,fun a ha hne=>?_⟩,?_⟩
 ·rw[e j b hb,if_neg oq];exact(h.z j hj).1 b hb hne
 ·rw[e a j oq]
  split
  ·rw[(h.z j hj).2 i him oq,(h.z j hj).2 t bD oq];omega
  ·exact(h.z j hj).2 a ha hne
 ·by_cases hr:gE S.d i t + -(gE S.d i t / gE S.d t t)*gE S.d t t=0
  ·refine⟨l,.inr (.inr ⟨by omega,fun b hb=>?_,fun a ha hat=>?_⟩)⟩
   ·rw[e t b hb,if_neg oq];exact hq.1 b hb
   ·by_cases hai:a=i
    ·subst hai
     refine .inr ⟨hti,by rw[e a t htn,if_pos rfl];exact hr,fun b hb=>?_⟩
     rw[e a b hb,if_pos rfl];exact hnew b hb
    ·rcases hq.2 a ha hat with h1|⟨h1,h2,h3⟩
     ·exact .inl fun b hb=>by rw[e a b hb,if_neg hai];exact h1 b hb
     ·exact .inr ⟨h1,by rw[e a t htn,if_neg hai];exact h2,fun b hb=>by rw[e a b hb,if_neg hai];exact h3 b hb⟩
  ·refine⟨l+1,.inr (.inl ⟨by omega,fun a b ha hb=>?_,.inl ?_⟩)⟩
   ·rw[e a b hb]
    split
    ·exact Z2 (hnew b hb) (by rw[Mb];omega)
    ·exact hq.fr a b ha hb
   ·refine Classical.byContradiction fun hn=>?_
    have hn1:(Qv (S.rows i t (aT (-(gE S.d i t / gE S.d t t)))) t m n).1=t:=Classical.byContradiction fun x=>hn (.inl x)
    have hn2:(Qv (S.rows i t (aT (-(gE S.d i t / gE S.d t t)))) t m n).2.1=t:=Classical.byContradiction fun x=>hn (.inr x)
    have hm:=Qcg (S:=S.rows i t (aT (-(gE S.d i t / gE S.d t t)))) (t:=t) (m:=m) (n:=n) (a:=i) (b:=t) oq him (V7 _) htn (by rw[e i t htn,if_pos rfl];exact hr)
    rw[hn1,hn2,e t t htn,if_neg oq,e i t htn,if_pos rfl]at hm
    omega

theorem Qlr {B m n k t j:Nat} {S:Sm} (h:Inv B m n k t S) (hh:Here m n t S) (hf0:ji S t m=none) (hf:jy S t n=some j):Inv B m n (k+1) t (S.cols j t (aT (-(gE S.d t j / gE S.d t t)))):=by
 obtain⟨htj,hjn,h0⟩:=Q6f hf
 have bD:=hh.tm
 have htn:=hh.tn
 have hz:∀ a,a<m→a≠t→gE S.d a t=0:=fun a ha hat=>by
  rcases Nat.lt_or_ge a t with h1|h1
  ·exact(h.z a h1).1 t htn oq
  ·exact Q6e hf0 oq ha
 have e:∀ a b,a<m→a≠t→gE (S.cols j t (aT (-(gE S.d t j / gE S.d t t)))).d a b=gE S.d a b:=fun a b ha hat=>by
  rw[Qf8 h.dm hjn htn oq ha,hz a ha hat]
  split
  ·rename_i hb;rw[hb];omega
  ·rfl
 have et:∀ b,gE (S.cols j t (aT (-(gE S.d t j / gE S.d t t)))).d t b=if b=j then gE S.d t j + -(gE S.d t j / gE S.d t t)*gE S.d t t else gE S.d t b:=fun b=>Qf8 h.dm hjn htn oq bD
 have hrem:=Qjg (x:=gE S.d t j) hh.p
 have rowt:∀ {M},(∀ b,b<n→(gE S.d t b).natAbs<256 ^ M)→∀ b,b<n→(gE (S.cols j t (aT (-(gE S.d t j / gE S.d t t)))).d t b).natAbs<256 ^ M:=fun hM b hb=>by
  rw[et b]
  split
  ·have:=hM t htn;omega
  ·exact hM b hb
 have fr:∀ {M},Fr M m n S→Fr M m n (S.cols j t (aT (-(gE S.d t j / gE S.d t t)))):=fun hF a b ha hb=>by
  by_cases hat:a=t
  ·subst hat;exact rowt (fun b hb=>hF a b ha hb) b hb
  ·rw[e a b ha hat];exact hF a b ha hb
 refine⟨h.dm.cols hjn htn,fun i hi=>⟨fun b hb hne=>?_,fun a ha hne=>?_⟩,?_⟩
 ·rw[e i b oq oq];exact(h.z i hi).1 b hb hne
 ·by_cases hat:a=t
  ·subst hat;rw[et i,if_neg oq];exact(h.z i hi).2 a ha hne
  ·rw[e a i ha hat];exact(h.z i hi).2 a ha hne
 ·obtain⟨l,hl⟩:=h.lv
  rcases hl with ⟨h1,h2⟩|⟨h1,h2,_⟩|⟨h1,h2⟩
  ·exact⟨l,.inl ⟨by omega,fr h2⟩⟩
  ·exact⟨l,.inl ⟨by omega,fr h2⟩⟩
  ·refine⟨l,.inr (.inr ⟨by omega,rowt h2.1,fun a ha hat=>?_⟩)⟩
   rcases h2.2 a ha hat with g|⟨g1,g2,g3⟩
   ·exact .inl fun b hb=>by rw[e a b ha hat];exact g b hb
   ·exact .inr ⟨g1,by rw[e a t ha hat];exact g2,fun b hb=>by rw[e a b ha hat];exact g3 b hb⟩

theorem Qlq {B m n k t i:Nat} {S:Sm} (h:Inv B m n k t S) (hh:Here m n t S) (hf0:ji S t m=none) (hf1:jy S t n=none) (hf:Z7 S t m n=some i):Inv B m n (k+1) t (S.rows t i (aT 1)):=by
 obtain⟨hti,him,j,htj,hjn,hj0⟩:=Q5u hf
 have bD:=hh.tm
 have htn:=hh.tn
 have e:∀ a b,b<n→gE (S.rows t i (aT 1)).d a b=if a=t then gE S.d t b+1*gE S.d i b else gE S.d a b:=fun a b hb=>Qf7 h.dm bD him oq hb
 obtain⟨l,hlk,hq⟩:=h.lev hh (fun hc=>hc.2 hf1)
 refine⟨h.dm.rows bD him,fun a ha=>⟨fun b hb hne=>?_,fun b hb hne=>?_⟩,l+1,.inr (.inl ⟨by omega,fun a b ha hb=>?_,.inr ⟨?_,fun hn=>?_⟩⟩)⟩
 ·rw[e a b hb,if_neg oq];exact(h.z a ha).1 b hb hne
 ·rw[e b a oq]
  split
  ·rw[(h.z a ha).2 t bD oq,(h.z a ha).2 i him oq];omega
  ·exact(h.z a ha).2 b hb hne
 ·rw[e a b hb]
  split
  ·have h1:=hq.1 b hb
   have h2:(gE S.d i b).natAbs<256 ^ (2*Mb B l+1):=by
    rcases hq.2 i him oq with g|⟨_,_,g⟩
    ·exact Z2 (g b hb) oq
    ·exact g b hb
   have h3:=Z2 h1 (show Mb B l≤2*Mb B l+1 by omega)
   have h4:=Int.natAbs_add_le (gE S.d t b) (1*gE S.d i b)
   rw[Int.one_mul]at h4 ⊢
   rw[Mb,show 2*Mb B l+2=(2*Mb B l+1)+1 from rfl,V9]
   omega
  ·exact hq.fr a b ha hb
 ·refine List.find?_eq_none.2 fun a ha=>?_
  have h1:=Wm.1 ha
  rw[e a t htn,if_neg oq,Q6e hf0 oq h1.2]
  simp
 ·have:=Q6g hn htj hjn
  rw[e t j hjn,if_pos rfl,Q6g hf1 htj hjn]at this
  exact hj0 oq

theorem Q59 {B m n k t:Nat} {S S':Sm} (h:Inv B m n k t S) (hh:Here m n t S) (hf0:ji S t m=none) (hf1:jy S t n=none) (hd:Dm m n S') (he:∀ a b,a<m→b<n→gE S'.d a b=gE S.d a b∨(a=t∧gE S'.d a b = -gE S.d a b)):Inv B m n (k+1) (t+1) S':=by
 have bD:=hh.tm
 have htn:=hh.tn
 have z0:∀ a b,a<m→b<n→gE S.d a b=0→gE S'.d a b=0:=fun a b ha hb h0=>by
  rcases he a b ha hb with g|⟨_,g⟩
  ·rw[g,h0]
  ·rw[g,h0];rfl
 obtain⟨l,hlk,hF⟩:∃ l,2*l≤k+1∧Fr (Mb B l) m n S:=by
  obtain⟨l,hl⟩:=h.lv
  rcases hl with ⟨h1,h2⟩|⟨h1,h2,_⟩|⟨h1,h2⟩
  ·exact⟨l,by omega,h2⟩
  ·exact⟨l,by omega,h2⟩
  ·exact⟨l+1,by omega,h2.fr⟩
 refine⟨hd,fun i hi=>⟨fun b hb hne=>z0 i b oq hb ?_,fun a ha hne=>z0 a i ha oq ?_⟩,l,.inl ⟨hlk,fun a b ha hb=>?_⟩⟩
 ·rcases Nat.lt_or_ge i t with h1|h1
  ·exact(h.z i h1).1 b hb hne
  ·obtain rfl:i=t:=by omega
   rcases Nat.lt_or_ge b i with h2|h2
   ·exact(h.z b h2).2 i bD oq
   ·exact Q6g hf1 oq hb
 ·rcases Nat.lt_or_ge i t with h1|h1
  ·exact(h.z i h1).2 a ha hne
  ·obtain rfl:i=t:=by omega
   rcases Nat.lt_or_ge a i with h2|h2
   ·exact(h.z a h2).1 i htn oq
   ·exact Q6e hf0 oq ha
 ·have:=hF a b ha hb
  rcases he a b ha hb with g|⟨_,g⟩
  ·rw[g];exact this
  ·rw[g,Int.natAbs_neg];exact this


theorem Q91 {r c t a b:Nat} {g:List (List Int)} (h:Rec r c g) (ht:t<r):gE (negR t g) a b=if a=t then -(gE g a b) else gE g a b:=by
 unfold gE negR
 rw[YM (by have:=h.len;omega)]
 by_cases e:a=t
 ·subst e
  rw[if_pos rfl,if_pos rfl]
  generalize g.getD a []=l
  rw[List.getD,List.getElem?_map,List.getD]
  cases l[b]?<;>simp
 ·rw[if_neg e,if_neg e]
theorem Qes {r c t a b:Nat} {g:List (List Int)} (h:Rec r c g) (ht:t<c) (ha:a<r):gE (negC t g) a b=if b=t then -(gE g a b) else gE g a b:=by
 have h1:=h.at ha
 have hl:=h.len
 have e:(negC t g).getD a []=(g.getD a []).set t (-((g.getD a []).getD t 0)):=by
  unfold negC
  rw[List.getD,List.getElem?_map,List.getD,List.getElem?_eq_getElem (show a<g.length by omega)]
  rfl
 unfold gE
 rw[e,YM oq]
 by_cases e1:b=t
 ·subst e1;rw[if_pos rfl]
 ·rw[if_neg e1,if_neg e1]
theorem Qap {r c t:Nat} {g:List (List Int)} (h:Rec r c g) (ht:t<r):Rec r c (negR t g):=h.set (by rw[List.length_map];exact h.at ht)
theorem Qi2 {r c t:Nat} {g:List (List Int)} (h:Rec r c g):Rec r c (negC t g) :=
 ⟨by unfold negC; rw [List.length_map, h.len], fun x hx => by
  unfold negC at hx
  obtain⟨y,hy,rfl⟩:=List.mem_map.1 hx
  rw[List.length_set];exact h.row y hy⟩
theorem Qjr {m n t:Nat} {S:Sm} (h:Dm m n S) (ht:t<m):Dm m n (S.neg t):=⟨Qap h.u ht,Qi2 h.ui,Qap h.d ht,h.v,h.vi⟩

structure Ob (W m n:Nat) (S:Sm):Prop where
 u:∀ a b,a<m→b<m→(gE S.u a b).natAbs<256 ^ W
 ui:∀ a b,a<m→b<m→(gE S.ui a b).natAbs<256 ^ W
 v:∀ a b,a<n→b<n→(gE S.v a b).natAbs<256 ^ W
 vi:∀ a b,a<n→b<n→(gE S.vi a b).natAbs<256 ^ W
theorem Ob.ex {W m n r c t:Nat} {S:Sm} (h:Ob W m n S) (hd:Dm m n S) (hr:r<m) (hc:c<n) (bD:t<m) (htn:t<n):Ob W m n (S.ex r c t):=by
 refine⟨fun a b ha hb=>?_,fun a b ha hb=>?_,fun a b ha hb=>?_,fun a b ha hb=>?_⟩
 ·show (gE (eY r t S.u) a b).natAbs<_
  rw[Q43 hd.u hr bD];exact h.u _ _ (Q18 hr bD ha) hb
 ·show (gE (iR r t S.ui) a b).natAbs<_
  rw[Q2c hd.ui hr bD ha];exact h.ui _ _ ha (Q18 hr bD hb)
 ·show (gE (iR c t S.v) a b).natAbs<_
  rw[Q2c hd.v hc htn ha];exact h.v _ _ ha (Q18 hc htn hb)
 ·show (gE (eY c t S.vi) a b).natAbs<_
  rw[Q43 hd.vi hc htn];exact h.vi _ _ (Q18 hc htn ha) hb
theorem Qhu {f x y:Int} {K W:Nat} (hf:f.natAbs<256 ^ K) (hx:x.natAbs<256 ^ W) (hy:y.natAbs<256 ^ W):(1*x+f*y).natAbs<256 ^ (W+K+1)∧(0*x+1*y).natAbs<256 ^ (W+K+1):=by
 have h1:=W9 hf hy
 have h2:=Int.natAbs_add_le (1*x) (f*y)
 have h3:=Z2 hx (Nat.le_add_left W K)
 have h4:=Z2 hy (show W≤W+K+1 by omega)
 rw[Int.one_mul]at h2
 rw[Int.zero_mul,Int.zero_add,Int.one_mul,Int.one_mul,Nat.add_comm W K,V9]
 refine⟨by omega,?_⟩
 rw[← V9]
 exact Z2 hy oq
theorem Ob.mono {W W' m n:Nat} {S:Sm} (h:Ob W m n S) (hW:W≤W'):Ob W' m n S:=⟨fun a b ha hb=>Z2 (h.u a b ha hb) hW,fun a b ha hb=>Z2 (h.ui a b ha hb) hW,fun a b ha hb=>Z2 (h.v a b ha hb) hW,fun a b ha hb=>Z2 (h.vi a b ha hb) hW⟩
theorem Ob.rows {W K m n i k:Nat} {f:Int} {S:Sm} (h:Ob W m n S) (hd:Dm m n S) (hi:i<m) (hk:k<m) (hf:f.natAbs<256 ^ K):Ob (W+K+1) m n (S.rows i k (aT f)):=by
 refine⟨fun a b ha hb=>?_,fun a b ha hb=>?_,fun a b ha hb=>Z2 (h.v a b ha hb) oq,fun a b ha hb=>Z2 (h.vi a b ha hb) oq⟩
 ·show (gE (Q08 i k (aT f) S.u) a b).natAbs<_
  rw[Q0g hd.u hi hk hb]
  have:=Qhu hf (h.u i b hi hb) (h.u k b hk hb)
  split
  ·exact this.2
  ·split
   ·exact this.1
   ·exact Z2 (h.u a b ha hb) oq
 ·show (gE (XW i k (aT f).flip S.ui) a b).natAbs<_
  rw[Q0h hd.ui hi hk ha]
  have hn:(-f).natAbs<256 ^ K:=by rw[Int.natAbs_neg];exact hf
  have:=Qhu hn (h.ui a k ha hk) (h.ui a i ha hi)
  split
  ·show (-f*gE S.ui a i+1*gE S.ui a k).natAbs<_
   rw[Int.add_comm];exact this.1
  ·split
   ·show (1*gE S.ui a i + -0*gE S.ui a k).natAbs<_
    rw[Int.add_comm,Int.neg_zero];exact this.2
   ·exact Z2 (h.ui a b ha hb) oq
theorem Ob.cols {W K m n i k:Nat} {f:Int} {S:Sm} (h:Ob W m n S) (hd:Dm m n S) (hi:i<n) (hk:k<n) (hf:f.natAbs<256 ^ K):Ob (W+K+1) m n (S.cols i k (aT f)):=by
 refine⟨fun a b ha hb=>Z2 (h.u a b ha hb) oq,fun a b ha hb=>Z2 (h.ui a b ha hb) oq,fun a b ha hb=>?_,fun a b ha hb=>?_⟩
 ·show (gE (XW i k (aT f) S.v) a b).natAbs<_
  rw[Q0h hd.v hi hk ha]
  have:=Qhu hf (h.v a i ha hi) (h.v a k ha hk)
  split
  ·exact this.2
  ·split
   ·exact this.1
   ·exact Z2 (h.v a b ha hb) oq
 ·show (gE (Q08 i k (aT f).flip S.vi) a b).natAbs<_
  rw[Q0g hd.vi hi hk hb]
  have hn:(-f).natAbs<256 ^ K:=by rw[Int.natAbs_neg];exact hf
  have:=Qhu hn (h.vi k b hk hb) (h.vi i b hi hb)
  split
  ·show (-f*gE S.vi i b+1*gE S.vi k b).natAbs<_
   rw[Int.add_comm];exact this.1
  ·split
   ·show (1*gE S.vi i b + -0*gE S.vi k b).natAbs<_
    rw[Int.add_comm,Int.neg_zero];exact this.2
   ·exact Z2 (h.vi a b ha hb) oq
theorem Ob.neg {W m n t:Nat} {S:Sm} (h:Ob W m n S) (hd:Dm m n S) (ht:t<m):Ob W m n (S.neg t):=by
 refine⟨fun a b ha hb=>?_,fun a b ha hb=>?_,h.v,h.vi⟩
 ·show (gE (negR t S.u) a b).natAbs<_
  rw[Q91 hd.u ht]
  split
  ·rw[Int.natAbs_neg];exact h.u a b ha hb
  ·exact h.u a b ha hb
 ·show (gE (negC t S.ui) a b).natAbs<_
  rw[Qes hd.ui ht ha]
  split
  ·rw[Int.natAbs_neg];exact h.ui a b ha hb
  ·exact h.ui a b ha hb

def Wb (B W:Nat):Nat→Nat
 | 0=>W
 | k+1=>Wb B W k+Mb B ((k+1) / 2)+1
theorem Inv.el {B m n k t:Nat} {S:Sm} (h:Inv B m n k t S):(∀ a,a<m→t<n→t≤a→gE S.d a t≠0→(gE S.d a t).natAbs<256 ^ Mb B ((k+1) / 2))∧∀ b,t<m→b<n→(gE S.d t b).natAbs<256 ^ Mb B ((k+1) / 2):=by
 obtain⟨l,hl⟩:=h.lv
 rcases hl with ⟨h1,h2⟩|⟨h1,h2,_⟩|⟨h1,h2⟩
 ·exact⟨fun a ha ht _ _=>Z2 (h2 a t ha ht) (Q28 oq),fun b ht hb=>Z2 (h2 t b ht hb) (Q28 oq)⟩
 ·exact⟨fun a ha ht _ _=>Z2 (h2 a t ha ht) (Q28 oq),fun b ht hb=>Z2 (h2 t b ht hb) (Q28 oq)⟩
 ·refine⟨fun a ha ht hta h0=>?_,fun b ht hb=>Z2 (h2.1 b hb) (Q28 oq)⟩
  by_cases e:a=t
  ·subst e;exact Z2 (h2.1 a ht) (Q28 oq)
  ·rcases h2.2 a ha e with g|⟨_,g,_⟩
   ·exact Z2 (g t ht) (Q28 oq)
   ·exact absurd g h0
theorem Inv.fr {B m n k t:Nat} {S:Sm} (h:Inv B m n k t S):Fr (Mb B ((k+1) / 2)) m n S:=by
 obtain⟨l,hl⟩:=h.lv
 rcases hl with ⟨h1,h2⟩|⟨h1,h2,_⟩|⟨h1,h2⟩
 ·exact h2.mono (Q28 oq)
 ·exact h2.mono (Q28 oq)
 ·exact h2.fr.mono (V0 (V7 (Mb B (l+1))) (Q28 oq))

theorem Qkj {B W m n k t t':Nat} {S S':Sm} (hB:1≤B) (h:Inv B m n k t S) (ho:Ob (Wb B W k) m n S) (hs:dH m n t S=some (S',t')):Inv B m n (k+1) t' S'∧Ob (Wb B W (k+1)) m n S':=by
 have hW:Wb B W (k+1)=Wb B W k+Mb B ((k+1) / 2)+1:=rfl
 unfold dH at hs
 split at hs
 ·cases hs
 ·rename_i hf
  have hf:(Qv S t m n).2.2=true:=by simpa using hf
  obtain⟨⟨l1,l2,l3,l4⟩,l5⟩:=X7 hf
  split at hs
  ·cases hs
   exact⟨Qo9 h l2 l4 l1 l3,(ho.ex h.dm l2 l4 oq oq).mono oq⟩
  ·rename_i hne
   have e1:(Qv S t m n).1=t:=Classical.byContradiction fun x=>hne (.inl x)
   have e2:(Qv S t m n).2.1=t:=Classical.byContradiction fun x=>hne (.inr x)
   rw[e1,e2]at l5
   have hh:Here m n t S:=⟨by omega,by omega,l5,e1,e2⟩
   cases h1:ji S t m with
   | some i =>
    rw[h1]at hs
    cases hs
    obtain⟨g1,g2,g3⟩:=Q6d h1
    refine⟨Qlp h hh h1,?_⟩
    rw[hW]
    exact ho.rows h.dm g2 hh.tm (Ys (h.el.1 i g2 hh.tn oq g3))
   | none =>
    rw[h1]at hs
    dsimp only at hs
    cases h2:jy S t n with
    | some j =>
     rw[h2]at hs
     cases hs
     obtain⟨g1,g2,g3⟩:=Q6f h2
     refine⟨Qlr h hh h1 h2,?_⟩
     rw[hW]
     exact ho.cols h.dm g2 hh.tn (Ys (h.el.2 j hh.tm g2))
    | none =>
     rw[h2]at hs
     dsimp only at hs
     cases h3:Z7 S t m n with
     | some i =>
      rw[h3]at hs
      cases hs
      obtain⟨g1,g2,_⟩:=Q5u h3
      refine⟨Qlq h hh h1 h2 h3,?_⟩
      rw[hW]
      refine(ho.rows (K:=1) h.dm hh.tm g2 dq).mono ?_
      have:=Q28 (B:=B) (V8 ((k+1) / 2))
      rw[show Mb B 0=B from rfl]at this
      omega
     | none =>
      rw[h3]at hs
      cases hs
      by_cases hg:gE S.d t t<0
      ·rw[if_pos hg]
       refine⟨Q59 h hh h1 h2 (Qjr h.dm hh.tm) (fun a b ha hb=>?_),(ho.neg h.dm hh.tm).mono oq⟩
       have e:gE (S.neg t).d a b=if a=t then -(gE S.d a b) else gE S.d a b:=Q91 h.dm.d hh.tm
       by_cases ea:a=t
       ·rw[if_pos ea]at e;exact .inr ⟨ea,e⟩
       ·rw[if_neg ea]at e;exact .inl e
      ·rw[if_neg hg]
       exact⟨Q59 h hh h1 h2 h.dm (fun a b _ _=>.inl rfl),ho.mono oq⟩

def Kb (B W k:Nat):Nat:=Wb B W k+Mb B ((k+1) / 2)
theorem Qoy {B W k l:Nat} (h:k≤l):Wb B W k≤Wb B W l:=by
 induction l with
 | zero => obtain rfl : k = 0 := by omega
           exact V7 _
 | succ l ih =>
  by_cases e:k=l+1
  ·subst e;exact V7 _
  ·have:=ih oq;rw[Wb];omega
theorem Q00 {K r c:Nat} {g:List (List Int)} (h:Rec r c g) (e:∀ a b,a<r→b<c→(gE g a b).natAbs<256 ^ K):gZ K g=true:=by
 unfold gZ
 refine List.all_eq_true.2 fun x hx=>List.all_eq_true.2 fun y hy=>decide_eq_true ?_
 obtain⟨a,ha,rfl⟩:=List.mem_iff_getElem.1 hx
 obtain⟨b,hb,rfl⟩:=List.mem_iff_getElem.1 hy
 have h1:=h.len
 have h2:=h.row _ (List.getElem_mem ha)
 have:=e a b oq oq
 unfold gE at this
 rw[List.getD,List.getD,List.getElem?_eq_getElem ha,Option.getD_some,List.getElem?_eq_getElem hb]at this
 exact this
theorem Inv.ok {B W m n k t:Nat} {S:Sm} (h:Inv B m n k t S) (ho:Ob (Wb B W k) m n S):Ok (Kb B W k) S :=
 ⟨Q00 h.dm.u fun a b ha hb => Z2 (ho.u a b ha hb) (by unfold Kb; omega), Q00 h.dm.ui fun a b ha hb => Z2 (ho.ui a b ha hb) (by unfold Kb; omega),
  Q00 h.dm.d fun a b ha hb=>Z2 (h.fr a b ha hb) (by unfold Kb;omega),Q00 h.dm.v fun a b ha hb=>Z2 (ho.v a b ha hb) (by unfold Kb;omega),Q00 h.dm.vi fun a b ha hb=>Z2 (ho.vi a b ha hb) (by unfold Kb;omega)⟩
theorem Qdw {B W m n:Nat} (hB:1≤B):∀ (j k t:Nat) (S:Sm),Inv B m n k t S→Ob (Wb B W k) m n S→Inv B m n (k+(aJ m n j t S).2.2) (aJ m n j t S).2.1 (aJ m n j t S).1∧Ob (Wb B W (k+(aJ m n j t S).2.2)) m n (aJ m n j t S).1
 | 0,k,t,S,h,ho=>⟨h,ho⟩
 | j + 1, k, t, S, h, ho => by
  rw[aJ]
  cases hs:dH m n t S with
  | none=>exact⟨h,ho⟩
  | some r =>
   obtain⟨g1,g2⟩:=Qkj hB h ho hs
   have:=Qdw hB j (k+1) r.2 r.1 g1 g2
   dsimp only
   rw[show k+((aJ m n j r.2 r.1).2.2+1)=k+1+(aJ m n j r.2 r.1).2.2 by omega]
   exact this
theorem Q3g {m n:Nat}:∀ (j t:Nat) (S:Sm),(aJ m n j t S).2.2≤j
 | 0,_,_=>V7 _
 | j+1,t,S=>by
  rw[aJ]
  cases dH m n t S with
  | none=>exact V8 _
  | some r=>have:=Q3g (m:=m) (n:=n) j r.2 r.1;dsimp only;omega


structure FV where
 A:Option Addr
 c:Nat
 N:aj
def Qpt (F:FV) (r c:Nat):Value:=.slice F.A (r*c) F.c
structure JV where
 u:FV
 ui:FV
 d:FV
 v:FV
 vi:FV
def jbC (J:JV) (m n:Nat) (t s:Int):Array Value:=#[nv m,nv m,.slice J.u.A (m*m) J.u.c,nv m,nv m,.slice J.ui.A (m*m) J.ui.c,nv m,nv n,.slice J.d.A (m*n) J.d.c,nv n,nv n,.slice J.v.A (n*n) J.v.c,nv n,nv n,.slice J.vi.A (n*n) J.vi.c,iv t,iv s]
def bW (b:Nat) (J:JV) (m n:Nat) (t s:Int):aj:=(b,.cells (jbC J m n t s) 72)::(J.u.N++(J.ui.N++(J.d.N++(J.v.N++(J.vi.N++[])))))
structure IsJ (J:JV) (m n:Nat) (S:Sm):Prop where
 u:aN J.u.N (.slice J.u.A (m*m) J.u.c) (m*m) (bP m m (gE S.u))
 ui:aN J.ui.N (.slice J.ui.A (m*m) J.ui.c) (m*m) (bP m m (gE S.ui))
 d:aN J.d.N (.slice J.d.A (m*n) J.d.c) (m*n) (bP m n (gE S.d))
 v:aN J.v.N (.slice J.v.A (n*n) J.v.c) (n*n) (bP n n (gE S.v))
 vi:aN J.vi.N (.slice J.vi.A (n*n) J.vi.c) (n*n) (bP n n (gE S.vi))
structure fQ (J J':JV):Prop where
 u:J'.u.A=J.u.A∧J'.u.c=J.u.c
 ui:J'.ui.A=J.ui.A∧J'.ui.c=J.ui.c
 d:J'.d.A=J.d.A∧J'.d.c=J.d.c
 v:J'.v.A=J.v.A∧J'.v.c=J.v.c
 vi:J'.vi.A=J.vi.A∧J'.vi.c=J.vi.c
theorem fQ.refl (J:JV):fQ J J:=⟨⟨rfl,rfl⟩,⟨rfl,rfl⟩,⟨rfl,rfl⟩,⟨rfl,rfl⟩,⟨rfl,rfl⟩⟩
theorem fQ.trans {J J' J'':JV} (h:fQ J J') (k:fQ J' J''):fQ J J'' :=
 ⟨⟨k.u.1.trans h.u.1,k.u.2.trans h.u.2⟩,⟨k.ui.1.trans h.ui.1,k.ui.2.trans h.ui.2⟩,⟨k.d.1.trans h.d.1,k.d.2.trans h.d.2⟩,⟨k.v.1.trans h.v.1,k.v.2.trans h.v.2⟩,⟨k.vi.1.trans h.vi.1,k.vi.2.trans h.vi.2⟩⟩
def JbR (b:Nat) (J:JV) (m n:Nat) (t s t' s':Int) (S':Sm) (w w':World):Prop :=
 Kp (keys (bW b J m n t s)) w w'∧∃ J',keys (bW b J' m n t' s')=keys (bW b J m n t s)∧InW (bW b J' m n t' s') w'∧IsJ J' m n S'∧fQ J J'
theorem JbR.same {b:Nat} {J:JV} {m n:Nat} {t s:Int} {S:Sm} (h:IsJ J m n S) {w w':World} (h1:Kp (keys (bW b J m n t s)) w w') (h2:∀ p∈bW b J m n t s,w'.heap[p.1]?=some p.2):JbR b J m n t s t s S w w' :=
 ⟨h1,J,rfl,h2,h,fQ.refl J⟩

theorem Qbg (K:Nat) (w:World) (x y:Int) (hK:K≤9000000000) (hx:x.natAbs<256 ^ K) (hy:y.natAbs<256 ^ K) :
  Calls Tryz.prog 164 #[Wv x,Wv y] w (aQ fun v w'=>Kp [] w w'∧v=.bool (decide (x.natAbs<y.natAbs))):=by
 have e:∀ a:Int,(.agg #[.bool false,sv (aS a.natAbs)]:Value)=Wv ((a.natAbs:Nat):Int):=fun a=>by
  unfold Wv wv
  rw[decide_eq_false oq,Int.natAbs_natCast]
 refine Qa [] [] aA [] Tryz.func164 rfl mixed (by kernel_rfl) Tryz.ntmps164 Tryz.results164 rfl ⟨by simp,by simp⟩ aA ?_
 simp only[toS,Qe,Qx,Qo,Qr,ay,Ql,Qy,aB]
 repeat' first|apply jS|apply jO|apply jN|refine Q2 ?_|refine Q0 ?_|refine Q7 ?_|refine QM (h:=fun _=>?_)|apply jT
 refine Zw (l:=[(1,sv (aS x.natAbs))]) (cs:=#[.bool false,sv (aS x.natAbs)]) rfl rfl rfl rfl ?_
 repeat' first|refine Q2 ?_|refine Q7 ?_|fail
 refine Zw (l:=[(1,sv (aS y.natAbs))]) (cs:=#[.bool false,sv (aS y.natAbs)]) rfl rfl rfl rfl ?_
 rw[e x,e y]
 skip
 refine Q9 au rfl aF rfl (fun w _ _=>Qor w _ _ ((x.natAbs:Nat):Int) ((y.natAbs:Nat):Int) K (QC (by simpa using hx)) (QC (by simpa using hy)) oq) fun w v w' _ _ _ hR=>?_
 subst hR
 have hsg:(((x.natAbs:Nat):Int)-((y.natAbs:Nat):Int)).sign<0↔x.natAbs<y.natAbs:=by
  rw[Int.sign_neg_iff];omega
 by_cases hlt:x.natAbs<y.natAbs
 ·have:=hsg.2 hlt
  rw[decide_eq_true hlt]
  repeat' first|apply jN|apply jT|refine Q0 ?_|(refine Qg (h1:=?_) (h2:=?_)<;>intro hc<;>try omega)|apply jR
  all_goals first
   | (exfalso;omega)
   | exact Qj rfl (fun a w' st=>⟨st.kp,rfl⟩)
 ·have:=fun h=>hlt (hsg.1 h)
  rw[decide_eq_false hlt]
  repeat' first|apply jN|apply jT|refine Q0 ?_|(refine Qg (h1:=?_) (h2:=?_)<;>intro hc<;>try omega)|apply jR
  all_goals first
   | (exfalso;omega)
   | exact Qj rfl (fun a w' st=>⟨st.kp,rfl⟩)

theorem Z3 {H:aj} {w w':World} (hs:aG H w) (h1:Kp (keys H) w w') (h2:∀ p∈H,w'.heap[p.1]?=some p.2):Kp [] w w' :=
 ⟨h1.os, h1.tape, h1.output, h1.size, fun k hk _ => by
  by_cases hm:k∈keys H
  ·obtain⟨p,hp,rfl⟩:=List.mem_map.1 hm
   rw[h2 p hp,hs.blk p hp]
  ·exact h1.block k hk hm⟩

theorem Q02 (w:World) (b:Nat) (J:JV) (m n t:Nat) (s:Int) (S:Sm) (i j:Nat) (hJ:IsJ J m n S) (hs:aG (bW b J m n t s) w) (hi:i<m) (hj:j<n) (hm:m≤200) (hn:n≤200) :
  Calls Tryz.prog 90 #[.pointer (some ⟨b,0,none⟩),nv i,nv j] w (aQ fun v w'=>Kp [] w w'∧v=Wv (gE S.d i j)):=by
 have hM:=QK hs
 have hmn:m*n≤40000:=Vn hm hn
 have hin:i*n≤40000:=V0 (V1 n (show i≤m by omega)) hmn
 have hlt:=Yn hi hj
 have hd:=hJ.d
 refine Qa [⟨1,1,[],[]⟩] (keys (bW b J m n t s)) hM (bW b J m n t s) Tryz.func90 rfl mixed (by kernel_rfl) Tryz.ntmps90 Tryz.results90 rfl hs (fun p hp=>List.mem_map.2 ⟨p,hp,rfl⟩) ?_
 simp only[toS,Qe,Qx,Qo,Qr,ay,Ql,Qy,aB]
 unfold bW jbC
 repeat' first|apply jS|apply jO|apply jD|apply jN|apply jT|refine Q1 ?_|refine Q2 ?_|refine Q7 ?_|refine QY (h:=?_)|refine Y4 (h:=?_)|refine Z8 (h:=?_)|refine Z1 (h:=?_)|refine Q3 ?_|refine Q6 ?_|refine Qh fun _=>?_|refine Q6 ?_|apply jR
 rw[Zz hi hj]
 exact Z0 0 rfl rfl rfl (fun a w' st=>⟨Z3 hs st.kp (fun p hp=>st.hs.blk p (Vc _ hp)),rfl⟩)

section
variable {c:Cx} {Q:Exit→Act→World→Prop} {m:Mode} {F:ak} {H:aj} {r:List bT} {g:Option (Option Tmp × Bool)} {ns:Bool} {d:Tmp} {ty t t':TypeId} {x y:Operand}
end
def iD (st:Nat × Nat × Bool):Value:=if st.2.2=true then nv st.1 else iv (-1)
def iM (st:Nat × Nat × Bool):Value:=if st.2.2=true then nv st.2.1 else iv (-1)
theorem Q89 (K:Nat) (w:World) (b:Nat) (J:JV) (m n t:Nat) (s:Int) (S:Sm) (hJ:IsJ J m n S) (hs:aG (bW b J m n t s) w) (hm:m≤200) (hn:n≤200) (bD:t≤m) (htn:t≤n) (hK:K≤9000000000) (hb:gZ K S.d=true) :
  Calls Tryz.prog 128 #[.pointer (some ⟨b,0,none⟩)] w (aQ fun v w'=>Kp [] w w'∧v=.tuple #[iD (Qv S t m n),iM (Qv S t m n),.bool (Qv S t m n).2.2]):=by
 have hM:=QK hs
 refine Qa [] (keys (bW b J m n t s)) hM (bW b J m n t s) Tryz.func128 rfl mixed (by kernel_rfl) Tryz.ntmps128 Tryz.results128 rfl hs (fun p hp=>List.mem_map.2 ⟨p,hp,rfl⟩) ?_
 simp only[toS,Qe,Qx,Qo,Qr,ay,Ql,Qy,aB]
 unfold bW jbC
 repeat' first|apply jS|apply jO|apply jN|apply jT|refine Q1 ?_|refine Q2 ?_|refine Q0 ?_|refine Q7 ?_|refine Q3 ?_|apply jB
 refine Qn (ι:=Nat × Nat × Nat × Bool) ⟨fun z=>[(7,nv z.1),(5,iD z.2),(6,iM z.2),(2,iv 0),(3,iv 0),(4,.bool false),(0,.pointer (some ⟨b,0,none⟩))],fun _=>bW b J m n t s,
  fun z=>t≤z.1∧z.1≤m∧(z.2.2.2=true→z.2.1<m∧z.2.2.1<n)∧Qv S t m n=(List.range' z.1 (m-z.1)).foldl (WH S t n) z.2,fun z=>m-z.1⟩ (t,0,0,false) ⟨V7 _,bD,fun h=>(by cases h),rfl⟩ aC (HSub.refl _) (fun z hz=>?_)
 obtain⟨i,x,y,fl⟩:=z
 obtain⟨hti,him,hin,hls⟩:=hz
 dsimp only at hti him hin hls ⊢
 unfold bW jbC
 by_cases hlt:i<m
 ·rw[QS hlt,List.foldl_cons]at hls
  repeat' first|apply jS|apply jO|apply jN|apply jT|refine Q1 ?_|refine Q2 ?_|refine Q0 ?_|refine Q7 ?_|refine Q3 ?_|(refine Qg (h1:=?_) (h2:=?_)<;>intro hc<;>try omega)|apply jK|refine Q5 rfl ?_|apply jB
  refine Qn (ι:=Nat × Nat × Nat × Bool) ⟨fun z=>[(8,nv z.1),(7,nv i),(5,iD z.2),(6,iM z.2),(2,iv 0),(3,iv 0),(4,.bool false),(0,.pointer (some ⟨b,0,none⟩))],fun _=>bW b J m n t s,
   fun z=>t≤z.1∧z.1≤n∧(z.2.2.2=true→z.2.1<m∧z.2.2.1<n)∧Qv S t m n=(List.range' (i+1) (m-(i+1))).foldl (WH S t n) ((List.range' z.1 (n-z.1)).foldl (bY S i) z.2),fun z=>n-z.1⟩ (t,x,y,fl) ⟨V7 _,htn,hin,hls⟩ aC (HSub.refl _) (fun z hz=>?_)
  clear hls hin
  obtain⟨j,x,y,fl⟩:=z
  obtain⟨htj,hjn,hin,hls⟩:=hz
  dsimp only at htj hjn hin hls ⊢
  unfold bW jbC
  by_cases hjt:j<n
  ·rw[QS hjt,List.foldl_cons]at hls
   have hx:(gE S.d i j).natAbs<256 ^ K:=QT hb _ _
   repeat' first|apply jS|apply jO|apply jN|apply jT|refine Q1 ?_|refine Q2 ?_|refine Q7 ?_|refine Q3 ?_|(refine Qg (h1:=?_) (h2:=?_)<;>intro hc<;>try omega)|apply jK|refine Q5 rfl ?_|apply jB
   refine Q9 au rfl aF rfl (fun w _ hs=>Q02 w b J m n t s S i j hJ hs hlt hjt hm hn) fun w v w' _ _ _ hR=>?_
   subst hR
   repeat' first|apply jS|apply jD|apply jN|refine Q1 ?_|refine Q2 ?_|refine Q7 ?_|refine Q6 ?_|refine Ya (h:=?_)|refine Qh fun _=>?_|refine Q6 ?_|apply jT
   rename_i bx
   have hmg:decide (aS (gE S.d i j).natAbs≠[])=decide (gE S.d i j≠0):=decide_eq_decide.2 (not_congr (bF.trans Int.natAbs_eq_zero))
   rw[hmg]
   by_cases hz:gE S.d i j=0
   ·have h1:bY S i (x,y,fl) j=(x,y,fl):=by unfold bY;rw[if_neg (fun h=>h.1 hz)]
    rw[h1]at hls
    rw[show decide (gE S.d i j≠0)=false from decide_eq_false (fun h=>h hz)]
    repeat' first|apply jO|apply jN|apply jT|refine Q1 ?_|refine Q0 ?_|refine Qd ?_|refine Qq ?_|apply jK|refine Q4 rfl ?_|refine QA ?_|apply jW
    exact Q8 (j+1,x,y,fl) ⟨by dsimp only;omega,by dsimp only;omega,hin,hls⟩ aW aC (by exact HSub.skip (HSub.refl _))
   ·rw[show decide (gE S.d i j≠0)=true from decide_eq_true hz]
    cases fl with
    | false =>
     have h1:bY S i (x,y,false) j=(i,j,true):=by unfold bY;rw[if_pos ⟨hz,.inl rfl⟩]
     rw[h1]at hls
     rw[show iD (x,y,false)=iv (-1) from rfl]
     repeat' first|apply jS|apply jO|apply jN|apply jT|refine Q1 ?_|refine Q0 ?_|refine Qd ?_|refine Qp ?_|(refine Qg (h1:=?_) (h2:=?_)<;>intro hc<;>try omega)|refine Q5 rfl ?_|refine QA ?_|apply jW
     exact Q8 (j+1,i,j,true) ⟨by dsimp only;omega,by dsimp only;omega,fun _=>⟨hlt,hjt⟩,hls⟩ aW aC (by exact HSub.skip (HSub.refl _))
    | true =>
     obtain⟨hxm,hyn⟩:=hin rfl
     rw[show iD (x,y,true)=nv x from rfl,show iM (x,y,true)=nv y from rfl]
     repeat' first|refine Q1 ?_|refine Qm ?_|(refine Qg (h1:=?_) (h2:=?_)<;>intro hc<;>try omega)|fail
     refine Q9 au rfl aF rfl (fun w _ hs=>Q02 w b J m n t s S x y hJ ((HSub.skip (HSub.refl _)).aV hs) hxm hyn hm hn) fun w v w' _ _ _ hR=>?_
     subst hR
     skip
     refine Q9 au rfl aF rfl (fun w _ _=>Qbg K w (gE S.d i j) (gE S.d x y) hK hx (QT hb _ _)) fun w v w' _ _ _ hR=>?_
     subst hR
     by_cases hq:(gE S.d i j).natAbs<(gE S.d x y).natAbs
     ·have h1:bY S i (x,y,true) j=(i,j,true):=by unfold bY;rw[if_pos ⟨hz,.inr hq⟩]
      rw[h1]at hls
      rw[show decide ((gE S.d i j).natAbs<(gE S.d x y).natAbs)=true from decide_eq_true hq]
      repeat' first|apply jS|apply jO|apply jN|apply jT|refine Q1 ?_|refine Q0 ?_|refine Qd ?_|refine Qp ?_|refine Qq ?_|refine Q5 rfl ?_|apply jW
      exact Q8 (j+1,i,j,true) ⟨by dsimp only;omega,by dsimp only;omega,fun _=>⟨hlt,hjt⟩,hls⟩ aW aC (by exact HSub.skip (HSub.refl _))
     ·have h1:bY S i (x,y,true) j=(x,y,true):=by
       unfold bY
       rw[if_neg]
       rintro⟨_,h|h⟩
       ·cases h
       ·exact hq h
      rw[h1]at hls
      rw[show decide ((gE S.d i j).natAbs<(gE S.d x y).natAbs)=false from decide_eq_false hq]
      repeat' first|apply jO|apply jN|apply jT|refine Q1 ?_|refine Q0 ?_|refine Qd ?_|refine Qp ?_|refine Qq ?_|apply jK|refine Q4 rfl ?_|apply jW
      exact Q8 (j+1,x,y,true) ⟨by dsimp only;omega,by dsimp only;omega,hin,hls⟩ aW aC (by exact HSub.skip (HSub.refl _))
  ·rw[show n-j=0 by omega]at hls
   repeat' first|apply jS|apply jO|apply jN|apply jT|refine Q1 ?_|refine Q2 ?_|refine Q0 ?_|refine Q7 ?_|refine Qd ?_|refine Q3 ?_|(refine Qg (h1:=?_) (h2:=?_)<;>intro hc<;>try omega)|apply jU|apply jE|refine Q4 rfl ?_|apply jW|apply Qc
   exact Q8 (i+1,x,y,fl) ⟨by dsimp only;omega,by dsimp only;omega,hin,hls⟩ aW aC (HSub.refl _)
 ·rw[show m-i=0 by omega]at hls
  have hls:Qv S t m n=(x,y,fl):=hls
  rw[hls]
  cases fl with
  | true =>
   rw[show iD (x,y,true)=nv x from rfl,show iM (x,y,true)=nv y from rfl]
   repeat' first|apply jS|apply jO|apply jN|apply jT|refine Q1 ?_|refine Q2 ?_|refine Q0 ?_|refine Q7 ?_|refine Q3 ?_|(refine Qg (h1:=?_) (h2:=?_)<;>intro hc<;>try omega)|(refine Zs (h1:=?_) (h2:=?_)<;>intro hc<;>try omega)|apply jU|apply jE|apply jR|refine Q4 rfl ?_|apply Qc
   all_goals first
    | (exfalso;omega)
    | exact Yy [nv x,nv y,.bool true] ⟨rfl,rfl,rfl,trivial⟩ (fun a w' st=>⟨Z3 hs st.kp (fun p hp=>st.hs.blk p hp),rfl⟩)
  | false =>
   rw[show iD (x,y,false)=iv (-1) from rfl,show iM (x,y,false)=iv (-1) from rfl]
   repeat' first|apply jS|apply jO|apply jN|apply jT|refine Q1 ?_|refine Q2 ?_|refine Q0 ?_|refine Q7 ?_|refine Q3 ?_|(refine Qg (h1:=?_) (h2:=?_)<;>intro hc<;>try omega)|(refine Zs (h1:=?_) (h2:=?_)<;>intro hc<;>try omega)|apply jU|apply jE|apply jR|refine Q4 rfl ?_|apply Qc
   all_goals first
    | (exfalso;omega)
    | exact Yy [iv (-1),iv (-1),.bool false] ⟨rfl,rfl,rfl,trivial⟩ (fun a w' st=>⟨Z3 hs st.kp (fun p hp=>st.hs.blk p hp),rfl⟩)


section
variable {c:Cx} {Q:Exit→Act→World→Prop} {m:Mode} {F:ak} {H:aj} {r:List bT} {g:Option (Option Tmp × Bool)} {ns:Bool} {d:Tmp} {ty t t':TypeId} {x y:Operand}
theorem QB {b o:Nat} (k:Nat) {cs:Array Value} {x1 x2 x3:Value} {T:TypeId} {fz:Nat × Nat} [TN c.P t 3] (hd:Qw c.n (some d)=true) (hg:Qi F g=some true) (hx:ev F x=some (.pointer (some ⟨b,o,none⟩))) (hl:m.live=true)
  (hb:(m.src H)[k]?=some (b,.cells cs T fz)) (h1:cs[o]?=some x1) (h2:cs[o+1]?=some x2) (h3:cs[o+2]?=some x3) (h:JO c Q m r ((d,(.agg #[x1,x2,x3]))::F) H):JO c Q m (⟨some d,.load t x,ty,g,.ld,ns⟩::r) F H :=
 Qkx k hd hg hx hl hb (vs:=#[x1,x2,x3]) rfl (fun j hj=>by
  match j,hj with
  | 0,_=>exact h1
  | 1,_=>exact h2
  | 2,_=>exact h3) h
theorem ZO {A N B:aj} {f:FuncId} {args:Array Operand} {ats:Array TypeId} {vs:List Value} {dd:Option Tmp} {v:Value} {rr cc:Nat} {G:Mi} [TF c.P f] (hH:H=A++(N++B)) (hm:m.aO ns r) (hd:Qw c.n dd=true) (hg:Qi F g=some true) (ha:Zy F args.toList=some vs)
  (hc:∀ w,aG N w→Calls c.P f vs.toArray w (aQ fun _ w'=>Qcr N v rr cc G w w'))
  (h:∀ u N',keys N'=keys N→aN N' v (rr*cc) (bP rr cc G)→JO c Q m.spent r (dN F dd u) (A++(N'++B))) :
  JO c Q m (⟨dd,.call ⟨.value (.func f),args,ats⟩,ty,g,.seq,ns⟩::r) F H :=
 XN (A:=A) (N:=N) (B:=B) hH hm hd hg ha (fun w _ hs=>hc w (HSub.aV (by rw[hH];exact(HSub.dJ.trans (Qf (HSub.refl _)))) hs)) (fun w u w' _ _ _ hR=>by
  obtain⟨N',hk,hin,hO⟩:=hR
  exact⟨N',hk,hin,h u N' hk hO⟩)
theorem Qae {A N B Hs:aj} {f:FuncId} {args:Array Operand} {ats:Array TypeId} {vs:List Value} {dd:Option Tmp} {v:Value} {rr cc:Nat} {G:Mi} [TF c.P f] (hH:H=A++(N++B)) (iV:HSub Hs (A++B)) (hd:Qw c.n dd=true) (hg:Qi F g=some true) (ha:Zy F args.toList=some vs)
  (hc:∀ w,aG N w→Calls c.P f vs.toArray w (aQ fun _ w'=>Qcr N v rr cc G w w'))
  (h:∀ u N',keys N'=keys N→aN N' v (rr*cc) (bP rr cc G)→JO c Q (.draw Hs true) r (dN F dd u) (A++(N'++B))) :
  JO c Q (.draw Hs true) (⟨dd,.call ⟨.value (.func f),args,ats⟩,ty,g,.seq,ns⟩::r) F H :=
 Qad (A:=A) (N:=N) (B:=B) hH iV hd hg ha (fun w _ hs=>hc w (HSub.aV (by rw[hH];exact(HSub.dJ.trans (Qf (HSub.refl _)))) hs)) (fun w u w' _ _ _ hR=>by
  obtain⟨N',hk,hin,hO⟩:=hR
  exact⟨N',hk,hin,h u N' hk hO⟩)
end

theorem WC (K:Nat) (w:World) (b:Nat) (J:JV) (m n t:Nat) (s:Int) (S:Sm) (hJ:IsJ J m n S) (hs:aG (bW b J m n t s) w) (hm:m≤200) (hn:n≤200) (bD:t≤m) (htn:t≤n) (hK:K≤9000000000) (hb:gZ K S.d=true) :
  Calls Tryz.prog 64 #[.pointer (some ⟨b,0,none⟩)] w (aQ fun v w'=>Kp [] w w'∧v=.bool (!(Qv S t m n).2.2)):=by
 refine Qa [] [] aA [] Tryz.func64 rfl mixed (by kernel_rfl) Tryz.ntmps64 Tryz.results64 rfl ⟨by simp,by simp⟩ aA ?_
 simp only[toS,Qe,Qx,Qo,Qr,ay,Ql,Qy,aB]
 repeat' first|apply jS|apply jO|apply jN|refine Q1 ?_|refine Q0 ?_|apply jT
 refine Q9 au rfl aF rfl (fun w' hk _=>Q89 K w' b J m n t s S hJ (hs.kp hk (fun _ _ h=>by cases h)) hm hn bD htn hK hb) fun w v w' _ _ _ hR=>?_
 subst hR
 repeat' first|apply jS|apply jO|apply jN|apply jT|refine Q1 ?_|refine Q0 ?_|refine QG ?_|refine Qu (h:=?_)|apply jR
 exact Qj rfl (fun a w' st=>⟨st.kp,rfl⟩)

theorem Qay {r c i k a b:Nat} {f:Int} {g:List (List Int)} (h:Rec r c g) (hi:i<r) (hk:k<r) (hik:i≠k) (hb:b<c):(if a=i∧b<c then gE g i b+f*gE g k b else gE g a b)=gE (Q08 i k (aT f) g) a b:=by
 rw[Q0g h hi hk hb]
 by_cases e1:a=k
 ·subst e1
  rw[if_neg (fun x=>hik x.1.symm),if_pos rfl]
  show _=0*gE g i b+1*gE g a b
  omega
 ·rw[if_neg e1]
  by_cases e:a=i
  ·rw[if_pos ⟨e,hb⟩,if_pos e]
   show _=1*gE g i b+f*gE g k b
   omega
  ·rw[if_neg (fun x=>e x.1),if_neg e]
theorem Qb0 {r c i k a b:Nat} {f:Int} {g:List (List Int)} (h:Rec r c g) (hi:i<c) (hk:k<c) (hik:i≠k) (ha:a<r):(if b=i∧a<r then gE g a i+f*gE g a k else gE g a b)=gE (XW i k (aT f) g) a b:=by
 rw[Q0h h hi hk ha]
 by_cases e1:b=k
 ·subst e1
  rw[if_neg (fun x=>hik x.1.symm),if_pos rfl]
  show _=0*gE g a i+1*gE g a b
  omega
 ·rw[if_neg e1]
  by_cases e:b=i
  ·rw[if_pos ⟨e,ha⟩,if_pos e]
   show _=1*gE g a i+f*gE g a k
   omega
  ·rw[if_neg (fun x=>e x.1),if_neg e]
theorem Qf4 {r c i k a b:Nat} {f:Int} {g:List (List Int)} (h:Rec r c g) (hi:i<c) (hk:k<c) (hik:i≠k) (ha:a<r):(if b=k∧a<r then gE g a k + -f*gE g a i else gE g a b)=gE (XW i k (aT f).flip g) a b:=by
 rw[Q0h h hi hk ha]
 by_cases e1:b=k
 ·subst e1
  rw[if_pos ⟨rfl,ha⟩,if_pos rfl]
  show _ = -f*gE g a i+1*gE g a b
  omega
 ·rw[if_neg e1,if_neg (fun x=>e1 x.1)]
  by_cases e:b=i
  ·subst e
   rw[if_pos rfl]
   show _=1*gE g a b + -0*gE g a k
   omega
  ·rw[if_neg e]
theorem Qf3 {r c i k a b:Nat} {f:Int} {g:List (List Int)} (h:Rec r c g) (hi:i<r) (hk:k<r) (hik:i≠k) (hb:b<c):(if a=k∧b<c then gE g k b + -f*gE g i b else gE g a b)=gE (Q08 i k (aT f).flip g) a b:=by
 rw[Q0g h hi hk hb]
 by_cases e1:a=k
 ·subst e1
  rw[if_pos ⟨rfl,hb⟩,if_pos rfl]
  show _ = -f*gE g i b+1*gE g a b
  omega
 ·rw[if_neg e1,if_neg (fun x=>e1 x.1)]
  by_cases e:a=i
  ·subst e
   rw[if_pos rfl]
   show _=1*gE g a b + -0*gE g k b
   omega
  ·rw[if_neg e]

theorem Q88 (K L:Nat) (w:World) (b:Nat) (J:JV) (m n:Nat) (t s:Int) (S:Sm) (i k:Nat) (f:Int) (hJ:IsJ J m n S) (hD:Dm m n S) (hs:aG (bW b J m n t s) w) (hi:i<m) (hk:k<m) (hik:i≠k) (hm:m≤200) (hn:n≤200) (hK:K+L≤8000000000) (hb:Ok K S) (hf:f.natAbs<256 ^ L) :
  Calls Tryz.prog 131 #[.pointer (some ⟨b,0,none⟩),nv i,nv k,Wv f] w (aQ fun _ w'=>JbR b J m n t s t s (S.rows i k (aT f)) w w'):=by
 have hM:=QK hs
 have hfn:(-f).natAbs<256 ^ L:=by rw[Int.natAbs_neg];exact hf
 refine Qa [⟨1,1,[],[]⟩,⟨2,1,[],[]⟩] (keys (bW b J m n t s)) hM (bW b J m n t s) Tryz.func131 rfl mixed (by kernel_rfl) Tryz.ntmps131 Tryz.results131 rfl hs (fun p hp=>List.mem_map.2 ⟨p,hp,rfl⟩) ?_
 simp only[toS,Qe,Qx,Qo,Qr,ay,Ql,Qy,aB]
 unfold bW jbC
 repeat' first|apply jS|apply jO|apply jD|apply jN|refine Q1 ?_|refine Q2 ?_|refine Q3 ?_|refine QM (h:=fun _=>?_)|apply jT
 rename_i b7
 refine QB 1 rfl rfl rfl rfl rfl rfl rfl rfl ?_
 repeat' first|refine Q1 ?_|refine Qm ?_|fail
 refine ZO (A:=_::_::(J.u.N++J.ui.N)) (N:=J.d.N) (B:=J.v.N++(J.vi.N++[])) (by simp only[Vb,Vg,Vr];rfl) au rfl aF rfl (fun w hs=>XE K L w J.d.A J.d.c J.d.N m n i k f (gE S.d) hJ.d hs hi hk hm hn hK hf (fun a b' _ _=>QT hb.d a b')) (fun u Nd hkNd iT=>?_)
 simp only[Vb,Vg,Vr]
 repeat' first|apply jS|apply jD|apply jN|refine Q1 ?_|refine Q2 ?_|refine Q3 ?_|apply jT
 refine QB 1 rfl rfl rfl rfl rfl rfl rfl rfl ?_
 repeat' first|refine Q1 ?_|refine Qm ?_|fail
 refine ZO (A:=_::_::[]) (N:=J.u.N) (B:=J.ui.N++(Nd++(J.v.N++(J.vi.N++[])))) (by simp only[Vb,Vg,Vr];rfl) au rfl aF rfl (fun w hs=>XE K L w J.u.A J.u.c J.u.N m m i k f (gE S.u) hJ.u hs hi hk hm hm hK hf (fun a b' _ _=>QT hb.u a b')) (fun u Nu hkNu hONu=>?_)
 simp only[Vb,Vg,Vr]
 repeat' first|apply jN|apply jT
 refine XY [(b7,.cells #[.bool (decide (f<0)),sv (aS f.natAbs)] 75 (0,0)),(b,.cells #[nv m,nv m,.slice J.u.A (m*m) J.u.c,nv m,nv m,.slice J.ui.A (m*m) J.ui.c,nv m,nv n,.slice J.d.A (m*n) J.d.c,nv n,nv n,.slice J.v.A (n*n) J.v.c,nv n,nv n,.slice J.vi.A (n*n) J.vi.c,iv t,iv s] 72 (0,0))] (HSub.at 0 rfl (HSub.at 0 rfl (HSub.nil _))) ?_
 repeat' first|refine Q1 ?_|refine Q2 ?_|refine Q3 ?_|fail
 refine QB 1 rfl rfl rfl rfl rfl rfl rfl rfl ?_
 repeat' first|refine Q1 ?_|refine Qm ?_|fail
 refine Q9 au rfl aF rfl (fun w _ _=>Q4d w _ f L (QC hf) oq) fun w v w' _ _ _ hR=>?_
 subst hR
 skip
 refine Qae (A:=_::_::Nu) (N:=J.ui.N) (B:=Nd++(J.v.N++(J.vi.N++[]))) (by simp only[Vb,Vg,Vr]) (HSub.at 0 rfl (HSub.at 0 rfl (HSub.nil _))) rfl aF rfl (fun w hs=>WD K L w J.ui.A J.ui.c J.ui.N m m k i (-f) (gE S.ui) hJ.ui hs hk hi hm hm hK hfn (fun a b' _ _=>QT hb.ui a b')) (fun u dM hkNui gU=>?_)
 simp only[Vb,Vg,Vr]
 repeat' first|apply jN
 rw[Qk (fun a b' _ hb'=>Qay hD.d hi hk hik hb')]at iT
 rw[Qk (fun a b' _ hb'=>Qay hD.u hi hk hik hb')]at hONu
 rw[Qk (fun a b' ha _=>Qf4 hD.ui hi hk hik ha)]at gU
 refine Ze (fun a w' st=>⟨st.kp,⟨⟨J.u.A,J.u.c,Nu⟩,⟨J.ui.A,J.ui.c,dM⟩,⟨J.d.A,J.d.c,Nd⟩,J.v,J.vi⟩,?_,fun p hp=>st.hs.blk p (Vc _ hp),⟨hONu,gU,iT,hJ.v,hJ.vi⟩,⟨⟨rfl,rfl⟩,⟨rfl,rfl⟩,⟨rfl,rfl⟩,⟨rfl,rfl⟩,⟨rfl,rfl⟩⟩⟩)
 unfold bW keys at *
 simp only[List.map_cons,Vj,hkNd,hkNu,hkNui]

theorem Qg3 (K L:Nat) (w:World) (b:Nat) (J:JV) (m n:Nat) (t s:Int) (S:Sm) (i k:Nat) (f:Int) (hJ:IsJ J m n S) (hD:Dm m n S) (hs:aG (bW b J m n t s) w) (hi:i<n) (hk:k<n) (hik:i≠k) (hm:m≤200) (hn:n≤200) (hK:K+L≤8000000000) (hb:Ok K S) (hf:f.natAbs<256 ^ L) :
  Calls Tryz.prog 133 #[.pointer (some ⟨b,0,none⟩),nv i,nv k,Wv f] w (aQ fun _ w'=>JbR b J m n t s t s (S.cols i k (aT f)) w w'):=by
 have hM:=QK hs
 have hfn:(-f).natAbs<256 ^ L:=by rw[Int.natAbs_neg];exact hf
 refine Qa [⟨1,1,[],[]⟩,⟨2,1,[],[]⟩] (keys (bW b J m n t s)) hM (bW b J m n t s) Tryz.func133 rfl mixed (by kernel_rfl) Tryz.ntmps133 Tryz.results133 rfl hs (fun p hp=>List.mem_map.2 ⟨p,hp,rfl⟩) ?_
 simp only[toS,Qe,Qx,Qo,Qr,ay,Ql,Qy,aB]
 unfold bW jbC
 repeat' first|apply jS|apply jO|apply jD|apply jN|refine Q1 ?_|refine Q2 ?_|refine Q3 ?_|refine QM (h:=fun _=>?_)|apply jT
 rename_i b7
 refine QB 1 rfl rfl rfl rfl rfl rfl rfl rfl ?_
 repeat' first|refine Q1 ?_|refine Qm ?_|fail
 refine ZO (A:=_::_::(J.u.N++J.ui.N)) (N:=J.d.N) (B:=J.v.N++(J.vi.N++[])) (by simp only[Vb,Vg,Vr];rfl) au rfl aF rfl (fun w hs=>WD K L w J.d.A J.d.c J.d.N m n i k f (gE S.d) hJ.d hs hi hk hm hn hK hf (fun a b' _ _=>QT hb.d a b')) (fun u Nd hkNd iT=>?_)
 simp only[Vb,Vg,Vr]
 repeat' first|apply jS|apply jD|apply jN|refine Q1 ?_|refine Q2 ?_|refine Q3 ?_|apply jT
 refine QB 1 rfl rfl rfl rfl rfl rfl rfl rfl ?_
 repeat' first|refine Q1 ?_|refine Qm ?_|fail
 refine ZO (A:=_::_::(J.u.N++(J.ui.N++Nd))) (N:=J.v.N) (B:=J.vi.N++[]) (by simp only[Vb,Vg,Vr];rfl) au rfl aF rfl (fun w hs=>WD K L w J.v.A J.v.c J.v.N n n i k f (gE S.v) hJ.v hs hi hk hn hn hK hf (fun a b' _ _=>QT hb.v a b')) (fun u Nv hkNv hONv=>?_)
 simp only[Vb,Vg,Vr]
 repeat' first|apply jN|apply jT
 refine XY [(b7,.cells #[.bool (decide (f<0)),sv (aS f.natAbs)] 75 (0,0)),(b,.cells #[nv m,nv m,.slice J.u.A (m*m) J.u.c,nv m,nv m,.slice J.ui.A (m*m) J.ui.c,nv m,nv n,.slice J.d.A (m*n) J.d.c,nv n,nv n,.slice J.v.A (n*n) J.v.c,nv n,nv n,.slice J.vi.A (n*n) J.vi.c,iv t,iv s] 72 (0,0))] (HSub.at 0 rfl (HSub.at 0 rfl (HSub.nil _))) ?_
 repeat' first|refine Q1 ?_|refine Q2 ?_|refine Q3 ?_|fail
 refine QB 1 rfl rfl rfl rfl rfl rfl rfl rfl ?_
 repeat' first|refine Q1 ?_|refine Qm ?_|fail
 refine Q9 au rfl aF rfl (fun w _ _=>Q4d w _ f L (QC hf) oq) fun w v w' _ _ _ hR=>?_
 subst hR
 skip
 refine Qae (A:=_::_::(J.u.N++(J.ui.N++(Nd++Nv)))) (N:=J.vi.N) (B:=[]) (by simp only[Vb,Vg,Vr]) (HSub.at 0 rfl (HSub.at 0 rfl (HSub.nil _))) rfl aF rfl (fun w hs=>XE K L w J.vi.A J.vi.c J.vi.N n n k i (-f) (gE S.vi) hJ.vi hs hk hi hn hn hK hfn (fun a b' _ _=>QT hb.vi a b')) (fun u dV hkNvi jk=>?_)
 simp only[Vb,Vg,Vr]
 repeat' first|apply jN
 rw[Qk (fun a b' ha _=>Qb0 hD.d hi hk hik ha)]at iT
 rw[Qk (fun a b' ha _=>Qb0 hD.v hi hk hik ha)]at hONv
 rw[Qk (fun a b' _ hb'=>Qf3 hD.vi hi hk hik hb')]at jk
 refine Ze (fun a w' st=>⟨st.kp,⟨J.u,J.ui,⟨J.d.A,J.d.c,Nd⟩,⟨J.v.A,J.v.c,Nv⟩,⟨J.vi.A,J.vi.c,dV⟩⟩,?_,fun p hp=>st.hs.blk p (Vc _ hp),⟨hJ.u,hJ.ui,iT,hONv,jk⟩,⟨⟨rfl,rfl⟩,⟨rfl,rfl⟩,⟨rfl,rfl⟩,⟨rfl,rfl⟩,⟨rfl,rfl⟩⟩⟩)
 unfold bW keys at *
 simp only[List.map_cons,Vj,hkNd,hkNv,hkNvi]


section
variable {c:Cx} {Q:Exit→Act→World→Prop} {md:Mode} {F:ak} {H:aj} {r:List bT} {g:Option (Option Tmp × Bool)} {ns:Bool} {ty:TypeId}
theorem Q0d {A:aj} {f:FuncId} {args:Array Operand} {ats:Array TypeId} {vs:List Value} {R:Value→Prop} {dd:Option Tmp} {b m n:Nat} {J:JV} {t s t' s':Int} {S':Sm} [TF c.P f] (hH:H=A++bW b J m n t s) (hm:md.aO ns r) (hd:Qw c.n dd=true) (hg:Qi F g=some true) (ha:Zy F args.toList=some vs)
  (hc:∀ w,aG (bW b J m n t s) w→Calls c.P f vs.toArray w (aQ fun v w'=>JbR b J m n t s t' s' S' w w'∧R v))
  (h:∀ v J',keys (bW b J' m n t' s')=keys (bW b J m n t s)→IsJ J' m n S'→fQ J J'→R v→JO c Q md.spent r (dN F dd v) (A++bW b J' m n t' s')) :
  JO c Q md (⟨dd,.call ⟨.value (.func f),args,ats⟩,ty,g,.seq,ns⟩::r) F H :=
 XN (A:=A) (N:=bW b J m n t s) (B:=[]) (by rw[hH,Vh]) hm hd hg ha (R:=fun w v w'=>(∃ J',keys (bW b J' m n t' s')=keys (bW b J m n t s)∧InW (bW b J' m n t' s') w'∧IsJ J' m n S'∧fQ J J')∧R v)
  (fun w _ hs => (hc w (HSub.aV (by rw [hH]; exact Qf (HSub.refl _)) hs)).mono fun e w' he => by
   cases e with
   | panicked _=>exact he.elim
   | outgrown=>exact he.elim
   | returned v=>exact⟨he.1.1,he.1.2,he.2⟩) (fun w v w' _ _ _ hR=>by
  obtain⟨⟨J',hk,hin,hJ,hf⟩,hv⟩:=hR
  refine⟨bW b J' m n t' s',hk,hin,?_⟩
  rw[Vh]
  exact h v J' hk hJ hf hv)
end

theorem Qbd (K:Nat) (w:World) (b:Nat) (J:JV) (m n t:Nat) (s:Int) (S:Sm) (x:Int) (hJ:IsJ J m n S) (hs:aG (bW b J m n t s) w) (hm:m≤200) (hn:n≤200) (bD:t<m) (htn:t<n) (hK:K≤8000000000) (hb:gZ K S.d=true) (hx:x.natAbs<256 ^ K) (hp:gE S.d t t≠0) :
  Calls Tryz.prog 132 #[.pointer (some ⟨b,0,none⟩),Wv x] w (aQ fun v w'=>Kp [] w w'∧v=Wv (-(x / gE S.d t t))):=by
 have hM:=QK hs
 refine Qa [⟨1,3,[],[]⟩] (keys (bW b J m n t s)) hM (bW b J m n t s) Tryz.func132 rfl mixed (by kernel_rfl) Tryz.ntmps132 Tryz.results132 rfl hs (fun p hp=>List.mem_map.2 ⟨p,hp,rfl⟩) ?_
 simp only[toS,Qe,Qx,Qo,Qr,ay,Ql,Qy,aB]
 unfold bW jbC
 repeat' first|apply jS|apply jO|apply jD|apply jN|refine Q1 ?_|refine Q2 ?_|refine Q7 ?_|refine Qm ?_|refine Q3 ?_|refine Qh fun _=>?_|refine QM (h:=fun _=>?_)|apply jT
 refine Q9 au rfl aF rfl (fun w _ hs=>Q02 w b J m n t s S t t hJ ((HSub.skip (HSub.skip (HSub.refl _))).aV hs) bD htn hm hn) fun w v w' _ _ _ hR=>?_
 subst hR
 skip
 refine Q9 au rfl aF rfl (fun w _ _=>Q8f w _ _ x (gE S.d t t) K (QC hx) (QC (QT hb _ _)) oq) fun w v w' _ _ _ hR=>?_
 rw[if_neg hp]at hR
 subst hR
 repeat' first|apply jS|apply jO|apply jN|refine Q1 ?_|refine Q0 ?_|refine Qm ?_|refine Qu (h:=?_)|refine Q6 ?_|refine Qh fun _=>?_|refine Q6 ?_|apply jT
 refine Q9 au rfl aF rfl (fun w _ _=>Q4d w _ (x / gE S.d t t) K (QC (V5 (Int.natAbs_ediv_le_natAbs _ _) hx)) oq) fun w v w' _ _ _ hR=>?_
 subst hR
 repeat' first|apply jN|apply jT|refine Q6 ?_|refine Q6 ?_|apply jR
 exact Z0 2 rfl rfl rfl (fun a w' st=>⟨Z3 hs st.kp (fun p hp=>st.hs.blk p (Vc _ (Vc _ (Vc _ (Vc _ hp))))),rfl⟩)

theorem Q2j {r c i k a b:Nat} {g:List (List Int)} (h:Rec r c g) (hi:i<r) (hk:k<r) (hb:b<c):(if a=k∧b<c then gE g i b else if a=i∧b<c then gE g k b else gE g a b)=gE (eY i k g) a b:=by
 rw[Q43 h hi hk]
 unfold jr
 by_cases e1:a=k
 ·rw[if_pos ⟨e1,hb⟩,if_pos e1]
 ·rw[if_neg (fun x=>e1 x.1),if_neg e1]
  by_cases e2:a=i
  ·rw[if_pos ⟨e2,hb⟩,if_pos e2]
  ·rw[if_neg (fun x=>e2 x.1),if_neg e2]
theorem Q2k {r c i k a b:Nat} {g:List (List Int)} (h:Rec r c g) (hi:i<c) (hk:k<c) (ha:a<r):(if b=k∧a<r then gE g a i else if b=i∧a<r then gE g a k else gE g a b)=gE (iR i k g) a b:=by
 rw[Q2c h hi hk ha]
 unfold jr
 by_cases e1:b=k
 ·rw[if_pos ⟨e1,ha⟩,if_pos e1]
 ·rw[if_neg (fun x=>e1 x.1),if_neg e1]
  by_cases e2:b=i
  ·rw[if_pos ⟨e2,ha⟩,if_pos e2]
  ·rw[if_neg (fun x=>e2 x.1),if_neg e2]
theorem Wa {r c t a b:Nat} {g:List (List Int)} (h:Rec r c g) (ht:t<r):gE g a b=gE (eY t t g) a b:=by
 rw[Q43 h ht ht]
 unfold jr
 by_cases e1:a=t
 ·rw[if_pos e1,e1]
 ·rw[if_neg e1,if_neg e1]
theorem Wc {r c t a b:Nat} {g:List (List Int)} (h:Rec r c g) (ht:t<c) (ha:a<r):gE g a b=gE (iR t t g) a b:=by
 rw[Q2c h ht ht ha]
 unfold jr
 by_cases e1:b=t
 ·rw[if_pos e1,e1]
 ·rw[if_neg e1,if_neg e1]

theorem Qik (K:Nat) (w:World) (b:Nat) (J:JV) (m n t:Nat) (s:Int) (S:Sm) (hJ:IsJ J m n S) (hD:Dm m n S) (hs:aG (bW b J m n t s) w) (hm:m≤200) (hn:n≤200) (bD:t≤m) (htn:t≤n) (hK:K≤8000000000) (hb:Ok K S) (hl:(Qv S t m n).2.2=true) :
  Calls Tryz.prog 65 #[.pointer (some ⟨b,0,none⟩)] w (aQ fun v w'=>JbR b J m n t s t s (S.ex (Qv S t m n).1 (Qv S t m n).2.1 t) w w'∧v=.bool (decide ((Qv S t m n).1≠t∨(Qv S t m n).2.1≠t))):=by
 have hM:=QK hs
 refine Qa [⟨3,1,[],[]⟩,⟨4,1,[],[]⟩,⟨5,1,[],[]⟩,⟨7,1,[],[]⟩,⟨8,1,[],[]⟩,⟨9,1,[],[]⟩] (keys (bW b J m n t s)) hM (bW b J m n t s) Tryz.func65 rfl mixed (by kernel_rfl) Tryz.ntmps65 Tryz.results65 rfl hs (fun p hp=>List.mem_map.2 ⟨p,hp,rfl⟩) ?_
 simp only[toS,Qe,Qx,Qo,Qr,ay,Ql,Qy,aB]
 repeat' first|apply jS|apply jO|apply jN|refine Q1 ?_|refine Q0 ?_|apply jT
 refine Q9 au rfl aF rfl (fun w _ hs=>Q89 K w b J m n t s S hJ hs hm hn bD htn oq hb.d) fun w v w' _ _ _ hR=>?_
 obtain⟨⟨l1,l2,l3,l4⟩,_⟩:=X7 hl
 obtain⟨r,hr⟩:∃ r,r=(Qv S t m n).1:=⟨_,rfl⟩
 obtain⟨q,hq⟩:∃ q,q=(Qv S t m n).2.1:=⟨_,rfl⟩
 rw[show iD (Qv S t m n)=nv r by unfold iD;rw[if_pos hl,hr],show iM (Qv S t m n)=nv q by unfold iM;rw[if_pos hl,hq],hl]at hR
 rw[← hr]at l1 l2
 rw[← hq]at l3 l4
 rw[← hr, ← hq]
 subst hR
 have bK:t<m:=by omega
 have cZ:t<n:=by omega
 unfold bW jbC
 by_cases hrt:r=t
 ·rw[hrt]at l1 l2 ⊢
  by_cases hqt:q=t
  ·rw[hqt]at l3 l4 ⊢
   repeat' first|apply jS|apply jO|apply jN|apply jT|refine Q1 ?_|refine Q2 ?_|refine Q0 ?_|refine Q7 ?_|refine Qq ?_|refine Q3 ?_|refine Qu (h:=?_)|(refine ZP (h1:=?_) (h2:=?_)<;>intro hc<;>try omega)|apply jK|apply jR|refine Q4 rfl ?_
   all_goals first
    | (exfalso;omega)
    | skip
   have hOxd:=hJ.d
   rw[Qk (fun a b' _ _=>Wa (t:=t) hD.d bK)]at hOxd
   have hOxu:=hJ.u
   rw[Qk (fun a b' _ _=>Wa (t:=t) hD.u bK)]at hOxu
   have hOxui:=hJ.ui
   rw[Qk (fun a b' ha _=>Wc (t:=t) hD.ui bK ha)]at hOxui
   have hOyd:=hOxd
   rw[Qk (fun a b' ha _=>Wc (t:=t) (hD.d.eY bK bK) cZ ha)]at hOyd
   have hOyv:=hJ.v
   rw[Qk (fun a b' ha _=>Wc (t:=t) hD.v cZ ha)]at hOyv
   have hOyvi:=hJ.vi
   rw[Qk (fun a b' _ _=>Wa (t:=t) hD.vi cZ)]at hOyvi
   have hdec:decide (t≠t∨t≠t)=false:=decide_eq_false aA
   rw[hdec]
   exact Qj rfl (fun a w' st=>⟨⟨st.kp,⟨⟨J.u.A,J.u.c,J.u.N⟩,⟨J.ui.A,J.ui.c,J.ui.N⟩,⟨J.d.A,J.d.c,J.d.N⟩,⟨J.v.A,J.v.c,J.v.N⟩,⟨J.vi.A,J.vi.c,J.vi.N⟩⟩,by
    unfold bW keys at *
    simp only[List.map_cons,Vj]
    try rfl,fun p hp=>st.hs.blk p hp,⟨hOxu,hOxui,hOyd,hOyv,hOyvi⟩,⟨⟨rfl,rfl⟩,⟨rfl,rfl⟩,⟨rfl,rfl⟩,⟨rfl,rfl⟩,⟨rfl,rfl⟩⟩⟩,rfl⟩)
  ·skip
   repeat' first|apply jS|apply jO|apply jD|apply jN|apply jT|refine Q1 ?_|refine Q2 ?_|refine Q0 ?_|refine Q7 ?_|refine Q3 ?_|refine Qu (h:=?_)|(refine ZP (h1:=?_) (h2:=?_)<;>intro hc<;>try omega)|apply jK|refine Q5 rfl ?_|refine Q4 rfl ?_
   all_goals first
    | (exfalso;omega)
    | skip
   have hOxd:=hJ.d
   rw[Qk (fun a b' _ _=>Wa (t:=t) hD.d bK)]at hOxd
   have hOxu:=hJ.u
   rw[Qk (fun a b' _ _=>Wa (t:=t) hD.u bK)]at hOxu
   have hOxui:=hJ.ui
   rw[Qk (fun a b' ha _=>Wc (t:=t) hD.ui bK ha)]at hOxui
   refine QB 0 rfl rfl rfl rfl rfl rfl rfl rfl ?_
   repeat' first|refine Q1 ?_|refine Q2 ?_|refine Q7 ?_|refine Q3 ?_|fail
   refine ZO (A:=_::(J.u.N++J.ui.N)) (N:=J.d.N) (B:=J.v.N++(J.vi.N++[])) (by simp only[Vb,Vg,Vr];rfl) au rfl aF rfl (fun w hs=>Yx w J.d.A J.d.c J.d.N m n q t (gE (eY t t S.d)) hOxd hs l4 cZ hm hn) (fun u Nd2 hkNd2 hONd2=>?_)
   rw[Qk (fun a b' ha _=>Q2k (hD.d.eY bK bK) l4 cZ ha)]at hONd2
   simp only[Vb,Vg,Vr]
   repeat' first|apply jS|apply jD|apply jN|refine Q1 ?_|refine Q2 ?_|refine Q3 ?_|apply jT
   all_goals first
    | (exfalso;omega)
    | skip
   refine QB 0 rfl rfl rfl rfl rfl rfl rfl rfl ?_
   repeat' first|refine Q1 ?_|refine Q2 ?_|refine Q7 ?_|refine Q3 ?_|fail
   refine ZO (A:=_::(J.u.N++(J.ui.N++Nd2))) (N:=J.v.N) (B:=J.vi.N++[]) (by simp only[Vb,Vg,Vr];rfl) au rfl aF rfl (fun w hs=>Yx w J.v.A J.v.c J.v.N n n q t (gE S.v) hJ.v hs l4 cZ hn hn) (fun u Nv hkNv hONv=>?_)
   rw[Qk (fun a b' ha _=>Q2k hD.v l4 cZ ha)]at hONv
   simp only[Vb,Vg,Vr]
   repeat' first|apply jD|apply jN|refine Q1 ?_|refine Q2 ?_|refine Q3 ?_|apply jT
   all_goals first
    | (exfalso;omega)
    | skip
   refine QB 0 rfl rfl rfl rfl rfl rfl rfl rfl ?_
   repeat' first|refine Q1 ?_|refine Q2 ?_|refine Q7 ?_|refine Q3 ?_|fail
   refine ZO (A:=_::(J.u.N++(J.ui.N++(Nd2++Nv)))) (N:=J.vi.N) (B:=[]) (by simp only[Vb,Vg,Vr];rfl) au rfl aF rfl (fun w hs=>Yw w J.vi.A J.vi.c J.vi.N n n q t (gE S.vi) hJ.vi hs l4 cZ hn hn) (fun u dV hkNvi jk=>?_)
   rw[Qk (fun a b' _ hb'=>Q2j hD.vi l4 cZ hb')]at jk
   simp only[Vb,Vg,Vr]
   repeat' first|apply jS|apply jO|apply jN|apply jT|refine Q1 ?_|refine Q2 ?_|refine Q0 ?_|refine Q7 ?_|refine Qq ?_|refine Q3 ?_|(refine ZP (h1:=?_) (h2:=?_)<;>intro hc<;>try omega)|apply jR
   all_goals first
    | (exfalso;omega)
    | skip
   have hdec:decide (t≠t∨q≠t)=true:=decide_eq_true (.inr hqt)
   rw[hdec]
   exact Qj rfl (fun a w' st=>⟨⟨st.kp,⟨⟨J.u.A,J.u.c,J.u.N⟩,⟨J.ui.A,J.ui.c,J.ui.N⟩,⟨J.d.A,J.d.c,Nd2⟩,⟨J.v.A,J.v.c,Nv⟩,⟨J.vi.A,J.vi.c,dV⟩⟩,by
    unfold bW keys at *
    simp only[List.map_cons,Vj,hkNd2,hkNv,hkNvi]
    try rfl,fun p hp=>st.hs.blk p hp,⟨hOxu,hOxui,hONd2,hONv,jk⟩,⟨⟨rfl,rfl⟩,⟨rfl,rfl⟩,⟨rfl,rfl⟩,⟨rfl,rfl⟩,⟨rfl,rfl⟩⟩⟩,rfl⟩)
 ·skip
  by_cases hqt:q=t
  ·rw[hqt]at l3 l4 ⊢
   repeat' first|apply jS|apply jO|apply jD|apply jN|apply jT|refine Q1 ?_|refine Q2 ?_|refine Q0 ?_|refine Q7 ?_|refine Q3 ?_|refine Qu (h:=?_)|(refine ZP (h1:=?_) (h2:=?_)<;>intro hc<;>try omega)|refine Q5 rfl ?_
   all_goals first
    | (exfalso;omega)
    | skip
   refine QB 0 rfl rfl rfl rfl rfl rfl rfl rfl ?_
   repeat' first|refine Q1 ?_|refine Q2 ?_|refine Q7 ?_|refine Q3 ?_|fail
   refine ZO (A:=_::(J.u.N++J.ui.N)) (N:=J.d.N) (B:=J.v.N++(J.vi.N++[])) (by simp only[Vb,Vg,Vr];rfl) au rfl aF rfl (fun w hs=>Yw w J.d.A J.d.c J.d.N m n r t (gE S.d) hJ.d hs l2 bK hm hn) (fun u Nd hkNd iT=>?_)
   rw[Qk (fun a b' _ hb'=>Q2j hD.d l2 bK hb')]at iT
   simp only[Vb,Vg,Vr]
   repeat' first|apply jS|apply jD|apply jN|refine Q1 ?_|refine Q2 ?_|refine Q3 ?_|apply jT
   all_goals first
    | (exfalso;omega)
    | skip
   refine QB 0 rfl rfl rfl rfl rfl rfl rfl rfl ?_
   repeat' first|refine Q1 ?_|refine Q2 ?_|refine Q7 ?_|refine Q3 ?_|fail
   refine ZO (A:=_::[]) (N:=J.u.N) (B:=J.ui.N++(Nd++(J.v.N++(J.vi.N++[])))) (by simp only[Vb,Vg,Vr];rfl) au rfl aF rfl (fun w hs=>Yw w J.u.A J.u.c J.u.N m m r t (gE S.u) hJ.u hs l2 bK hm hm) (fun u Nu hkNu hONu=>?_)
   rw[Qk (fun a b' _ hb'=>Q2j hD.u l2 bK hb')]at hONu
   simp only[Vb,Vg,Vr]
   repeat' first|apply jD|apply jN|refine Q1 ?_|refine Q2 ?_|refine Q3 ?_|apply jT
   all_goals first
    | (exfalso;omega)
    | skip
   refine QB 0 rfl rfl rfl rfl rfl rfl rfl rfl ?_
   repeat' first|refine Q1 ?_|refine Q2 ?_|refine Q7 ?_|refine Q3 ?_|fail
   refine ZO (A:=_::Nu) (N:=J.ui.N) (B:=Nd++(J.v.N++(J.vi.N++[]))) (by simp only[Vb,Vg,Vr];rfl) au rfl aF rfl (fun w hs=>Yx w J.ui.A J.ui.c J.ui.N m m r t (gE S.ui) hJ.ui hs l2 bK hm hm) (fun u dM hkNui gU=>?_)
   rw[Qk (fun a b' ha _=>Q2k hD.ui l2 bK ha)]at gU
   simp only[Vb,Vg,Vr]
   repeat' first|apply jS|apply jO|apply jN|apply jT|refine Q1 ?_|refine Q2 ?_|refine Q0 ?_|refine Q7 ?_|refine Qp ?_|refine Q3 ?_|(refine ZP (h1:=?_) (h2:=?_)<;>intro hc<;>try omega)|apply jK|refine Q4 rfl ?_|refine QA ?_|apply jR
   all_goals first
    | (exfalso;omega)
    | skip
   have hOyd:=iT
   rw[Qk (fun a b' ha _=>Wc (t:=t) (hD.d.eY l2 bK) cZ ha)]at hOyd
   have hOyv:=hJ.v
   rw[Qk (fun a b' ha _=>Wc (t:=t) hD.v cZ ha)]at hOyv
   have hOyvi:=hJ.vi
   rw[Qk (fun a b' _ _=>Wa (t:=t) hD.vi cZ)]at hOyvi
   have hdec:decide (r≠t∨t≠t)=true:=decide_eq_true (.inl hrt)
   rw[hdec]
   exact Qj rfl (fun a w' st=>⟨⟨st.kp,⟨⟨J.u.A,J.u.c,Nu⟩,⟨J.ui.A,J.ui.c,dM⟩,⟨J.d.A,J.d.c,Nd⟩,⟨J.v.A,J.v.c,J.v.N⟩,⟨J.vi.A,J.vi.c,J.vi.N⟩⟩,by
    unfold bW keys at *
    simp only[List.map_cons,Vj,hkNd,hkNu,hkNui]
    try rfl,fun p hp=>st.hs.blk p hp,⟨hONu,gU,hOyd,hOyv,hOyvi⟩,⟨⟨rfl,rfl⟩,⟨rfl,rfl⟩,⟨rfl,rfl⟩,⟨rfl,rfl⟩,⟨rfl,rfl⟩⟩⟩,rfl⟩)
  ·skip
   repeat' first|apply jS|apply jO|apply jD|apply jN|apply jT|refine Q1 ?_|refine Q2 ?_|refine Q0 ?_|refine Q7 ?_|refine Q3 ?_|refine Qu (h:=?_)|(refine ZP (h1:=?_) (h2:=?_)<;>intro hc<;>try omega)|refine Q5 rfl ?_
   all_goals first
    | (exfalso;omega)
    | skip
   refine QB 0 rfl rfl rfl rfl rfl rfl rfl rfl ?_
   repeat' first|refine Q1 ?_|refine Q2 ?_|refine Q7 ?_|refine Q3 ?_|fail
   refine ZO (A:=_::(J.u.N++J.ui.N)) (N:=J.d.N) (B:=J.v.N++(J.vi.N++[])) (by simp only[Vb,Vg,Vr];rfl) au rfl aF rfl (fun w hs=>Yw w J.d.A J.d.c J.d.N m n r t (gE S.d) hJ.d hs l2 bK hm hn) (fun u Nd hkNd iT=>?_)
   rw[Qk (fun a b' _ hb'=>Q2j hD.d l2 bK hb')]at iT
   simp only[Vb,Vg,Vr]
   repeat' first|apply jS|apply jD|apply jN|refine Q1 ?_|refine Q2 ?_|refine Q3 ?_|apply jT
   all_goals first
    | (exfalso;omega)
    | skip
   refine QB 0 rfl rfl rfl rfl rfl rfl rfl rfl ?_
   repeat' first|refine Q1 ?_|refine Q2 ?_|refine Q7 ?_|refine Q3 ?_|fail
   refine ZO (A:=_::[]) (N:=J.u.N) (B:=J.ui.N++(Nd++(J.v.N++(J.vi.N++[])))) (by simp only[Vb,Vg,Vr];rfl) au rfl aF rfl (fun w hs=>Yw w J.u.A J.u.c J.u.N m m r t (gE S.u) hJ.u hs l2 bK hm hm) (fun u Nu hkNu hONu=>?_)
   rw[Qk (fun a b' _ hb'=>Q2j hD.u l2 bK hb')]at hONu
   simp only[Vb,Vg,Vr]
   repeat' first|apply jD|apply jN|refine Q1 ?_|refine Q2 ?_|refine Q3 ?_|apply jT
   all_goals first
    | (exfalso;omega)
    | skip
   refine QB 0 rfl rfl rfl rfl rfl rfl rfl rfl ?_
   repeat' first|refine Q1 ?_|refine Q2 ?_|refine Q7 ?_|refine Q3 ?_|fail
   refine ZO (A:=_::Nu) (N:=J.ui.N) (B:=Nd++(J.v.N++(J.vi.N++[]))) (by simp only[Vb,Vg,Vr];rfl) au rfl aF rfl (fun w hs=>Yx w J.ui.A J.ui.c J.ui.N m m r t (gE S.ui) hJ.ui hs l2 bK hm hm) (fun u dM hkNui gU=>?_)
   rw[Qk (fun a b' ha _=>Q2k hD.ui l2 bK ha)]at gU
   simp only[Vb,Vg,Vr]
   repeat' first|apply jS|apply jO|apply jD|apply jN|apply jT|refine Q1 ?_|refine Q2 ?_|refine Q7 ?_|refine Q3 ?_|(refine ZP (h1:=?_) (h2:=?_)<;>intro hc<;>try omega)|refine Q5 rfl ?_
   all_goals first
    | (exfalso;omega)
    | skip
   refine QB 0 rfl rfl rfl rfl rfl rfl rfl rfl ?_
   repeat' first|refine Q1 ?_|refine Q2 ?_|refine Q7 ?_|refine Q3 ?_|fail
   refine ZO (A:=_::(Nu++dM)) (N:=Nd) (B:=J.v.N++(J.vi.N++[])) (by simp only[Vb,Vg,Vr];rfl) au rfl aF rfl (fun w hs=>Yx w J.d.A J.d.c Nd m n q t (gE (eY r t S.d)) iT hs l4 cZ hm hn) (fun u Nd2 hkNd2 hONd2=>?_)
   rw[Qk (fun a b' ha _=>Q2k (hD.d.eY l2 bK) l4 cZ ha)]at hONd2
   simp only[Vb,Vg,Vr]
   repeat' first|apply jS|apply jD|apply jN|refine Q1 ?_|refine Q2 ?_|refine Q3 ?_|apply jT
   all_goals first
    | (exfalso;omega)
    | skip
   refine QB 0 rfl rfl rfl rfl rfl rfl rfl rfl ?_
   repeat' first|refine Q1 ?_|refine Q2 ?_|refine Q7 ?_|refine Q3 ?_|fail
   refine ZO (A:=_::(Nu++(dM++Nd2))) (N:=J.v.N) (B:=J.vi.N++[]) (by simp only[Vb,Vg,Vr];rfl) au rfl aF rfl (fun w hs=>Yx w J.v.A J.v.c J.v.N n n q t (gE S.v) hJ.v hs l4 cZ hn hn) (fun u Nv hkNv hONv=>?_)
   rw[Qk (fun a b' ha _=>Q2k hD.v l4 cZ ha)]at hONv
   simp only[Vb,Vg,Vr]
   repeat' first|apply jD|apply jN|refine Q1 ?_|refine Q2 ?_|refine Q3 ?_|apply jT
   all_goals first
    | (exfalso;omega)
    | skip
   refine QB 0 rfl rfl rfl rfl rfl rfl rfl rfl ?_
   repeat' first|refine Q1 ?_|refine Q2 ?_|refine Q7 ?_|refine Q3 ?_|fail
   refine ZO (A:=_::(Nu++(dM++(Nd2++Nv)))) (N:=J.vi.N) (B:=[]) (by simp only[Vb,Vg,Vr];rfl) au rfl aF rfl (fun w hs=>Yw w J.vi.A J.vi.c J.vi.N n n q t (gE S.vi) hJ.vi hs l4 cZ hn hn) (fun u dV hkNvi jk=>?_)
   rw[Qk (fun a b' _ hb'=>Q2j hD.vi l4 cZ hb')]at jk
   simp only[Vb,Vg,Vr]
   repeat' first|apply jS|apply jO|apply jN|apply jT|refine Q1 ?_|refine Q2 ?_|refine Q0 ?_|refine Q7 ?_|refine Qp ?_|refine Q3 ?_|(refine ZP (h1:=?_) (h2:=?_)<;>intro hc<;>try omega)|refine QA ?_|apply jR
   all_goals first
    | (exfalso;omega)
    | skip
   have hdec:decide (r≠t∨q≠t)=true:=decide_eq_true (.inl hrt)
   rw[hdec]
   exact Qj rfl (fun a w' st=>⟨⟨st.kp,⟨⟨J.u.A,J.u.c,Nu⟩,⟨J.ui.A,J.ui.c,dM⟩,⟨J.d.A,J.d.c,Nd2⟩,⟨J.v.A,J.v.c,Nv⟩,⟨J.vi.A,J.vi.c,dV⟩⟩,by
    unfold bW keys at *
    simp only[List.map_cons,Vj,hkNd2,hkNd,hkNu,hkNui,hkNv,hkNvi]
    try rfl,fun p hp=>st.hs.blk p hp,⟨hONu,gU,hONd2,hONv,jk⟩,⟨⟨rfl,rfl⟩,⟨rfl,rfl⟩,⟨rfl,rfl⟩,⟨rfl,rfl⟩,⟨rfl,rfl⟩⟩⟩,rfl⟩)


section
variable {c:Cx} {Q:Exit→Act→World→Prop} {m:Mode} {F:ak} {H:aj} {r:List bT} {g:Option (Option Tmp × Bool)} {ns:Bool} {d:Tmp} {ty t t':TypeId} {x y:Operand}
theorem Q1r {s:TypeId} {fs:Array Field} {fl:Field} {f:Nat} {vs:Array Value} {v:Value} (hu:c.P.underlying s=some (.struct fs)) (hf:fs[f]?=some fl) (ht:T1 c.P fl.type) (hd:Qw c.n (some d)=true) (hg:Qi F g=some true) (hx:ev F x=some (.agg vs)) (hv:vs[fl.offset]?=some v)
  (h:JO c Q m r ((d,v)::F) H):JO c Q m (⟨some d,.field s x f,ty,g,.bg,ns⟩::r) F H :=
 ZE hd hg (fun a w fr=>by
  simp only[execOp,fr.ev hx,Instr.field,Sem.run_bind,run_underlying hu,Result.andThen_ok,hf,asAgg,Sem.run_pure,part,T1.agg,Bool.false_eq_true,if_false,hv]) h

end


def fB (m n t:Nat) (S:Sm):Option Sm:=match ji S t m with
 | some i=>some (S.rows i t (aT (-(gE S.d i t / gE S.d t t))))
 | none=>match jy S t n with
  | some k=>some (S.cols k t (aT (-(gE S.d t k / gE S.d t t))))
  | none=>none

theorem hmag (x:Int):decide (aS x.natAbs≠[])=decide (x≠0):=decide_eq_decide.2 (not_congr (bF.trans Int.natAbs_eq_zero))
theorem Qg4 (K:Nat) (w:World) (b:Nat) (J:JV) (m n t:Nat) (s:Int) (S:Sm) (hJ:IsJ J m n S) (hD:Dm m n S) (hs:aG (bW b J m n t s) w) (hm:m≤200) (hn:n≤200) (bD:t<m) (htn:t<n) (hK:K≤4000000000) (hb:Ok K S) (hp:gE S.d t t≠0) :
  Calls Tryz.prog 66 #[.pointer (some ⟨b,0,none⟩)] w (aQ fun v w'=>JbR b J m n t s t s ((fB m n t S).getD S) w w'∧v=.bool (fB m n t S).isSome):=by
 have hM:=QK hs
 refine Qa [] (keys (bW b J m n t s)) hM (bW b J m n t s) Tryz.func66 rfl mixed (by kernel_rfl) Tryz.ntmps66 Tryz.results66 rfl hs (fun p hp=>List.mem_map.2 ⟨p,hp,rfl⟩) ?_
 simp only[toS,Qe,Qx,Qo,Qr,ay,Ql,Qy,aB]
 unfold bW jbC
 repeat' first|apply jS|apply jO|apply jN|apply jT|refine Q1 ?_|refine Q2 ?_|refine Q0 ?_|refine Q7 ?_|refine Qd ?_|refine Q3 ?_|apply jB
 refine Qn (ι:=Nat) ⟨fun z=>[(4,nv z),(3,nv t),(0,.pointer (some ⟨b,0,none⟩))],fun _=>bW b J m n t s,
  fun z=>t+1≤z∧z≤m∧ji S t m=(List.range' z (m-z)).find? fun i=>decide (gE S.d i t≠0),fun z=>m-z⟩ (t+1) ⟨by omega,by omega,rfl⟩ aC (HSub.refl _) (fun i hi=>?_)
 obtain⟨hti,him,hf⟩:=hi
 dsimp only at hti him hf ⊢
 unfold bW jbC
 by_cases hlt:i<m
 ·rw[QS hlt,List.find?_cons]at hf
  repeat' first|apply jS|apply jO|apply jN|apply jT|refine Q1 ?_|refine Q2 ?_|refine Q7 ?_|refine Q3 ?_|(refine Qg (h1:=?_) (h2:=?_)<;>intro hc<;>try omega)|apply jK|refine Q5 rfl ?_|apply jB
  refine Q9 au rfl aF rfl (fun w _ hs=>Q02 w b J m n t s S i t hJ hs hlt htn hm hn) fun w v w' _ _ _ hR=>?_
  subst hR
  skip
  refine Q1r Tryz.underlying75 rfl (show T1 Tryz.prog 9 from inferInstance) rfl aF rfl rfl ?_
  repeat' first|apply jN|refine Ya (h:=?_)|apply jT
  rw[hmag]
  by_cases hz:gE S.d i t=0
  ·rw[show decide (gE S.d i t≠0)=false from decide_eq_false (fun h=>h hz)]at hf ⊢
   repeat' first|apply jO|apply jN|apply jT|refine Q1 ?_|refine Q0 ?_|refine Qd ?_|apply jK|refine Q4 rfl ?_|apply jW
   exact Q8 (i+1) ⟨by first|omega|(dsimp only;omega),by first|omega|(dsimp only;omega),hf⟩ gY aC (HSub.refl _)
  ·rw[show decide (gE S.d i t≠0)=true from decide_eq_true hz]at hf ⊢
   have hf:ji S t m=some i:=hf
   have hcl:fB m n t S=some (S.rows i t (aT (-(gE S.d i t / gE S.d t t)))):=by unfold fB;rw[hf]
   rw[hcl]
   repeat' first|apply jS|apply jO|refine Q1 ?_|refine Q5 rfl ?_
   refine Q9 au rfl aF rfl (fun w _ hs=>Q02 w b J m n t s S i t hJ hs hlt htn hm hn) fun w v w' _ _ _ hR=>?_
   subst hR
   skip
   refine Q9 au rfl aF rfl (fun w _ hs=>Qbd K w b J m n t s S (gE S.d i t) hJ hs hm hn bD htn oq hb.d (QT hb.d _ _) hp) fun w v w' _ _ _ hR=>?_
   subst hR
   skip
   refine Q0d (A:=[]) (R:=fun _=>True) rfl au rfl aF rfl (fun w hs=>(Q88 K K w b J m n t s S i t (-(gE S.d i t / gE S.d t t)) hJ hD hs hlt bD oq hm hn oq hb (Ys (QT hb.d _ _))).mono fun e w' he=>by
     cases e with
     | panicked _=>exact he.elim
     | outgrown=>exact he.elim
     | returned v=>exact⟨he,trivial⟩) (fun v J' hkJ hJ' hF _=>?_)
   repeat' first|apply jS|apply jO|apply jN|apply jT|refine Q0 ?_|apply jV|apply jR|apply Qz
   exact Qj rfl (fun a w' st=>⟨⟨st.kp,J',hkJ,fun p hp=>st.hs.blk p hp,hJ',hF⟩,rfl⟩)
 ·rw[show m-i=0 by omega]at hf
  have hfr:ji S t m=none:=hf
  clear hf
  repeat' first|apply jS|apply jO|apply jN|apply jT|refine Q1 ?_|refine Q2 ?_|refine Q0 ?_|refine Q7 ?_|refine Qd ?_|refine Q3 ?_|(refine Qg (h1:=?_) (h2:=?_)<;>intro hc<;>try omega)|apply jU|apply jE|refine Q4 rfl ?_|apply jB|apply Qc
  refine Qn (ι:=Nat) ⟨fun z=>[(5,nv z),(3,nv t),(0,.pointer (some ⟨b,0,none⟩))],fun _=>bW b J m n t s,
   fun z=>t+1≤z∧z≤n∧jy S t n=(List.range' z (n-z)).find? fun i=>decide (gE S.d t i≠0),fun z=>n-z⟩ (t+1) ⟨by omega,by omega,rfl⟩ aC (HSub.refl _) (fun i hi=>?_)
  obtain⟨hti,him,hf⟩:=hi
  dsimp only at hti him hf ⊢
  unfold bW jbC
  by_cases hlt:i<n
  ·rw[QS hlt,List.find?_cons]at hf
   repeat' first|apply jS|apply jO|apply jN|apply jT|refine Q1 ?_|refine Q2 ?_|refine Q7 ?_|refine Q3 ?_|(refine Qg (h1:=?_) (h2:=?_)<;>intro hc<;>try omega)|apply jK|refine Q5 rfl ?_|apply jB
   refine Q9 au rfl aF rfl (fun w _ hs=>Q02 w b J m n t s S t i hJ hs bD hlt hm hn) fun w v w' _ _ _ hR=>?_
   subst hR
   skip
   refine Q1r Tryz.underlying75 rfl (show T1 Tryz.prog 9 from inferInstance) rfl aF rfl rfl ?_
   repeat' first|apply jN|refine Ya (h:=?_)|apply jT
   rw[hmag]
   by_cases hz:gE S.d t i=0
   ·rw[show decide (gE S.d t i≠0)=false from decide_eq_false (fun h=>h hz)]at hf ⊢
    repeat' first|apply jO|apply jN|apply jT|refine Q1 ?_|refine Q0 ?_|refine Qd ?_|apply jK|refine Q4 rfl ?_|apply jW
    exact Q8 (i+1) ⟨by first|omega|(dsimp only;omega),by first|omega|(dsimp only;omega),hf⟩ gY aC (HSub.refl _)
   ·rw[show decide (gE S.d t i≠0)=true from decide_eq_true hz]at hf ⊢
    have hf:jy S t n=some i:=hf
    have hcl:fB m n t S=some (S.cols i t (aT (-(gE S.d t i / gE S.d t t)))):=by unfold fB;rw[hfr,hf]
    rw[hcl]
    repeat' first|apply jS|apply jO|refine Q1 ?_|refine Q5 rfl ?_
    refine Q9 au rfl aF rfl (fun w _ hs=>Q02 w b J m n t s S t i hJ hs bD hlt hm hn) fun w v w' _ _ _ hR=>?_
    subst hR
    skip
    refine Q9 au rfl aF rfl (fun w _ hs=>Qbd K w b J m n t s S (gE S.d t i) hJ hs hm hn bD htn oq hb.d (QT hb.d _ _) hp) fun w v w' _ _ _ hR=>?_
    subst hR
    skip
    refine Q0d (A:=[]) (R:=fun _=>True) rfl au rfl aF rfl (fun w hs=>(Qg3 K K w b J m n t s S i t (-(gE S.d t i / gE S.d t t)) hJ hD hs hlt htn oq hm hn oq hb (Ys (QT hb.d _ _))).mono fun e w' he=>by
      cases e with
      | panicked _=>exact he.elim
      | outgrown=>exact he.elim
      | returned v=>exact⟨he,trivial⟩) (fun v J' hkJ hJ' hF _=>?_)
    repeat' first|apply jS|apply jO|apply jN|apply jT|refine Q0 ?_|apply jV|apply jR|apply Qz
    exact Qj rfl (fun a w' st=>⟨⟨st.kp,J',hkJ,fun p hp=>st.hs.blk p hp,hJ',hF⟩,rfl⟩)
  ·rw[show n-i=0 by omega]at hf
   have hfc:jy S t n=none:=hf
   have hcl:fB m n t S=none:=by unfold fB;rw[hfr,hfc]
   rw[hcl]
   repeat' first|apply jS|apply jO|apply jN|apply jT|refine Q1 ?_|refine Q2 ?_|refine Q0 ?_|refine Q7 ?_|refine Q3 ?_|(refine Qg (h1:=?_) (h2:=?_)<;>intro hc<;>try omega)|apply jU|apply jE|apply jR|refine Q4 rfl ?_|apply Qc
   exact Qj rfl (fun a w' st=>⟨JbR.same hJ st.kp (fun p hp=>st.hs.blk p hp),rfl⟩)


theorem Qmc (K:Nat) (w:World) (b:Nat) (J:JV) (m n t:Nat) (s:Int) (S:Sm) (hJ:IsJ J m n S) (hD:Dm m n S) (hs:aG (bW b J m n t s) w) (hm:m≤200) (hn:n≤200) (bD:t<m) (htn:t<n) (hK:K≤4000000000) (hb:Ok K S) (hp:gE S.d t t≠0) :
  Calls Tryz.prog 67 #[.pointer (some ⟨b,0,none⟩)] w (aQ fun v w'=>JbR b J m n t s t s (((Z7 S t m n).map fun i=>S.rows t i (aT 1)).getD S) w w'∧v=.bool (Z7 S t m n).isSome):=by
 have hM:=QK hs
 have hrem:∀ x,gQ x (gE S.d t t)=x % gE S.d t t:=fun x=>if_neg hp
 refine Qa [] (keys (bW b J m n t s)) hM (bW b J m n t s) Tryz.func67 rfl mixed (by kernel_rfl) Tryz.ntmps67 Tryz.results67 rfl hs (fun p hp=>List.mem_map.2 ⟨p,hp,rfl⟩) ?_
 simp only[toS,Qe,Qx,Qo,Qr,ay,Ql,Qy,aB]
 unfold bW jbC
 repeat' first|apply jS|apply jO|apply jN|apply jT|refine Q1 ?_|refine Q2 ?_|refine Q0 ?_|refine Q7 ?_|refine Qd ?_|refine Q3 ?_|apply jB
 refine Qn (ι:=Nat) ⟨fun z=>[(4,nv z),(3,nv t),(0,.pointer (some ⟨b,0,none⟩))],fun _=>bW b J m n t s,
  fun z=>t+1≤z∧z≤m∧Z7 S t m n=(List.range' z (m-z)).find? (Wd S t n),fun z=>m-z⟩ (t+1) ⟨by omega,by omega,rfl⟩ aC (HSub.refl _) (fun i hi=>?_)
 obtain⟨hti,him,hsp⟩:=hi
 dsimp only at hti him hsp ⊢
 unfold bW jbC
 by_cases hlt:i<m
 ·rw[QS hlt,List.find?_cons]at hsp
  repeat' first|apply jS|apply jO|apply jN|apply jT|refine Q1 ?_|refine Q2 ?_|refine Q0 ?_|refine Q7 ?_|refine Qd ?_|refine Q3 ?_|(refine Qg (h1:=?_) (h2:=?_)<;>intro hc<;>try omega)|apply jK|refine Q5 rfl ?_|apply jB
  refine Qn (ι:=Nat) ⟨fun z=>[(5,nv z),(4,nv i),(3,nv t),(0,.pointer (some ⟨b,0,none⟩))],fun _=>bW b J m n t s,
   fun z=>t+1≤z∧z≤n∧Wd S t n i=(List.range' z (n-z)).any fun j=>decide (gQ (gE S.d i j) (gE S.d t t)≠0),fun z=>n-z⟩ (t+1) ⟨by omega,by omega,rfl⟩ aC (HSub.refl _) (fun j hj=>?_)
  obtain⟨htj,hjn,hbr⟩:=hj
  dsimp only at htj hjn hbr ⊢
  unfold bW jbC
  by_cases hjt:j<n
  ·rw[QS hjt,List.any_cons,hrem]at hbr
   repeat' first|apply jS|apply jO|apply jN|apply jT|refine Q1 ?_|refine Q2 ?_|refine Q7 ?_|refine Q3 ?_|(refine Qg (h1:=?_) (h2:=?_)<;>intro hc<;>try omega)|apply jK|refine Q5 rfl ?_|apply jB
   refine Q9 au rfl aF rfl (fun w _ hs=>Q02 w b J m n t s S i j hJ hs hlt hjt hm hn) fun w v w' _ _ _ hR=>?_
   subst hR
   repeat' first|refine Q1 ?_|fail
   refine Q9 au rfl aF rfl (fun w _ hs=>Q02 w b J m n t s S t t hJ hs bD htn hm hn) fun w v w' _ _ _ hR=>?_
   subst hR
   skip
   refine Q9 au rfl aF rfl (fun w _ _=>Q8f w _ _ (gE S.d i j) (gE S.d t t) K (QC (QT hb.d _ _)) (QC (QT hb.d _ _)) oq) fun w v w' _ _ _ hR=>?_
   rw[if_neg hp]at hR
   subst hR
   repeat' first|apply jS|apply jO|apply jN|refine Q1 ?_|refine Q2 ?_|refine Q0 ?_|refine Q7 ?_|refine Qu (h:=?_)|refine Q6 ?_|refine Ya (h:=?_)|refine Qh fun _=>?_|refine Q6 ?_|apply jT
   rw[hmag]
   by_cases hz:gE S.d i j % gE S.d t t=0
   ·rw[show decide (gE S.d i j % gE S.d t t≠0)=false from decide_eq_false (fun h=>h hz)]at hbr ⊢
    repeat' first|apply jO|apply jN|apply jT|refine Q1 ?_|refine Q0 ?_|refine Qd ?_|apply jK|refine Q4 rfl ?_|apply jW
    exact Q8 (j+1) ⟨by first|omega|(dsimp only;omega),by first|omega|(dsimp only;omega),by rw[hbr];exact Bool.false_or _⟩ gY aC (HSub.skip (HSub.skip (HSub.refl _)))
   ·rw[show decide (gE S.d i j % gE S.d t t≠0)=true from decide_eq_true hz]at hbr ⊢
    rw[Bool.true_or]at hbr
    rw[hbr]at hsp
    have hsp:Z7 S t m n=some i:=hsp
    rw[hsp]
    repeat' first|apply jS|apply jO|refine Q1 ?_|refine Q5 rfl ?_
    refine Q9 au rfl aF rfl (fun w _ _=>Yc w 1 oq oq) fun w v w' _ _ _ hR=>?_
    subst hR
    skip
    refine Q0d (A:=[_,_]) (R:=fun _=>True) rfl au rfl aF rfl (fun w hs=>(Q88 K 1 w b J m n t s S t i 1 hJ hD hs bD hlt oq hm hn oq hb dq).mono fun e w' he=>by
      cases e with
      | panicked _=>exact he.elim
      | outgrown=>exact he.elim
      | returned v=>exact⟨he,trivial⟩) (fun v J' hkJ hJ' hF _=>?_)
    repeat' first|apply jS|apply jO|apply jN|apply jT|refine Q0 ?_|apply jV|apply jR|apply Qz
    exact Qj rfl (fun a w' st=>⟨⟨st.kp,J',hkJ,fun p hp=>st.hs.blk p (Vc _ (Vc _ hp)),hJ',hF⟩,rfl⟩)
  ·rw[show n-j=0 by omega]at hbr
   have hbr:Wd S t n i=false:=hbr
   rw[hbr]at hsp
   repeat' first|apply jS|apply jO|apply jN|apply jT|refine Q1 ?_|refine Q2 ?_|refine Q0 ?_|refine Q7 ?_|refine Qd ?_|refine Q3 ?_|(refine Qg (h1:=?_) (h2:=?_)<;>intro hc<;>try omega)|apply jU|apply jE|refine Q4 rfl ?_|apply jW|apply Qc
   exact Q8 (i+1) ⟨by first|omega|(dsimp only;omega),by first|omega|(dsimp only;omega),hsp⟩ gY aC (HSub.refl _)
 ·rw[show m-i=0 by omega]at hsp
  have hsp:Z7 S t m n=none:=hsp
  rw[hsp]
  repeat' first|apply jS|apply jO|apply jN|apply jT|refine Q1 ?_|refine Q2 ?_|refine Q0 ?_|refine Q7 ?_|refine Q3 ?_|(refine Qg (h1:=?_) (h2:=?_)<;>intro hc<;>try omega)|apply jU|apply jE|apply jR|refine Q4 rfl ?_|apply Qc
  exact Qj rfl (fun a w' st=>⟨JbR.same hJ st.kp (fun p hp=>st.hs.blk p hp),rfl⟩)


theorem Qaz {r c t a b:Nat} {g:List (List Int)} (h:Rec r c g) (ht:t<r) (hb:b<c):(if a=t∧b<c then gE g t b + -2*gE g t b else gE g a b)=gE (negR t g) a b:=by
 rw[Q91 h ht]
 by_cases e:a=t
 ·rw[if_pos ⟨e,hb⟩,if_pos e,e];omega
 ·rw[if_neg (fun x=>e x.1),if_neg e]
theorem Qjt {r c t a b:Nat} {g:List (List Int)} (h:Rec r c g) (ht:t<c) (ha:a<r):(if b=t∧a<r then gE g a t + -2*gE g a t else gE g a b)=gE (negC t g) a b:=by
 rw[Qes h ht ha]
 by_cases e:b=t
 ·rw[if_pos ⟨e,ha⟩,if_pos e,e];omega
 ·rw[if_neg (fun x=>e x.1),if_neg e]

theorem Qcj (K:Nat) (w:World) (b:Nat) (J:JV) (m n t:Nat) (s:Int) (S:Sm) (hJ:IsJ J m n S) (hD:Dm m n S) (hs:aG (bW b J m n t s) w) (hm:m≤200) (hn:n≤200) (bD:t<m) (htn:t<n) (hK:K≤4000000000) (hb:Ok K S) :
  Calls Tryz.prog 68 #[.pointer (some ⟨b,0,none⟩)] w (aQ fun _ w'=>JbR b J m n t s ((t+1:Nat):Int) s (if gE S.d t t<0 then S.neg t else S) w w'):=by
 have hM:=QK hs
 refine Qa [⟨3,1,[],[]⟩,⟨4,1,[],[]⟩,⟨5,1,[],[]⟩] (keys (bW b J m n t s)) hM (bW b J m n t s) Tryz.func68 rfl mixed (by kernel_rfl) Tryz.ntmps68 Tryz.results68 rfl hs (fun p hp=>List.mem_map.2 ⟨p,hp,rfl⟩) ?_
 simp only[toS,Qe,Qx,Qo,Qr,ay,Ql,Qy,aB]
 unfold bW jbC
 repeat' first|apply jS|apply jO|apply jN|refine Q1 ?_|refine Q2 ?_|refine Q0 ?_|refine Q7 ?_|refine Q3 ?_|apply jT
 refine Q9 au rfl aF rfl (fun w _ hs=>Q02 w b J m n t s S t t hJ hs bD htn hm hn) fun w v w' _ _ _ hR=>?_
 subst hR
 skip
 refine Q9 au rfl aF rfl (fun w _ _=>Q6u w _ (gE S.d t t) K (QC (QT hb.d _ _)) oq) fun w v w' _ _ _ hR=>?_
 subst hR
 have hsg:(gE S.d t t).sign<0↔gE S.d t t<0:=Int.sign_neg_iff
 by_cases hneg:gE S.d t t<0
 ·have:=hsg.2 hneg
  rw[if_pos hneg]
  repeat' first|apply jS|apply jO|apply jN|apply jT|(refine Qg (h1:=?_) (h2:=?_)<;>intro hc<;>try omega)|refine Q5 rfl ?_
  all_goals first
   | (exfalso;omega)
   | skip
  refine Q9 au rfl aF rfl (fun w _ _=>Yc w (-2) oq oq) fun w v w' _ _ _ hR=>?_
  subst hR
  repeat' first|apply jS|apply jD|apply jN|refine Q1 ?_|refine Q2 ?_|refine Q3 ?_|refine Q6 ?_|refine Qh fun _=>?_|refine Q6 ?_|apply jT
  refine QB 1 rfl rfl rfl rfl rfl rfl rfl rfl ?_
  repeat' first|refine Q1 ?_|refine Qm ?_|fail
  refine ZO (A:=_::_::(J.u.N++J.ui.N)) (N:=J.d.N) (B:=J.v.N++(J.vi.N++[])) (by simp only[Vb,Vg,Vr];rfl) au rfl aF rfl (fun w hs=>XE K 1 w J.d.A J.d.c J.d.N m n t t (-2) (gE S.d) hJ.d hs bD bD hm hn oq dq (fun a b' _ _=>QT hb.d a b')) (fun u Nd hkNd iT=>?_)
  rw[Qk (fun a b' _ hb'=>Qaz hD.d bD hb')]at iT
  simp only[Vb,Vg,Vr]
  repeat' first|apply jS|apply jD|apply jN|refine Q1 ?_|refine Q2 ?_|refine Q3 ?_|apply jT
  refine QB 1 rfl rfl rfl rfl rfl rfl rfl rfl ?_
  repeat' first|refine Q1 ?_|refine Qm ?_|fail
  refine ZO (A:=_::_::[]) (N:=J.u.N) (B:=J.ui.N++(Nd++(J.v.N++(J.vi.N++[])))) (by simp only[Vb,Vg,Vr];rfl) au rfl aF rfl (fun w hs=>XE K 1 w J.u.A J.u.c J.u.N m m t t (-2) (gE S.u) hJ.u hs bD bD hm hm oq dq (fun a b' _ _=>QT hb.u a b')) (fun u Nu hkNu hONu=>?_)
  rw[Qk (fun a b' _ hb'=>Qaz hD.u bD hb')]at hONu
  simp only[Vb,Vg,Vr]
  repeat' first|apply jD|apply jN|refine Q1 ?_|refine Q2 ?_|refine Q3 ?_|apply jT
  refine QB 1 rfl rfl rfl rfl rfl rfl rfl rfl ?_
  repeat' first|refine Q1 ?_|refine Qm ?_|fail
  refine ZO (A:=_::_::Nu) (N:=J.ui.N) (B:=Nd++(J.v.N++(J.vi.N++[]))) (by simp only[Vb,Vg,Vr];rfl) au rfl aF rfl (fun w hs=>WD K 1 w J.ui.A J.ui.c J.ui.N m m t t (-2) (gE S.ui) hJ.ui hs bD bD hm hm oq dq (fun a b' _ _=>QT hb.ui a b')) (fun u dM hkNui gU=>?_)
  rw[Qk (fun a b' ha _=>Qjt hD.ui bD ha)]at gU
  simp only[Vb,Vg,Vr]
  repeat' first|apply jO|apply jN|refine Q1 ?_|refine Q2 ?_|refine Q7 ?_|refine Qd ?_|refine Q3 ?_|refine QO ?_|apply jT
  refine Ze (fun a w' st=>⟨st.kp,⟨⟨J.u.A,J.u.c,Nu⟩,⟨J.ui.A,J.ui.c,dM⟩,⟨J.d.A,J.d.c,Nd⟩,J.v,J.vi⟩,?_,fun p hp=>st.hs.blk p (Vc _ hp),⟨hONu,gU,iT,hJ.v,hJ.vi⟩,⟨⟨rfl,rfl⟩,⟨rfl,rfl⟩,⟨rfl,rfl⟩,⟨rfl,rfl⟩,⟨rfl,rfl⟩⟩⟩)
  unfold bW keys at *
  simp only[List.map_cons,Vj,hkNd,hkNu,hkNui]
 ·have:=fun h=>hneg (hsg.1 h)
  rw[if_neg hneg]
  repeat' first|apply jO|apply jN|apply jT|refine Q1 ?_|refine Q2 ?_|refine Q7 ?_|refine Qd ?_|refine Q3 ?_|(refine Qg (h1:=?_) (h2:=?_)<;>intro hc<;>try omega)|refine QO ?_|apply jK|refine Q4 rfl ?_
  all_goals first
   | (exfalso;omega)
   | skip
  exact Ze (fun a w' st=>⟨st.kp,J,rfl,fun p hp=>st.hs.blk p hp,hJ,fQ.refl J⟩)


theorem Qb2 (t a:Nat):jr t t a=a:=by
 unfold jr
 by_cases e:a=t
 ·rw[if_pos e,e]
 ·rw[if_neg e,if_neg e]
theorem Q6i {r c t:Nat} {g:List (List Int)} (h:Rec r c g) (ht:t<r):eY t t g=g:=(h.eY ht ht).ext h fun a b _ _=>by rw[Q43 h ht ht,Qb2]
theorem Q6j {r c t:Nat} {g:List (List Int)} (h:Rec r c g) (ht:t<c):iR t t g=g:=h.iR.ext h fun a b ha _=>by rw[Q2c h ht ht ha,Qb2]
theorem Qfa {m n t:Nat} {S:Sm} (h:Dm m n S) (bD:t<m) (htn:t<n):S.ex t t t=S:=by
 unfold Sm.ex
 rw[Q6i h.u bD,Q6j h.ui bD,Q6i h.d bD,Q6j h.d htn,Q6j h.v htn,Q6i h.vi htn]
theorem Xl {m n t t':Nat} {S S':Sm} (h:Dm m n S) (hs:dH m n t S=some (S',t')):Dm m n S'∧t'≤m∧t'≤n:=by
 unfold dH at hs
 split at hs
 ·cases hs
 ·rename_i hf
  have hf:(Qv S t m n).2.2=true:=by simpa using hf
  obtain⟨⟨l1,l2,l3,l4⟩,l5⟩:=X7 hf
  split at hs
  ·cases hs
   exact⟨h.ex l2 l4 oq oq,by omega,by omega⟩
  ·cases h1:ji S t m with
   | some i=>rw[h1]at hs;cases hs;obtain⟨g1,g2,_⟩:=Q6d h1;exact⟨h.rows g2 oq,by omega,by omega⟩
   | none =>
    rw[h1]at hs
    dsimp only at hs
    cases h2:jy S t n with
    | some j=>rw[h2]at hs;cases hs;obtain⟨g1,g2,_⟩:=Q6f h2;exact⟨h.cols g2 oq,by omega,by omega⟩
    | none =>
     rw[h2]at hs
     dsimp only at hs
     cases h3:Z7 S t m n with
     | some i=>rw[h3]at hs;cases hs;obtain⟨g1,g2,_⟩:=Q5u h3;exact⟨h.rows oq g2,by omega,by omega⟩
     | none =>
      rw[h3]at hs
      cases hs
      by_cases hg:gE S.d t t<0
      ·rw[if_pos hg];exact⟨Qjr h oq,by omega,by omega⟩
      ·rw[if_neg hg];exact⟨h,by omega,by omega⟩

theorem Qdj {m n t:Nat} {S S2:Sm} (hl:(Qv S t m n).2.2=true) (he:¬((Qv S t m n).1≠t∨(Qv S t m n).2.1≠t)) (h:fB m n t S=some S2):dH m n t S=some (S2,t):=by
 unfold dH
 rw[if_neg (by rw[hl];simp),if_neg he]
 unfold fB at h
 cases h1:ji S t m with
 | some i=>rw[h1]at h;cases h;rfl
 | none =>
  rw[h1]at h
  dsimp only at h ⊢
  cases h2:jy S t n with
  | some j=>rw[h2]at h;cases h;rfl
  | none=>rw[h2]at h;cases h
theorem Qdi {m n t i:Nat} {S:Sm} (hl:(Qv S t m n).2.2=true) (he:¬((Qv S t m n).1≠t∨(Qv S t m n).2.1≠t)) (h:fB m n t S=none) (hs:Z7 S t m n=some i):dH m n t S=some (S.rows t i (aT 1),t):=by
 unfold dH
 rw[if_neg (by rw[hl];simp),if_neg he]
 unfold fB at h
 cases h1:ji S t m with
 | some i=>rw[h1]at h;cases h
 | none =>
  rw[h1]at h
  dsimp only at h ⊢
  cases h2:jy S t n with
  | some j=>rw[h2]at h;cases h
  | none=>rw[hs]
theorem Qdh {m n t:Nat} {S:Sm} (hl:(Qv S t m n).2.2=true) (he:¬((Qv S t m n).1≠t∨(Qv S t m n).2.1≠t)) (h:fB m n t S=none) (hs:Z7 S t m n=none):dH m n t S=some (if gE S.d t t<0 then S.neg t else S,t+1):=by
 unfold dH
 rw[if_neg (by rw[hl];simp),if_neg he]
 unfold fB at h
 cases h1:ji S t m with
 | some i=>rw[h1]at h;cases h
 | none =>
  rw[h1]at h
  dsimp only at h ⊢
  cases h2:jy S t n with
  | some j=>rw[h2]at h;cases h
  | none=>rw[hs]
theorem Q9y {m n k t t':Nat} {S S':Sm} (hk:0<k) (h:dH m n t S=some (S',t')):aJ m n k t S=((aJ m n (k-1) t' S').1,(aJ m n (k-1) t' S').2.1,(aJ m n (k-1) t' S').2.2+1):=by
 obtain⟨k,rfl⟩:∃ j,k=j+1:=⟨k-1,by omega⟩
 rw[Nat.add_sub_cancel]
 show (match dH m n t S with|none=>_|some r=>_)=_
 rw[h]
theorem Q5w {m n k t:Nat} {S:Sm} (h:(Qv S t m n).2.2=false):aJ m n k t S=(S,t,0):=by
 cases k with
 | zero=>rfl
 | succ k =>
  show (match dH m n t S with|none=>_|some r=>_)=_
  rw[show dH m n t S=none by unfold dH;rw[if_pos h]]
theorem YT {K k i m n t t1 t2:Nat} {S S1 S2:Sm} (hlt:i<k) (hrun:aJ m n k t S=((aJ m n (k-i) t1 S1).1,(aJ m n (k-i) t1 S1).2.1,(aJ m n (k-i) t1 S1).2.2+i))
  (hok:∀ j,j≤(aJ m n (k-i) t1 S1).2.2→Ok K (aJ m n j t1 S1).1) (hs:dH m n t1 S1=some (S2,t2)) :
  aJ m n k t S=((aJ m n (k-(i+1)) t2 S2).1,(aJ m n (k-(i+1)) t2 S2).2.1,(aJ m n (k-(i+1)) t2 S2).2.2+(i+1))∧∀ j,j≤(aJ m n (k-(i+1)) t2 S2).2.2→Ok K (aJ m n j t2 S2).1:=by
 have e:=Q9y (k:=k-i) oq hs
 rw[Nat.sub_sub]at e
 rw[e]at hrun hok
 refine⟨by rw[hrun];dsimp only;rw[show (aJ m n (k-(i+1)) t2 S2).2.2+1+i=(aJ m n (k-(i+1)) t2 S2).2.2+(i+1) by omega],fun j hj=>?_⟩
 have h:=hok (j+1) aW
 rw[Q9y oq hs,Nat.add_sub_cancel]at h
 exact h

theorem Qip (K:Nat) (w:World) (b:Nat) (J:JV) (m n t s k kk:Nat) (S:Sm) (hJ:IsJ J m n S) (hD:Dm m n S) (hs:aG (bW b J m n t s) w) (hm:m≤200) (hn:n≤200) (bD:t≤m) (htn:t≤n) (hK:K≤4000000000) (hkk:k≤kk) (hkk0:kk<1099511627776) (hsk:s+k≤1099511627776) (hend:k=kk∨s+k=1099511627776)
  (hb:∀ j,j≤(aJ m n k t S).2.2→Ok K (aJ m n j t S).1) :
  Calls Tryz.prog 27 #[.pointer (some ⟨b,0,none⟩),nv kk] w (aQ fun v w'=>JbR b J m n t s ((aJ m n k t S).2.1:Nat) ((s+(aJ m n k t S).2.2:Nat):Int) (aJ m n k t S).1 w w'∧v=iv (if (Qv (aJ m n k t S).1 (aJ m n k t S).2.1 m n).2.2=true then 60 else 0)):=by
 have hM:=QK hs
 refine Qa [] (keys (bW b J m n t s)) hM (bW b J m n t s) Tryz.func27 rfl mixed (by kernel_rfl) Tryz.ntmps27 Tryz.results27 rfl hs (fun p hp=>List.mem_map.2 ⟨p,hp,rfl⟩) ?_
 simp only[toS,Qe,Qx,Qo,Qr,ay,Ql,Qy,aB]
 repeat' first|apply jS|apply jO|apply jN|apply jT|refine Q1 ?_|refine Q0 ?_|refine Qq ?_|(refine Qg (h1:=?_) (h2:=?_)<;>intro hc<;>try omega)|(refine QU (h1:=?_) (h2:=?_)<;>intro hc<;>try omega)|apply jK|refine Q4 rfl ?_|apply jB
 refine Qn (ι:=Nat × Nat × Sm × JV) ⟨fun z=>[(5,nv z.1),(0,.pointer (some ⟨b,0,none⟩)),(1,nv kk)],fun z=>bW b z.2.2.2 m n z.2.1 ((s+z.1:Nat):Int),
  fun z=>z.1≤k∧Dm m n z.2.2.1∧IsJ z.2.2.2 m n z.2.2.1∧fQ J z.2.2.2∧keys (bW b z.2.2.2 m n z.2.1 ((s+z.1:Nat):Int))=keys (bW b J m n t s)∧z.2.1≤m∧z.2.1≤n ∧
   aJ m n k t S=((aJ m n (k-z.1) z.2.1 z.2.2.1).1,(aJ m n (k-z.1) z.2.1 z.2.2.1).2.1,(aJ m n (k-z.1) z.2.1 z.2.2.1).2.2+z.1) ∧
   ∀ j,j≤(aJ m n (k-z.1) z.2.1 z.2.2.1).2.2→Ok K (aJ m n j z.2.1 z.2.2.1).1,fun z=>k-z.1⟩ (0,t,S,J) ⟨V8 _,hD,hJ,fQ.refl J,rfl,bD,htn,rfl,hb⟩ aC (HSub.refl _) (fun z hz=>?_)
 obtain⟨i,t1,S1,J1⟩:=z
 obtain⟨hik,hD1,hJ1,hF1,hk1,eG,eU,hrun,hok⟩:=hz
 dsimp only at hik hD1 hJ1 hF1 hk1 eG eU hrun hok ⊢
 have hb1:Ok K S1:=hok 0 (V8 _)
 by_cases hlt:i<k
 ·repeat' first|apply jS|refine Q1 ?_|(refine Qg (h1:=?_) (h2:=?_)<;>intro hc<;>try omega)|apply jO
  refine Q9 au rfl aF rfl (fun w _ hs=>WC K w b J1 m n t1 ((s+i:Nat):Int) S1 hJ1 hs hm hn eG eU oq hb1.d) fun w v w' _ _ _ hR=>?_
  subst hR
  by_cases hle:(Qv S1 t1 m n).2.2=true
  ·rw[hle]
   obtain⟨⟨l1,l2,l3,l4⟩,hlv⟩:=X7 hle
   repeat' first|apply jS|apply jO|apply jN|apply jT|refine Q1 ?_|refine Q2 ?_|refine Q7 ?_|refine Qp ?_|refine QG ?_|refine Q3 ?_|(refine Qg (h1:=?_) (h2:=?_)<;>intro hc<;>try omega)|apply jK|refine Q5 rfl ?_|apply jB
   refine Q0d (A:=[]) rfl au rfl aF rfl (fun w hs=>Qik K w b J1 m n t1 ((s+i:Nat):Int) S1 hJ1 hD1 hs hm hn eG eU oq hb1 hle) fun v J2 hk2 hJ2 hF2 hR=>?_
   subst hR
   rw[Vr]
   by_cases hmv:(Qv S1 t1 m n).1≠t1∨(Qv S1 t1 m n).2.1≠t1
   ·have hst:dH m n t1 S1=some (S1.ex (Qv S1 t1 m n).1 (Qv S1 t1 m n).2.1 t1,t1):=by
     unfold dH
     rw[if_neg (by rw[hle];simp),if_pos hmv]
    rw[decide_eq_true hmv]
    repeat' first|apply jS|apply jO|apply jN|apply jT|refine Q1 ?_|refine Q2 ?_|refine Q0 ?_|refine Q7 ?_|refine Qd ?_|refine QG ?_|refine Q3 ?_|refine QO ?_|apply jK|refine Q4 rfl ?_|apply jW
    obtain⟨hrun2,hok2⟩:=YT hlt hrun hok hst
    obtain⟨hD2,gV,gW⟩:=Xl hD1 hst
    exact Q8 (i+1,t1,S1.ex (Qv S1 t1 m n).1 (Qv S1 t1 m n).2.1 t1,J2) ⟨hlt,hD2,hJ2,hF1.trans hF2,hk2.trans hk1,gV,gW,hrun2,hok2⟩ aW aC (HSub.refl _)
   ·rw[decide_eq_false hmv]
    obtain⟨e1,e2⟩:(Qv S1 t1 m n).1=t1∧(Qv S1 t1 m n).2.1=t1:=by omega
    rw[e1]at l2
    rw[e2]at l4
    rw[e1,e2]at hlv
    rw[e1,e2,Qfa hD1 l2 l4]at hJ2
    repeat' first|apply jS|apply jO|apply jN|apply jT|refine Q1 ?_|refine Q0 ?_|refine QG ?_|refine Q5 rfl ?_
    refine Q0d (A:=[]) rfl au rfl aF rfl (fun w hs=>Qg4 K w b J2 m n t1 ((s+i:Nat):Int) S1 hJ2 hD1 hs hm hn l2 l4 oq hb1 hlv) fun v J3 hk3 hJ3 hF3 hR=>?_
    subst hR
    rw[Vr]
    cases hcl:fB m n t1 S1 with
    | some S2 =>
     rw[hcl]at hJ3
     repeat' first|apply jS|apply jO|apply jN|apply jT|refine Q1 ?_|refine Q2 ?_|refine Q0 ?_|refine Q7 ?_|refine Qd ?_|refine QG ?_|refine Q3 ?_|refine QO ?_|apply jK|refine Q4 rfl ?_|apply jW
     have hst:=Qdj hle hmv hcl
     obtain⟨hrun2,hok2⟩:=YT hlt hrun hok hst
     obtain⟨hD2,gV,gW⟩:=Xl hD1 hst
     exact Q8 (i+1,t1,S2,J3) ⟨hlt,hD2,hJ3,(hF1.trans hF2).trans hF3,hk3.trans (hk2.trans hk1),gV,gW,hrun2,hok2⟩ aW aC (HSub.refl _)
    | none =>
     rw[hcl]at hJ3
     repeat' first|apply jS|apply jO|apply jN|apply jT|refine Q1 ?_|refine Q0 ?_|refine QG ?_|refine Q5 rfl ?_
     refine Q0d (A:=[]) rfl au rfl aF rfl (fun w hs=>Qmc K w b J3 m n t1 ((s+i:Nat):Int) S1 hJ3 hD1 hs hm hn l2 l4 oq hb1 hlv) fun v J4 hk4 hJ4 hF4 hR=>?_
     subst hR
     rw[Vr]
     cases hsp:Z7 S1 t1 m n with
     | some q =>
      rw[hsp]at hJ4
      repeat' first|apply jS|apply jO|apply jN|apply jT|refine Q1 ?_|refine Q2 ?_|refine Q0 ?_|refine Q7 ?_|refine Qd ?_|refine QG ?_|refine Q3 ?_|refine QO ?_|apply jK|refine Q4 rfl ?_|apply jW
      have hst:=Qdi hle hmv hcl hsp
      obtain⟨hrun2,hok2⟩:=YT hlt hrun hok hst
      obtain⟨hD2,gV,gW⟩:=Xl hD1 hst
      exact Q8 (i+1,t1,_,J4) ⟨hlt,hD2,hJ4,((hF1.trans hF2).trans hF3).trans hF4,hk4.trans (hk3.trans (hk2.trans hk1)),gV,gW,hrun2,hok2⟩ aW aC (HSub.refl _)
     | none =>
      rw[hsp]at hJ4
      repeat' first|apply jS|apply jO|apply jN|apply jT|refine Q1 ?_|refine Q0 ?_|refine QG ?_|refine Q5 rfl ?_
      have hst:=Qdh hle hmv hcl hsp
      refine Q0d (A:=[]) (R:=fun _=>True) rfl au rfl aF rfl (fun w hs=>(Qcj K w b J4 m n t1 ((s+i:Nat):Int) S1 hJ4 hD1 hs hm hn l2 l4 oq hb1).mono fun e w' he=>by
        cases e with
        | panicked _=>exact he.elim
        | outgrown=>exact he.elim
        | returned v=>exact⟨he,trivial⟩) (fun v J5 hk5 hJ5 hF5 _=>?_)
      rw[Vr]
      repeat' first|apply jO|apply jN|apply jT|refine Q1 ?_|refine Q2 ?_|refine Q0 ?_|refine Q7 ?_|refine Qd ?_|refine Q3 ?_|refine QO ?_|apply jW
      obtain⟨hrun2,hok2⟩:=YT hlt hrun hok hst
      obtain⟨hD2,gV,gW⟩:=Xl hD1 hst
      exact Q8 (i+1,t1+1,_,J5) ⟨hlt,hD2,hJ5,(((hF1.trans hF2).trans hF3).trans hF4).trans hF5,hk5.trans (hk4.trans (hk3.trans (hk2.trans hk1))),gV,gW,hrun2,hok2⟩ aW aC (HSub.refl _)
  ·have hle:(Qv S1 t1 m n).2.2=false:=by simpa using hle
   rw[hle]
   repeat' first|apply jS|apply jO|apply jN|apply jT|refine Q1 ?_|refine Qp ?_|refine Qq ?_|refine QG ?_|apply jU|refine Q4 rfl ?_|apply Qc|refine QA ?_|apply jE
   refine Q9 au rfl aF rfl (fun w _ hs=>WC K w b J1 m n t1 ((s+i:Nat):Int) S1 hJ1 hs hm hn eG eU oq hb1.d) fun w v w' _ _ _ hR=>?_
   subst hR
   have hrn:aJ m n k t S=(S1,t1,i):=by rw[hrun,Q5w hle];dsimp only;rw[Vq]
   rw[hrn]
   dsimp only
   rw[hle]
   repeat' first|apply jS|apply jO|apply jN|apply jT|refine Q1 ?_|refine Q0 ?_|apply jV|apply jR|refine Q5 rfl ?_
   exact Qj rfl (fun a w' st=>⟨⟨st.kp,J1,hk1,fun p hp=>st.hs.blk p hp,hJ1,hF1⟩,rfl⟩)
 ·obtain rfl:i=k:=by omega
  by_cases hkk':i<kk
  ·have hs9:s+i=1099511627776:=by omega
   have hrn:aJ m n i t S=(S1,t1,i):=by rw[hrun,Nat.sub_self];show (S1,t1,0+i)=_;rw[Vq]
   rw[hrn]
   dsimp only
   repeat' first|apply jS|refine Q1 ?_|(refine Qg (h1:=?_) (h2:=?_)<;>intro hc<;>try omega)|apply jO
   refine Q9 au rfl aF rfl (fun w _ hs=>WC K w b J1 m n t1 ((s+i:Nat):Int) S1 hJ1 hs hm hn eG eU oq hb1.d) fun w v w' _ _ _ hR=>?_
   subst hR
   by_cases hle:(Qv S1 t1 m n).2.2=true
   ·rw[hle]
    repeat' first|apply jS|apply jO|apply jN|apply jT|refine Q1 ?_|refine Q2 ?_|refine Q7 ?_|refine Qp ?_|refine QG ?_|refine Q3 ?_|(refine Qg (h1:=?_) (h2:=?_)<;>intro hc<;>try omega)|apply jU|apply jE|refine Q4 rfl ?_|apply Qc
    all_goals first
     | (exfalso;omega)
     | skip
    refine Q9 au rfl aF rfl (fun w _ hs=>WC K w b J1 m n t1 ((s+i:Nat):Int) S1 hJ1 hs hm hn eG eU oq hb1.d) fun w v w' _ _ _ hR=>?_
    rw[hle]at hR
    subst hR
    repeat' first|apply jS|apply jO|apply jN|apply jT|refine Q1 ?_|refine Q0 ?_|apply jK|apply jR|refine Q4 rfl ?_
    exact Qj rfl (fun a w' st=>⟨⟨st.kp,J1,hk1,fun p hp=>st.hs.blk p hp,hJ1,hF1⟩,rfl⟩)
   ·have hle:(Qv S1 t1 m n).2.2=false:=by simpa using hle
    rw[hle]
    repeat' first|apply jS|apply jO|apply jN|apply jT|refine Q1 ?_|refine Qp ?_|refine Qq ?_|refine QG ?_|apply jU|refine Q4 rfl ?_|apply Qc|refine QA ?_|apply jE
    refine Q9 au rfl aF rfl (fun w _ hs=>WC K w b J1 m n t1 ((s+i:Nat):Int) S1 hJ1 hs hm hn eG eU oq hb1.d) fun w v w' _ _ _ hR=>?_
    rw[hle]at hR
    subst hR
    repeat' first|apply jS|apply jO|apply jN|apply jT|refine Q1 ?_|refine Q0 ?_|apply jV|apply jR|refine Q5 rfl ?_
    exact Qj rfl (fun a w' st=>⟨⟨st.kp,J1,hk1,fun p hp=>st.hs.blk p hp,hJ1,hF1⟩,rfl⟩)
  ·repeat' first|apply jS|apply jO|apply jN|apply jT|refine Q1 ?_|refine Qq ?_|(refine Qg (h1:=?_) (h2:=?_)<;>intro hc<;>try omega)|apply jU|refine Q4 rfl ?_|apply Qc|refine QA ?_|apply jE
   refine Q9 au rfl aF rfl (fun w _ hs=>WC K w b J1 m n t1 ((s+i:Nat):Int) S1 hJ1 hs hm hn eG eU oq hb1.d) fun w v w' _ _ _ hR=>?_
   subst hR
   by_cases hle:(Qv S1 t1 m n).2.2=true
   ·have hrn:aJ m n i t S=(S1,t1,i):=by rw[hrun,Nat.sub_self];show (S1,t1,0+i)=_;rw[Vq]
    rw[hrn]
    dsimp only
    rw[hle]
    repeat' first|apply jS|apply jO|apply jN|apply jT|refine Q1 ?_|refine Q0 ?_|apply jK|apply jR|refine Q4 rfl ?_
    exact Qj rfl (fun a w' st=>⟨⟨st.kp,J1,hk1,fun p hp=>st.hs.blk p hp,hJ1,hF1⟩,rfl⟩)
   ·have hle:(Qv S1 t1 m n).2.2=false:=by simpa using hle
    have hrn:aJ m n i t S=(S1,t1,i):=by rw[hrun,Nat.sub_self];show (S1,t1,0+i)=_;rw[Vq]
    rw[hrn]
    dsimp only
    rw[hle]
    repeat' first|apply jS|apply jO|apply jN|apply jT|refine Q1 ?_|refine Q0 ?_|apply jV|apply jR|refine Q5 rfl ?_
    exact Qj rfl (fun a w' st=>⟨⟨st.kp,J1,hk1,fun p hp=>st.hs.blk p hp,hJ1,hF1⟩,rfl⟩)

theorem Qmg (K:Nat) (w:World) (b:Nat) (J:JV) (m n t s k:Nat) (S:Sm) (hJ:IsJ J m n S) (hD:Dm m n S) (hs:aG (bW b J m n t s) w) (hm:m≤200) (hn:n≤200) (bD:t≤m) (htn:t≤n) (hK:K≤4000000000) (hsk:s+k<1099511627776)
  (hb:∀ j,j≤(aJ m n k t S).2.2→Ok K (aJ m n j t S).1) :
  Calls Tryz.prog 27 #[.pointer (some ⟨b,0,none⟩),nv k] w (aQ fun v w'=>JbR b J m n t s ((aJ m n k t S).2.1:Nat) ((s+(aJ m n k t S).2.2:Nat):Int) (aJ m n k t S).1 w w'∧v=iv (if (Qv (aJ m n k t S).1 (aJ m n k t S).2.1 m n).2.2=true then 60 else 0)) :=
 Qip K w b J m n t s k k S hJ hD hs hm hn bD htn hK (V7 k) oq oq (.inl rfl) hb

end Go.Proofs.YtbofgpenopcfaaaGreatDoor

