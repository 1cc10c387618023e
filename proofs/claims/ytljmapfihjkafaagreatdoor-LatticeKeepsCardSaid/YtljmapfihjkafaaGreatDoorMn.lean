import Derived.Test.YtljmapfihjkafaaGreatDoorMm
import Derived.Test.YtljmapfihjkafaaGreatDoorMj
set_option maxHeartbeats 16000000
namespace Go.Proofs.YtljmapfihjkafaaGreatDoor
open Go Go.RowKit
set_option linter.unusedSimpArgs false
set_option linter.unusedVariables false
set_option linter.unusedSectionVars false

structure Dg (n:Nat) (S:Sm) (d:Nat→Int):Prop where
 dm:Dm n n S
 eq:∀ i j,i<n→j<n→gE S.d i j=if i=j then d i else 0
def cnt:Nat→(Nat→Int)→Nat
 | 0,_=>0
 | n+1,d=>cnt n d+if d n=0 then 0 else 1
def upd (d:Nat→Int) (k:Nat) (v:Int):Nat→Int:=fun i=>if i=k then v else d i
theorem Q79:∀ {n:Nat} {d d':Nat→Int},(∀ i,i<n→(d i=0↔d' i=0))→cnt n d=cnt n d'
 | 0,_,_,_=>rfl
 | n+1,d,d',h=>by
  rw[cnt,cnt,Q79 (n:=n) (fun i hi=>h i oq)]
  have h1:=h n oq
  by_cases h0:d n=0
  ·rw[if_pos h0,if_pos (h1.1 h0)]
  ·rw[if_neg h0,if_neg (fun e=>h0 (h1.2 e))]
theorem Q8m:∀ {n k:Nat} {d:Nat→Int} {v:Int},k<n→cnt n (upd d k v)+(if d k=0 then 0 else 1)=cnt n d+(if v=0 then 0 else 1)
 | 0,_,_,_,h=>by omega
 | n + 1, k, d, v, h => by
  rw[cnt,cnt]
  by_cases hk:k=n
  ·subst hk
   have e:cnt k (upd d k v)=cnt k d:=Q79 fun i hi=>by unfold upd;rw[if_neg oq]
   have e2:upd d k v k=v:=if_pos rfl
   rw[e,e2];omega
  ·have ih:=Q8m (n:=n) (k:=k) (d:=d) (v:=v) oq
   have e2:upd d k v n=d n:=if_neg oq
   rw[e2];omega

structure Eqv (t n:Nat) (d d':Nat→Int):Prop where
 lo:∀ i,i<t→d' i=d i
 g:∀ c:Int,(∀ i,t≤i→i<n→c∣d i)↔(∀ i,t≤i→i<n→c∣d' i)
 l:∀ c:Int,(∀ i,t≤i→i<n→d i≠0→d i∣c)↔(∀ i,t≤i→i<n→d' i≠0→d' i∣c)
 k:cnt n d'=cnt n d
theorem Eqv.refl (t n:Nat) (d:Nat→Int):Eqv t n d d:=⟨fun _ _=>rfl,fun _=>Iff.rfl,fun _=>Iff.rfl,rfl⟩
theorem Eqv.trans {t n:Nat} {d d' d'':Nat→Int} (h:Eqv t n d d') (h':Eqv t n d' d''):Eqv t n d d'' :=
 ⟨fun i hi=>(h'.lo i hi).trans (h.lo i hi),fun c=>(h.g c).trans (h'.g c),fun c=>(h.l c).trans (h'.l c),h'.k.trans h.k⟩
theorem Eqv.swap {t j n:Nat} {d:Nat→Int} (htj:t<j) (hj:j<n):Eqv t n d (upd (upd d t (d j)) j (d t)):=by
 have et:upd (upd d t (d j)) j (d t) t=d j:=by unfold upd;rw[if_neg oq,if_pos rfl]
 have ej:upd (upd d t (d j)) j (d t) j=d t:=by unfold upd;rw[if_pos rfl]
 have eo:∀ i,i≠t→i≠j→upd (upd d t (d j)) j (d t) i=d i:=fun i h1 h2=>by unfold upd;rw[if_neg h2,if_neg h1]
 have key:∀ p:Int→Prop,(∀ i,t≤i→i<n→p (d i))↔(∀ i,t≤i→i<n→p (upd (upd d t (d j)) j (d t) i)):=fun p=>⟨fun H i h1 h2=>by
  by_cases h3:i=t
  ·subst h3;rw[et];exact H j oq hj
  ·by_cases h4:i=j
   ·subst h4;rw[ej];exact H t oq oq
   ·rw[eo i h3 h4];exact H i h1 h2,fun H i h1 h2=>by
  by_cases h3:i=t
  ·subst h3;have:=H j oq hj;rw[ej]at this;exact this
  ·by_cases h4:i=j
   ·subst h4;have:=H t oq oq;rw[et]at this;exact this
   ·have:=H i h1 h2;rw[eo i h3 h4]at this;exact this⟩
 refine⟨fun i hi=>eo i oq oq,fun c=>key (fun x=>c∣x),fun c=>key (fun x=>x≠0→x∣c),?_⟩
 have h1:=Q8m (n:=n) (k:=j) (d:=upd d t (d j)) (v:=d t) hj
 have h2:=Q8m (n:=n) (k:=t) (d:=d) (v:=d j) oq
 have e:upd d t (d j) j=d j:=by unfold upd;rw[if_neg oq]
 rw[e]at h1
 omega
theorem Q35 (x:Int):clearT x 0=none:=by unfold clearT;rw[if_pos rfl]
theorem Q4c {x y:Int} (hy:y≠0) (hx:x≠0) (h:x∣y):clearT x y=some (⟨1,0,-(y / x),1⟩,false):=by
 unfold clearT;rw[if_neg hy,if_pos ⟨hx,Int.emod_eq_zero_of_dvd h⟩]
theorem Q4b {x y:Int} (hy:y≠0) (h:¬x∣y):clearT x y=some (⟨(gcdF x y).2.1,(gcdF x y).2.2,-(y / (gcdF x y).1),x / (gcdF x y).1⟩,true):=by
 unfold clearT;rw[if_neg hy,if_neg (fun h'=>h (Int.dvd_of_emod_eq_zero h'.2))]

def DivM (n:Nat) (d:Nat→Int) (M:Int):Prop:=∀ i,i<n→d i≠0→d i∣M
theorem DivM.le {n:Nat} {d:Nat→Int} {M:Int} (h:DivM n d M) (hM:M≠0) {i:Nat} (hi:i<n):(d i).natAbs≤M.natAbs:=by
 by_cases h0:d i=0
 ·rw[h0];simp
 ·exact Nat.le_of_dvd oq (Int.natAbs_dvd_natAbs.2 (h i hi h0))
theorem Dg.sz {n:Nat} {S:Sm} {d:Nat→Int} {M:Int} (h:Dg n S d) (hd:DivM n d M) (hM:M≠0):Sz M.natAbs n n S.d:=fun i j hi hj=>by
 rw[h.eq i j hi hj]
 split
 ·exact hd.le hM hi
 ·simp

theorem Qho {l:List Int} {b:Nat}:(l.map fun x => -x).getD b 0 = -(l.getD b 0):=by
 rw[List.getD,List.getElem?_map,List.getD]
 cases l[b]?<;>rfl
theorem Q9i {r c t:Nat} {g:List (List Int)} (h:Rec r c g) (ht:t<r):Rec r c (negR t g):=h.set (by rw[List.length_map,h.at ht])
theorem Qgv {r c t:Nat} {g:List (List Int)} (h:Rec r c g):Rec r c (negC t g) :=
 ⟨by unfold negC; rw [List.length_map, h.len], fun x hx => by
  unfold negC at hx
  obtain⟨y,hy,rfl⟩:=List.mem_map.1 hx
  rw[List.length_set];exact h.row y hy⟩
theorem Dm.neg' {m n t:Nat} {S:Sm} (h:Dm m n S) (ht:t<m):Dm m n (S.neg t):=⟨Q9i h.u ht,Qgv h.ui,Q9i h.d ht,h.v,h.vi⟩
theorem Qi3 {r c t a b:Nat} {g:List (List Int)} (h:Rec r c g) (ht:t<r):gE (negR t g) a b=if a=t then -(gE g t b) else gE g a b:=by
 have hl:=h.len
 unfold gE negR
 rw[XH oq]
 by_cases e:a=t
 ·rw[if_pos e,if_pos e,Qho]
 ·rw[if_neg e,if_neg e]
theorem Qpm {r c t a b:Nat} {g:List (List Int)} (h:Rec r c g) (ht:t<c) (ha:a<r):gE (negC t g) a b=if b=t then -(gE g a t) else gE g a b:=by
 have h1:=h.at ha
 have hl:=h.len
 have e:(negC t g).getD a []=(g.getD a []).set t (-((g.getD a []).getD t 0)):=by
  unfold negC
  rw[List.getD,List.getElem?_map,List.getD,List.getElem?_eq_getElem (show a<g.length by omega)]
  rfl
 unfold gE
 rw[e,XH oq]
theorem Qk6 {B r c t:Nat} {g:List (List Int)} (h:Sz B r c g) (hR:Rec r c g) (ht:t<r):Sz B r c (negR t g):=fun a b ha hb=>by
 rw[Qi3 hR ht]
 split
 ·rw[Int.natAbs_neg];exact h t b ht hb
 ·exact h a b ha hb
theorem Qk7 {B r c t:Nat} {g:List (List Int)} (h:Sz B r c g) (hR:Rec r c g) (ht:t<c):Sz B r c (negC t g):=fun a b ha hb=>by
 rw[Qpm hR ht ha]
 split
 ·rw[Int.natAbs_neg];exact h a t ha ht
 ·exact h a b ha hb
theorem SzU.neg {B m n t:Nat} {S:Sm} (h:SzU B m n S) (hD:Dm m n S) (ht:t<m):SzU B m n (S.neg t):=⟨Qk6 h.u hD.u ht,Qk7 h.ui hD.ui ht,h.v,h.vi⟩
structure Shown (n:Nat) (d':Nat→Int) (r:Nat):Prop where
 le:r≤n
 p:∀ i,i<r→0<d' i
 z:∀ i,r≤i→i<n→d' i=0
 dv:∀ i j,i<j→j<r→d' i∣d' j

abbrev ME:=Nat→Nat→Int
def trE (E:ME):ME:=fun a b=>E b a
def m2 (E:ME) (a a' b b':Nat):Int:=E a b*E a' b'-E a b'*E a' b
def D3 (E:ME):Int:=E 0 0*(E 1 1*E 2 2-E 1 2*E 2 1)-E 0 1*(E 1 0*E 2 2-E 1 2*E 2 0)+E 0 2*(E 1 0*E 2 1-E 1 1*E 2 0)
def DvA (c:Int) (E:ME):Prop:=∀ a b,a<3→b<3→c∣E a b
def DvB (c:Int) (E:ME):Prop:=∀ a a' b b',a<3→a'<3→b<3→b'<3→c∣m2 E a a' b b'
structure Pres (E E':ME):Prop where
 a:∀ c,DvA c E→DvA c E'
 b:∀ c,DvB c E→DvB c E'
structure Rel3 (E E':ME):Prop where
 f:Pres E E'
 g:Pres E' E
 d:(D3 E').natAbs=(D3 E).natAbs
theorem Pres.refl (E:ME):Pres E E:=⟨fun _ h=>h,fun _ h=>h⟩
theorem Pres.trans {E F G:ME} (h:Pres E F) (k:Pres F G):Pres E G:=⟨fun c x=>k.a c (h.a c x),fun c x=>k.b c (h.b c x)⟩
theorem Rel3.refl (E:ME):Rel3 E E:=⟨Pres.refl E,Pres.refl E,rfl⟩
theorem Rel3.trans {E F G:ME} (h:Rel3 E F) (k:Rel3 F G):Rel3 E G:=⟨h.f.trans k.f,k.g.trans h.g,k.d.trans h.d⟩
theorem Qak {c:Int} {E:ME}:DvA c (trE E)↔DvA c E:=⟨fun h a b ha hb=>h b a hb ha,fun h a b ha hb=>h b a hb ha⟩
theorem Qof (E:ME) (a a' b b':Nat):m2 (trE E) a a' b b'=m2 E b b' a a':=by
 unfold m2 trE
 rw[Int.mul_comm (E b' a)]
theorem Qaj {c:Int} {E:ME}:DvB c (trE E)↔DvB c E:=⟨fun h a a' b b' ha ha' hb hb'=>by
 have:=h b b' a a' hb hb' ha ha'
 rwa [Qof]at this,fun h a a' b b' ha ha' hb hb'=>by rw[Qof];exact h b b' a a' hb hb' ha ha'⟩
theorem Qp4 (E:ME):D3 (trE E)=D3 E:=by
 unfold D3 trE
 grind
theorem Rel3.tr {E E':ME} (h:Rel3 (trE E) (trE E')):Rel3 E E' :=
 ⟨⟨fun c x=>Qak.1 (h.f.a c (Qak.2 x)),fun c x=>Qaj.1 (h.f.b c (Qaj.2 x))⟩,⟨fun c x=>Qak.1 (h.g.a c (Qak.2 x)),fun c x=>Qaj.1 (h.g.b c (Qaj.2 x))⟩,by have:=h.d;rwa [Qp4,Qp4]at this⟩
theorem Pres.of {E E':ME} (h:∀ a,a<3→∃ p q x y,p<3∧q<3∧∀ b,b<3→E' a b=x*E p b+y*E q b):Pres E E':=by
 refine⟨fun c H a b ha hb=>?_,fun c H a a' b b' ha ha' hb hb'=>?_⟩
 ·obtain⟨p,q,x,y,hp,hq,e⟩:=h a ha
  rw[e b hb]
  exact Int.dvd_add (Int.dvd_trans (H p b hp hb) (Int.dvd_mul_left ..)) (Int.dvd_trans (H q b hq hb) (Int.dvd_mul_left ..))
 ·obtain⟨p,q,x,y,hp,hq,e⟩:=h a ha
  obtain⟨r,s,z,w,hr,hs,e'⟩:=h a' ha'
  have k1:=H p r b b' hp hr hb hb'
  have k2:=H p s b b' hp hs hb hb'
  have k3:=H q r b b' hq hr hb hb'
  have k4:=H q s b b' hq hs hb hb'
  have eq:m2 E' a a' b b'=x*z*m2 E p r b b'+x*w*m2 E p s b b'+(y*z*m2 E q r b b'+y*w*m2 E q s b b'):=by
   unfold m2
   rw[e b hb,e b' hb',e' b hb,e' b' hb']
   grind
  rw[eq]
  exact Int.dvd_add (Int.dvd_add (Int.dvd_trans k1 (Int.dvd_mul_left ..)) (Int.dvd_trans k2 (Int.dvd_mul_left ..))) (Int.dvd_add (Int.dvd_trans k3 (Int.dvd_mul_left ..)) (Int.dvd_trans k4 (Int.dvd_mul_left ..)))
def RowOp (t i:Nat) (tn:Tn) (E E':ME):Prop:=∀ a b,a<3→b<3→E' a b=if a=i then tn.q (E t b) (E i b) else if a=t then tn.p (E t b) (E i b) else E a b
theorem RowOp.rel {t i:Nat} {tn:Tn} {E E':ME} (h:RowOp t i tn E E') (ht:t<3) (hi:i<3) (hti:t<i) (dt:tn.a*tn.d-tn.b*tn.c=1):Rel3 E E':=by
 refine⟨Pres.of fun a ha=>?_,Pres.of fun a ha=>?_,?_⟩
 ·by_cases e:a=i
  ·exact⟨t,i,tn.c,tn.d,ht,hi,fun b hb=>by rw[h a b ha hb,if_pos e];rfl⟩
  ·by_cases e':a=t
   ·exact⟨t,i,tn.a,tn.b,ht,hi,fun b hb=>by rw[h a b ha hb,if_neg e,if_pos e'];rfl⟩
   ·exact⟨a,a,1,0,ha,ha,fun b hb=>by rw[h a b ha hb,if_neg e,if_neg e'];omega⟩
 ·by_cases e:a=i
  ·refine⟨t,i,-tn.c,tn.a,ht,hi,fun b hb=>?_⟩
   rw[h t b ht hb,h i b hi hb,if_pos rfl,if_neg oq,if_pos rfl,e]
   unfold Tn.p Tn.q
   grind
  ·by_cases e':a=t
   ·refine⟨t,i,tn.d,-tn.b,ht,hi,fun b hb=>?_⟩
    rw[h t b ht hb,h i b hi hb,if_pos rfl,if_neg oq,if_pos rfl,e']
    unfold Tn.p Tn.q
    grind
   ·exact⟨a,a,1,0,ha,ha,fun b hb=>by rw[h a b ha hb,if_neg e,if_neg e'];omega⟩
 ·have h':∀ a b,a<3→b<3→E' a b=if a=i then tn.c*E t b+tn.d*E i b else if a=t then tn.a*E t b+tn.b*E i b else E a b:=h
  have e:D3 E'=D3 E:=by
   unfold D3
   rw[h' 0 0 dq dq,h' 0 1 dq dq,h' 0 2 dq dq,h' 1 0 dq dq,h' 1 1 dq dq,h' 1 2 dq dq,h' 2 0 dq dq,h' 2 1 dq dq,h' 2 2 dq dq]
   have:(t=0∧i=1)∨(t=0∧i=2)∨(t=1∧i=2):=by omega
   rcases this with ⟨rfl,rfl⟩|⟨rfl,rfl⟩|⟨rfl,rfl⟩
   ·simp only[if_pos,if_neg,Nat.zero_ne_one,Nat.one_ne_zero,reduceIte,show (2:Nat)≠1 by decide,show (2:Nat)≠0 by decide]
    generalize E 0 0=a1;generalize E 0 1=a2;generalize E 0 2=a3;generalize E 1 0=b1;generalize E 1 1=b2;generalize E 1 2=b3;generalize E 2 0=c1;generalize E 2 1=c2;generalize E 2 2=c3
    grind
   ·simp only[Nat.zero_ne_one,Nat.one_ne_zero,reduceIte,show (2:Nat)≠1 by decide,show (2:Nat)≠0 by decide,show (0:Nat)≠2 by decide,show (1:Nat)≠2 by decide]
    generalize E 0 0=a1;generalize E 0 1=a2;generalize E 0 2=a3;generalize E 1 0=b1;generalize E 1 1=b2;generalize E 1 2=b3;generalize E 2 0=c1;generalize E 2 1=c2;generalize E 2 2=c3
    grind
   ·simp only[Nat.zero_ne_one,Nat.one_ne_zero,reduceIte,show (2:Nat)≠1 by decide,show (2:Nat)≠0 by decide,show (0:Nat)≠2 by decide,show (1:Nat)≠2 by decide]
    generalize E 0 0=a1;generalize E 0 1=a2;generalize E 0 2=a3;generalize E 1 0=b1;generalize E 1 1=b2;generalize E 1 2=b3;generalize E 2 0=c1;generalize E 2 1=c2;generalize E 2 2=c3
    grind
  rw[e]
structure TurnP (x y:Int) (t:Tn) (ch:Bool):Prop where
 z:t.q x y=0
 nz:t.p x y≠0
 le:(t.p x y).natAbs≤x.natAbs
 ba:t.a.natAbs≤max 1 y.natAbs
 bb:t.b.natAbs≤x.natAbs
 bc:t.c.natAbs≤y.natAbs
 bd:t.d.natAbs≤x.natAbs
 f:ch=false→t.a=1∧t.b=0∧t.d=1∧x∣y
 h:ch=true→2*(t.p x y).natAbs≤x.natAbs
 dt:t.a*t.d-t.b*t.c=1
theorem Qc8 {x:Int} (hx:x≠0):TurnP x 0 ⟨1,0,0,1⟩ false:=by
 refine⟨by unfold Tn.q;dsimp only;omega,by unfold Tn.p;dsimp only;omega,by unfold Tn.p;dsimp only;omega,by dsimp only;omega,by dsimp only;omega,by dsimp only;omega,by dsimp only;omega,fun _=>⟨rfl,rfl,rfl,Int.dvd_zero _⟩,fun h=>(by cases h),by decide⟩
theorem Q8n {x y:Int} (hx:x≠0):(clearT x y=none∧y=0)∨∃ t ch,clearT x y=some (t,ch)∧TurnP x y t ch:=by
 by_cases hy:y=0
 ·subst hy;exact .inl ⟨Q35 x,rfl⟩
 ·refine .inr ?_
  by_cases hd:x∣y
  ·refine⟨_,_,Q4c hy hx hd,?_⟩
   obtain⟨q,rfl⟩:=hd
   have hq:q≠0:=fun e=>hy (by rw[e,Int.mul_zero])
   rw[Int.mul_ediv_cancel_left _ hx]
   have hn:q.natAbs≤(x*q).natAbs:=by rw[Int.natAbs_mul];exact Nat.le_mul_of_pos_left _ oq
   refine⟨by unfold Tn.q;dsimp only;grind,by unfold Tn.p;dsimp only;omega,by unfold Tn.p;dsimp only;omega,by dsimp only;omega,by dsimp only;omega,by dsimp only;omega,by dsimp only;omega,fun _=>⟨rfl,rfl,rfl,q,rfl⟩,fun h=>(by cases h),by dsimp only;omega⟩
  ·refine⟨_,_,Q4b hy hd,?_⟩
   have h:=gcdN hx hy
   generalize (gcdF x y).1=g at *
   generalize (gcdF x y).2.1=s at *
   generalize (gcdF x y).2.2=t at *
   have hg:=h.p
   have hb:=h.b
   obtain⟨x',rfl⟩:=h.dx
   obtain⟨y',rfl⟩:=h.dy
   have hs:=h.hs
   have ht:=h.ht
   rw[Int.mul_ediv_cancel_left _ oq,Int.mul_ediv_cancel_left _ oq]
   have hb1:s*x'+t*y'=1:=Int.eq_of_mul_eq_mul_left (a:=g) oq (by grind)
   have hgn:0<g.natAbs:=by omega
   have n1:=Nat.le_mul_of_pos_right s.natAbs hgn
   have n2:=Nat.le_mul_of_pos_right t.natAbs hgn
   have n3:y'.natAbs≤(g*y').natAbs:=by rw[Int.natAbs_mul];exact Nat.le_mul_of_pos_left _ hgn
   have n4:x'.natAbs≤(g*x').natAbs:=by rw[Int.natAbs_mul];exact Nat.le_mul_of_pos_left _ hgn
   have hx2:2*g.natAbs≤(g*x').natAbs:=by
    have h0:x'≠0:=fun e=>hx (by rw[e,Int.mul_zero])
    have hx1:x'.natAbs≠1:=fun h1=>hd (Int.mul_dvd_mul_left g (Int.natAbs_dvd.1 (by rw[h1];exact Int.one_dvd _)))
    rw[Int.natAbs_mul,Nat.mul_comm 2]
    exact Nat.mul_le_mul_left _ oq
   have e1:s*(g*x')+t*(g*y')=g:=hb
   refine⟨by unfold Tn.q;dsimp only;grind,by unfold Tn.p;dsimp only;rw[e1];omega,by unfold Tn.p;dsimp only;rw[e1];omega,by dsimp only;omega,by dsimp only;omega,by dsimp only;rw[Int.natAbs_neg];omega,by dsimp only;omega,fun h=>(by cases h),fun _=>by unfold Tn.p;dsimp only;rw[e1];omega,by dsimp only;grind⟩
structure OpA (t i:Nat) (E E':ME) (tn:Tn) (ch:Bool):Prop where
 tp:TurnP (E t t) (E i t) tn ch
 op:RowOp t i tn E E'
def SzE (B:Nat) (E:ME):Prop:=∀ a b,a<3→b<3→(E a b).natAbs≤B
theorem SzE.mono {B B':Nat} {E:ME} (h:SzE B E) (hB:B≤B'):SzE B' E:=fun a b ha hb=>Nat.le_trans (h a b ha hb) hB
theorem SzE.tr {B:Nat} {E:ME} (h:SzE B E):SzE B (trE E):=fun a b ha hb=>h b a hb ha

structure AnyP (t i:Nat) (E E':ME):Prop where
 rel:Rel3 E E'
 nz:E' t t≠0
 le:(E' t t).natAbs≤(E t t).natAbs
 z:∀ a,i≤a→a<3→E' a t=0
 o:∀ a b,a<i→a≠t→a<3→b<3→E' a b=E a b
 cz:∀ b,b<3→(∀ a,t≤a→a<3→E a b=0)→∀ a,t≤a→a<3→E' a b=0
theorem Qp5 {t:Nat} {E:ME} (h:E t t≠0):AnyP t 3 E E:=⟨Rel3.refl E,h,Nat.le_refl _,fun a h1 h2=>by omega,fun _ _ _ _ _ _=>rfl,fun _ _ h=>h⟩
theorem RowOp.cz {t i:Nat} {tn:Tn} {E E':ME} (h:RowOp t i tn E E') (hti:t≤i) (hi:i<3) {b:Nat} (hb:b<3) (h0:∀ a,t≤a→a<3→E a b=0) (a:Nat) (h1:t≤a) (h2:a<3):E' a b=0:=by
 rw[h a b h2 hb,h0 t (Nat.le_refl _) oq,h0 i hti hi,h0 a h1 h2]
 unfold Tn.p Tn.q
 simp
theorem AnyP.step {t i:Nat} {E E1 E':ME} {tn:Tn} {ch:Bool} (h:OpA t i E E1 tn ch) (k:AnyP t (i+1) E1 E') (hti:t<i) (hi:i<3):AnyP t i E E':=by
 have ht:t<3:=by omega
 have e1:E1 t t=tn.p (E t t) (E i t):=by rw[h.op t t ht ht,if_neg oq,if_pos rfl]
 have e2:E1 i t=0:=by rw[h.op i t hi ht,if_pos rfl];exact h.tp.z
 have e3:∀ a b,a≠i→a≠t→a<3→b<3→E1 a b=E a b:=fun a b h1 h2 ha hb=>by rw[h.op a b ha hb,if_neg h1,if_neg h2]
 refine⟨(h.op.rel ht hi hti h.tp.dt).trans k.rel,k.nz,Nat.le_trans k.le (by rw[e1];exact h.tp.le),fun a h1 h2=>?_,fun a b h1 h2 ha hb=>?_,fun b hb h0=>k.cz b hb (h.op.cz oq hi hb h0)⟩
 ·by_cases e:a=i
  ·subst e;rw[k.o a t oq oq h2 ht,e2]
  ·exact k.z a oq h2
 ·rw[k.o a b oq h2 ha hb,e3 a b oq h2 ha hb]
def Rq (t:Nat) (E:ME):Prop:=∀ b,b<3→b≠t→E t b=0
structure SameP (t i:Nat) (E E':ME):Prop where
 p:E' t t=E t t
 o:∀ a b,a<3→b<3→b≠t→E' a b=E a b
 dv:∀ a,i≤a→a<3→E t t∣E a t
theorem SameP.step {t i:Nat} {E E1 E':ME} {tn:Tn} (h:OpA t i E E1 tn false) (hq:Rq t E) (k:SameP t (i+1) E1 E') (hti:t<i) (hi:i<3):SameP t i E E':=by
 have ht:t<3:=by omega
 obtain⟨fa,fb,fd,fx⟩:=h.tp.f rfl
 have e1:E1 t t=E t t:=by
  rw[h.op t t ht ht,if_neg oq,if_pos rfl]
  unfold Tn.p
  rw[fa,fb];omega
 have eo:∀ a b,a<3→b<3→b≠t→E1 a b=E a b:=fun a b ha hb hbt=>by
  rw[h.op a b ha hb,hq b hb hbt]
  unfold Tn.p Tn.q
  rw[fa,fb,fd]
  by_cases e:a=i
  ·rw[if_pos e,e];omega
  ·rw[if_neg e]
   by_cases e':a=t
   ·rw[if_pos e',e',hq b hb hbt];omega
   ·rw[if_neg e']
 refine⟨k.p.trans e1,fun a b ha hb hbt=>(k.o a b ha hb hbt).trans (eo a b ha hb hbt),fun a h1 h2=>?_⟩
 by_cases e:a=i
 ·subst e;exact fx
 ·have:=k.dv a oq h2
  rw[e1,h.op a t h2 ht,if_neg e,if_neg oq]at this
  exact this
theorem OpA.sz {t i c e:Nat} {E E':ME} {tn:Tn} {ch:Bool} (h:OpA t i E E' tn ch) (ht:t<3) (hi:i<3) (hx:(E t t).natAbs≤2 ^ c) (hy:(E i t).natAbs≤2 ^ c) (hE:SzE (2 ^ e) E):SzE (2 ^ (e+(c+1))) E':=fun a b ha hb=>by
 have h1:1≤2 ^ c:=Nat.one_le_two_pow
 have hq:2*2 ^ c*2 ^ e=2 ^ (e+(c+1)):=by rw[Nat.pow_add,Nat.pow_succ];grind
 have tp:=h.tp
 have ba:=tp.ba
 have bb:=tp.bb
 have bc:=tp.bc
 have bd:=tp.bd
 rw[h.op a b ha hb, ← hq]
 split
 ·exact Q45 oq oq (hE t b ht hb) (hE i b hi hb)
 ·split
  ·exact Q45 oq oq (hE t b ht hb) (hE i b hi hb)
  ·exact Nat.le_trans (hE a b ha hb) (Wj h1)
structure Sx (e b:Nat) (S:Sm):Prop where
 dm:Dm 3 3 S
 d:SzE (2 ^ e) (gE S.d)
 u:SzU (2 ^ b) 3 3 S
theorem Sx.mono {e b e' b':Nat} {S:Sm} (h:Sx e b S) (he:e≤e') (hb:b≤b'):Sx e' b' S:=⟨h.dm,h.d.mono (Nat.pow_le_pow_right dq he),h.u.mono (Nat.pow_le_pow_right dq hb)⟩

theorem Qa2 (n:Nat):Sz 1 n n (oneL n):=fun i j hi hj=>by
 unfold gE oneL
 rw[List.getD,List.getD,List.getElem?_map,List.getElem?_range hi]
 simp only[Option.map_some,Option.getD_some]
 rw[List.getElem?_map,List.getElem?_range hj]
 simp only[Option.map_some,Option.getD_some]
 split
 ·decide
 ·decide
theorem Q57 (n:Nat):Rec n n (oneL n):=by
 refine⟨?_,fun x hx=>?_⟩
 ·unfold oneL;rw[List.length_map,List.length_range]
 ·unfold oneL at hx
  obtain⟨i,_,rfl⟩:=List.mem_map.1 hx
  rw[List.length_map,List.length_range]
theorem Qgk {m n:Nat} {a:List (List Int)} (h:Rec m n a):Dm m n (startS m n a):=⟨Q57 m,Q57 m,h,Q57 n,Q57 n⟩
theorem Qci (m n:Nat) (a:List (List Int)):SzU 1 m n (startS m n a):=⟨Qa2 m,Qa2 m,Qa2 n,Qa2 n⟩
end Go.Proofs.YtljmapfihjkafaaGreatDoor

namespace Go.Proofs.YtljmapfihjkafaaGreatDoor
open Go

theorem Q1b:∀ {n r:Nat} {f:Nat→Int},r≤n→smI (n+1) f=smI n (fun a=>f (sk r a))+f r
 | 0,r,f,h=>by
  obtain rfl:r=0:=by omega
  rfl
 | n + 1, r, f, h => by
  by_cases hr:r=n+1
  ·subst hr
   show smI (n+1) f+f (n+1)=_
   congr 1
   refine Qq fun i hi=>?_
   unfold sk
   rw[if_pos hi]
  ·show smI (n+1) f+f (n+1)=smI n (fun a=>f (sk r a))+f (sk r n)+f r
   rw[Q1b (n:=n) (r:=r) oq]
   have:sk r n=n+1:=by unfold sk;rw[if_neg oq]
   rw[this]
   omega
theorem Qct (b:Nat):sk 0 b=b+1:=by unfold sk;rw[if_neg (Nat.not_lt_zero b)]
end Go.Proofs.YtljmapfihjkafaaGreatDoor

namespace Go.Proofs.YtljmapfihjkafaaGreatDoor
open Go Go.RowKit

def rop (i k:Nat) (t:Tn) (E:Mi):Mi:=fun a b=>if a=k then t.q (E i b) (E k b) else if a=i then t.p (E i b) (E k b) else E a b
def tnO (x y:Int):Tn:=match clearT x y with|none=>⟨1,0,0,1⟩|some r=>r.1
def chO (x y:Int):Bool:=match clearT x y with|none=>false|some r=>r.2
theorem turnO {x y:Int} (hx:x≠0):TurnP x y (tnO x y) (chO x y):=by
 unfold tnO chO
 rcases Q8n (y:=y) hx with ⟨h,rfl⟩|⟨t,c,h,hp⟩
 ·rw[h];exact Qc8 hx
 ·rw[h];exact hp
theorem TurnP.dx {x y:Int} {t:Tn} {c:Bool} (h:TurnP x y t c):t.d*t.p x y=x:=by
 have h1:=h.z;have h2:=h.dt
 unfold Tn.q at h1;unfold Tn.p
 have:t.d*(t.a*x+t.b*y)=(t.a*t.d-t.b*t.c)*x+t.b*(t.c*x+t.d*y):=by grind
 rw[this,h1,h2];omega
theorem TurnP.dy {x y:Int} {t:Tn} {c:Bool} (h:TurnP x y t c):t.c*t.p x y = -y:=by
 have h1:=h.z;have h2:=h.dt
 unfold Tn.q at h1;unfold Tn.p
 have:t.c*(t.a*x+t.b*y)=t.a*(t.c*x+t.d*y)-(t.a*t.d-t.b*t.c)*y:=by grind
 rw[this,h1,h2];omega

def stp (i:Nat) (E:Mi):Mi:=rop 0 i (tnO (E 0 0) (E i 0)) E
def pas:Nat→Mi→Mi
 | 0,E=>E
 | k+1,E=>stp (k+1) (pas k E)
def chg (E:Mi) (k:Nat):Bool:=chO (pas k E 0 0) (pas k E (k+1) 0)
def cnC (E:Mi):Nat→Nat
 | 0=>0
 | k+1=>cnC E k+if chg E k then 1 else 0

theorem Xp {E:Mi}:∀ {k a:Nat},k<a→∀ b,pas k E a b=E a b
 | 0,_,_,_=>rfl
 | k+1,a,h,b=>by
  show stp (k+1) (pas k E) a b=_
  unfold stp rop
  rw[if_neg oq,if_neg oq,Xp oq]
theorem Za (E:Mi) (k b:Nat):pas (k+1) E 0 b=(tnO (pas k E 0 0) (E (k+1) 0)).p (pas k E 0 b) (E (k+1) b):=by
 show stp (k+1) (pas k E) 0 b=_
 unfold stp rop
 rw[if_neg oq,if_pos rfl]
 simp only[Xp (Nat.lt_succ_self k)]
theorem XT (E:Mi) (k b:Nat):pas (k+1) E (k+1) b=(tnO (pas k E 0 0) (E (k+1) 0)).q (pas k E 0 b) (E (k+1) b):=by
 show stp (k+1) (pas k E) (k+1) b=_
 unfold stp rop
 rw[if_pos rfl]
 simp only[Xp (Nat.lt_succ_self k)]
theorem Q56 {E:Mi} {k a:Nat} (h0:0<a):∀ {j},a≤k→j=k→∀ b,pas (j+1) E a b=pas j E a b:=fun h hj b=>by
 subst hj
 show stp (_+1) (pas _ E) a b=_
 unfold stp rop
 rw[if_neg oq,if_neg oq]
theorem Q9w {E:Mi} {a:Nat} (h0:0<a):∀ (d:Nat) (b:Nat),pas (a+d) E a b=pas a E a b
 | 0,_=>rfl
 | d+1,b=>by
  rw[← Q9w h0 d b]
  exact Q56 h0 (Nat.le_add_right a d) rfl b
theorem Qdz {E:Mi} {a k:Nat} (h0:0<a) (h:a≤k) (b:Nat):pas k E a b=pas a E a b:=by
 obtain⟨d,rfl⟩:∃ d,k=a+d:=⟨k-a,by omega⟩
 exact Q9w h0 d b
theorem Qjd (E:Mi) (k:Nat):chg E k=chO (pas k E 0 0) (E (k+1) 0):=by unfold chg;rw[Xp (Nat.lt_succ_self k)]
theorem Z9 {E:Mi} {k:Nat} (h:pas k E 0 0≠0):TurnP (pas k E 0 0) (E (k+1) 0) (tnO (pas k E 0 0) (E (k+1) 0)) (chg E k):=by
 rw[Qjd];exact turnO h
theorem Zv {E:Mi} (h:E 0 0≠0):∀ k,pas k E 0 0≠0
 | 0=>h
 | k+1=>by rw[Za];exact(Z9 (Zv h k)).nz
theorem YT {E:Mi} (h:E 0 0≠0) {k a:Nat} (h0:0<a) (ha:a≤k):pas k E a 0=0:=by
 rw[Qdz h0 ha]
 obtain⟨j,rfl⟩:∃ j,a=j+1:=⟨a-1,by omega⟩
 rw[XT];exact(Z9 (Zv h j)).z
theorem Q9y {E:Mi} (h:E 0 0≠0) (k:Nat):pas (k+1) E 0 0∣pas k E 0 0 :=
 ⟨(tnO (pas k E 0 0) (E (k+1) 0)).d,by rw[Za,Int.mul_comm];exact(Z9 (Zv h k)).dx.symm⟩
theorem XF {E:Mi} (h:E 0 0≠0):∀ k,pas k E 0 0∣E 0 0
 | 0=>Int.dvd_refl _
 | k+1=>Int.dvd_trans (Q9y h k) (XF h k)
theorem Q9x {E:Mi} (h:E 0 0≠0) {a:Nat} (h0:0<a):∀ {k},a≤k→pas k E 0 0∣E a 0
 | 0,hk=>by omega
 | k + 1, hk => by
  by_cases e:a=k+1
  ·subst e
   have h1:=(Z9 (Zv h k)).dy
   rw[← Za]at h1
   exact Int.dvd_neg.1 ⟨_,by rw[← h1,Int.mul_comm]⟩
  ·exact Int.dvd_trans (Q9y h k) (Q9x h h0 oq)
theorem Ys {E:Mi} (h:E 0 0≠0):∀ k,2 ^ cnC E k*(pas k E 0 0).natAbs≤(E 0 0).natAbs
 | 0=>by show 2 ^ 0*_≤_;rw[Nat.pow_zero,Nat.one_mul];exact Nat.le_refl _
 | k + 1 => by
  have ih:=Ys h k
  have ht:=Z9 (Zv h k)
  have hl:=ht.le
  rw[← Za]at hl
  show 2 ^ (cnC E k+_)*_≤_
  cases hc:chg E k with
  | false=>exact Nat.le_trans (Nat.mul_le_mul_left _ hl) ih
  | true =>
   have h2:=ht.h hc
   rw[← Za]at h2
   rw[if_pos rfl,Nat.pow_succ,Nat.mul_assoc]
   exact Nat.le_trans (Nat.mul_le_mul_left _ h2) ih

def wB (A X:Nat) (c:Nat):Nat:=c*A ^ (c-1)*X
theorem Qjy {A X:Nat} (hA:1≤A):∀ c,A*wB A X c+X≤wB A X (c+1)
 | 0=>by unfold wB;simp
 | c+1=>by
  unfold wB
  rw[Nat.add_sub_cancel,Nat.add_sub_cancel]
  have h1:A*((c+1)*A ^ c*X)=(c+1)*(A ^ (c+1)*X):=by rw[Nat.pow_succ];grind
  have h2:(c+1+1)*A ^ (c+1)*X=(c+1)*(A ^ (c+1)*X)+A ^ (c+1)*X:=by rw[Nat.mul_assoc,Nat.succ_mul]
  rw[h1,h2]
  exact Nat.add_le_add_left (Nat.le_mul_of_pos_left X (Nat.pow_pos oq)) _
theorem Qbz {A X c:Nat} (hA:1≤A):wB A X c≤wB A X (c+1) :=
 Nat.le_trans (Nat.le_trans (Nat.le_mul_of_pos_left _ oq) (Nat.le_add_right _ X)) (Qjy hA c)
theorem Qj9 {a b x y:Int} {A B X Y:Nat} (ha:a.natAbs≤A) (hb:b.natAbs≤B) (hx:x.natAbs≤X) (hy:y.natAbs≤Y):(a*x+b*y).natAbs≤A*X+B*Y:=by
 have h1:=Int.natAbs_add_le (a*x) (b*y)
 rw[Int.natAbs_mul,Int.natAbs_mul]at h1
 have h2:=Nat.mul_le_mul ha hx
 have h3:=Nat.mul_le_mul hb hy
 omega
structure PBd (m n A H M X e:Nat) (E:Mi):Prop where
 nz:E 0 0≠0
 a1:1≤A
 h1:1≤H
 x:H*M≤A ^ e*X
 h:(E 0 0).natAbs≤H
 a:∀ a,0<a→a<m→(E a 0).natAbs≤A
 m:∀ a b,0<a→a<m→0<b→b<n→(E a b).natAbs≤M
 u:∀ b,0<b→b<n→(E 0 b).natAbs≤wB A X e
theorem Qjz {A X Y e:Nat} (hA:1≤A) (hY:Y≤A ^ e*X) (c:Nat):A*wB A X (c+e)+Y≤wB A X (c+e+1):=by
 have hp:A ^ e*X≤A ^ (c+e)*X:=Nat.mul_le_mul_right _ (Nat.pow_le_pow_right hA oq)
 generalize c+e=j at *
 cases j with
 | zero=>unfold wB;rw[Nat.pow_zero]at hp;simp at hp ⊢;omega
 | succ j =>
  unfold wB
  rw[Nat.add_sub_cancel,Nat.add_sub_cancel]
  have h1:A*((j+1)*A ^ j*X)=(j+1)*(A ^ (j+1)*X):=by rw[Nat.pow_succ];grind
  have h2:(j+1+1)*A ^ (j+1)*X=(j+1)*(A ^ (j+1)*X)+A ^ (j+1)*X:=by rw[Nat.mul_assoc,Nat.succ_mul]
  rw[h1,h2]
  exact Nat.add_le_add_left (Nat.le_trans hY hp) _
theorem Q0s {E:Mi} (h:E 0 0≠0) (k:Nat):(pas k E 0 0).natAbs≤(E 0 0).natAbs :=
 Nat.le_trans (Nat.le_mul_of_pos_left _ (Nat.pow_pos dq)) (Ys h k)
theorem PBd.tn {m n A H M X e:Nat} {E:Mi} (h:PBd m n A H M X e E) {k:Nat} (hk:k+1<m) :
  (tnO (pas k E 0 0) (E (k+1) 0)).a.natAbs≤A∧(tnO (pas k E 0 0) (E (k+1) 0)).b.natAbs≤H∧(tnO (pas k E 0 0) (E (k+1) 0)).c.natAbs≤A∧(tnO (pas k E 0 0) (E (k+1) 0)).d.natAbs≤H:=by
 have ht:=Z9 (k:=k) (Zv h.nz k)
 have h1:=Q0s h.nz k
 have h2:=h.h
 have h3:=h.a (k+1) oq hk
 have h4:=h.a1
 have h5:=h.h1
 exact⟨Nat.le_trans ht.ba oq,Nat.le_trans ht.bb oq,Nat.le_trans ht.bc h3,Nat.le_trans ht.bd oq⟩
def rIx (E:Mi) (e k:Nat):Nat:=if cnC E k=k then k+e else cnC E k+e+1
theorem YX (E:Mi):∀ k,cnC E k≤k
 | 0=>Nat.le_refl _
 | k+1=>by have:=YX E k;show cnC E k+(if chg E k then 1 else 0)≤k+1;split<;>omega
theorem PBd.sz {m n A H M X e:Nat} {E:Mi} (h:PBd m n A H M X e E) {b:Nat} (hb0:0<b) (hb:b<n):∀ k,k<m →
  (pas k E 0 b).natAbs≤wB A X (cnC E k+e)∧∀ a,0<a→a≤k→(pas k E a b).natAbs≤wB A X (rIx E e k)
 | 0,_=>⟨by show _≤wB _ _ (0+e);rw[Nat.zero_add];exact h.u b hb0 hb,fun a h0 h1=>by omega⟩
 | k + 1, hk => by
  obtain⟨iu,ir⟩:=PBd.sz h hb0 hb k oq
  obtain⟨ta,tb,tc,td⟩:=h.tn hk
  have ht:=Z9 (k:=k) (Zv h.nz k)
  have hz:=h.m (k+1) b oq hk hb0 hb
  have hs:=Qjz h.a1 h.x (cnC E k)
  have e1:cnC E (k+1)=cnC E k+if chg E k then 1 else 0:=rfl
  have hle:=YX E k
  have hrow:(pas (k+1) E (k+1) b).natAbs≤wB A X (cnC E k+e+1):=by
   rw[XT]
   unfold Tn.q
   exact Nat.le_trans (Qj9 tc td iu hz) hs
  have hold:∀ a,0<a→a≤k→(pas (k+1) E a b).natAbs≤wB A X (rIx E e k):=fun a h0 h1=>by
   rw[Q56 h0 (k:=k) h1 rfl];exact ir a h0 h1
  have hm:=fun c=>Qbz (X:=X) (c:=c) h.a1
  cases hc:chg E k with
  | false =>
   rw[hc]at e1
   have e1:cnC E (k+1)=cnC E k:=by rw[e1];rfl
   have e2:rIx E e (k+1)=cnC E k+e+1:=by unfold rIx;rw[if_neg oq,e1]
   refine⟨?_,fun a h0 h1=>?_⟩
   ·rw[Za,e1]
    unfold Tn.p
    obtain⟨f1,f2,_⟩:=ht.f hc
    rw[f1,f2,Int.one_mul,Int.zero_mul,Int.add_zero]
    exact iu
   ·rw[e2]
    by_cases ea:a=k+1
    ·subst ea;exact hrow
    ·refine Nat.le_trans (hold a h0 oq) ?_
     unfold rIx
     split
     ·rename_i h2;have:=hm (cnC E k+e);rw[show k+e=cnC E k+e by omega];exact this
     ·exact Nat.le_refl _
  | true =>
   rw[hc,if_pos rfl]at e1
   refine⟨?_,fun a h0 h1=>?_⟩
   ·rw[Za,e1,show cnC E k+1+e=cnC E k+e+1 by omega]
    unfold Tn.p
    exact Nat.le_trans (Qj9 ta tb iu hz) hs
   ·by_cases h2:cnC E k=k
    ·have e2:rIx E e (k+1)=k+e+1:=by unfold rIx;rw[e1,if_pos oq];omega
     rw[e2]
     by_cases ea:a=k+1
     ·subst ea;rw[h2]at hrow;exact hrow
     ·refine Nat.le_trans (hold a h0 oq) ?_
      unfold rIx
      rw[if_pos h2]
      exact hm _
    ·have e2:rIx E e (k+1)=cnC E k+e+1+1:=by unfold rIx;rw[e1,if_neg oq];omega
     rw[e2]
     by_cases ea:a=k+1
     ·subst ea;exact Nat.le_trans hrow (hm _)
     ·refine Nat.le_trans (hold a h0 oq) ?_
      unfold rIx
      rw[if_neg h2]
      exact hm _

def tvc (i k:Nat) (t:Tn) (y:Nat→Int):Nat→Int:=fun a=>if a=k then -t.b*y i+t.a*y k else if a=i then t.d*y i + -t.c*y k else y a
theorem Qco:∀ {m i k:Nat} {f g:Nat→Int},i<k→k<m→(∀ a,a<m→a≠i→a≠k→f a=g a)→f i+f k=g i+g k→smI m f=smI m g
 | 0,_,_,_,_,_,h,_,_=>by omega
 | m + 1, i, k, f, g, hik, hk, h, he => by
  show smI m f+f m=smI m g+g m
  by_cases e:k=m
  ·subst e
   have h1:∀ d,i+1+d≤k→smI (i+1+d) f-smI (i+1+d) g=f i-g i:=by
    intro d
    induction d with
    | zero =>
     intro _
     show smI i f+f i-(smI i g+g i)=_
     rw[Qq (g:=g) fun a ha=>h a oq oq oq]
     omega
    | succ d ih =>
     intro hd
     have:=ih oq
     show smI (i+1+d) f+f (i+1+d)-(smI (i+1+d) g+g (i+1+d))=_
     rw[h (i+1+d) oq oq oq]
     omega
   have h2:=h1 (k-(i+1)) oq
   rw[show i+1+(k-(i+1))=k by omega]at h2
   omega
  ·rw[Qco hik oq (fun a ha=>h a oq) he,h m oq oq oq]
theorem Qc7 {m i k:Nat} {t:Tn} {y:Nat→Int} {E:Mi} {b:Nat} (hik:i<k) (hk:k<m) (hd:t.a*t.d-t.b*t.c=1) :
  smI m (fun a=>tvc i k t y a*rop i k t E a b)=smI m fun a=>y a*E a b:=by
 refine Qco hik hk (fun a _ h1 h2=>?_) ?_
 ·unfold tvc rop
  rw[if_neg h2,if_neg h2,if_neg h1,if_neg h1]
 ·unfold tvc rop Tn.p Tn.q
  have hne:i≠k:=by omega
  simp only[if_neg hne,if_true]
  have:(t.d*y i + -t.c*y k)*(t.a*E i b+t.b*E k b)+(-t.b*y i+t.a*y k)*(t.c*E i b+t.d*E k b)=(t.a*t.d-t.b*t.c)*(y i*E i b+y k*E k b):=by grind
  rw[this,hd,Int.one_mul]

def Indt (k m:Nat) (Y:Nat→Nat→Int):Prop:=∀ c:Nat→Int,(∀ b,b<m→(2:Int)∣smI k fun j=>c j*Y j b)→∀ j,j<k→(2:Int)∣c j
theorem Qeg:∀ {m k:Nat} {Y:Nat→Nat→Int},Indt k m Y→k≤m
 | 0,k,Y,h=>by
  refine Nat.le_of_not_lt fun hk=>?_
  have:=h (fun _=>1) (fun b hb=>by omega) 0 hk
  omega
 | m + 1, k, Y, h => by
  by_cases hA:∀ j,j<k→(2:Int)∣Y j m
  ·refine Nat.le_succ_of_le (Qeg (m:=m) (Y:=Y) fun c hc=>h c fun b hb=>?_)
   by_cases e:b=m
   ·subst e
    clear hc h
    induction k with
    | zero=>exact Int.dvd_zero _
    | succ k ih=>exact Int.dvd_add (ih fun j hj=>hA j oq) (Int.dvd_mul_of_dvd_right (hA k oq))
   ·exact hc b oq
  ·obtain⟨r,hr,ho⟩:∃ r,r<k∧¬(2:Int)∣Y r m:=by
    refine Decidable.byContradiction fun hn=>hA fun j hj=>?_
    refine Decidable.byContradiction fun h2=>hn ⟨j,hj,h2⟩
   obtain⟨n,rfl⟩:∃ n,k=n+1:=⟨k-1,by omega⟩
   refine Nat.succ_le_succ (Qeg (m:=m) (Y:=fun j b=>Y (sk r j) b+Y (sk r j) m*Y r b) fun c hc=>?_)
   let s:Int:=smI n fun j=>c j*Y (sk r j) m
   let c':Nat→Int:=fun j=>if j=r then s else c (unsk r j)
   have hu:∀ j,unsk r (sk r j)=j:=fun j=>by
    unfold unsk sk
    by_cases h1:j<r
    ·simp only[if_pos h1]
    ·simp only[if_neg h1,if_neg (show ¬j+1<r by omega)];omega
   have hne:∀ j,sk r j≠r:=fun j=>by unfold sk;split<;>omega
   have hcs:∀ j,c' (sk r j)=c j:=fun j=>by show (if sk r j=r then s else c (unsk r (sk r j)))=c j;rw[if_neg (hne j),hu]
   have hcr:c' r=s:=if_pos rfl
   have hsum:∀ b,(smI (n+1) fun j=>c' j*Y j b)=(smI n fun j=>c j*Y (sk r j) b)+s*Y r b:=fun b=>by
    rw[Q1b (r:=r) oq,hcr,Qq (g:=fun j=>c j*Y (sk r j) b) fun j _=>by rw[hcs]]
   have hsum2:∀ b,(smI n fun j=>c j*(Y (sk r j) b+Y (sk r j) m*Y r b))=(smI n fun j=>c j*Y (sk r j) b)+s*Y r b:=fun b=>by
    rw[Qq (g:=fun j=>c j*Y (sk r j) b+c j*Y (sk r j) m*Y r b) fun j _=>by grind,ZS,XP]
   have hall:=h c' fun b hb=>by
    rw[hsum b]
    by_cases e:b=m
    ·subst e
     show (2:Int)∣s+s*Y r b
     obtain⟨q,hq⟩:∃ q,Y r b=2*q+1:=⟨Y r b / 2,by omega⟩
     exact⟨s*(q+1),by rw[hq];grind⟩
    ·rw[← hsum2 b];exact hc b oq
   intro j hj
   have:=hall (sk r j) (by unfold sk;split<;>omega)
   rw[hcs]at this
   exact this
theorem Qja {k m i l:Nat} {t:Tn} {Y:Nat→Nat→Int} (h:Indt k m Y) (hil:i<l) (hl:l<m) (hd:t.a*t.d-t.b*t.c=1):Indt k m fun j=>tvc i l t (Y j):=fun c hc=>h c fun b hb=>by
 have e1:=hc i oq
 have e2:=hc l hl
 have hne:i≠l:=by omega
 unfold tvc at e1 e2
 simp only[if_neg hne,if_true]at e1 e2
 have s1:(smI k fun j=>c j*(t.d*Y j i + -t.c*Y j l))=t.d*(smI k fun j=>c j*Y j i) + -t.c*smI k fun j=>c j*Y j l:=by
  rw[← QI, ← QI, ← ZS];exact Qq fun j _=>by grind
 have s2:(smI k fun j=>c j*(-t.b*Y j i+t.a*Y j l)) = -t.b*(smI k fun j=>c j*Y j i)+t.a*smI k fun j=>c j*Y j l:=by
  rw[← QI, ← QI, ← ZS];exact Qq fun j _=>by grind
 rw[s1]at e1
 rw[s2]at e2
 generalize hP:(smI k fun j=>c j*Y j i)=P at *
 generalize hQ:(smI k fun j=>c j*Y j l)=Q at *
 have eP:P=t.a*(t.d*P + -t.c*Q)+t.c*(-t.b*P+t.a*Q):=by
  have:t.a*(t.d*P + -t.c*Q)+t.c*(-t.b*P+t.a*Q)=(t.a*t.d-t.b*t.c)*P:=by grind
  rw[this,hd];omega
 have eQ:Q=t.b*(t.d*P + -t.c*Q)+t.d*(-t.b*P+t.a*Q):=by
  have:t.b*(t.d*P + -t.c*Q)+t.d*(-t.b*P+t.a*Q)=(t.a*t.d-t.b*t.c)*Q:=by grind
  rw[this,hd];omega
 by_cases h1:b=i
 ·subst h1
  rw[hP,eP]
  exact Int.dvd_add (Int.dvd_mul_of_dvd_right e1) (Int.dvd_mul_of_dvd_right e2)
 ·by_cases h2:b=l
  ·subst h2
   rw[hQ,eQ]
   exact Int.dvd_add (Int.dvd_mul_of_dvd_right e1) (Int.dvd_mul_of_dvd_right e2)
  ·have:=hc b hb
   unfold tvc at this
   simp only[if_neg h1,if_neg h2]at this
   exact this
theorem Qhz {k m:Nat} {Y:Nat→Nat→Int} (h:Indt k m Y) (hm:0<m) (he:∀ j,j<k→(2:Int)∣Y j 0):Indt (k+1) m fun j=>if j=k then unit 0 else Y j:=fun c hc=>by
 have hs:∀ b,(smI (k+1) fun j=>c j*(if j=k then unit 0 else Y j) b)=(smI k fun j=>c j*Y j b)+c k*unit 0 b:=fun b=>by
  show smI k _+c k*(if k=k then unit 0 else Y k) b=_
  rw[if_pos rfl,Qq (g:=fun j=>c j*Y j b) fun j hj=>by rw[if_neg oq]]
 have h0:=hc 0 hm
 rw[hs]at h0
 have he':(2:Int)∣smI k fun j=>c j*Y j 0:=by
  clear h hc hs h0
  induction k with
  | zero=>exact Int.dvd_zero _
  | succ k ih=>exact Int.dvd_add (ih fun j hj=>he j oq) (Int.dvd_mul_of_dvd_right (he k oq))
 have hk:(2:Int)∣c k:=by
  have e:unit 0 0=(1:Int):=if_pos rfl
  rw[e,Int.mul_one]at h0
  exact(Int.dvd_iff_dvd_of_dvd_add h0).1 he'
 have hall:=h c fun b hb=>by
  have:=hc b hb
  rw[hs]at this
  exact(Int.dvd_iff_dvd_of_dvd_add this).2 (Int.dvd_mul_of_dvd_left hk)
 intro j hj
 by_cases e:j=k
 ·subst e;exact hk
 ·exact hall j oq
theorem Qlp {m:Nat} (hm:0<m):Indt 1 m fun _=>unit 0:=fun c hc j hj=>by
 have:=hc 0 hm
 obtain rfl:j=0:=by omega
 have e:unit 0 0=(1:Int):=if_pos rfl
 have e2:(smI 1 fun j=>c j*unit 0 0)=c 0:=by show (0:Int)+c 0*unit 0 0=c 0;rw[e];omega
 rw[e2]at this
 exact this

def rsum (m:Nat) (y:Nat→Int) (E:Mi) (b:Nat):Int:=smI m fun a=>y a*E a b
def Cln (n:Nat) (E:Mi):Prop:=∀ b,0<b→b<n→E 0 b=0
theorem Qd4 {m:Nat} (hm:0<m) {y:Nat→Int} {E:Mi} (hy:∀ a,a<m→y a=unit 0 a) (b:Nat):rsum m y E b=E 0 b:=by
 unfold rsum
 rw[Qq (g:=fun a=>E a b*unit 0 a) fun a ha=>by rw[hy a ha,Int.mul_comm]]
 rw[Zt hm fun a ha h0=>by unfold unit;rw[if_neg (fun e=>h0 e.symm),Int.mul_zero]]
 unfold unit;rw[if_pos rfl,Int.mul_one]
def tvp (E:Mi):Nat→(Nat→Int)→Nat→Int
 | 0,y=>y
 | k+1,y=>tvc 0 (k+1) (tnO (pas k E 0 0) (E (k+1) 0)) (tvp E k y)
theorem Q6a (E:Mi) (k:Nat):pas (k+1) E=rop 0 (k+1) (tnO (pas k E 0 0) (E (k+1) 0)) (pas k E):=by
 show rop 0 (k+1) (tnO (pas k E 0 0) (pas k E (k+1) 0)) (pas k E)=_
 simp only[Xp (Nat.lt_succ_self k)]
theorem Q7t {m:Nat} {E:Mi} (h:E 0 0≠0) (y:Nat→Int) (b:Nat):∀ k,k<m→rsum m (tvp E k y) (pas k E) b=rsum m y E b
 | 0,_=>rfl
 | k+1,hk=>by
  rw[← Q7t h y b k oq,Q6a]
  exact Qc7 oq hk (Z9 (Zv h k)).dt
theorem Qc5 {m q:Nat} {E:Mi} (h:E 0 0≠0) {Y:Nat→Nat→Int} (hY:Indt q m Y):∀ k,k<m→Indt q m fun j=>tvp E k (Y j)
 | 0,_=>hY
 | k+1,hk=>Qja (Qc5 h hY k oq) oq hk (Z9 (Zv h k)).dt

def TwoP (D h:Int):Prop:=∃ v:Nat,D=2 ^ v∧D∣h∧¬2*D∣h
theorem Q7s:∀ (n:Nat) (h:Int),h≠0→h.natAbs≤n→∃ D,TwoP D h
 | 0,h,h0,hn=>by omega
 | n + 1, h, h0, hn => by
  by_cases h2:(2:Int)∣h
  ·obtain⟨x,rfl⟩:=h2
   obtain⟨D,v,rfl,h3,h4⟩:=Q7s n x oq oq
   refine⟨_,v+1,rfl,?_,?_⟩
   ·rw[Int.pow_succ,Int.mul_comm];exact Int.mul_dvd_mul_left 2 h3
   ·intro h5
    rw[Int.pow_succ,Int.mul_comm (2 ^ v) 2]at h5
    exact h4 (Int.dvd_of_mul_dvd_mul_left (a:=2) oq h5)
  ·exact⟨1,0,rfl,Int.one_dvd _,fun h5=>h2 (by rw[Int.mul_one]at h5;exact h5)⟩
theorem Q43:∀ (v:Nat) (x g:Int),¬(2:Int)∣x→(2:Int) ^ v∣x*g→(2:Int) ^ v∣g
 | 0,_,g,_,_=>by rw[Int.pow_zero];exact Int.one_dvd g
 | v + 1, x, g, hx, h => by
  have h1:(2:Int)∣x*g:=Int.dvd_trans ⟨2 ^ v,by rw[Int.pow_succ,Int.mul_comm]⟩ h
  have h2:(2:Int)∣g:=by
   obtain⟨q,hq⟩:∃ q,x=2*q+1:=⟨x / 2,by omega⟩
   rw[hq]at h1
   have:(2*q+1)*g=2*(q*g)+g:=by grind
   rw[this]at h1
   omega
  obtain⟨g',rfl⟩:=h2
  rw[Int.pow_succ,Int.mul_comm]
  refine Int.mul_dvd_mul_left 2 (Q43 v x g' hx ?_)
  rw[Int.pow_succ,Int.mul_comm (2 ^ v) 2,show x*(2*g')=2*(x*g') by grind]at h
  exact Int.dvd_of_mul_dvd_mul_left oq h
theorem TwoP.down {D D' h g:Int} (h1:TwoP D h) (h2:TwoP D' g) (hg:g∣h):D'∣D:=by
 obtain⟨v,rfl,h3,h4⟩:=h1
 obtain⟨w,rfl,h5,h6⟩:=h2
 by_cases hw:w≤v
 ·obtain⟨d,rfl⟩:∃ d,v=w+d:=⟨v-w,by omega⟩
  exact⟨2 ^ d,by rw[Int.pow_add]⟩
 ·obtain⟨d,rfl⟩:∃ d,w=v+1+d:=⟨w-(v+1),by omega⟩
  refine absurd (Int.dvd_trans ⟨2 ^ d,?_⟩ (Int.dvd_trans h5 hg)) h4
  rw[Int.pow_add,Int.pow_succ,Int.mul_comm (2 ^ v) 2]
theorem TwoP.even {D h g y:Int} (h1:TwoP D h) (hh:∃ f,h=2*f*g) (hd:D∣y*g):(2:Int)∣y:=by
 obtain⟨v,rfl,h3,h4⟩:=h1
 refine Decidable.byContradiction fun hy=>h4 ?_
 obtain⟨f,rfl⟩:=hh
 obtain⟨z,hz⟩:=Q43 v y g hy hd
 exact⟨f*z,by rw[hz];grind⟩

def Famt (q m n:Nat) (D:Int) (E:Mi):Prop:=q=0∨∃ Y,Indt (q+1) m Y∧∀ j,j≤q→(∀ a,a<m→Y j a=unit 0 a)∨∀ b,b<n→D∣rsum m (Y j) E b
theorem Famt.le {q m n:Nat} {D:Int} {E:Mi} (h:Famt q m n D E) (hm:0<m):q+1≤m:=by
 rcases h with rfl|⟨Y,hY,_⟩
 ·omega
 ·exact Qeg hY
theorem Famt.all {q m n:Nat} {D:Int} {E:Mi} (h:Famt q m n D E) (hm:0<m) (hc:Cln n E) (hD:D∣E 0 0):∃ Y,Indt (q+1) m Y∧∀ j,j≤q→∀ b,b<n→D∣rsum m (Y j) E b:=by
 have hu:∀ y:Nat→Int,(∀ a,a<m→y a=unit 0 a)→∀ b,b<n→D∣rsum m y E b:=fun y hy b hb=>by
  rw[Qd4 hm hy]
  by_cases e:b=0
  ·subst e;exact hD
  ·rw[hc b oq hb];exact Int.dvd_zero _
 rcases h with rfl|⟨Y,hY,h1⟩
 ·exact⟨fun _=>unit 0,Qlp hm,fun j _=>hu _ fun a _=>rfl⟩
 ·exact⟨Y,hY,fun j hj=>(h1 j hj).elim (hu _) id⟩
theorem Qer {q m n:Nat} {D D':Int} {E:Mi} (h:Famt q m n D E) (hm:0<m) (hc:Cln n E) (h0:E 0 0≠0) (hD:TwoP D (E 0 0)) (hD':TwoP D' (pas (m-1) E 0 0)):Famt q m n D' (pas (m-1) E)∧((∃ f,E 0 0=2*f*pas (m-1) E 0 0)→0<n→Famt (q+1) m n D' (pas (m-1) E)):=by
 obtain⟨Y,hY,h1⟩:=h.all hm hc (by obtain⟨v,_,h,_⟩:=hD;exact h)
 have hdv:=hD.down hD' (XF h0 (m-1))
 have hT:=Qc5 h0 hY (m-1) oq
 have h2:∀ j,j≤q→∀ b,b<n→D∣rsum m (tvp E (m-1) (Y j)) (pas (m-1) E) b:=fun j hj b hb=>by
  rw[Q7t h0 _ _ _ oq];exact h1 j hj b hb
 refine⟨.inr ⟨_,hT,fun j hj=>.inr fun b hb=>Int.dvd_trans hdv (h2 j hj b hb)⟩,fun he hn=>.inr ⟨_,Qhz hT hm fun j hj=>?_,fun j hj=>?_⟩⟩
 ·refine hD.even he ?_
  have:=h2 j oq 0 hn
  have e:rsum m (tvp E (m-1) (Y j)) (pas (m-1) E) 0=tvp E (m-1) (Y j) 0*pas (m-1) E 0 0 :=
   Zt (f:=fun a=>tvp E (m-1) (Y j) a*pas (m-1) E a 0) hm fun a ha h3=>by
    show tvp E (m-1) (Y j) a*pas (m-1) E a 0=0
    rw[YT h0 oq oq,Int.mul_zero]
  rw[e]at this
  exact this
 ·by_cases e:j=q+1
  ·left
   intro a _
   rw[if_pos e]
  ·right
   rw[if_neg e]
   exact fun b hb=>Int.dvd_trans hdv (h2 j oq b hb)
theorem WG {E:Mi} {m:Nat} {P:(Nat→Int)→Prop} (hP:∀ (x y:Int) (f g:Nat→Int),P f→P g→P fun b=>x*f b+y*g b) (h:∀ a,a<m→P (E a)):∀ k,k<m→∀ a,a<m→P (pas k E a)
 | 0,_,a,ha=>h a ha
 | k + 1, hk, a, ha => by
  have ih:=WG hP h k oq
  rw[Q6a]
  by_cases e1:a=k+1
  ·have:(rop 0 (k+1) (tnO (pas k E 0 0) (E (k+1) 0)) (pas k E)) a=fun b=>(tnO (pas k E 0 0) (E (k+1) 0)).c*pas k E 0 b+(tnO (pas k E 0 0) (E (k+1) 0)).d*pas k E (k+1) b:=by
    funext b;unfold rop;rw[if_pos e1];rfl
   rw[this];exact hP _ _ _ _ (ih 0 oq) (ih (k+1) hk)
  ·by_cases e2:a=0
   ·have:(rop 0 (k+1) (tnO (pas k E 0 0) (E (k+1) 0)) (pas k E)) a=fun b=>(tnO (pas k E 0 0) (E (k+1) 0)).a*pas k E 0 b+(tnO (pas k E 0 0) (E (k+1) 0)).b*pas k E (k+1) b:=by
     funext b;unfold rop;rw[if_neg e1,if_pos e2];rfl
    rw[this];exact hP _ _ _ _ (ih 0 oq) (ih (k+1) hk)
   ·have:(rop 0 (k+1) (tnO (pas k E 0 0) (E (k+1) 0)) (pas k E)) a=pas k E a:=by
     funext b;unfold rop;rw[if_neg e1,if_neg e2]
    rw[this];exact ih a ha
theorem Qlw {p m n:Nat} {D D':Int} {E:Mi} (h:Famt p n m D (tr E)) (hm:0<m) (hdv:D'∣D):Famt p n m D' (tr (pas (m-1) E)):=by
 rcases h with h|⟨Z,hZ,h1⟩
 ·exact .inl h
 ·refine .inr ⟨Z,hZ,fun j hj=>(h1 j hj).imp id fun h2 a ha=>?_⟩
  have hc:=WG (E:=E) (m:=m) (P:=fun f=>D∣smI n fun b=>Z j b*f b) (fun x y f g hf hg=>by
   have:(smI n fun b=>Z j b*(x*f b+y*g b))=x*(smI n fun b=>Z j b*f b)+y*smI n fun b=>Z j b*g b:=by
    rw[← QI, ← QI, ← ZS];exact Qq fun b _=>by grind
   show D∣smI n fun b=>Z j b*(x*f b+y*g b)
   rw[this]
   exact Int.dvd_add (Int.dvd_mul_of_dvd_right hf) (Int.dvd_mul_of_dvd_right hg)) (fun a ha=>h2 a ha) (m-1) oq a ha
  exact Int.dvd_trans hdv hc

def DR (i n:Nat) (D:Int) (E:Mi):Prop:=∀ a,0<a→a≤i→∀ b,0<b→b<n→D∣E a b
theorem DR.row {i n:Nat} {D:Int} {E:Mi} (h:DR i n D E) (hc:Cln n E):∀ k,DR i n D (pas k E)∧(k≤i→∀ b,0<b→b<n→D∣pas k E 0 b)
 | 0=>⟨h,fun _ b h0 hb=>by show D∣E 0 b;rw[hc b h0 hb];exact Int.dvd_zero _⟩
 | k + 1 => by
  obtain⟨i1,i2⟩:=DR.row h hc k
  refine⟨fun a h0 ha b hb0 hb=>?_,fun hk b hb0 hb=>?_⟩
  ·by_cases e:a=k+1
   ·subst e
    rw[XT]
    exact Int.dvd_add (Int.dvd_mul_of_dvd_right (i2 oq b hb0 hb)) (Int.dvd_mul_of_dvd_right (h (k+1) h0 ha b hb0 hb))
   ·rw[Q6a];unfold rop;rw[if_neg e,if_neg oq];exact i1 a h0 ha b hb0 hb
  ·rw[Za]
   exact Int.dvd_add (Int.dvd_mul_of_dvd_right (i2 oq b hb0 hb)) (Int.dvd_mul_of_dvd_right (h (k+1) oq hk b hb0 hb))
theorem Qhg {E:Mi} {n a:Nat} {D:Int} (h:∀ b,b<n→D∣E b a):∀ k,k<n→∀ b,b<n→D∣pas k E b a:=fun k hk b hb =>
 WG (E:=E) (m:=n) (P:=fun f=>D∣f a) (fun _ _ _ _ hf hg=>Int.dvd_add (Int.dvd_mul_of_dvd_right hf) (Int.dvd_mul_of_dvd_right hg)) h k hk b hb
theorem DR.col {i m n:Nat} {D:Int} {E:Mi} (h:DR i n D E) (hi:i<m) (hc:Cln m (tr E)) {k:Nat} (hk:k<n):DR i n D (tr (pas k (tr E))):=fun a h0 ha b hb0 hb=>by
 refine Qhg (E:=tr E) (a:=a) (fun b' hb'=>?_) k hk b hb
 show D∣E a b'
 by_cases e:b'=0
 ·subst e;rw[show E a 0=tr E 0 a from rfl,hc a h0 oq];exact Int.dvd_zero _
 ·exact h a h0 ha b' oq hb'
theorem DR.spoil {i m n:Nat} {h:Int} {E:Mi} (hd:DR (i-1) n h E) (h0:0<i) (hi:i<m) (he:∀ b,b<n→h∣E 0 b-E i b) (hc:Cln m (tr E)) {k:Nat} (hk:k<n) (hz:∀ b,0<b→b<n→pas k (tr E) b 0=0):DR i n h (tr (pas k (tr E))):=fun a ha0 ha b hb0 hb=>by
 by_cases e:a=i
 ·subst e
  have h1:=WG (E:=tr E) (m:=n) (P:=fun f=>h∣f 0-f a) (fun x y f g hf hg=>by
   have:x*f 0+y*g 0-(x*f a+y*g a)=x*(f 0-f a)+y*(g 0-g a):=by grind
   show h∣x*f 0+y*g 0-(x*f a+y*g a)
   rw[this]
   exact Int.dvd_add (Int.dvd_mul_of_dvd_right hf) (Int.dvd_mul_of_dvd_right hg)) he k hk b hb
  rw[hz b hb0 hb,Int.zero_sub]at h1
  exact Int.dvd_neg.1 h1
 ·exact DR.col hd oq hc hk a ha0 oq b hb0 hb

def Gm (m n:Nat) (u:Int) (E:Mi):Prop:=∃ X:Mi,∀ a,a<m→∀ b,b<n→smI n (fun i=>E a i*rsum m (X i) E b)=u*E a b
theorem Q2y {m n:Nat} {u:Int} {E:Mi} (h:Gm m n u E) (h0:E 0 0≠0) {k:Nat} (hk:k<m):Gm m n u (pas k E):=by
 obtain⟨X,hX⟩:=h
 refine⟨fun i=>tvp E k (X i),fun a ha b hb=>?_⟩
 rw[Qq (g:=fun i=>pas k E a i*rsum m (X i) E b) fun i _=>by rw[Q7t h0 _ _ _ hk]]
 exact WG (E:=E) (m:=m) (P:=fun f=>smI n (fun i=>f i*rsum m (X i) E b)=u*f b) (fun x y f g hf hg=>by
  have:(smI n fun i=>(x*f i+y*g i)*rsum m (X i) E b)=x*(smI n fun i=>f i*rsum m (X i) E b)+y*smI n fun i=>g i*rsum m (X i) E b:=by
   rw[← QI, ← QI, ← ZS];exact Qq fun i _=>by grind
  show (smI n fun i=>(x*f i+y*g i)*rsum m (X i) E b)=u*(x*f b+y*g b)
  rw[this,hf,hg];grind) (fun a ha=>hX a ha b hb) k hk a ha
theorem Q5e {m n:Nat} {u:Int} {E:Mi} (h:Gm m n u E):Gm n m u (tr E):=by
 obtain⟨X,hX⟩:=h
 refine⟨fun j i=>X i j,fun b hb a ha=>?_⟩
 show _=u*E a b
 rw[← hX a ha b hb]
 unfold rsum tr
 rw[Qq (g:=fun j=>smI n fun i=>E a i*(X i j*E j b)) fun j _=>by rw[← QI];exact Qq fun i _=>by grind]
 rw[Xl]
 exact Qq fun i _=>by rw[QI]
theorem Qjb {m n:Nat} {u d:Int} {E:Mi} (h:Gm m n u E) (hm:0<m) (hn:0<n) (h0:E 0 0≠0) (hc:Cln m (tr E)) (hd:∀ b,b<n→d∣E 0 b):d∣u:=by
 obtain⟨X,hX⟩:=h
 have h1:=hX 0 hm 0 hn
 have e:(smI n fun i=>E 0 i*rsum m (X i) E 0)=(smI n fun i=>E 0 i*X i 0)*E 0 0:=by
  rw[← XP]
  refine Qq fun i _=>?_
  have:rsum m (X i) E 0=X i 0*E 0 0:=Zt (f:=fun a=>X i a*E a 0) hm fun a ha h3=>by
   show X i a*E a 0=0
   rw[show E a 0=tr E 0 a from rfl,hc a oq ha,Int.mul_zero]
  rw[this,Int.mul_assoc]
 rw[e]at h1
 have h2:=Int.eq_of_mul_eq_mul_right h0 h1
 rw[← h2]
 clear e h1 h2 hX
 have:∀ k,k≤n→d∣smI k fun i=>E 0 i*X i 0:=by
  intro k
  induction k with
  | zero=>exact fun _=>Int.dvd_zero _
  | succ k ih=>exact fun hk=>Int.dvd_add (ih oq) (Int.dvd_mul_of_dvd_left (hd k oq))
 exact this n (Nat.le_refl _)

theorem pigeon:∀ (m:Nat) (f:Nat→Nat),(∀ i,i<m+1→f i<m)→∃ i j,i<j∧j<m+1∧f i=f j
 | 0,f,h=>absurd (h 0 oq) oq
 | m + 1, f, h => by
  by_cases hx:∃ i,i<m+1∧f i=f (m+1)
  ·obtain⟨i,h1,h2⟩:=hx
   exact⟨i,m+1,h1,by omega,h2⟩
  ·have hne:∀ i,i<m+1→f i≠f (m+1):=fun i hi e=>hx ⟨i,hi,e⟩
   obtain⟨i,j,h1,h2,h3⟩:=pigeon m (fun i=>if f i<f (m+1) then f i else f i-1) fun i hi=>by
    have h4:=h i oq
    have h5:=h (m+1) oq
    have h6:=hne i hi
    split<;>omega
   have h6:=hne i oq
   have h7:=hne j h2
   refine⟨i,j,h1,by omega,?_⟩
   split at h3<;>split at h3<;>omega
def mn (E:Mi) (p q:Nat→Nat):Mi:=fun a b=>E (p a) (q b)
theorem Qa9 {r m:Nat} {E:Mi} {p q:Nat→Nat} (hp:∀ a,a<r→p a<m) (hr:m<r):det r (mn E p q)=0:=by
 obtain⟨i,j,h1,h2,h3⟩:=pigeon m p fun i hi=>hp i oq
 exact Yt (r:=i) (s:=j) oq oq oq fun b=>by unfold mn;rw[h3]
def ext (r:Nat) (p:Nat→Nat) (i:Nat):Nat→Nat:=fun a=>if a<r then p a else i
theorem Qjs {m n:Nat} {E:Mi}:∀ (f r:Nat) (p q:Nat→Nat),m<r+f→(∀ a,a<r→p a<m)→(∀ a,a<r→q a<n)→det r (mn E p q)≠0 →
  ∃ r' p' q',r≤r'∧r'≤m∧(∀ a,a<r'→p' a<m)∧(∀ a,a<r'→q' a<n)∧det r' (mn E p' q')≠0∧∀ i j,i<m→j<n→det (r'+1) (mn E (ext r' p' i) (ext r' q' j))=0
 | 0,r,p,q,hf,hp,_,h=>absurd (Qa9 hp oq) h
 | f + 1, r, p, q, hf, hp, hq, h => by
  by_cases hx:∃ i j,i<m∧j<n∧det (r+1) (mn E (ext r p i) (ext r q j))≠0
  ·obtain⟨i,j,hi,hj,h1⟩:=hx
   obtain⟨r',p',q',h2,h3⟩:=Qjs (m:=m) (n:=n) (E:=E) f (r+1) (ext r p i) (ext r q j) oq (fun a ha=>by unfold ext;split;exact hp a oq;exact hi) (fun a ha=>by unfold ext;split;exact hq a oq;exact hj) h1
   exact⟨r',p',q',by omega,h3⟩
  ·refine⟨r,p,q,Nat.le_refl _,?_,hp,hq,h,fun i j hi hj=>Decidable.byContradiction fun hn=>hx ⟨i,j,hi,hj,hn⟩⟩
   exact Nat.le_of_not_lt fun hr=>h (Qa9 hp hr)
def shA (r:Nat) (E:Mi) (p q:Nat→Nat):Mi:=fun a b=>E (if a<r then p a else a-r) (if b<r then q b else b-r)
theorem Qpo {r i j:Nat} {E:Mi} {p q:Nat→Nat}:bm r (shA r E p q) (r+i) (r+j)=det (r+1) (mn E (ext r p i) (ext r q j)):=by
 unfold bm
 refine QL fun a _ b _=>?_
 unfold bd shA mn ext
 congr 1
 ·by_cases h:a<r
  ·simp only[if_pos h]
  ·simp only[if_neg h,if_neg (show ¬r+i<r by omega)];omega
 ·by_cases h:b<r
  ·simp only[if_pos h]
  ·simp only[if_neg h,if_neg (show ¬r+j<r by omega)];omega
theorem Qje (k:Nat) (A:Mi) {t:Nat} (ht:t<k):∃ C:Nat→Int,∀ i,cf k A i t=smI k fun s=>A i s*C s:=by
 refine⟨fun s=>det (k+1) (setRow (fun a b=>if b=k then unit t a else A a b) k (unit s)),fun i=>?_⟩
 unfold cf
 rw[← Q31,QL (B:=setRow (fun a b=>if b=k then unit t a else A a b) k (fun b=>if b<k then A i b else unit t k)) fun a ha b hb=>by
  by_cases ea:a=k
  ·subst ea
   rw[setRow_self]
   show setRow (tr (bd a A i 0)) a (unit t) b a=_
   by_cases eb:b=a
   ·subst eb;rw[setRow_self,if_neg (Nat.lt_irrefl b)]
   ·rw[QB eb,if_pos (show b<a by omega)]
    show bd a A i 0 a b=_
    unfold bd
    rw[if_neg (Nat.lt_irrefl a),if_pos (show b<a by omega)]
  ·rw[QB ea]
   show setRow (tr (bd k A i 0)) k (unit t) b a=_
   by_cases eb:b=k
   ·subst eb;rw[setRow_self,if_pos rfl]
   ·rw[QB eb,if_neg eb]
    show bd k A i 0 a b=_
    unfold bd
    rw[if_pos (show a<k by omega),if_pos (show b<k by omega)]]
 rw[WP oq,smI]
 have hz:(if k<k then A i k else unit t k)=0:=by rw[if_neg (Nat.lt_irrefl k)];unfold unit;rw[if_neg oq]
 rw[hz,Int.zero_mul,Int.add_zero]
 exact Qq fun s hs=>by rw[if_pos hs]
theorem Qom {m n r:Nat} {E:Mi} {p q:Nat→Nat} (hp:∀ a,a<r→p a<m) (hq:∀ a,a<r→q a<n) (hz:∀ i j,i<m→j<n→det (r+1) (mn E (ext r p i) (ext r q j))=0):Gm m n (det r (mn E p q)) E:=by
 have hC:∃ C:Mi,∀ t,t<r→∀ i,cf r (shA r E p q) i t=smI r fun s=>shA r E p q i s*C s t:=by
  refine⟨fun s t=>if h:t<r then Classical.choose (Qje r (shA r E p q) h) s else 0,fun t ht i=>?_⟩
  rw[Classical.choose_spec (Qje r (shA r E p q) ht) i]
  exact Qq fun s _=>by simp only[dif_pos ht]
 obtain⟨C,hC⟩:=hC
 have key:∀ i j,i<m→j<n→det r (mn E p q)*E i j = -(smI r fun t=>E (p t) j*smI r fun s=>E i (q s)*C s t):=fun i j hi hj=>by
  have h1:=WS r (shA r E p q) (r+i) (r+j)
  rw[Qpo,hz i j hi hj]at h1
  have e1:shA r E p q (r+i) (r+j)=E i j:=by unfold shA;rw[if_neg oq,if_neg oq];congr 1<;>omega
  have e2:det r (shA r E p q)=det r (mn E p q):=QL fun a ha b hb=>by unfold shA mn;rw[if_pos ha,if_pos hb]
  rw[e1,e2]at h1
  have e3:(smI r fun t=>shA r E p q t (r+j)*cf r (shA r E p q) (r+i) t)=smI r fun t=>E (p t) j*smI r fun s=>E i (q s)*C s t:=Qq fun t ht=>by
   rw[hC t ht]
   congr 1
   ·unfold shA;rw[if_pos ht,if_neg oq];congr 1;omega
   ·exact Qq fun s hs=>by unfold shA;rw[if_neg oq,if_pos hs];congr 2;omega
  rw[e3]at h1
  rw[Int.mul_comm];omega
 refine⟨fun i j => -(smI r fun s=>smI r fun t=>(if q s=i then (1:Int) else 0)*(if p t=j then (1:Int) else 0)*C s t),fun a ha b hb=>?_⟩
 rw[key a b ha hb]
 have hr1:∀ i,rsum m (fun j => -(smI r fun s=>smI r fun t=>(if q s=i then (1:Int) else 0)*(if p t=j then (1:Int) else 0)*C s t)) E b = -(smI r fun s=>smI r fun t=>(if q s=i then (1:Int) else 0)*(C s t*E (p t) b)):=fun i=>by
  unfold rsum
  have e:∀ j,-(smI r fun s=>smI r fun t=>(if q s=i then (1:Int) else 0)*(if p t=j then (1:Int) else 0)*C s t)*E j b=smI r fun s=>smI r fun t => -((if q s=i then (1:Int) else 0)*C s t)*((if p t=j then (1:Int) else 0)*E j b):=fun j=>by
   rw[show ∀ x y:Int,-x*y=x * -y from fun x y=>by grind, ← XP]
   refine Qq fun s _=>?_
   rw[← XP]
   exact Qq fun t _=>by grind
  rw[Qq fun j _=>e j,Xl]
  have e2:∀ s,(smI m fun j=>smI r fun t => -((if q s=i then (1:Int) else 0)*C s t)*((if p t=j then (1:Int) else 0)*E j b))=smI r fun t => -((if q s=i then (1:Int) else 0)*(C s t*E (p t) b)):=fun s=>by
   rw[Xl]
   refine Qq fun t ht=>?_
   rw[QI,Zt (k:=p t) (hp t ht) fun j _ hj=>by rw[if_neg (fun e=>hj e.symm),Int.zero_mul],if_pos rfl]
   grind
  rw[Qq fun s _=>e2 s]
  have e3:∀ f:Nat→Nat→Int,(smI r fun s=>smI r fun t => -(f s t)) = -(smI r fun s=>smI r fun t=>f s t):=fun f=>by
   rw[show ∀ x:Int,-x = -1*x from fun x=>by omega, ← QI]
   refine Qq fun s _=>?_
   rw[← QI]
   exact Qq fun t _=>by omega
  rw[e3]
 rw[Qq (g:=fun i => -(E a i*(smI r fun s=>smI r fun t=>(if q s=i then (1:Int) else 0)*(C s t*E (p t) b)))) fun i _=>by rw[hr1 i];grind]
 have e4:∀ f:Nat→Int,(smI n fun i => -(f i)) = -(smI n f):=fun f=>by
  rw[show ∀ x:Int,-x = -1*x from fun x=>by omega, ← QI]
  exact Qq fun t _=>by omega
 rw[e4]
 congr 1
 rw[Qq (g:=fun i=>smI r fun s=>smI r fun t=>(if q s=i then E a i else 0)*(C s t*E (p t) b)) fun i _=>by
  rw[← QI]
  refine Qq fun s _=>?_
  rw[← QI]
  refine Qq fun t _=>?_
  split
  ·rw[Int.one_mul]
  ·rw[Int.zero_mul,Int.mul_zero]]
 rw[Xl]
 rw[Qq (g:=fun s=>smI r fun t=>E a (q s)*(C s t*E (p t) b)) fun s hs=>by
  rw[Xl]
  refine Qq fun t _=>?_
  rw[XP,Zt (k:=q s) (hq s hs) fun i _ hi=>by rw[if_neg (fun e=>hi e.symm)],if_pos rfl]]
 rw[Xl]
 refine Qq fun t _=>?_
 rw[← QI]
 exact Qq fun s _=>by grind


def rest (t:Nat) (g:List (List Int)):Mi:=fun a b=>gE g (t+a) (t+b)
theorem Q6y {r c a b:Nat} {g:List (List Int)} (h:Rec r c g) (hb:r≤a∨c≤b):gE g a b=0:=by
 unfold gE
 by_cases ha:a<r
 ·have:=h.at ha
  rw[List.getD,List.getElem?_eq_none oq];rfl
 ·have:g.getD a []=[]:=by rw[List.getD,List.getElem?_eq_none (by have:=h.len;omega)];rfl
  rw[this];rfl
theorem WA {M N t j:Nat} {tn:Tn} {g:List (List Int)} (h:Rec M N g) (hj:t+j<M) (hj0:0<j):rest t (rowsL t (t+j) tn g)=rop 0 j tn (rest t g):=by
 funext a b
 dsimp only[rest,rop]
 simp only[Nat.add_zero]
 by_cases hb:t+b<N
 ·rw[Wl h oq hj hb]
  by_cases e1:a=j
  ·subst e1;rw[if_pos rfl,if_pos rfl]
  ·rw[if_neg oq,if_neg e1]
   by_cases e2:a=0
   ·subst e2;rw[if_pos (Nat.add_zero t),if_pos rfl]
   ·rw[if_neg oq,if_neg e2]
 ·rw[Q6y (h.rows oq hj) (.inr oq),Q6y (a:=t) (b:=t+b) h (.inr oq),Q6y (a:=t+j) (b:=t+b) h (.inr oq),Q6y (a:=t+a) (b:=t+b) h (.inr oq)]
  unfold Tn.p Tn.q
  simp
theorem Q2e {M N t j:Nat} {tn:Tn} {g:List (List Int)} (h:Rec M N g) (hj:t+j<N) (hj0:0<j):rest t (colsL t (t+j) tn g)=tr (rop 0 j tn (tr (rest t g))):=by
 funext a b
 dsimp only[tr,rest,rop]
 simp only[Nat.add_zero]
 by_cases ha:t+a<M
 ·rw[Wn h oq hj ha]
  by_cases e1:b=j
  ·subst e1;rw[if_pos rfl,if_pos rfl]
  ·rw[if_neg oq,if_neg e1]
   by_cases e2:b=0
   ·subst e2;rw[if_pos (Nat.add_zero t),if_pos rfl]
   ·rw[if_neg oq,if_neg e2]
 ·rw[Q6y (h.cols (i:=t) (k:=t+j) (t:=tn)) (.inl oq),Q6y (a:=t+a) (b:=t) h (.inl oq),Q6y (a:=t+a) (b:=t+j) h (.inl oq),Q6y (a:=t+a) (b:=t+b) h (.inl oq)]
  unfold Tn.p Tn.q
  simp
theorem rop_one {j:Nat} {E:Mi}:rop 0 j ⟨1,0,0,1⟩ E=E:=by
 funext a b
 dsimp only[rop,Tn.p,Tn.q]
 by_cases e1:a=j
 ·subst e1;rw[if_pos rfl];omega
 ·rw[if_neg e1]
  by_cases e2:a=0
  ·subst e2;rw[if_pos rfl];omega
  ·rw[if_neg e2]
structure Blk (t M N D:Nat) (g:List (List Int)):Prop where
 z:∀ a b,a<M→b<N→a≠b→(a<t∨b<t)→gE g a b=0
 d:∀ a,a<M→a<N→a<t→(gE g a a).natAbs≤D
theorem Blk.rows {t M N D i:Nat} {tn:Tn} {g:List (List Int)} (h:Blk t M N D g) (hR:Rec M N g) (hti:t<i) (hi:i<M):Blk t M N D (rowsL t i tn g):=by
 refine⟨fun a b ha hb hab h1=>?_,fun a ha hb h1=>?_⟩
 ·rw[Wl hR oq hi hb]
  by_cases e1:a=i
  ·rw[if_pos e1,h.z t b oq hb oq oq,h.z i b hi hb oq oq];unfold Tn.q;simp
  ·rw[if_neg e1]
   by_cases e2:a=t
   ·rw[if_pos e2,h.z t b oq hb oq oq,h.z i b hi hb oq oq];unfold Tn.p;simp
   ·rw[if_neg e2];exact h.z a b ha hb hab h1
 ·rw[Wl hR oq hi hb,if_neg oq,if_neg oq];exact h.d a ha hb h1
theorem Blk.cols {t M N D i:Nat} {tn:Tn} {g:List (List Int)} (h:Blk t M N D g) (hR:Rec M N g) (hti:t<i) (hi:i<N):Blk t M N D (colsL t i tn g):=by
 refine⟨fun a b ha hb hab h1=>?_,fun a ha hb h1=>?_⟩
 ·rw[Wn hR oq hi ha]
  by_cases e1:b=i
  ·rw[if_pos e1,h.z a t ha oq oq oq,h.z a i ha hi oq oq];unfold Tn.q;simp
  ·rw[if_neg e1]
   by_cases e2:b=t
   ·rw[if_pos e2,h.z a t ha oq oq oq,h.z a i ha hi oq oq];unfold Tn.p;simp
   ·rw[if_neg e2];exact h.z a b ha hb hab h1
 ·rw[Wn hR oq hi ha,if_neg oq,if_neg oq];exact h.d a ha hb h1
theorem Blk.sz {t M N D L:Nat} {g:List (List Int)} (h:Blk t M N D g) (hD:D≤L) (hL:∀ a b,a<M-t→b<N-t→(rest t g a b).natAbs≤L):Sz L M N g:=fun i j hi hj=>by
 by_cases h1:i<t∨j<t
 ·by_cases e:i=j
  ·subst e;exact Nat.le_trans (h.d i hi hj oq) hD
  ·rw[h.z i j hi hj e h1];exact Nat.zero_le _
 ·have:=hL (i-t) (j-t) oq oq
  unfold rest at this
  rwa [show t+(i-t)=i by omega,show t+(j-t)=j by omega]at this
theorem Q5o (E:Mi):∀ d k,cnC E k≤cnC E (k+d)
 | 0,k=>Nat.le_refl _
 | d+1,k=>Nat.le_trans (Q5o E d k) (Nat.le_add_right _ _)
theorem YP {A X:Nat} (hA:1≤A):∀ d c,wB A X c≤wB A X (c+d)
 | 0,c=>Nat.le_refl _
 | d+1,c=>Nat.le_trans (YP hA d c) (Qbz hA)
theorem PBd.all {m n A H M X e L:Nat} {E:Mi} (h:PBd m n A H M X e E) {k:Nat} (hk:k<m) (l1:A≤L) (l2:H≤L) (l3:M≤L) (l4:wB A X (rIx E e (m-1))≤L):∀ a b,a<m→b<n→(pas k E a b).natAbs≤L:=fun a b ha hb=>by
 have hmono:∀ j d,cnC E j+e≤rIx E e (j+d)∧rIx E e j≤rIx E e (j+d):=fun j d=>by
  have h1:=Q5o E d j
  have h2:=YX E (j+d)
  have h3:=YX E j
  have h4:cnC E (j+d)≤cnC E j+d:=by
   clear h1 h2 h3
   induction d with
   | zero=>exact Nat.le_refl _
   | succ d ih=>show cnC E (j+d)+(if chg E (j+d) then 1 else 0)≤_;split<;>omega
  unfold rIx
  split<;>split<;>omega
 have hw:∀ x,x≤rIx E e (m-1)→wB A X x≤L:=fun x hx=>by
  have:=YP (X:=X) h.a1 (rIx E e (m-1)-x) x
  rw[show x+(rIx E e (m-1)-x)=rIx E e (m-1) by omega]at this
  exact Nat.le_trans this l4
 have hj:=hmono k (m-1-k)
 rw[show k+(m-1-k)=m-1 by omega]at hj
 by_cases hb0:b=0
 ·subst hb0
  by_cases ha0:a=0
  ·subst ha0;exact Nat.le_trans (Q0s h.nz k) (Nat.le_trans h.h l2)
  ·by_cases hak:a≤k
   ·rw[YT h.nz oq hak];exact Nat.zero_le _
   ·rw[Xp oq];exact Nat.le_trans (h.a a oq ha) l1
 ·obtain⟨s1,s2⟩:=h.sz (b:=b) oq hb k hk
  by_cases ha0:a=0
  ·subst ha0;exact Nat.le_trans s1 (hw _ hj.1)
  ·by_cases hak:a≤k
   ·exact Nat.le_trans (s2 a oq hak) (hw _ hj.2)
   ·rw[Xp oq];exact Nat.le_trans (h.m a b oq ha oq hb) l3
structure KBd (K m A H M X e B D:Nat) (E:Mi):Prop where
 a:A<256 ^ K
 h:H<256 ^ K
 mx:M<256 ^ K
 w:wB A X (rIx E e (m-1))<256 ^ K
 u:(2*max A H) ^ (m-1)*B<256 ^ K
 d:D<256 ^ K
theorem Qdv {C B k m:Nat} (hC:1≤C) (h:k≤m):C ^ k*B≤C ^ m*B:=Nat.mul_le_mul_right _ (Nat.pow_le_pow_right hC h)
theorem PBd.cb {m n A H M X e:Nat} {E:Mi} (h:PBd m n A H M X e E) {k:Nat} (hk:k+1<m):CB (max A H) (tnO (pas k E 0 0) (E (k+1) 0)):=by
 obtain⟨ta,tb,tc,td⟩:=h.tn hk
 exact⟨Nat.le_trans ta (Nat.le_max_left ..),Nat.le_trans tb (Nat.le_max_right ..),Nat.le_trans tc (Nat.le_max_left ..),Nat.le_trans td (Nat.le_max_right ..)⟩
theorem Q84 {K t M N A H Mx X e B D:Nat} {S:Sm} (hD:Dm M N S) (ht:t<M) (hP:PBd (M-t) (N-t) A H Mx X e (rest t S.d)) (hU:SzU B M N S) (hB:Blk t M N D S.d) (hK:KBd K (M-t) A H Mx X e B D (rest t S.d)) :
  ∀ k,k<M-t→∃ S',rowP K t k (t+1) S=some S'∧Dm M N S'∧rest t S'.d=pas k (rest t S.d)∧SzU ((2*max A H) ^ k*B) M N S'∧Blk t M N D S'.d
 | 0,_=>⟨S,rfl,hD,rfl,by rw[Nat.pow_zero,Nat.one_mul];exact hU,hB⟩
 | k + 1, hk => by
  obtain⟨S1,h1,d1,r1,u1,b1⟩:=Q84 hD ht hP hU hB hK k oq
  have hC1:1≤2*max A H:=by have:=hP.a1;have:=Nat.le_max_left A H;omega
  have hx:gE S1.d t t=pas k (rest t S.d) 0 0:=by rw[← r1];rfl
  have hy:gE S1.d (t+1+k) t=rest t S.d (k+1) 0:=by
   rw[← Xp (E:=rest t S.d) (Nat.lt_succ_self k), ← r1];unfold rest
   rw[show t+(k+1)=t+1+k by omega];rfl
  have hall:=hP.all (L:=256 ^ K-1) hk (by have:=hK.a;omega) (by have:=hK.h;omega) (by have:=hK.mx;omega) (by have:=hK.w;omega)
  have hstep:∃ S' ch,clrR K t (t+1+k) S1=some (S',ch)∧Dm M N S'∧rest t S'.d=pas (k+1) (rest t S.d)∧SzU ((2*max A H) ^ (k+1)*B) M N S'∧Blk t M N D S'.d:=by
   have hu2:(2*max A H) ^ (k+1)*B=2*max A H*((2*max A H) ^ k*B):=by rw[Nat.pow_succ];grind
   have hcb:=hP.cb hk
   have hst:=Q6a (rest t S.d) k
   unfold clrR
   rw[hx,hy]
   unfold tnO at hcb hst
   cases hc:clearT (pas k (rest t S.d) 0 0) (rest t S.d (k+1) 0)with
   | none =>
    rw[hc]at hst
    refine⟨S1,false,rfl,d1,?_,u1.mono ?_,b1⟩
    ·rw[r1,hst];exact rop_one.symm
    ·rw[hu2];exact Nat.le_mul_of_pos_left _ oq
   | some r =>
    rw[hc]at hcb hst
    dsimp only at hcb hst ⊢
    have hd':=d1.rows (i:=t) (k:=t+1+k) (t:=r.1) ht oq
    have hr':rest t (S1.rows t (t+1+k) r.1).d=pas (k+1) (rest t S.d):=by
     rw[hst, ← r1,show t+1+k=t+(k+1) by omega];exact WA d1.d oq oq
    have hb':Blk t M N D (S1.rows t (t+1+k) r.1).d:=b1.rows d1.d oq oq
    have hu':SzU ((2*max A H) ^ (k+1)*B) M N (S1.rows t (t+1+k) r.1):=by
     rw[hu2];exact u1.rows d1 ht oq hcb (by have:=hP.a1;have:=Nat.le_max_left A H;omega)
    have hck:ck K (S1.rows t (t+1+k) r.1)=some (S1.rows t (t+1+k) r.1):=by
     refine Qf9 hd' hu' (hb'.sz (L:=256 ^ K-1) (by have:=hK.d;omega) fun a b ha hb=>by rw[hr'];exact hall a b ha hb) ?_ (by have:=pos256 K;omega)
     exact Nat.lt_of_le_of_lt (Qdv hC1 oq) hK.u
    rw[hck]
    exact⟨_,_,rfl,hd',hr',hu',hb'⟩
  obtain⟨S2,ch,h2,h3⟩:=hstep
  refine⟨S2,?_,h3⟩
  rw[Q9g k 1,h1]
  exact Qgt h2
theorem Q8l {K t M N A H Mx X e B D:Nat} {S:Sm} (hD:Dm M N S) (ht:t<N) (hP:PBd (N-t) (M-t) A H Mx X e (tr (rest t S.d))) (hU:SzU B M N S) (hB:Blk t M N D S.d) (hK:KBd K (N-t) A H Mx X e B D (tr (rest t S.d))) (ch0:Bool) :
  ∀ k,k<N-t→∃ S',colP K t k (t+1) ch0 S=some (S',ch0 || decide (0<cnC (tr (rest t S.d)) k))∧Dm M N S'∧rest t S'.d=tr (pas k (tr (rest t S.d)))∧SzU ((2*max A H) ^ k*B) M N S'∧Blk t M N D S'.d
 | 0,_=>⟨S,by show some (S,ch0)=_;rw[show decide (0<cnC (tr (rest t S.d)) 0)=false from rfl,Bool.or_false],hD,rfl,by rw[Nat.pow_zero,Nat.one_mul];exact hU,hB⟩
 | k + 1, hk => by
  obtain⟨S1,h1,d1,r1,u1,b1⟩:=Q8l hD ht hP hU hB hK ch0 k oq
  have hC1:1≤2*max A H:=by have:=hP.a1;have:=Nat.le_max_left A H;omega
  have hx:gE S1.d t t=pas k (tr (rest t S.d)) 0 0:=by
   have:rest t S1.d 0 0=tr (pas k (tr (rest t S.d))) 0 0:=by rw[r1]
   exact this
  have hy:gE S1.d t (t+1+k)=tr (rest t S.d) (k+1) 0:=by
   rw[← Xp (E:=tr (rest t S.d)) (Nat.lt_succ_self k)]
   have:rest t S1.d 0 (k+1)=tr (pas k (tr (rest t S.d))) 0 (k+1):=by rw[r1]
   unfold rest at this
   rw[show t+(k+1)=t+1+k by omega]at this
   exact this
  have hall:=hP.all (L:=256 ^ K-1) hk (by have:=hK.a;omega) (by have:=hK.h;omega) (by have:=hK.mx;omega) (by have:=hK.w;omega)
  have hce:=Qjd (tr (rest t S.d)) k
  have hstep:∃ S',clrC K t (t+1+k) S1=some (S',chg (tr (rest t S.d)) k)∧Dm M N S'∧rest t S'.d=tr (pas (k+1) (tr (rest t S.d)))∧SzU ((2*max A H) ^ (k+1)*B) M N S'∧Blk t M N D S'.d:=by
   have hu2:(2*max A H) ^ (k+1)*B=2*max A H*((2*max A H) ^ k*B):=by rw[Nat.pow_succ];grind
   have hcb:=hP.cb hk
   have hst:=Q6a (tr (rest t S.d)) k
   unfold clrC
   rw[hx,hy]
   unfold tnO at hcb hst
   unfold chO at hce
   cases hc:clearT (pas k (tr (rest t S.d)) 0 0) (tr (rest t S.d) (k+1) 0)with
   | none =>
    rw[hc]at hst hce
    refine⟨S1,?_,d1,?_,u1.mono ?_,b1⟩
    ·rw[hce]
    ·rw[r1,hst];exact(congrArg tr rop_one).symm
    ·rw[hu2];exact Nat.le_mul_of_pos_left _ oq
   | some r =>
    rw[hc]at hcb hst hce
    dsimp only at hcb hst hce ⊢
    have hd':=d1.cols (i:=t) (k:=t+1+k) (t:=r.1) ht oq
    have hr':rest t (S1.cols t (t+1+k) r.1).d=tr (pas (k+1) (tr (rest t S.d))):=by
     rw[hst,show t+1+k=t+(k+1) by omega]
     refine(Q2e d1.d oq oq).trans ?_
     rw[r1];rfl
    have hb':Blk t M N D (S1.cols t (t+1+k) r.1).d:=b1.cols d1.d oq oq
    have hu':SzU ((2*max A H) ^ (k+1)*B) M N (S1.cols t (t+1+k) r.1):=by
     rw[hu2];exact u1.cols d1 ht oq hcb (by have:=hP.a1;have:=Nat.le_max_left A H;omega)
    have hck:ck K (S1.cols t (t+1+k) r.1)=some (S1.cols t (t+1+k) r.1):=by
     refine Qf9 hd' hu' (hb'.sz (L:=256 ^ K-1) (by have:=hK.d;omega) fun a b ha hb=>by rw[hr'];exact hall b a hb ha) ?_ (by have:=pos256 K;omega)
     exact Nat.lt_of_le_of_lt (Qdv hC1 oq) hK.u
    rw[hck]
    refine⟨_,?_,hd',hr',hu',hb'⟩
    rw[hce]
  obtain⟨S2,h2,h3⟩:=hstep
  refine⟨S2,?_,h3⟩
  rw[Qap k 1,h1]
  dsimp only
  rw[Qia h2]
  congr 2
  show _=(ch0 || decide (0<cnC (tr (rest t S.d)) k+if chg (tr (rest t S.d)) k then 1 else 0))
  cases chg (tr (rest t S.d)) k<;>cases ch0<;>simp

theorem Q5r {E:Mi}:∀ {k},cnC E k=0→∀ j,j<k→chg E j=false
 | 0,_,j,hj=>by omega
 | k + 1, h, j, hj => by
  have h1:cnC E k+(if chg E k then 1 else 0)=0:=h
  cases hc:chg E k with
  | true=>rw[hc,if_pos rfl]at h1;omega
  | false =>
   by_cases e:j=k
   ·subst e;exact hc
   ·exact Q5r (k:=k) oq j oq
theorem YE {E:Mi} (h:E 0 0≠0):∀ {k},cnC E k=0→∀ b,pas k E 0 b=E 0 b
 | 0,_,b=>rfl
 | k+1,h0,b=>by
  have hc:=Q5r h0 k oq
  have h1:cnC E k=0:=by have:cnC E k+(if chg E k then 1 else 0)=0:=h0;omega
  rw[Za]
  obtain⟨f1,f2,_⟩:=(Z9 (Zv h k)).f hc
  unfold Tn.p
  rw[f1,f2,YE h h1 b,Int.one_mul,Int.zero_mul,Int.add_zero]
theorem Q2n {E:Mi} {n:Nat} (h:E 0 0≠0) (hc:Cln n E) {k:Nat} (h0:cnC E k=0) {a b:Nat} (ha0:0<a) (ha:a≤k) (hb0:0<b) (hb:b<n):pas k E a b=E a b:=by
 rw[Qdz ha0 ha]
 obtain⟨j,rfl⟩:∃ j,a=j+1:=⟨a-1,by omega⟩
 have hj:=Q5r h0 j oq
 have h1:cnC E j=0:=by have:=Q5o E (k-j) j;rw[show j+(k-j)=k by omega]at this;omega
 rw[XT,YE h h1 b,hc b hb0 hb]
 obtain⟨_,_,f3,_⟩:=(Z9 (Zv h j)).f hj
 unfold Tn.q
 rw[f3,Int.mul_zero,Int.one_mul,Int.zero_add]
theorem Q2m {E:Mi} (h:E 0 0≠0):∀ k,(¬∃ f,E 0 0=2*f*pas k E 0 0)→3 ^ cnC E k*(pas k E 0 0).natAbs≤(E 0 0).natAbs
 | 0,_=>by show 3 ^ 0*_≤_;rw[Nat.pow_zero,Nat.one_mul];exact Nat.le_refl _
 | k + 1, hn => by
  have ht:=Z9 (Zv h k)
  have hdx:=ht.dx
  rw[← Za]at hdx
  have ih:=Q2m h k fun⟨f,hf⟩=>hn ⟨f*(tnO (pas k E 0 0) (E (k+1) 0)).d,by rw[hf, ← hdx];rw[hdx];grind⟩
  show 3 ^ (cnC E k+_)*_≤_
  have hl:=ht.le
  rw[← Za]at hl
  cases hc:chg E k with
  | false=>exact Nat.le_trans (Nat.mul_le_mul_left _ hl) ih
  | true =>
   have h2:=ht.h hc
   rw[← Za]at h2
   have h3:3*(pas (k+1) E 0 0).natAbs≤(pas k E 0 0).natAbs:=by
    obtain⟨x,hx⟩:=XF h k
    generalize (tnO (pas k E 0 0) (E (k+1) 0)).d=d at hdx
    have hd2:d.natAbs≠2:=fun e=>hn (by
     rcases Int.natAbs_eq d with e2|e2
     ·exact⟨x,by rw[hx, ← hdx,e2,e];grind⟩
     ·exact⟨-x,by rw[hx, ← hdx,e2,e];grind⟩)
    have hnz:=Zv h (k+1)
    have e4:d.natAbs*(pas (k+1) E 0 0).natAbs=(pas k E 0 0).natAbs:=by rw[← Int.natAbs_mul,hdx]
    rw[← e4]at h2 ⊢
    have hp:0<(pas (k+1) E 0 0).natAbs:=by omega
    have:=Nat.le_of_mul_le_mul_right h2 hp
    exact Nat.mul_le_mul_right _ oq
   rw[if_pos rfl,Nat.pow_succ,Nat.mul_assoc]
   exact Nat.le_trans (Nat.mul_le_mul_left _ h3) ih

theorem Q9h {E:Mi} {m i:Nat} {t:Tn} {P:(Nat→Int)→Prop} (hP:∀ (x y:Int) (f g:Nat→Int),P f→P g→P fun b=>x*f b+y*g b) (h:∀ a,a<m→P (E a)) (hi:i<m):∀ a,a<m→P (rop 0 i t E a):=fun a ha=>by
 by_cases e1:a=i
 ·have:rop 0 i t E a=fun b=>t.c*E 0 b+t.d*E i b:=by funext b;unfold rop;rw[if_pos e1];rfl
  rw[this];exact hP _ _ _ _ (h 0 oq) (h i hi)
 ·by_cases e2:a=0
  ·have:rop 0 i t E a=fun b=>t.a*E 0 b+t.b*E i b:=by funext b;unfold rop;rw[if_neg e1,if_pos e2];rfl
   rw[this];exact hP _ _ _ _ (h 0 oq) (h i hi)
  ·have:rop 0 i t E a=E a:=by funext b;unfold rop;rw[if_neg e1,if_neg e2]
   rw[this];exact h a ha
theorem Qaf {m n i:Nat} {u:Int} {E:Mi} {t:Tn} (h:Gm m n u E) (h0:0<i) (hi:i<m) (hd:t.a*t.d-t.b*t.c=1):Gm m n u (rop 0 i t E):=by
 obtain⟨X,hX⟩:=h
 refine⟨fun j=>tvc 0 i t (X j),fun a ha b hb=>?_⟩
 rw[Qq (g:=fun j=>rop 0 i t E a j*rsum m (X j) E b) fun j _=>by unfold rsum;rw[Qc7 h0 hi hd]]
 exact Q9h (E:=E) (m:=m) (i:=i) (t:=t) (P:=fun f=>smI n (fun i=>f i*rsum m (X i) E b)=u*f b) (fun x y f g hf hg=>by
  have:(smI n fun i=>(x*f i+y*g i)*rsum m (X i) E b)=x*(smI n fun i=>f i*rsum m (X i) E b)+y*smI n fun i=>g i*rsum m (X i) E b:=by
   rw[← QI, ← QI, ← ZS];exact Qq fun i _=>by grind
  show (smI n fun i=>(x*f i+y*g i)*rsum m (X i) E b)=u*(x*f b+y*g b)
  rw[this,hf,hg];grind) (fun a ha=>hX a ha b hb) hi a ha
theorem Qi5 {q m n i:Nat} {D:Int} {E:Mi} {t:Tn} (h:Famt q m n D E) (hm:0<m) (hc:Cln n E) (hD:D∣E 0 0) (h0:0<i) (hi:i<m) (hd:t.a*t.d-t.b*t.c=1):Famt q m n D (rop 0 i t E):=by
 obtain⟨Y,hY,h1⟩:=h.all hm hc hD
 refine .inr ⟨_,Qja hY h0 hi hd,fun j hj=>.inr fun b hb=>?_⟩
 unfold rsum
 rw[Qc7 h0 hi hd]
 exact h1 j hj b hb
theorem Qi6 {p m n i:Nat} {D:Int} {E:Mi} {t:Tn} (h:Famt p n m D (tr E)) (hi:i<m):Famt p n m D (tr (rop 0 i t E)):=by
 rcases h with h|⟨Z,hZ,h1⟩
 ·exact .inl h
 ·refine .inr ⟨Z,hZ,fun j hj=>(h1 j hj).imp id fun h2 a ha=>?_⟩
  exact Q9h (E:=E) (m:=m) (i:=i) (t:=t) (P:=fun f=>D∣smI n fun b=>Z j b*f b) (fun x y f g hf hg=>by
   have:(smI n fun b=>Z j b*(x*f b+y*g b))=x*(smI n fun b=>Z j b*f b)+y*smI n fun b=>Z j b*g b:=by
    rw[← QI, ← QI, ← ZS];exact Qq fun b _=>by grind
   show D∣smI n fun b=>Z j b*(x*f b+y*g b)
   rw[this]
   exact Int.dvd_add (Int.dvd_mul_of_dvd_right hf) (Int.dvd_mul_of_dvd_right hg)) (fun a ha=>h2 a ha) hi a ha

structure Evi (m n:Nat) (u:Int) (q p:Nat) (E:Mi):Prop where
 nz:E 0 0≠0
 g:Gm m n u E
 fr:∀ D,TwoP D (E 0 0)→Famt q m n D E
 fc:∀ D,TwoP D (E 0 0)→Famt p n m D (tr E)
theorem Evi.tr {m n:Nat} {u:Int} {q p:Nat} {E:Mi} (h:Evi m n u q p E):Evi n m u p q (Go.Proofs.YtljmapfihjkafaaGreatDoor.tr E):=⟨h.nz,Q5e h.g,h.fc,h.fr⟩
def Even2 (x y:Int):Prop:=∃ f,x=2*f*y
theorem Q8h {m n:Nat} {u:Int} {q p:Nat} {E:Mi} (h:Evi m n u q p E) (hm:0<m) (hn:0<n) (hc:Cln n E):Evi m n u q p (pas (m-1) E)∧(Even2 (E 0 0) (pas (m-1) E 0 0)→Evi m n u (q+1) p (pas (m-1) E)):=by
 obtain⟨D,hD⟩:=Q7s _ _ h.nz (Nat.le_refl _)
 have hnz:=Zv h.nz (m-1)
 have hg:=Q2y h.g h.nz (k:=m-1) oq
 have hfc:∀ D',TwoP D' (pas (m-1) E 0 0)→Famt p n m D' (tr (pas (m-1) E)):=fun D' hD'=>Qlw (h.fc D hD) hm (hD.down hD' (XF h.nz _))
 exact⟨⟨hnz,hg,fun D' hD'=>(Qer (h.fr D hD) hm hc h.nz hD hD').1,hfc⟩,fun he=>⟨hnz,hg,fun D' hD'=>(Qer (h.fr D hD) hm hc h.nz hD hD').2 he hn,hfc⟩⟩
theorem Evi.qle {m n:Nat} {u:Int} {q p:Nat} {E:Mi} (h:Evi m n u q p E) (hm:0<m) (hn:0<n):q+1≤m∧p+1≤n:=by
 obtain⟨D,hD⟩:=Q7s _ _ h.nz (Nat.le_refl _)
 exact⟨(h.fr D hD).le hm,(h.fc D hD).le hn⟩
theorem Qi7 {m n:Nat} {u:Int} {q p i:Nat} {E:Mi} (h:Evi m n u q p E) (hm:0<m) (hc:Cln n E) (hcc:Cln m (tr E)) (h0:0<i) (hi:i<m):Evi m n u q p (rop 0 i ⟨1,1,0,1⟩ E)∧rop 0 i ⟨1,1,0,1⟩ E 0 0=E 0 0:=by
 have e:rop 0 i ⟨1,1,0,1⟩ E 0 0=E 0 0:=by
  unfold rop Tn.p
  rw[if_neg oq,if_pos rfl,show E i 0=tr E 0 i from rfl,hcc i h0 hi]
  dsimp only
  omega
 refine⟨⟨by rw[e];exact h.nz,Qaf h.g h0 hi dq,fun D hD=>?_,fun D hD=>?_⟩,e⟩
 ·rw[e]at hD
  exact Qi5 (h.fr D hD) hm hc (by obtain⟨v,_,h,_⟩:=hD;exact h) h0 hi dq
 ·rw[e]at hD
  exact Qi6 (h.fc D hD) hi

abbrev SP:=Nat→Nat→Nat→Nat→Nat→Nat→Mi→Prop
structure Mdl (K D m n:Nat) (P Q:SP):Prop where
 step:∀ {m' n' h e s ub:Nat} {E:Mi},(m'=m∧n'=n∨m'=n∧n'=m)→P m' n' h e s ub E→Cln n' E→E 0 0≠0→(E 0 0).natAbs=h →
  ∃ A H Mx X,PBd m' n' A H Mx X 0 E∧KBd K m' A H Mx X 0 (2 ^ ub) D E∧∃ ub',(2*max A H) ^ (m'-1)*2 ^ ub≤2 ^ ub' ∧
   (cnC E (m'-1)=0→Q m' n' h e s ub' (pas (m'-1) E)) ∧
   ∀ e',1≤cnC E (m'-1)→(3 ^ cnC E (m'-1)*(pas (m'-1) E 0 0).natAbs≤h∧e'=e∨e=e'+1)→P n' m' (pas (m'-1) E 0 0).natAbs e' s ub' (tr (pas (m'-1) E))
 flip:∀ {m' n' h e s ub:Nat} {E:Mi},Q m' n' h e s ub E→Q n' m' h e s ub (tr E)
 spoil:∀ {h e s s' ub i:Nat} {E:Mi},Q m n h e s ub E→s'<s→Cln n E→Cln m (tr E)→0<i→i<m→2≤h→E 0 0≠0→(E 0 0).natAbs=h→P n m h e s' (ub+1) (tr (rop 0 i ⟨1,1,0,1⟩ E))

structure Bsz (t M N D ub:Nat) (S:Sm):Prop where
 dm:Dm M N S
 bk:Blk t M N D S.d
 su:SzU (2 ^ ub) M N S
structure Cmn (t M N D:Nat) (u:Int) (q p h e ub:Nat) (S:Sm):Prop where
 b:Bsz t M N D ub S
 ev:Evi (M-t) (N-t) u q p (rest t S.d)
 hh:(rest t S.d 0 0).natAbs=h
 e:e=(M-t-1-q)+(N-t-1-p)
structure LvR (P:SP) (t M N D:Nat) (u:Int) (q p h e s ub:Nat) (S:Sm):Prop where
 c:Cmn t M N D u q p h e ub S
 cl:Cln (N-t) (rest t S.d)
 P:P (M-t) (N-t) h e s ub (rest t S.d)
structure LvC (P:SP) (t M N D:Nat) (u:Int) (q p h e s ub:Nat) (S:Sm):Prop where
 c:Cmn t M N D u q p h e ub S
 cl:Cln (M-t) (tr (rest t S.d))
 P:P (N-t) (M-t) h e s ub (tr (rest t S.d))
structure Dd (Q:SP) (t M N D:Nat) (u:Int) (q p h e s ub:Nat) (S:Sm):Prop where
 c:Cmn t M N D u q p h e ub S
 cl:Cln (N-t) (rest t S.d)
 cc:Cln (M-t) (tr (rest t S.d))
 Q:Q (M-t) (N-t) h e s ub (rest t S.d)

theorem Qgs {P Q:SP} {K D t M N:Nat} {u:Int} {q p h e s ub:Nat} {S:Sm} (md:Mdl K D (M-t) (N-t) P Q) (hM:t<M) (hN:t<N) (h0:LvR P t M N D u q p h e s ub S) :
  ∃ S1 q' e' ub',rowP K t (M-(t+1)) (t+1) S=some S1∧rest t S1.d=pas (M-t-1) (rest t S.d) ∧
   (Dd Q t M N D u q' p h e' s ub' S1∨∃ h',2*h'≤h∧LvC P t M N D u q' p h' e' s ub' S1):=by
 obtain⟨A,H,Mx,X,hPB,hKB,ub',hub,hQ,hP⟩:=md.step (.inl ⟨rfl,rfl⟩) h0.P h0.cl h0.c.ev.nz h0.c.hh
 obtain⟨S1,h1,d1,r1,u1,b1⟩:=Q84 h0.c.b.dm hM hPB h0.c.b.su h0.c.b.bk hKB (M-t-1) oq
 rw[show M-t-1=M-(t+1) by omega]at h1
 have hB:Bsz t M N D ub' S1:=⟨d1,b1,u1.mono hub⟩
 obtain⟨ev1,ev2⟩:=Q8h h0.c.ev oq oq h0.cl
 have hz:Cln (M-t) (tr (pas (M-t-1) (rest t S.d))):=fun a ha0 ha=>YT h0.c.ev.nz ha0 oq
 by_cases hc:cnC (rest t S.d) (M-t-1)=0
 ·have hDd:Dd Q t M N D u q p h e s ub' S1:={
   c:={ b:=hB,ev:=by rw[r1];exact ev1,hh:=by rw[r1,YE h0.c.ev.nz hc];exact h0.c.hh,e:=h0.c.e }
   cl:=by
    rw[r1]
    intro b hb0 hb
    rw[YE h0.c.ev.nz hc];exact h0.cl b hb0 hb
   cc:=by rw[r1];exact hz
   Q:=by rw[r1];exact hQ hc }
  exact⟨S1,q,e,ub',h1,r1,.inl hDd⟩
 ·have hhalf:=Ys h0.c.ev.nz (M-t-1)
  have h2:2*(pas (M-t-1) (rest t S.d) 0 0).natAbs≤h:=by
   obtain⟨c,hcc⟩:∃ c,cnC (rest t S.d) (M-t-1)=c+1:=⟨_,(Nat.succ_pred hc).symm⟩
   rw[hcc,Nat.pow_succ,Nat.mul_assoc,h0.c.hh]at hhalf
   exact Nat.le_trans (Nat.le_mul_of_pos_left _ (Nat.pow_pos dq)) hhalf
  by_cases hev:Even2 (rest t S.d 0 0) (pas (M-t-1) (rest t S.d) 0 0)
  ·have ev3:=ev2 hev
   obtain⟨l1,l2⟩:=ev3.qle oq oq
   have he:=h0.c.e
   refine⟨S1,q+1,e-1,ub',h1,r1,.inr ⟨_,h2,⟨hB,by rw[r1];exact ev3,by rw[r1],by omega⟩,by rw[r1];exact hz,by rw[r1];exact hP (e-1) oq (.inr oq)⟩⟩
  ·have h3:=Q2m h0.c.ev.nz _ hev
   rw[h0.c.hh]at h3
   exact⟨S1,q,e,ub',h1,r1,.inr ⟨_,h2,⟨hB,by rw[r1];exact ev1,by rw[r1],h0.c.e⟩,by rw[r1];exact hz,by rw[r1];exact hP e oq (.inl ⟨h3,rfl⟩)⟩⟩
theorem Qan {P Q:SP} {K D t M N:Nat} {u:Int} {q p h e s ub:Nat} {S:Sm} (md:Mdl K D (M-t) (N-t) P Q) (hM:t<M) (hN:t<N) (h0:LvC P t M N D u q p h e s ub S) :
  ∃ S1 p' e' ub',rest t S1.d=tr (pas (N-t-1) (tr (rest t S.d))) ∧
   (colP K t (N-(t+1)) (t+1) false S=some (S1,false)∧Dd Q t M N D u q p' h e' s ub' S1∨colP K t (N-(t+1)) (t+1) false S=some (S1,true)∧∃ h',2*h'≤h∧LvR P t M N D u q p' h' e' s ub' S1):=by
 obtain⟨A,H,Mx,X,hPB,hKB,ub',hub,hQ,hP⟩:=md.step (.inr ⟨rfl,rfl⟩) h0.P h0.cl h0.c.ev.nz h0.c.hh
 obtain⟨S1,h1,d1,r1,u1,b1⟩:=Q8l h0.c.b.dm hN hPB h0.c.b.su h0.c.b.bk hKB false (N-t-1) oq
 rw[show N-t-1=N-(t+1) by omega,Bool.false_or]at h1
 rw[show N-(t+1)=N-t-1 by omega]at h1
 have hB:Bsz t M N D ub' S1:=⟨d1,b1,u1.mono hub⟩
 have hnz:tr (rest t S.d) 0 0≠0:=h0.c.ev.nz
 obtain⟨ev1,ev2⟩:=Q8h h0.c.ev.tr oq oq h0.cl
 have hz:Cln (N-t) (tr (pas (N-t-1) (tr (rest t S.d)))):=fun a ha0 ha=>YT hnz ha0 oq
 rw[show N-(t+1)=N-t-1 by omega]
 by_cases hc:cnC (tr (rest t S.d)) (N-t-1)=0
 ·rw[hc]at h1
  have hDd:Dd Q t M N D u q p h e s ub' S1:={
   c:={ b:=hB,ev:=by rw[r1];exact ev1.tr,hh:=by rw[r1];show (pas (N-t-1) (tr (rest t S.d)) 0 0).natAbs=h;rw[YE hnz hc];exact h0.c.hh,e:=h0.c.e }
   cl:=by rw[r1];exact hz
   cc:=by
    rw[r1]
    intro b hb0 hb
    show pas (N-t-1) (tr (rest t S.d)) 0 b=0
    rw[YE hnz hc];exact h0.cl b hb0 hb
   Q:=by rw[r1];exact md.flip (hQ hc) }
  exact⟨S1,p,e,ub',r1,.inl ⟨h1,hDd⟩⟩
 ·have hhalf:=Ys hnz (N-t-1)
  have hh':(tr (rest t S.d) 0 0).natAbs=h:=h0.c.hh
  have h2:2*(pas (N-t-1) (tr (rest t S.d)) 0 0).natAbs≤h:=by
   obtain⟨c,hcc⟩:∃ c,cnC (tr (rest t S.d)) (N-t-1)=c+1:=⟨_,(Nat.succ_pred hc).symm⟩
   rw[hcc,Nat.pow_succ,Nat.mul_assoc,hh']at hhalf
   exact Nat.le_trans (Nat.le_mul_of_pos_left _ (Nat.pow_pos dq)) hhalf
  have h1':colP K t (N-t-1) (t+1) false S=some (S1,true):=by
   rw[h1]
   congr 2
   exact decide_eq_true oq
  by_cases hev:Even2 (tr (rest t S.d) 0 0) (pas (N-t-1) (tr (rest t S.d)) 0 0)
  ·have ev3:=ev2 hev
   obtain⟨l1,l2⟩:=ev3.qle oq oq
   have he:=h0.c.e
   refine⟨S1,p+1,e-1,ub',r1,.inr ⟨h1',_,h2,⟨hB,by rw[r1];exact ev3.tr,by rw[r1];rfl,by omega⟩,by rw[r1];exact hz,by rw[r1];exact hP (e-1) oq (.inr oq)⟩⟩
  ·have h3:=Q2m hnz _ hev
   rw[hh']at h3
   exact⟨S1,p,e,ub',r1,.inr ⟨h1',_,h2,⟨hB,by rw[r1];exact ev1.tr,by rw[r1];rfl,h0.c.e⟩,by rw[r1];exact hz,by rw[r1];exact hP e oq (.inl ⟨h3,rfl⟩)⟩⟩

def Dv (t N i0:Nat) (h0:Int) (S:Sm):Prop:=DR i0 (N-t) h0 (rest t S.d)∧rest t S.d 0 0∣h0
theorem Qon {t M N i0:Nat} {h0:Int} {S S1:Sm} (h:Dv t N i0 h0 S) (hc:Cln (N-t) (rest t S.d)) (hnz:rest t S.d 0 0≠0) (r1:rest t S1.d=pas (M-t-1) (rest t S.d)):Dv t N i0 h0 S1:=by
 refine⟨?_,?_⟩
 ·rw[r1];exact(h.1.row hc _).1
 ·rw[r1];exact Int.dvd_trans (XF hnz _) h.2
theorem Qoo {t M N i0:Nat} {h0:Int} {S S1:Sm} (h:Dv t N i0 h0 S) (hi:i0<M-t) (hN:t<N) (hc:Cln (M-t) (tr (rest t S.d))) (hnz:rest t S.d 0 0≠0) (r1:rest t S1.d=tr (pas (N-t-1) (tr (rest t S.d)))):Dv t N i0 h0 S1:=by
 refine⟨?_,?_⟩
 ·rw[r1];exact h.1.col hi hc oq
 ·rw[r1];exact Int.dvd_trans (XF (E:=tr (rest t S.d)) hnz _) h.2

theorem crossG {P Q:SP} {K D t M N:Nat} {u:Int} (md:Mdl K D (M-t) (N-t) P Q) (hM:t<M) (hN:t<N):∀ (f q p h e s ub:Nat) (S:Sm),LvR P t M N D u q p h e s ub S→h<2 ^ f→∀ i0 h0,i0<M-t→Dv t N i0 h0 S →
  ∃ S' q' p' h' e' ub',crossF K t M N (f+1) S=some S'∧Dd Q t M N D u q' p' h' e' s ub' S'∧Dv t N i0 h0 S'∧h'≤h
 | 0,q,p,h,e,s,ub,S,h0,hf,i0,d0,hi,hd=>by
  have h1:=h0.c.ev.nz
  have h2:=h0.c.hh
  rw[Nat.pow_zero]at hf
  omega
 | f + 1, q, p, h, e, s, ub, S, h0, hf, i0, d0, hi, hd => by
  obtain⟨S1,q1,e1,ub1,g1,r1,hr⟩:=Qgs md hM hN h0
  have hd1:Dv t N i0 d0 S1:=Qon hd h0.cl h0.c.ev.nz r1
  rcases hr with hD|⟨h1,hh1,hL⟩
  ·refine⟨S1,q1,p,h,e1,ub1,?_,hD,hd1,Nat.le_refl _⟩
   rw[crossF,g1]
   dsimp only
   rw[Q78 fun a ha1 ha2=>?_]
   ·rfl
   ·have:=hD.cl (a-t) oq oq
    unfold rest at this
    rw[show t+0=t from rfl,show t+(a-t)=a by omega]at this
    exact this
  ·obtain⟨S2,p2,e2,ub2,r2,hcs⟩:=Qan md hM hN hL
   have hd2:Dv t N i0 d0 S2:=Qoo hd1 hi hN hL.cl hL.c.ev.nz r2
   rcases hcs with ⟨g2,hD⟩|⟨g2,h2,hh2,hL2⟩
   ·refine⟨S2,q1,p2,h1,e2,ub2,?_,hD,hd2,by omega⟩
    rw[crossF,g1]
    dsimp only
    rw[g2]
    rfl
   ·obtain⟨S',q',p',h',e',ub',g3,hD,hd3,hle⟩:=crossG md hM hN f q1 p2 h2 e2 s ub2 S2 hL2 (by rw[Nat.pow_succ]at hf;omega) i0 d0 hi hd2
    refine⟨S',q',p',h',e',ub',?_,hD,hd3,by omega⟩
    rw[crossF,g1]
    dsimp only
    rw[g2]
    exact g3

theorem Qgu {K t M:Nat} {S:Sm} (h:Cln (M-t) (tr (rest t S.d))):rowP K t (M-(t+1)) (t+1) S=some S:=Q6e fun a ha1 ha2=>by
 have:=h (a-t) oq oq
 unfold tr rest at this
 rw[show t+0=t from rfl,show t+(a-t)=a by omega]at this
 exact this
theorem Q76 {P Q:SP} {K D t M N:Nat} {u:Int} (md:Mdl K D (M-t) (N-t) P Q) (hM:t<M) (hN:t<N) {f q p h e s ub:Nat} {S0 S:Sm} (g1:rowP K t (M-(t+1)) (t+1) S0=some S) (h0:LvC P t M N D u q p h e s ub S) (hf:h<2 ^ f) (i0:Nat) (d0:Int) (hi:i0<M-t)
  (hdv:∀ S1:Sm,rest t S1.d=tr (pas (N-t-1) (tr (rest t S.d)))→Dv t N i0 d0 S1) :
  ∃ S' q' p' h' e' ub',crossF K t M N (f+1) S0=some S'∧Dd Q t M N D u q' p' h' e' s ub' S'∧Dv t N i0 d0 S'∧h'≤h:=by
 obtain⟨S2,p2,e2,ub2,r2,hcs⟩:=Qan md hM hN h0
 have hd2:=hdv S2 r2
 rcases hcs with ⟨g2,hD⟩|⟨g2,h2,hh2,hL2⟩
 ·refine⟨S2,q,p2,h,e2,ub2,?_,hD,hd2,Nat.le_refl _⟩
  rw[crossF,g1]
  dsimp only
  rw[g2]
  rfl
 ·cases f with
  | zero =>
   have h1:=h0.c.ev.nz
   have h2:=h0.c.hh
   rw[Nat.pow_zero]at hf
   omega
  | succ f =>
   obtain⟨S',q',p',h',e',ub',g3,hD,hd3,hle⟩:=crossG md hM hN f q p2 h2 e2 s ub2 S2 hL2 (by rw[Nat.pow_succ]at hf;omega) i0 d0 hi hd2
   refine⟨S',q',p',h',e',ub',?_,hD,hd3,by omega⟩
   rw[crossF,g1]
   dsimp only
   rw[g2]
   exact g3
theorem Qg6 {S:Sm} {t N i:Nat} (h:badRow S t N i=false) (h0:gE S.d t t≠0):∀ j,t<j→j<N→gE S.d t t∣gE S.d i j:=fun j h1 h2=>by
 unfold badRow at h
 have:=List.any_eq_false.1 h j (by rw[List.mem_range'_1];omega)
 have h3:remZ (gE S.d i j) (gE S.d t t)=0:=Decidable.byContradiction fun hne=>this (decide_eq_true hne)
 unfold remZ at h3
 rw[if_neg h0]at h3
 exact Int.dvd_of_emod_eq_zero h3
theorem Qai {S:Sm} {t N i:Nat} (h:∀ j,t<j→j<N→gE S.d t t∣gE S.d i j):badRow S t N i=false:=by
 unfold badRow
 refine List.any_eq_false.2 fun j hj=>?_
 rw[List.mem_range'_1]at hj
 have:=Int.emod_eq_zero_of_dvd (h j oq oq)
 unfold remZ
 split<;>simp[this]
theorem Q6c {S:Sm} {t M N:Nat} (h:spoiledF S t M N=none):∀ i,t<i→i<M→badRow S t N i=false:=fun i h1 h2=>by
 unfold spoiledF at h
 have:=List.find?_eq_none.1 h i (by rw[List.mem_range'_1];omega)
 simpa using this
theorem Q6b {S:Sm} {t M N i:Nat} (h:spoiledF S t M N=some i):t<i∧i<M∧badRow S t N i=true∧∀ j,t<j→j<i→badRow S t N j=false:=by
 unfold spoiledF at h
 rw[List.find?_range'_eq_some]at h
 obtain⟨h1,h2,h3⟩:=h
 rw[List.mem_range'_1]at h2
 exact⟨by omega,by omega,h1,fun j hj1 hj2=>by simpa using h3 j oq hj2⟩

theorem Q07 {P Q:SP} {K D t M N F:Nat} {u:Int} (md:Mdl K D (M-t) (N-t) P Q) (hM:t<M) (hN:t<N):∀ (f:Nat) (S0 S1:Sm) (q p h e s ub i0:Nat) (d0:Int),s<f→crossF K t M N (F+1) S0=some S1→Dd Q t M N D u q p h e s ub S1→h<2 ^ F→Dv t N i0 d0 S1→s+i0+1=M-t →
  ∃ S' q' p' h' e' s' ub',stageF K (F+1) t M N f S0=some S'∧Dd Q t M N D u q' p' h' e' s' ub' S'∧h'≤h∧∀ a b,a<M-t→b<N-t→rest t S'.d 0 0∣rest t S'.d a b
 | 0,_,_,_,_,_,_,_,_,_,_,hs,_,_,_,_,_=>absurd hs (Nat.not_lt_zero _)
 | f + 1, S0, S1, q, p, h, e, s, ub, i0, d0, hs, hcr, hD, hF, hdv, hsi => by
  have hnz:gE S1.d t t≠0:=hD.c.ev.nz
  rw[stageF,hcr]
  dsimp only
  cases hsp:spoiledF S1 t M N with
  | none =>
   refine⟨S1,q,p,h,e,s,ub,rfl,hD,Nat.le_refl _,fun a b ha hb=>?_⟩
   by_cases ha0:a=0
   ·subst ha0
    by_cases hb0:b=0
    ·subst hb0;exact Int.dvd_refl _
    ·rw[hD.cl b oq hb];exact Int.dvd_zero _
   ·by_cases hb0:b=0
    ·subst hb0;rw[show rest t S1.d a 0=tr (rest t S1.d) 0 a from rfl,hD.cc a oq ha];exact Int.dvd_zero _
    ·exact Qg6 (Q6c hsp (t+a) oq oq) hnz (t+b) oq oq
  | some i =>
   dsimp only
   obtain⟨hi1,hi2,hb1,hb2⟩:=Q6b hsp
   obtain⟨j,rfl⟩:∃ j,i=t+j:=⟨i-t,by omega⟩
   have hj0:0<j:=by omega
   have hjm:j<M-t:=by omega
   have hji:i0<j:=by
    refine Nat.lt_of_not_le fun hle=>?_
    rw[Qai (S:=S1) (t:=t) (N:=N) (i:=t+j) fun b hb3 hb4=>?_]at hb1
    ·cases hb1
    ·have:=hdv.1 j hj0 hle (b-t) oq oq
     unfold rest at this
     rw[show t+(b-t)=b by omega]at this
     exact Int.dvd_trans hdv.2 this
   have hh2:2≤h:=by
    refine Nat.le_of_not_lt fun hlt=>?_
    rw[Qai (S:=S1) (t:=t) (N:=N) (i:=t+j) fun b hb3 hb4=>?_]at hb1
    ·cases hb1
    ·have h1:(gE S1.d t t).natAbs=h:=hD.c.hh
     have h2:(gE S1.d t t).natAbs=1:=by omega
     exact Int.natAbs_dvd.1 (by rw[h2];exact Int.one_dvd _)
   have hP:=md.spoil (s':=M-t-1-j) hD.Q oq hD.cl hD.cc hj0 hjm hh2 hD.c.ev.nz hD.c.hh
   obtain⟨hev,he0⟩:=Qi7 hD.c.ev oq hD.cl hD.cc hj0 hjm
   have hrr:rest t (S1.rows t (t+j) ⟨1,1,0,1⟩).d=rop 0 j ⟨1,1,0,1⟩ (rest t S1.d):=WA hD.c.b.dm.d hi2 hj0
   have hcl2:Cln (M-t) (tr (rop 0 j ⟨1,1,0,1⟩ (rest t S1.d))):=fun a ha0 ha=>by
    show rop 0 j ⟨1,1,0,1⟩ (rest t S1.d) a 0=0
    have z1:=hD.cc a ha0 ha
    have z2:=hD.cc j hj0 hjm
    unfold tr at z1 z2
    unfold rop Tn.p Tn.q
    by_cases ea:a=j
    ·rw[if_pos ea,z2];dsimp only;omega
    ·rw[if_neg ea,if_neg oq];exact z1
   have hsz:SzU (2 ^ (ub+1)) M N (S1.rows t (t+j) ⟨1,1,0,1⟩):=by
    have:=hD.c.b.su.rows (C:=1) hD.c.b.dm hM hi2 (t:=⟨1,1,0,1⟩) ⟨by decide,by decide,by decide,by decide⟩ (Nat.le_refl _)
    rw[Nat.pow_succ,Nat.mul_comm]
    simpa using this
   have hL:LvC P t M N D u q p h e (M-t-1-j) (ub+1) (S1.rows t (t+j) ⟨1,1,0,1⟩):={
    c := { b := ⟨hD.c.b.dm.rows hM hi2, hD.c.b.bk.rows hD.c.b.dm.d hi1 hi2, hsz⟩,ev:=by rw[hrr];exact hev,hh:=by rw[hrr,he0];exact hD.c.hh,e:=hD.c.e }
    cl:=by rw[hrr];exact hcl2
    P:=by rw[hrr];exact hP }
   have hck:ck K (S1.rows t (t+j) ⟨1,1,0,1⟩)=some (S1.rows t (t+j) ⟨1,1,0,1⟩):=by
    obtain⟨A,H,Mx,X,hPB,hKB,_⟩:=md.step (.inr ⟨rfl,rfl⟩) hL.P hL.cl hL.c.ev.nz hL.c.hh
    have hall:=hPB.all (k:=0) (L:=256 ^ K-1) oq (by have:=hKB.a;omega) (by have:=hKB.h;omega) (by have:=hKB.mx;omega) (by have:=hKB.w;omega)
    refine Qf9 hL.c.b.dm hL.c.b.su (hL.c.b.bk.sz (L:=256 ^ K-1) (by have:=hKB.d;omega) fun a b ha hb=>hall b a hb ha) ?_ (by have:=pos256 K;omega)
    have hC1:1≤2*max A H:=by have:=hPB.a1;have:=Nat.le_max_left A H;omega
    exact Nat.lt_of_le_of_lt (Nat.le_mul_of_pos_left _ (Nat.pow_pos hC1)) hKB.u
   rw[hck]
   dsimp only
   obtain⟨S3,q3,p3,h3,e3,ub3,g3,hD3,hdv3,hle3⟩:=Q76 md hM hN (Qgu hL.cl) hL hF j (rest t S1.d 0 0) hjm fun S2 r2=>by
    rw[hrr]at r2
    refine⟨?_,?_⟩
    ·rw[r2]
     refine DR.spoil (E:=rop 0 j ⟨1,1,0,1⟩ (rest t S1.d)) (m:=M-t) ?_ hj0 hjm (fun b hb=>?_) hcl2 oq fun b hb0' hb'=>YT (by show rop 0 j ⟨1,1,0,1⟩ (rest t S1.d) 0 0≠0;rw[he0];exact hD.c.ev.nz) hb0' oq
     ·intro a ha0 ha b hb0' hb'
      have:rop 0 j ⟨1,1,0,1⟩ (rest t S1.d) a b=rest t S1.d a b:=by unfold rop;rw[if_neg oq,if_neg oq]
      rw[this]
      exact Qg6 (hb2 (t+a) oq oq) hnz (t+b) oq oq
     ·have e1:rop 0 j ⟨1,1,0,1⟩ (rest t S1.d) 0 b-rop 0 j ⟨1,1,0,1⟩ (rest t S1.d) j b=rest t S1.d 0 b:=by
       unfold rop Tn.p Tn.q
       rw[if_neg oq,if_pos rfl,if_pos rfl]
       dsimp only
       omega
      rw[e1]
      by_cases hb0':b=0
      ·subst hb0';exact Int.dvd_refl _
      ·rw[hD.cl b oq hb];exact Int.dvd_zero _
    ·rw[r2]
     have:=XF (E:=tr (rop 0 j ⟨1,1,0,1⟩ (rest t S1.d))) (by show rop 0 j ⟨1,1,0,1⟩ (rest t S1.d) 0 0≠0;rw[he0];exact hD.c.ev.nz) (N-t-1)
     rw[show tr (rop 0 j ⟨1,1,0,1⟩ (rest t S1.d)) 0 0=rest t S1.d 0 0 from he0]at this
     exact this
   obtain⟨S',q',p',h',e',s',ub',g4,hD4,hle4,hall⟩:=Q07 md hM hN f (S1.rows t (t+j) ⟨1,1,0,1⟩) S3 q3 p3 h3 e3 (M-t-1-j) ub3 j (rest t S1.d 0 0) oq g3 hD3 oq hdv3 oq
   exact⟨S',q',p',h',e',s',ub',g4,hD4,by omega,hall⟩

end Go.Proofs.YtljmapfihjkafaaGreatDoor

