import Derived.Test.YtljmapfihjkafaaGreatDoorMm
import Derived.Test.YtljmapfihjkafaaGreatDoorMj
set_option maxHeartbeats 16000000
namespace Go.Proofs.YtljmapfihjkafaaGreatDoor
open Go Go.RowKit
set_option linter.unusedSimpArgs false
set_option linter.unusedVariables false
set_option linter.unusedSectionVars false

abbrev ME:=Nat→Nat→Int
def trE (E:ME):ME:=fun a b=>E b a
def m2 (E:ME) (a a' b b':Nat):Int:=E a b*E a' b'-E a b'*E a' b
def D3 (E:ME):Int:=E 0 0*(E 1 1*E 2 2-E 1 2*E 2 1)-E 0 1*(E 1 0*E 2 2-E 1 2*E 2 0)+E 0 2*(E 1 0*E 2 1-E 1 1*E 2 0)
def DvA (c:Int) (E:ME):Prop:=∀ a b,a<3→b<3→c∣E a b
def DvB (c:Int) (E:ME):Prop:=∀ a a' b b',a<3→a'<3→b<3→b'<3→c∣m2 E a a' b b'
structure iZ (E E':ME):Prop where
 a:∀ c,DvA c E→DvA c E'
 b:∀ c,DvB c E→DvB c E'
structure jQ (E E':ME):Prop where
 f:iZ E E'
 g:iZ E' E
 d:(D3 E').natAbs=(D3 E).natAbs
theorem iZ.refl (E:ME):iZ E E:=⟨fun _ h=>h,fun _ h=>h⟩
theorem iZ.trans {E F G:ME} (h:iZ E F) (k:iZ F G):iZ E G:=⟨fun c x=>k.a c (h.a c x),fun c x=>k.b c (h.b c x)⟩
theorem jQ.refl (E:ME):jQ E E:=⟨iZ.refl E,iZ.refl E,rfl⟩
theorem jQ.trans {E F G:ME} (h:jQ E F) (k:jQ F G):jQ E G:=⟨h.f.trans k.f,k.g.trans h.g,k.d.trans h.d⟩
theorem Qdd {c:Int} {E:ME}:DvA c (trE E)↔DvA c E:=⟨fun h a b ha hb=>h b a hb ha,fun h a b ha hb=>h b a hb ha⟩
theorem Qrx (E:ME) (a a' b b':Nat):m2 (trE E) a a' b b'=m2 E b b' a a':=by
 unfold m2 trE
 rw[Int.mul_comm (E b' a)]
theorem Qdc {c:Int} {E:ME}:DvB c (trE E)↔DvB c E:=⟨fun h a a' b b' ha ha' hb hb'=>by
 have:=h b b' a a' hb hb' ha ha'
 rwa [Qrx]at this,fun h a a' b b' ha ha' hb hb'=>by rw[Qrx];exact h b b' a a' hb hb' ha ha'⟩
theorem Qsy (E:ME):D3 (trE E)=D3 E:=by
 unfold D3 trE
 grind
theorem jQ.tr {E E':ME} (h:jQ (trE E) (trE E')):jQ E E' :=
 ⟨⟨fun c x=>Qdd.1 (h.f.a c (Qdd.2 x)),fun c x=>Qdc.1 (h.f.b c (Qdc.2 x))⟩,⟨fun c x=>Qdd.1 (h.g.a c (Qdd.2 x)),fun c x=>Qdc.1 (h.g.b c (Qdc.2 x))⟩,by have:=h.d;rwa [Qsy,Qsy]at this⟩
theorem iZ.of {E E':ME} (h:∀ a,a<3→∃ p q x y,p<3∧q<3∧∀ b,b<3→E' a b=x*E p b+y*E q b):iZ E E':=by
 refine⟨fun c H a b ha hb=>?_,fun c H a a' b b' ha ha' hb hb'=>?_⟩
 ·obtain⟨p,q,x,y,hp,hq,e⟩:=h a ha
  rw[e b hb]
  exact Int.dvd_add (Int.dvd_trans (H p b hp hb) (Int.dvd_mul_left ..)) (Int.dvd_trans (H q b hq hb) (Int.dvd_mul_left ..))
 ·obtain⟨p,q,x,y,hp,hq,e⟩:=h a ha
  obtain⟨r,s,z,w,hr,hs,e'⟩:=h a' ha'
  have k1:=H p r b b' hp hr hb hb'
  have k2:=H p s b b' hp hs hb hb'
  have k3:=H q r b b' hq hr hb hb'
  have k4:=H q s b b' hq hs hb hb'
  have eq:m2 E' a a' b b'=x*z*m2 E p r b b'+x*w*m2 E p s b b'+(y*z*m2 E q r b b'+y*w*m2 E q s b b'):=by
   unfold m2
   rw[e b hb,e b' hb',e' b hb,e' b' hb']
   grind
  rw[eq]
  exact Int.dvd_add (Int.dvd_add (Int.dvd_trans k1 (Int.dvd_mul_left ..)) (Int.dvd_trans k2 (Int.dvd_mul_left ..))) (Int.dvd_add (Int.dvd_trans k3 (Int.dvd_mul_left ..)) (Int.dvd_trans k4 (Int.dvd_mul_left ..)))
def RowOp (t i:Nat) (tn:Tn) (E E':ME):Prop:=∀ a b,a<3→b<3→E' a b=if a=i then tn.q (E t b) (E i b) else if a=t then tn.p (E t b) (E i b) else E a b
theorem RowOp.rel {t i:Nat} {tn:Tn} {E E':ME} (h:RowOp t i tn E E') (ht:t<3) (hi:i<3) (hti:t<i) (dt:tn.a*tn.d-tn.b*tn.c=1):jQ E E':=by
 refine⟨iZ.of fun a ha=>?_,iZ.of fun a ha=>?_,?_⟩
 ·by_cases e:a=i
  ·exact⟨t,i,tn.c,tn.d,ht,hi,fun b hb=>by rw[h a b ha hb,if_pos e];rfl⟩
  ·by_cases e':a=t
   ·exact⟨t,i,tn.a,tn.b,ht,hi,fun b hb=>by rw[h a b ha hb,if_neg e,if_pos e'];rfl⟩
   ·exact⟨a,a,1,0,ha,ha,fun b hb=>by rw[h a b ha hb,if_neg e,if_neg e'];omega⟩
 ·by_cases e:a=i
  ·refine⟨t,i,-tn.c,tn.a,ht,hi,fun b hb=>?_⟩
   rw[h t b ht hb,h i b hi hb,if_pos rfl,if_neg oq,if_pos rfl,e]
   unfold Tn.p Tn.q
   grind
  ·by_cases e':a=t
   ·refine⟨t,i,tn.d,-tn.b,ht,hi,fun b hb=>?_⟩
    rw[h t b ht hb,h i b hi hb,if_pos rfl,if_neg oq,if_pos rfl,e']
    unfold Tn.p Tn.q
    grind
   ·exact⟨a,a,1,0,ha,ha,fun b hb=>by rw[h a b ha hb,if_neg e,if_neg e'];omega⟩
 ·have h':∀ a b,a<3→b<3→E' a b=if a=i then tn.c*E t b+tn.d*E i b else if a=t then tn.a*E t b+tn.b*E i b else E a b:=h
  have e:D3 E'=D3 E:=by
   unfold D3
   rw[h' 0 0 dq dq,h' 0 1 dq dq,h' 0 2 dq dq,h' 1 0 dq dq,h' 1 1 dq dq,h' 1 2 dq dq,h' 2 0 dq dq,h' 2 1 dq dq,h' 2 2 dq dq]
   have:(t=0∧i=1)∨(t=0∧i=2)∨(t=1∧i=2):=by omega
   rcases this with ⟨rfl,rfl⟩|⟨rfl,rfl⟩|⟨rfl,rfl⟩
   ·simp only[if_pos,if_neg,Nat.zero_ne_one,Nat.one_ne_zero,reduceIte,show (2:Nat)≠1 by decide,show (2:Nat)≠0 by decide]
    generalize E 0 0=a1;generalize E 0 1=a2;generalize E 0 2=a3;generalize E 1 0=b1;generalize E 1 1=b2;generalize E 1 2=b3;generalize E 2 0=c1;generalize E 2 1=c2;generalize E 2 2=c3
    grind
   ·simp only[Nat.zero_ne_one,Nat.one_ne_zero,reduceIte,show (2:Nat)≠1 by decide,show (2:Nat)≠0 by decide,show (0:Nat)≠2 by decide,show (1:Nat)≠2 by decide]
    generalize E 0 0=a1;generalize E 0 1=a2;generalize E 0 2=a3;generalize E 1 0=b1;generalize E 1 1=b2;generalize E 1 2=b3;generalize E 2 0=c1;generalize E 2 1=c2;generalize E 2 2=c3
    grind
   ·simp only[Nat.zero_ne_one,Nat.one_ne_zero,reduceIte,show (2:Nat)≠1 by decide,show (2:Nat)≠0 by decide,show (0:Nat)≠2 by decide,show (1:Nat)≠2 by decide]
    generalize E 0 0=a1;generalize E 0 1=a2;generalize E 0 2=a3;generalize E 1 0=b1;generalize E 1 1=b2;generalize E 1 2=b3;generalize E 2 0=c1;generalize E 2 1=c2;generalize E 2 2=c3
    grind
  rw[e]
structure jc (x y:Int) (t:Tn) (ch:Bool):Prop where
 z:t.q x y=0
 nz:t.p x y≠0
 le:(t.p x y).natAbs≤x.natAbs
 ba:t.a.natAbs≤max 1 y.natAbs
 bb:t.b.natAbs≤x.natAbs
 bc:t.c.natAbs≤y.natAbs
 bd:t.d.natAbs≤x.natAbs
 f:ch=false→t.a=1∧t.b=0∧t.d=1∧x∣y
 h:ch=true→2*(t.p x y).natAbs≤x.natAbs
 dt:t.a*t.d-t.b*t.c=1
theorem Qf9 {x:Int} (hx:x≠0):jc x 0 ⟨1,0,0,1⟩ false:=by
 refine⟨by unfold Tn.q;dsimp only;omega,by unfold Tn.p;dsimp only;omega,by unfold Tn.p;dsimp only;omega,by dsimp only;omega,by dsimp only;omega,by dsimp only;omega,by dsimp only;omega,fun _=>⟨rfl,rfl,rfl,Int.dvd_zero _⟩,fun h=>(by cases h),by decide⟩
theorem Qb5 {x y:Int} (hx:x≠0):(Z5 x y=none∧y=0)∨∃ t ch,Z5 x y=some (t,ch)∧jc x y t ch:=by
 by_cases hy:y=0
 ·subst hy;exact .inl ⟨Q5a x,rfl⟩
 ·refine .inr ?_
  by_cases hd:x∣y
  ·refine⟨_,_,Q6k hy hx hd,?_⟩
   obtain⟨q,rfl⟩:=hd
   have hq:q≠0:=fun e=>hy (by rw[e,Int.mul_zero])
   rw[Int.mul_ediv_cancel_left _ hx]
   have hn:q.natAbs≤(x*q).natAbs:=by rw[Vq];exact Nat.le_mul_of_pos_left _ oq
   refine⟨by unfold Tn.q;dsimp only;grind,by unfold Tn.p;dsimp only;omega,by unfold Tn.p;dsimp only;omega,by dsimp only;omega,by dsimp only;omega,by dsimp only;omega,by dsimp only;omega,fun _=>⟨rfl,rfl,rfl,q,rfl⟩,fun h=>(by cases h),by dsimp only;omega⟩
  ·refine⟨_,_,Q6j hy hd,?_⟩
   have h:=gcdN hx hy
   generalize (dB x y).1=g at *
   generalize (dB x y).2.1=s at *
   generalize (dB x y).2.2=t at *
   have hg:=h.p
   have hb:=h.b
   obtain⟨x',rfl⟩:=h.dx
   obtain⟨y',rfl⟩:=h.dy
   have hs:=h.hs
   have ht:=h.ht
   rw[Int.mul_ediv_cancel_left _ oq,Int.mul_ediv_cancel_left _ oq]
   have hb1:s*x'+t*y'=1:=Int.eq_of_mul_eq_mul_left (a:=g) oq (by grind)
   have hgn:0<g.natAbs:=by omega
   have n1:=Nat.le_mul_of_pos_right s.natAbs hgn
   have n2:=Nat.le_mul_of_pos_right t.natAbs hgn
   have n3:y'.natAbs≤(g*y').natAbs:=by rw[Vq];exact Nat.le_mul_of_pos_left _ hgn
   have n4:x'.natAbs≤(g*x').natAbs:=by rw[Vq];exact Nat.le_mul_of_pos_left _ hgn
   have hx2:2*g.natAbs≤(g*x').natAbs:=by
    have h0:x'≠0:=fun e=>hx (by rw[e,Int.mul_zero])
    have hx1:x'.natAbs≠1:=fun h1=>hd (Int.mul_dvd_mul_left g (Int.natAbs_dvd.1 (by rw[h1];exact Int.one_dvd _)))
    rw[Vq,Vc 2]
    exact V3 _ oq
   have e1:s*(g*x')+t*(g*y')=g:=hb
   refine⟨by unfold Tn.q;dsimp only;grind,by unfold Tn.p;dsimp only;rw[e1];omega,by unfold Tn.p;dsimp only;rw[e1];omega,by dsimp only;omega,by dsimp only;omega,by dsimp only;rw[Int.natAbs_neg];omega,by dsimp only;omega,fun h=>(by cases h),fun _=>by unfold Tn.p;dsimp only;rw[e1];omega,by dsimp only;grind⟩
structure OpA (t i:Nat) (E E':ME) (tn:Tn) (ch:Bool):Prop where
 tp:jc (E t t) (E i t) tn ch
 op:RowOp t i tn E E'
def SzE (B:Nat) (E:ME):Prop:=∀ a b,a<3→b<3→(E a b).natAbs≤B
theorem SzE.mono {B B':Nat} {E:ME} (h:SzE B E) (hB:B≤B'):SzE B' E:=fun a b ha hb=>V0 (h a b ha hb) hB
theorem SzE.tr {B:Nat} {E:ME} (h:SzE B E):SzE B (trE E):=fun a b ha hb=>h b a hb ha

structure AnyP (t i:Nat) (E E':ME):Prop where
 rel:jQ E E'
 nz:E' t t≠0
 le:(E' t t).natAbs≤(E t t).natAbs
 z:∀ a,i≤a→a<3→E' a t=0
 o:∀ a b,a<i→a≠t→a<3→b<3→E' a b=E a b
 cz:∀ b,b<3→(∀ a,t≤a→a<3→E a b=0)→∀ a,t≤a→a<3→E' a b=0
theorem Qsz {t:Nat} {E:ME} (h:E t t≠0):AnyP t 3 E E:=⟨jQ.refl E,h,V8 _,fun a h1 h2=>by omega,fun _ _ _ _ _ _=>rfl,fun _ _ h=>h⟩
theorem RowOp.cz {t i:Nat} {tn:Tn} {E E':ME} (h:RowOp t i tn E E') (hti:t≤i) (hi:i<3) {b:Nat} (hb:b<3) (h0:∀ a,t≤a→a<3→E a b=0) (a:Nat) (h1:t≤a) (h2:a<3):E' a b=0:=by
 rw[h a b h2 hb,h0 t (V8 _) oq,h0 i hti hi,h0 a h1 h2]
 unfold Tn.p Tn.q
 simp
theorem AnyP.step {t i:Nat} {E E1 E':ME} {tn:Tn} {ch:Bool} (h:OpA t i E E1 tn ch) (k:AnyP t (i+1) E1 E') (hti:t<i) (hi:i<3):AnyP t i E E':=by
 have ht:t<3:=by omega
 have e1:E1 t t=tn.p (E t t) (E i t):=by rw[h.op t t ht ht,if_neg oq,if_pos rfl]
 have e2:E1 i t=0:=by rw[h.op i t hi ht,if_pos rfl];exact h.tp.z
 have e3:∀ a b,a≠i→a≠t→a<3→b<3→E1 a b=E a b:=fun a b h1 h2 ha hb=>by rw[h.op a b ha hb,if_neg h1,if_neg h2]
 refine⟨(h.op.rel ht hi hti h.tp.dt).trans k.rel,k.nz,V0 k.le (by rw[e1];exact h.tp.le),fun a h1 h2=>?_,fun a b h1 h2 ha hb=>?_,fun b hb h0=>k.cz b hb (h.op.cz oq hi hb h0)⟩
 ·by_cases e:a=i
  ·subst e;rw[k.o a t oq oq h2 ht,e2]
  ·exact k.z a oq h2
 ·rw[k.o a b oq h2 ha hb,e3 a b oq h2 ha hb]
def Rq (t:Nat) (E:ME):Prop:=∀ b,b<3→b≠t→E t b=0
structure SameP (t i:Nat) (E E':ME):Prop where
 p:E' t t=E t t
 o:∀ a b,a<3→b<3→b≠t→E' a b=E a b
 dv:∀ a,i≤a→a<3→E t t∣E a t
theorem SameP.step {t i:Nat} {E E1 E':ME} {tn:Tn} (h:OpA t i E E1 tn false) (hq:Rq t E) (k:SameP t (i+1) E1 E') (hti:t<i) (hi:i<3):SameP t i E E':=by
 have ht:t<3:=by omega
 obtain⟨fa,fb,fd,fx⟩:=h.tp.f rfl
 have e1:E1 t t=E t t:=by
  rw[h.op t t ht ht,if_neg oq,if_pos rfl]
  unfold Tn.p
  rw[fa,fb];omega
 have eo:∀ a b,a<3→b<3→b≠t→E1 a b=E a b:=fun a b ha hb hbt=>by
  rw[h.op a b ha hb,hq b hb hbt]
  unfold Tn.p Tn.q
  rw[fa,fb,fd]
  by_cases e:a=i
  ·rw[if_pos e,e];omega
  ·rw[if_neg e]
   by_cases e':a=t
   ·rw[if_pos e',e',hq b hb hbt];omega
   ·rw[if_neg e']
 refine⟨k.p.trans e1,fun a b ha hb hbt=>(k.o a b ha hb hbt).trans (eo a b ha hb hbt),fun a h1 h2=>?_⟩
 by_cases e:a=i
 ·subst e;exact fx
 ·have:=k.dv a oq h2
  rw[e1,h.op a t h2 ht,if_neg e,if_neg oq]at this
  exact this
theorem OpA.sz {t i c e:Nat} {E E':ME} {tn:Tn} {ch:Bool} (h:OpA t i E E' tn ch) (ht:t<3) (hi:i<3) (hx:(E t t).natAbs≤2 ^ c) (hy:(E i t).natAbs≤2 ^ c) (hE:SzE (2 ^ e) E):SzE (2 ^ (e+(c+1))) E':=fun a b ha hb=>by
 have h1:1≤2 ^ c:=Nat.one_le_two_pow
 have hq:2*2 ^ c*2 ^ e=2 ^ (e+(c+1)):=by rw[Nat.pow_add,Va];grind
 have tp:=h.tp
 have ba:=tp.ba
 have bb:=tp.bb
 have bc:=tp.bc
 have bd:=tp.bd
 rw[h.op a b ha hb, ← hq]
 split
 ·exact Q6d oq oq (hE t b ht hb) (hE i b hi hb)
 ·split
  ·exact Q6d oq oq (hE t b ht hb) (hE i b hi hb)
  ·exact V0 (hE a b ha hb) (Q0p h1)
structure Sx (e b:Nat) (S:Sm):Prop where
 dm:Dm 3 3 S
 d:SzE (2 ^ e) (gE S.d)
 u:iY (2 ^ b) 3 3 S
theorem Sx.mono {e b e' b':Nat} {S:Sm} (h:Sx e b S) (he:e≤e') (hb:b≤b'):Sx e' b' S:=⟨h.dm,h.d.mono (V4 dq he),h.u.mono (V4 dq hb)⟩

theorem Qcn (n:Nat):Sz 1 n n (fJ n):=fun i j hi hj=>by
 unfold gE fJ
 rw[List.getD,List.getD,List.getElem?_map,List.getElem?_range hi]
 simp only[Option.map_some,Option.getD_some]
 rw[List.getElem?_map,List.getElem?_range hj]
 simp only[Option.map_some,Option.getD_some]
 split
 ·decide
 ·decide
theorem Q7l (n:Nat):Rec n n (fJ n):=by
 refine⟨?_,fun x hx=>?_⟩
 ·unfold fJ;rw[List.length_map,List.length_range]
 ·unfold fJ at hx
  obtain⟨i,_,rfl⟩:=List.mem_map.1 hx
  rw[List.length_map,List.length_range]
theorem Q73 {m n:Nat} {a:List (List Int)} (h:Rec m n a):Dm m n (QY m n a):=⟨Q7l m,Q7l m,h,Q7l n,Q7l n⟩
theorem Q8s (m n:Nat) (a:List (List Int)):iY 1 m n (QY m n a):=⟨Qcn m,Qcn m,Qcn n,Qcn n⟩

theorem Q3g:∀ {n r:Nat} {f:Nat→Int},r≤n→aN (n+1) f=aN n (fun a=>f (sk r a))+f r
 | 0,r,f,h=>by
  obtain rfl:r=0:=by omega
  rfl
 | n + 1, r, f, h => by
  by_cases hr:r=n+1
  ·subst hr
   show aN (n+1) f+f (n+1)=_
   congr 1
   refine Qq fun i hi=>?_
   unfold sk
   rw[if_pos hi]
  ·show aN (n+1) f+f (n+1)=aN n (fun a=>f (sk r a))+f (sk r n)+f r
   rw[Q3g (n:=n) (r:=r) oq]
   have:sk r n=n+1:=by unfold sk;rw[if_neg oq]
   rw[this]
   omega
theorem Qfv (b:Nat):sk 0 b=b+1:=by unfold sk;rw[if_neg (Nat.not_lt_zero b)]

def rop (i k:Nat) (t:Tn) (E:Mi):Mi:=fun a b=>if a=k then t.q (E i b) (E k b) else if a=i then t.p (E i b) (E k b) else E a b
def eG (x y:Int):Tn:=match Z5 x y with|none=>⟨1,0,0,1⟩|some r=>r.1
def chO (x y:Int):Bool:=match Z5 x y with|none=>false|some r=>r.2
theorem Qt6 {x y:Int} (hx:x≠0):jc x y (eG x y) (chO x y):=by
 unfold eG chO
 rcases Qb5 (y:=y) hx with ⟨h,rfl⟩|⟨t,c,h,hp⟩
 ·rw[h];exact Qf9 hx
 ·rw[h];exact hp
theorem jc.dx {x y:Int} {t:Tn} {c:Bool} (h:jc x y t c):t.d*t.p x y=x:=by
 have h1:=h.z;have h2:=h.dt
 unfold Tn.q at h1;unfold Tn.p
 have:t.d*(t.a*x+t.b*y)=(t.a*t.d-t.b*t.c)*x+t.b*(t.c*x+t.d*y):=by grind
 rw[this,h1,h2];omega
theorem jc.dy {x y:Int} {t:Tn} {c:Bool} (h:jc x y t c):t.c*t.p x y = -y:=by
 have h1:=h.z;have h2:=h.dt
 unfold Tn.q at h1;unfold Tn.p
 have:t.c*(t.a*x+t.b*y)=t.a*(t.c*x+t.d*y)-(t.a*t.d-t.b*t.c)*y:=by grind
 rw[this,h1,h2];omega

def stp (i:Nat) (E:Mi):Mi:=rop 0 i (eG (E 0 0) (E i 0)) E
def aJ:Nat→Mi→Mi
 | 0,E=>E
 | k+1,E=>stp (k+1) (aJ k E)
def jd (E:Mi) (k:Nat):Bool:=chO (aJ k E 0 0) (aJ k E (k+1) 0)
def dJ (E:Mi):Nat→Nat
 | 0=>0
 | k+1=>dJ E k+if jd E k then 1 else 0

theorem Wf {E:Mi}:∀ {k a:Nat},k<a→∀ b,aJ k E a b=E a b
 | 0,_,_,_=>rfl
 | k+1,a,h,b=>by
  show stp (k+1) (aJ k E) a b=_
  unfold stp rop
  rw[if_neg oq,if_neg oq,Wf oq]
theorem Zu (E:Mi) (k b:Nat):aJ (k+1) E 0 b=(eG (aJ k E 0 0) (E (k+1) 0)).p (aJ k E 0 b) (E (k+1) b):=by
 show stp (k+1) (aJ k E) 0 b=_
 unfold stp rop
 rw[if_neg oq,if_pos rfl]
 simp only[Wf (Nat.lt_succ_self k)]
theorem WO (E:Mi) (k b:Nat):aJ (k+1) E (k+1) b=(eG (aJ k E 0 0) (E (k+1) 0)).q (aJ k E 0 b) (E (k+1) b):=by
 show stp (k+1) (aJ k E) (k+1) b=_
 unfold stp rop
 rw[if_pos rfl]
 simp only[Wf (Nat.lt_succ_self k)]
theorem Q7k {E:Mi} {k a:Nat} (h0:0<a):∀ {j},a≤k→j=k→∀ b,aJ (j+1) E a b=aJ j E a b:=fun h hj b=>by
 subst hj
 show stp (_+1) (aJ _ E) a b=_
 unfold stp rop
 rw[if_neg oq,if_neg oq]
theorem Qci {E:Mi} {a:Nat} (h0:0<a):∀ (d:Nat) (b:Nat),aJ (a+d) E a b=aJ a E a b
 | 0,_=>rfl
 | d+1,b=>by
  rw[← Qci h0 d b]
  exact Q7k h0 (Nat.le_add_right a d) rfl b
theorem Qh0 {E:Mi} {a k:Nat} (h0:0<a) (h:a≤k) (b:Nat):aJ k E a b=aJ a E a b:=by
 obtain⟨d,rfl⟩:∃ d,k=a+d:=⟨k-a,by omega⟩
 exact Qci h0 d b
theorem Qmn (E:Mi) (k:Nat):jd E k=chO (aJ k E 0 0) (E (k+1) 0):=by unfold jd;rw[Wf (Nat.lt_succ_self k)]
theorem Zt {E:Mi} {k:Nat} (h:aJ k E 0 0≠0):jc (aJ k E 0 0) (E (k+1) 0) (eG (aJ k E 0 0) (E (k+1) 0)) (jd E k):=by
 rw[Qmn];exact Qt6 h
theorem Zw {E:Mi} (h:E 0 0≠0):∀ k,aJ k E 0 0≠0
 | 0=>h
 | k+1=>by rw[Zu];exact(Zt (Zw h k)).nz
theorem Yy {E:Mi} (h:E 0 0≠0) {k a:Nat} (h0:0<a) (ha:a≤k):aJ k E a 0=0:=by
 rw[Qh0 h0 ha]
 obtain⟨j,rfl⟩:∃ j,a=j+1:=⟨a-1,by omega⟩
 rw[WO];exact(Zt (Zw h j)).z
theorem Qcj {E:Mi} (h:E 0 0≠0) (k:Nat):aJ (k+1) E 0 0∣aJ k E 0 0 :=
 ⟨(eG (aJ k E 0 0) (E (k+1) 0)).d,by rw[Zu,Int.mul_comm];exact(Zt (Zw h k)).dx.symm⟩
theorem Wg {E:Mi} (h:E 0 0≠0):∀ k,aJ k E 0 0∣E 0 0
 | 0=>Int.dvd_refl _
 | k+1=>Int.dvd_trans (Qcj h k) (Wg h k)
theorem Q7j {E:Mi} (h:E 0 0≠0) {a:Nat} (h0:0<a):∀ {k},a≤k→aJ k E 0 0∣E a 0
 | 0,hk=>by omega
 | k + 1, hk => by
  by_cases e:a=k+1
  ·subst e
   have h1:=(Zt (Zw h k)).dy
   rw[← Zu]at h1
   exact Int.dvd_neg.1 ⟨_,by rw[← h1,Int.mul_comm]⟩
  ·exact Int.dvd_trans (Qcj h k) (Q7j h h0 oq)
theorem YJ {E:Mi} (h:E 0 0≠0):∀ k,2 ^ dJ E k*(aJ k E 0 0).natAbs≤(E 0 0).natAbs
 | 0=>by show 2 ^ 0*_≤_;rw[Nat.pow_zero,Nat.one_mul];exact V8 _
 | k + 1 => by
  have ih:=YJ h k
  have ht:=Zt (Zw h k)
  have hl:=ht.le
  rw[← Zu]at hl
  show 2 ^ (dJ E k+_)*_≤_
  cases hc:jd E k with
  | false=>exact V0 (V3 _ hl) ih
  | true =>
   have h2:=ht.h hc
   rw[← Zu]at h2
   rw[if_pos rfl,Va,Vn]
   exact V0 (V3 _ h2) ih

def wB (A X:Nat) (c:Nat):Nat:=c*A ^ (c-1)*X
theorem Qnb {A X:Nat} (hA:1≤A):∀ c,A*wB A X c+X≤wB A X (c+1)
 | 0=>by unfold wB;simp
 | c+1=>by
  unfold wB
  rw[Nat.add_sub_cancel,Nat.add_sub_cancel]
  have h1:A*((c+1)*A ^ c*X)=(c+1)*(A ^ (c+1)*X):=by rw[Va];grind
  have h2:(c+1+1)*A ^ (c+1)*X=(c+1)*(A ^ (c+1)*X)+A ^ (c+1)*X:=by rw[Vn,Nat.succ_mul]
  rw[h1,h2]
  exact Nat.add_le_add_left (Nat.le_mul_of_pos_left X (Nat.pow_pos oq)) _
theorem Qf1 {A X c:Nat} (hA:1≤A):wB A X c≤wB A X (c+1) :=
 V0 (V0 (Nat.le_mul_of_pos_left _ oq) (Nat.le_add_right _ X)) (Qnb hA c)
theorem Qmf {a b x y:Int} {A B X Y:Nat} (ha:a.natAbs≤A) (hb:b.natAbs≤B) (hx:x.natAbs≤X) (hy:y.natAbs≤Y):(a*x+b*y).natAbs≤A*X+B*Y:=by
 have h1:=Int.natAbs_add_le (a*x) (b*y)
 rw[Vq,Vq]at h1
 have h2:=Vr ha hx
 have h3:=Vr hb hy
 omega
structure PBd (m n A H M X e:Nat) (E:Mi):Prop where
 nz:E 0 0≠0
 a1:1≤A
 h1:1≤H
 x:H*M≤A ^ e*X
 h:(E 0 0).natAbs≤H
 a:∀ a,0<a→a<m→(E a 0).natAbs≤A
 m:∀ a b,0<a→a<m→0<b→b<n→(E a b).natAbs≤M
 u:∀ b,0<b→b<n→(E 0 b).natAbs≤wB A X e
theorem Qnc {A X Y e:Nat} (hA:1≤A) (hY:Y≤A ^ e*X) (c:Nat):A*wB A X (c+e)+Y≤wB A X (c+e+1):=by
 have hp:A ^ e*X≤A ^ (c+e)*X:=V1 _ (V4 hA oq)
 generalize c+e=j at *
 cases j with
 | zero=>unfold wB;rw[Nat.pow_zero]at hp;simp at hp ⊢;omega
 | succ j =>
  unfold wB
  rw[Nat.add_sub_cancel,Nat.add_sub_cancel]
  have h1:A*((j+1)*A ^ j*X)=(j+1)*(A ^ (j+1)*X):=by rw[Va];grind
  have h2:(j+1+1)*A ^ (j+1)*X=(j+1)*(A ^ (j+1)*X)+A ^ (j+1)*X:=by rw[Vn,Nat.succ_mul]
  rw[h1,h2]
  exact Nat.add_le_add_left (V0 hY hp) _
theorem Q2v {E:Mi} (h:E 0 0≠0) (k:Nat):(aJ k E 0 0).natAbs≤(E 0 0).natAbs :=
 V0 (Nat.le_mul_of_pos_left _ (Nat.pow_pos dq)) (YJ h k)
theorem PBd.tn {m n A H M X e:Nat} {E:Mi} (h:PBd m n A H M X e E) {k:Nat} (hk:k+1<m) :
  (eG (aJ k E 0 0) (E (k+1) 0)).a.natAbs≤A∧(eG (aJ k E 0 0) (E (k+1) 0)).b.natAbs≤H∧(eG (aJ k E 0 0) (E (k+1) 0)).c.natAbs≤A∧(eG (aJ k E 0 0) (E (k+1) 0)).d.natAbs≤H:=by
 have ht:=Zt (k:=k) (Zw h.nz k)
 have h1:=Q2v h.nz k
 have h2:=h.h
 have h3:=h.a (k+1) oq hk
 have h4:=h.a1
 have h5:=h.h1
 exact⟨V0 ht.ba oq,V0 ht.bb oq,V0 ht.bc h3,V0 ht.bd oq⟩
def eF (E:Mi) (e k:Nat):Nat:=if dJ E k=k then k+e else dJ E k+e+1
theorem Xm (E:Mi):∀ k,dJ E k≤k
 | 0=>V8 _
 | k+1=>by have:=Xm E k;show dJ E k+(if jd E k then 1 else 0)≤k+1;split<;>omega
theorem PBd.sz {m n A H M X e:Nat} {E:Mi} (h:PBd m n A H M X e E) {b:Nat} (hb0:0<b) (hb:b<n):∀ k,k<m →
  (aJ k E 0 b).natAbs≤wB A X (dJ E k+e)∧∀ a,0<a→a≤k→(aJ k E a b).natAbs≤wB A X (eF E e k)
 | 0,_=>⟨by show _≤wB _ _ (0+e);rw[Vu];exact h.u b hb0 hb,fun a h0 h1=>by omega⟩
 | k + 1, hk => by
  obtain⟨iu,ir⟩:=PBd.sz h hb0 hb k oq
  obtain⟨ta,tb,tc,td⟩:=h.tn hk
  have ht:=Zt (k:=k) (Zw h.nz k)
  have hz:=h.m (k+1) b oq hk hb0 hb
  have hs:=Qnc h.a1 h.x (dJ E k)
  have e1:dJ E (k+1)=dJ E k+if jd E k then 1 else 0:=rfl
  have hle:=Xm E k
  have hrow:(aJ (k+1) E (k+1) b).natAbs≤wB A X (dJ E k+e+1):=by
   rw[WO]
   unfold Tn.q
   exact V0 (Qmf tc td iu hz) hs
  have hold:∀ a,0<a→a≤k→(aJ (k+1) E a b).natAbs≤wB A X (eF E e k):=fun a h0 h1=>by
   rw[Q7k h0 (k:=k) h1 rfl];exact ir a h0 h1
  have hm:=fun c=>Qf1 (X:=X) (c:=c) h.a1
  cases hc:jd E k with
  | false =>
   rw[hc]at e1
   have e1:dJ E (k+1)=dJ E k:=by rw[e1];rfl
   have e2:eF E e (k+1)=dJ E k+e+1:=by unfold eF;rw[if_neg oq,e1]
   refine⟨?_,fun a h0 h1=>?_⟩
   ·rw[Zu,e1]
    unfold Tn.p
    obtain⟨f1,f2,_⟩:=ht.f hc
    rw[f1,f2,Int.one_mul,Int.zero_mul,Int.add_zero]
    exact iu
   ·rw[e2]
    by_cases ea:a=k+1
    ·subst ea;exact hrow
    ·refine V0 (hold a h0 oq) ?_
     unfold eF
     split
     ·rename_i h2;have:=hm (dJ E k+e);rw[show k+e=dJ E k+e by omega];exact this
     ·exact V8 _
  | true =>
   rw[hc,if_pos rfl]at e1
   refine⟨?_,fun a h0 h1=>?_⟩
   ·rw[Zu,e1,show dJ E k+1+e=dJ E k+e+1 by omega]
    unfold Tn.p
    exact V0 (Qmf ta tb iu hz) hs
   ·by_cases h2:dJ E k=k
    ·have e2:eF E e (k+1)=k+e+1:=by unfold eF;rw[e1,if_pos oq];omega
     rw[e2]
     by_cases ea:a=k+1
     ·subst ea;rw[h2]at hrow;exact hrow
     ·refine V0 (hold a h0 oq) ?_
      unfold eF
      rw[if_pos h2]
      exact hm _
    ·have e2:eF E e (k+1)=dJ E k+e+1+1:=by unfold eF;rw[e1,if_neg oq];omega
     rw[e2]
     by_cases ea:a=k+1
     ·subst ea;exact V0 hrow (hm _)
     ·refine V0 (hold a h0 oq) ?_
      unfold eF
      rw[if_neg h2]
      exact hm _

def tvc (i k:Nat) (t:Tn) (y:Nat→Int):Nat→Int:=fun a=>if a=k then -t.b*y i+t.a*y k else if a=i then t.d*y i + -t.c*y k else y a
theorem Qfr:∀ {m i k:Nat} {f g:Nat→Int},i<k→k<m→(∀ a,a<m→a≠i→a≠k→f a=g a)→f i+f k=g i+g k→aN m f=aN m g
 | 0,_,_,_,_,_,h,_,_=>by omega
 | m + 1, i, k, f, g, hik, hk, h, he => by
  show aN m f+f m=aN m g+g m
  by_cases e:k=m
  ·subst e
   have h1:∀ d,i+1+d≤k→aN (i+1+d) f-aN (i+1+d) g=f i-g i:=by
    intro d
    induction d with
    | zero =>
     intro _
     show aN i f+f i-(aN i g+g i)=_
     rw[Qq (g:=g) fun a ha=>h a oq oq oq]
     omega
    | succ d ih =>
     intro hd
     have:=ih oq
     show aN (i+1+d) f+f (i+1+d)-(aN (i+1+d) g+g (i+1+d))=_
     rw[h (i+1+d) oq oq oq]
     omega
   have h2:=h1 (k-(i+1)) oq
   rw[show i+1+(k-(i+1))=k by omega]at h2
   omega
  ·rw[Qfr hik oq (fun a ha=>h a oq) he,h m oq oq oq]
theorem Qbp {m i k:Nat} {t:Tn} {y:Nat→Int} {E:Mi} {b:Nat} (hik:i<k) (hk:k<m) (hd:t.a*t.d-t.b*t.c=1) :
  aN m (fun a=>tvc i k t y a*rop i k t E a b)=aN m fun a=>y a*E a b:=by
 refine Qfr hik hk (fun a _ h1 h2=>?_) ?_
 ·unfold tvc rop
  rw[if_neg h2,if_neg h2,if_neg h1,if_neg h1]
 ·unfold tvc rop Tn.p Tn.q
  have hne:i≠k:=by omega
  simp only[if_neg hne,if_true]
  have:(t.d*y i + -t.c*y k)*(t.a*E i b+t.b*E k b)+(-t.b*y i+t.a*y k)*(t.c*E i b+t.d*E k b)=(t.a*t.d-t.b*t.c)*(y i*E i b+y k*E k b):=by grind
  rw[this,hd,Int.one_mul]

def Indt (k m:Nat) (Y:Nat→Nat→Int):Prop:=∀ c:Nat→Int,(∀ b,b<m→(2:Int)∣aN k fun j=>c j*Y j b)→∀ j,j<k→(2:Int)∣c j
theorem Qhj:∀ {m k:Nat} {Y:Nat→Nat→Int},Indt k m Y→k≤m
 | 0,k,Y,h=>by
  refine Nat.le_of_not_lt fun hk=>?_
  have:=h (fun _=>1) (fun b hb=>by omega) 0 hk
  omega
 | m + 1, k, Y, h => by
  by_cases hA:∀ j,j<k→(2:Int)∣Y j m
  ·refine Nat.le_succ_of_le (Qhj (m:=m) (Y:=Y) fun c hc=>h c fun b hb=>?_)
   by_cases e:b=m
   ·subst e
    clear hc h
    induction k with
    | zero=>exact Int.dvd_zero _
    | succ k ih=>exact Int.dvd_add (ih fun j hj=>hA j oq) (Int.dvd_mul_of_dvd_right (hA k oq))
   ·exact hc b oq
  ·obtain⟨r,hr,ho⟩:∃ r,r<k∧¬(2:Int)∣Y r m:=by
    refine Vg fun hn=>hA fun j hj=>?_
    refine Vg fun h2=>hn ⟨j,hj,h2⟩
   obtain⟨n,rfl⟩:∃ n,k=n+1:=⟨k-1,by omega⟩
   refine Nat.succ_le_succ (Qhj (m:=m) (Y:=fun j b=>Y (sk r j) b+Y (sk r j) m*Y r b) fun c hc=>?_)
   let s:Int:=aN n fun j=>c j*Y (sk r j) m
   let c':Nat→Int:=fun j=>if j=r then s else c (unsk r j)
   have hu:∀ j,unsk r (sk r j)=j:=fun j=>by
    unfold unsk sk
    by_cases h1:j<r
    ·simp only[if_pos h1]
    ·simp only[if_neg h1,if_neg (show ¬j+1<r by omega)];omega
   have hne:∀ j,sk r j≠r:=fun j=>by unfold sk;split<;>omega
   have hcs:∀ j,c' (sk r j)=c j:=fun j=>by show (if sk r j=r then s else c (unsk r (sk r j)))=c j;rw[if_neg (hne j),hu]
   have hcr:c' r=s:=if_pos rfl
   have hsum:∀ b,(aN (n+1) fun j=>c' j*Y j b)=(aN n fun j=>c j*Y (sk r j) b)+s*Y r b:=fun b=>by
    rw[Q3g (r:=r) oq,hcr,Qq (g:=fun j=>c j*Y (sk r j) b) fun j _=>by rw[hcs]]
   have hsum2:∀ b,(aN n fun j=>c j*(Y (sk r j) b+Y (sk r j) m*Y r b))=(aN n fun j=>c j*Y (sk r j) b)+s*Y r b:=fun b=>by
    rw[Qq (g:=fun j=>c j*Y (sk r j) b+c j*Y (sk r j) m*Y r b) fun j _=>by grind,ZB,Wb]
   have hall:=h c' fun b hb=>by
    rw[hsum b]
    by_cases e:b=m
    ·subst e
     show (2:Int)∣s+s*Y r b
     obtain⟨q,hq⟩:∃ q,Y r b=2*q+1:=⟨Y r b / 2,by omega⟩
     exact⟨s*(q+1),by rw[hq];grind⟩
    ·rw[← hsum2 b];exact hc b oq
   intro j hj
   have:=hall (sk r j) (by unfold sk;split<;>omega)
   rw[hcs]at this
   exact this
theorem Qmh {k m i l:Nat} {t:Tn} {Y:Nat→Nat→Int} (h:Indt k m Y) (hil:i<l) (hl:l<m) (hd:t.a*t.d-t.b*t.c=1):Indt k m fun j=>tvc i l t (Y j):=fun c hc=>h c fun b hb=>by
 have e1:=hc i oq
 have e2:=hc l hl
 have hne:i≠l:=by omega
 unfold tvc at e1 e2
 simp only[if_neg hne,if_true]at e1 e2
 have s1:(aN k fun j=>c j*(t.d*Y j i + -t.c*Y j l))=t.d*(aN k fun j=>c j*Y j i) + -t.c*aN k fun j=>c j*Y j l:=by
  rw[← QM, ← QM, ← ZB];exact Qq fun j _=>by grind
 have s2:(aN k fun j=>c j*(-t.b*Y j i+t.a*Y j l)) = -t.b*(aN k fun j=>c j*Y j i)+t.a*aN k fun j=>c j*Y j l:=by
  rw[← QM, ← QM, ← ZB];exact Qq fun j _=>by grind
 rw[s1]at e1
 rw[s2]at e2
 generalize hP:(aN k fun j=>c j*Y j i)=P at *
 generalize hQ:(aN k fun j=>c j*Y j l)=Q at *
 have eP:P=t.a*(t.d*P + -t.c*Q)+t.c*(-t.b*P+t.a*Q):=by
  have:t.a*(t.d*P + -t.c*Q)+t.c*(-t.b*P+t.a*Q)=(t.a*t.d-t.b*t.c)*P:=by grind
  rw[this,hd];omega
 have eQ:Q=t.b*(t.d*P + -t.c*Q)+t.d*(-t.b*P+t.a*Q):=by
  have:t.b*(t.d*P + -t.c*Q)+t.d*(-t.b*P+t.a*Q)=(t.a*t.d-t.b*t.c)*Q:=by grind
  rw[this,hd];omega
 by_cases h1:b=i
 ·subst h1
  rw[hP,eP]
  exact Int.dvd_add (Int.dvd_mul_of_dvd_right e1) (Int.dvd_mul_of_dvd_right e2)
 ·by_cases h2:b=l
  ·subst h2
   rw[hQ,eQ]
   exact Int.dvd_add (Int.dvd_mul_of_dvd_right e1) (Int.dvd_mul_of_dvd_right e2)
  ·have:=hc b hb
   unfold tvc at this
   simp only[if_neg h1,if_neg h2]at this
   exact this
theorem Qkw {k m:Nat} {Y:Nat→Nat→Int} (h:Indt k m Y) (hm:0<m) (he:∀ j,j<k→(2:Int)∣Y j 0):Indt (k+1) m fun j=>if j=k then unit 0 else Y j:=fun c hc=>by
 have hs:∀ b,(aN (k+1) fun j=>c j*(if j=k then unit 0 else Y j) b)=(aN k fun j=>c j*Y j b)+c k*unit 0 b:=fun b=>by
  show aN k _+c k*(if k=k then unit 0 else Y k) b=_
  rw[if_pos rfl,Qq (g:=fun j=>c j*Y j b) fun j hj=>by rw[if_neg oq]]
 have h0:=hc 0 hm
 rw[hs]at h0
 have he':(2:Int)∣aN k fun j=>c j*Y j 0:=by
  clear h hc hs h0
  induction k with
  | zero=>exact Int.dvd_zero _
  | succ k ih=>exact Int.dvd_add (ih fun j hj=>he j oq) (Int.dvd_mul_of_dvd_right (he k oq))
 have hk:(2:Int)∣c k:=by
  have e:unit 0 0=(1:Int):=if_pos rfl
  rw[e,Int.mul_one]at h0
  exact(Int.dvd_iff_dvd_of_dvd_add h0).1 he'
 have hall:=h c fun b hb=>by
  have:=hc b hb
  rw[hs]at this
  exact(Int.dvd_iff_dvd_of_dvd_add this).2 (Int.dvd_mul_of_dvd_left hk)
 intro j hj
 by_cases e:j=k
 ·subst e;exact hk
 ·exact hall j oq
theorem Qoz {m:Nat} (hm:0<m):Indt 1 m fun _=>unit 0:=fun c hc j hj=>by
 have:=hc 0 hm
 obtain rfl:j=0:=by omega
 have e:unit 0 0=(1:Int):=if_pos rfl
 have e2:(aN 1 fun j=>c j*unit 0 0)=c 0:=by show (0:Int)+c 0*unit 0 0=c 0;rw[e];omega
 rw[e2]at this
 exact this

def dN (m:Nat) (y:Nat→Int) (E:Mi) (b:Nat):Int:=aN m fun a=>y a*E a b
def fV (n:Nat) (E:Mi):Prop:=∀ b,0<b→b<n→E 0 b=0
theorem Qg7 {m:Nat} (hm:0<m) {y:Nat→Int} {E:Mi} (hy:∀ a,a<m→y a=unit 0 a) (b:Nat):dN m y E b=E 0 b:=by
 unfold dN
 rw[Qq (g:=fun a=>E a b*unit 0 a) fun a ha=>by rw[hy a ha,Int.mul_comm]]
 rw[ZA hm fun a ha h0=>by unfold unit;rw[if_neg (fun e=>h0 e.symm),Int.mul_zero]]
 unfold unit;rw[if_pos rfl,Int.mul_one]
def tvp (E:Mi):Nat→(Nat→Int)→Nat→Int
 | 0,y=>y
 | k+1,y=>tvc 0 (k+1) (eG (aJ k E 0 0) (E (k+1) 0)) (tvp E k y)
theorem Q8r (E:Mi) (k:Nat):aJ (k+1) E=rop 0 (k+1) (eG (aJ k E 0 0) (E (k+1) 0)) (aJ k E):=by
 show rop 0 (k+1) (eG (aJ k E 0 0) (aJ k E (k+1) 0)) (aJ k E)=_
 simp only[Wf (Nat.lt_succ_self k)]
theorem Qab {m:Nat} {E:Mi} (h:E 0 0≠0) (y:Nat→Int) (b:Nat):∀ k,k<m→dN m (tvp E k y) (aJ k E) b=dN m y E b
 | 0,_=>rfl
 | k+1,hk=>by
  rw[← Qab h y b k oq,Q8r]
  exact Qbp oq hk (Zt (Zw h k)).dt
theorem Qf7 {m q:Nat} {E:Mi} (h:E 0 0≠0) {Y:Nat→Nat→Int} (hY:Indt q m Y):∀ k,k<m→Indt q m fun j=>tvp E k (Y j)
 | 0,_=>hY
 | k+1,hk=>Qmh (Qf7 h hY k oq) oq hk (Zt (Zw h k)).dt

def TwoP (D h:Int):Prop:=∃ v:Nat,D=2 ^ v∧D∣h∧¬2*D∣h
theorem Qaa:∀ (n:Nat) (h:Int),h≠0→h.natAbs≤n→∃ D,TwoP D h
 | 0,h,h0,hn=>by omega
 | n + 1, h, h0, hn => by
  by_cases h2:(2:Int)∣h
  ·obtain⟨x,rfl⟩:=h2
   obtain⟨D,v,rfl,h3,h4⟩:=Qaa n x oq oq
   refine⟨_,v+1,rfl,?_,?_⟩
   ·rw[Int.pow_succ,Int.mul_comm];exact Int.mul_dvd_mul_left 2 h3
   ·intro h5
    rw[Int.pow_succ,Int.mul_comm (2 ^ v) 2]at h5
    exact h4 (Int.dvd_of_mul_dvd_mul_left (a:=2) oq h5)
  ·exact⟨1,0,rfl,Int.one_dvd _,fun h5=>h2 (by rw[Int.mul_one]at h5;exact h5)⟩
theorem Q6a:∀ (v:Nat) (x g:Int),¬(2:Int)∣x→(2:Int) ^ v∣x*g→(2:Int) ^ v∣g
 | 0,_,g,_,_=>by rw[Int.pow_zero];exact Int.one_dvd g
 | v + 1, x, g, hx, h => by
  have h1:(2:Int)∣x*g:=Int.dvd_trans ⟨2 ^ v,by rw[Int.pow_succ,Int.mul_comm]⟩ h
  have h2:(2:Int)∣g:=by
   obtain⟨q,hq⟩:∃ q,x=2*q+1:=⟨x / 2,by omega⟩
   rw[hq]at h1
   have:(2*q+1)*g=2*(q*g)+g:=by grind
   rw[this]at h1
   omega
  obtain⟨g',rfl⟩:=h2
  rw[Int.pow_succ,Int.mul_comm]
  refine Int.mul_dvd_mul_left 2 (Q6a v x g' hx ?_)
  rw[Int.pow_succ,Int.mul_comm (2 ^ v) 2,show x*(2*g')=2*(x*g') by grind]at h
  exact Int.dvd_of_mul_dvd_mul_left oq h
theorem TwoP.down {D D' h g:Int} (h1:TwoP D h) (h2:TwoP D' g) (hg:g∣h):D'∣D:=by
 obtain⟨v,rfl,h3,h4⟩:=h1
 obtain⟨w,rfl,h5,h6⟩:=h2
 by_cases hw:w≤v
 ·obtain⟨d,rfl⟩:∃ d,v=w+d:=⟨v-w,by omega⟩
  exact⟨2 ^ d,by rw[Int.pow_add]⟩
 ·obtain⟨d,rfl⟩:∃ d,w=v+1+d:=⟨w-(v+1),by omega⟩
  refine absurd (Int.dvd_trans ⟨2 ^ d,?_⟩ (Int.dvd_trans h5 hg)) h4
  rw[Int.pow_add,Int.pow_succ,Int.mul_comm (2 ^ v) 2]
theorem TwoP.even {D h g y:Int} (h1:TwoP D h) (hh:∃ f,h=2*f*g) (hd:D∣y*g):(2:Int)∣y:=by
 obtain⟨v,rfl,h3,h4⟩:=h1
 refine Vg fun hy=>h4 ?_
 obtain⟨f,rfl⟩:=hh
 obtain⟨z,hz⟩:=Q6a v y g hy hd
 exact⟨f*z,by rw[hz];grind⟩

def iC (q m n:Nat) (D:Int) (E:Mi):Prop:=q=0∨∃ Y,Indt (q+1) m Y∧∀ j,j≤q→(∀ a,a<m→Y j a=unit 0 a)∨∀ b,b<n→D∣dN m (Y j) E b
theorem iC.le {q m n:Nat} {D:Int} {E:Mi} (h:iC q m n D E) (hm:0<m):q+1≤m:=by
 rcases h with rfl|⟨Y,hY,_⟩
 ·omega
 ·exact Qhj hY
theorem iC.all {q m n:Nat} {D:Int} {E:Mi} (h:iC q m n D E) (hm:0<m) (hc:fV n E) (hD:D∣E 0 0):∃ Y,Indt (q+1) m Y∧∀ j,j≤q→∀ b,b<n→D∣dN m (Y j) E b:=by
 have hu:∀ y:Nat→Int,(∀ a,a<m→y a=unit 0 a)→∀ b,b<n→D∣dN m y E b:=fun y hy b hb=>by
  rw[Qg7 hm hy]
  by_cases e:b=0
  ·subst e;exact hD
  ·rw[hc b oq hb];exact Int.dvd_zero _
 rcases h with rfl|⟨Y,hY,h1⟩
 ·exact⟨fun _=>unit 0,Qoz hm,fun j _=>hu _ fun a _=>rfl⟩
 ·exact⟨Y,hY,fun j hj=>(h1 j hj).elim (hu _) id⟩
theorem Qhv {q m n:Nat} {D D':Int} {E:Mi} (h:iC q m n D E) (hm:0<m) (hc:fV n E) (h0:E 0 0≠0) (hD:TwoP D (E 0 0)) (hD':TwoP D' (aJ (m-1) E 0 0)):iC q m n D' (aJ (m-1) E)∧((∃ f,E 0 0=2*f*aJ (m-1) E 0 0)→0<n→iC (q+1) m n D' (aJ (m-1) E)):=by
 obtain⟨Y,hY,h1⟩:=h.all hm hc (by obtain⟨v,_,h,_⟩:=hD;exact h)
 have hdv:=hD.down hD' (Wg h0 (m-1))
 have hT:=Qf7 h0 hY (m-1) oq
 have h2:∀ j,j≤q→∀ b,b<n→D∣dN m (tvp E (m-1) (Y j)) (aJ (m-1) E) b:=fun j hj b hb=>by
  rw[Qab h0 _ _ _ oq];exact h1 j hj b hb
 refine⟨.inr ⟨_,hT,fun j hj=>.inr fun b hb=>Int.dvd_trans hdv (h2 j hj b hb)⟩,fun he hn=>.inr ⟨_,Qkw hT hm fun j hj=>?_,fun j hj=>?_⟩⟩
 ·refine hD.even he ?_
  have:=h2 j oq 0 hn
  have e:dN m (tvp E (m-1) (Y j)) (aJ (m-1) E) 0=tvp E (m-1) (Y j) 0*aJ (m-1) E 0 0 :=
   ZA (f:=fun a=>tvp E (m-1) (Y j) a*aJ (m-1) E a 0) hm fun a ha h3=>by
    show tvp E (m-1) (Y j) a*aJ (m-1) E a 0=0
    rw[Yy h0 oq oq,Int.mul_zero]
  rw[e]at this
  exact this
 ·by_cases e:j=q+1
  ·left
   intro a _
   rw[if_pos e]
  ·right
   rw[if_neg e]
   exact fun b hb=>Int.dvd_trans hdv (h2 j oq b hb)
theorem Q1h {E:Mi} {m:Nat} {P:(Nat→Int)→Prop} (hP:∀ (x y:Int) (f g:Nat→Int),P f→P g→P fun b=>x*f b+y*g b) (h:∀ a,a<m→P (E a)):∀ k,k<m→∀ a,a<m→P (aJ k E a)
 | 0,_,a,ha=>h a ha
 | k + 1, hk, a, ha => by
  have ih:=Q1h hP h k oq
  rw[Q8r]
  by_cases e1:a=k+1
  ·have:(rop 0 (k+1) (eG (aJ k E 0 0) (E (k+1) 0)) (aJ k E)) a=fun b=>(eG (aJ k E 0 0) (E (k+1) 0)).c*aJ k E 0 b+(eG (aJ k E 0 0) (E (k+1) 0)).d*aJ k E (k+1) b:=by
    funext b;unfold rop;rw[if_pos e1];rfl
   rw[this];exact hP _ _ _ _ (ih 0 oq) (ih (k+1) hk)
  ·by_cases e2:a=0
   ·have:(rop 0 (k+1) (eG (aJ k E 0 0) (E (k+1) 0)) (aJ k E)) a=fun b=>(eG (aJ k E 0 0) (E (k+1) 0)).a*aJ k E 0 b+(eG (aJ k E 0 0) (E (k+1) 0)).b*aJ k E (k+1) b:=by
     funext b;unfold rop;rw[if_neg e1,if_pos e2];rfl
    rw[this];exact hP _ _ _ _ (ih 0 oq) (ih (k+1) hk)
   ·have:(rop 0 (k+1) (eG (aJ k E 0 0) (E (k+1) 0)) (aJ k E)) a=aJ k E a:=by
     funext b;unfold rop;rw[if_neg e1,if_neg e2]
    rw[this];exact ih a ha
theorem Qp5 {p m n:Nat} {D D':Int} {E:Mi} (h:iC p n m D (tr E)) (hm:0<m) (hdv:D'∣D):iC p n m D' (tr (aJ (m-1) E)):=by
 rcases h with h|⟨Z,hZ,h1⟩
 ·exact .inl h
 ·refine .inr ⟨Z,hZ,fun j hj=>(h1 j hj).imp id fun h2 a ha=>?_⟩
  have hc:=Q1h (E:=E) (m:=m) (P:=fun f=>D∣aN n fun b=>Z j b*f b) (fun x y f g hf hg=>by
   have:(aN n fun b=>Z j b*(x*f b+y*g b))=x*(aN n fun b=>Z j b*f b)+y*aN n fun b=>Z j b*g b:=by
    rw[← QM, ← QM, ← ZB];exact Qq fun b _=>by grind
   show D∣aN n fun b=>Z j b*(x*f b+y*g b)
   rw[this]
   exact Int.dvd_add (Int.dvd_mul_of_dvd_right hf) (Int.dvd_mul_of_dvd_right hg)) (fun a ha=>h2 a ha) (m-1) oq a ha
  exact Int.dvd_trans hdv hc

def DR (i n:Nat) (D:Int) (E:Mi):Prop:=∀ a,0<a→a≤i→∀ b,0<b→b<n→D∣E a b
theorem DR.row {i n:Nat} {D:Int} {E:Mi} (h:DR i n D E) (hc:fV n E):∀ k,DR i n D (aJ k E)∧(k≤i→∀ b,0<b→b<n→D∣aJ k E 0 b)
 | 0=>⟨h,fun _ b h0 hb=>by show D∣E 0 b;rw[hc b h0 hb];exact Int.dvd_zero _⟩
 | k + 1 => by
  obtain⟨i1,i2⟩:=DR.row h hc k
  refine⟨fun a h0 ha b hb0 hb=>?_,fun hk b hb0 hb=>?_⟩
  ·by_cases e:a=k+1
   ·subst e
    rw[WO]
    exact Int.dvd_add (Int.dvd_mul_of_dvd_right (i2 oq b hb0 hb)) (Int.dvd_mul_of_dvd_right (h (k+1) h0 ha b hb0 hb))
   ·rw[Q8r];unfold rop;rw[if_neg e,if_neg oq];exact i1 a h0 ha b hb0 hb
  ·rw[Zu]
   exact Int.dvd_add (Int.dvd_mul_of_dvd_right (i2 oq b hb0 hb)) (Int.dvd_mul_of_dvd_right (h (k+1) oq hk b hb0 hb))
theorem Qki {E:Mi} {n a:Nat} {D:Int} (h:∀ b,b<n→D∣E b a):∀ k,k<n→∀ b,b<n→D∣aJ k E b a:=fun k hk b hb =>
 Q1h (E:=E) (m:=n) (P:=fun f=>D∣f a) (fun _ _ _ _ hf hg=>Int.dvd_add (Int.dvd_mul_of_dvd_right hf) (Int.dvd_mul_of_dvd_right hg)) h k hk b hb
theorem DR.col {i m n:Nat} {D:Int} {E:Mi} (h:DR i n D E) (hi:i<m) (hc:fV m (tr E)) {k:Nat} (hk:k<n):DR i n D (tr (aJ k (tr E))):=fun a h0 ha b hb0 hb=>by
 refine Qki (E:=tr E) (a:=a) (fun b' hb'=>?_) k hk b hb
 show D∣E a b'
 by_cases e:b'=0
 ·subst e;rw[show E a 0=tr E 0 a from rfl,hc a h0 oq];exact Int.dvd_zero _
 ·exact h a h0 ha b' oq hb'
theorem DR.spoil {i m n:Nat} {h:Int} {E:Mi} (hd:DR (i-1) n h E) (h0:0<i) (hi:i<m) (he:∀ b,b<n→h∣E 0 b-E i b) (hc:fV m (tr E)) {k:Nat} (hk:k<n) (hz:∀ b,0<b→b<n→aJ k (tr E) b 0=0):DR i n h (tr (aJ k (tr E))):=fun a ha0 ha b hb0 hb=>by
 by_cases e:a=i
 ·subst e
  have h1:=Q1h (E:=tr E) (m:=n) (P:=fun f=>h∣f 0-f a) (fun x y f g hf hg=>by
   have:x*f 0+y*g 0-(x*f a+y*g a)=x*(f 0-f a)+y*(g 0-g a):=by grind
   show h∣x*f 0+y*g 0-(x*f a+y*g a)
   rw[this]
   exact Int.dvd_add (Int.dvd_mul_of_dvd_right hf) (Int.dvd_mul_of_dvd_right hg)) he k hk b hb
  rw[hz b hb0 hb,Int.zero_sub]at h1
  exact Int.dvd_neg.1 h1
 ·exact DR.col hd oq hc hk a ha0 oq b hb0 hb

def Gm (m n:Nat) (u:Int) (E:Mi):Prop:=∃ X:Mi,∀ a,a<m→∀ b,b<n→aN n (fun i=>E a i*dN m (X i) E b)=u*E a b
theorem Q2e {m n:Nat} {u:Int} {E:Mi} (h:Gm m n u E) (h0:E 0 0≠0) {k:Nat} (hk:k<m):Gm m n u (aJ k E):=by
 obtain⟨X,hX⟩:=h
 refine⟨fun i=>tvp E k (X i),fun a ha b hb=>?_⟩
 rw[Qq (g:=fun i=>aJ k E a i*dN m (X i) E b) fun i _=>by rw[Qab h0 _ _ _ hk]]
 exact Q1h (E:=E) (m:=m) (P:=fun f=>aN n (fun i=>f i*dN m (X i) E b)=u*f b) (fun x y f g hf hg=>by
  have:(aN n fun i=>(x*f i+y*g i)*dN m (X i) E b)=x*(aN n fun i=>f i*dN m (X i) E b)+y*aN n fun i=>g i*dN m (X i) E b:=by
   rw[← QM, ← QM, ← ZB];exact Qq fun i _=>by grind
  show (aN n fun i=>(x*f i+y*g i)*dN m (X i) E b)=u*(x*f b+y*g b)
  rw[this,hf,hg];grind) (fun a ha=>hX a ha b hb) k hk a ha
theorem Q4z {m n:Nat} {u:Int} {E:Mi} (h:Gm m n u E):Gm n m u (tr E):=by
 obtain⟨X,hX⟩:=h
 refine⟨fun j i=>X i j,fun b hb a ha=>?_⟩
 show _=u*E a b
 rw[← hX a ha b hb]
 unfold dN tr
 rw[Qq (g:=fun j=>aN n fun i=>E a i*(X i j*E j b)) fun j _=>by rw[← QM];exact Qq fun i _=>by grind]
 rw[Xw]
 exact Qq fun i _=>by rw[QM]
theorem Qmj {m n:Nat} {u d:Int} {E:Mi} (h:Gm m n u E) (hm:0<m) (hn:0<n) (h0:E 0 0≠0) (hc:fV m (tr E)) (hd:∀ b,b<n→d∣E 0 b):d∣u:=by
 obtain⟨X,hX⟩:=h
 have h1:=hX 0 hm 0 hn
 have e:(aN n fun i=>E 0 i*dN m (X i) E 0)=(aN n fun i=>E 0 i*X i 0)*E 0 0:=by
  rw[← Wb]
  refine Qq fun i _=>?_
  have:dN m (X i) E 0=X i 0*E 0 0:=ZA (f:=fun a=>X i a*E a 0) hm fun a ha h3=>by
   show X i a*E a 0=0
   rw[show E a 0=tr E 0 a from rfl,hc a oq ha,Int.mul_zero]
  rw[this,Int.mul_assoc]
 rw[e]at h1
 have h2:=Int.eq_of_mul_eq_mul_right h0 h1
 rw[← h2]
 clear e h1 h2 hX
 have:∀ k,k≤n→d∣aN k fun i=>E 0 i*X i 0:=by
  intro k
  induction k with
  | zero=>exact fun _=>Int.dvd_zero _
  | succ k ih=>exact fun hk=>Int.dvd_add (ih oq) (Int.dvd_mul_of_dvd_left (hd k oq))
 exact this n (V8 _)

theorem pigeon:∀ (m:Nat) (f:Nat→Nat),(∀ i,i<m+1→f i<m)→∃ i j,i<j∧j<m+1∧f i=f j
 | 0,f,h=>absurd (h 0 oq) oq
 | m + 1, f, h => by
  by_cases hx:∃ i,i<m+1∧f i=f (m+1)
  ·obtain⟨i,h1,h2⟩:=hx
   exact⟨i,m+1,h1,by omega,h2⟩
  ·have hne:∀ i,i<m+1→f i≠f (m+1):=fun i hi e=>hx ⟨i,hi,e⟩
   obtain⟨i,j,h1,h2,h3⟩:=pigeon m (fun i=>if f i<f (m+1) then f i else f i-1) fun i hi=>by
    have h4:=h i oq
    have h5:=h (m+1) oq
    have h6:=hne i hi
    split<;>omega
   have h6:=hne i oq
   have h7:=hne j h2
   refine⟨i,j,h1,by omega,?_⟩
   split at h3<;>split at h3<;>omega
def mn (E:Mi) (p q:Nat→Nat):Mi:=fun a b=>E (p a) (q b)
theorem Qcy {r m:Nat} {E:Mi} {p q:Nat→Nat} (hp:∀ a,a<r→p a<m) (hr:m<r):aZ r (mn E p q)=0:=by
 obtain⟨i,j,h1,h2,h3⟩:=pigeon m p fun i hi=>hp i oq
 exact X6 (r:=i) (s:=j) oq oq oq fun b=>by unfold mn;rw[h3]
def ext (r:Nat) (p:Nat→Nat) (i:Nat):Nat→Nat:=fun a=>if a<r then p a else i
theorem Qn3 {m n:Nat} {E:Mi}:∀ (f r:Nat) (p q:Nat→Nat),m<r+f→(∀ a,a<r→p a<m)→(∀ a,a<r→q a<n)→aZ r (mn E p q)≠0 →
  ∃ r' p' q',r≤r'∧r'≤m∧(∀ a,a<r'→p' a<m)∧(∀ a,a<r'→q' a<n)∧aZ r' (mn E p' q')≠0∧∀ i j,i<m→j<n→aZ (r'+1) (mn E (ext r' p' i) (ext r' q' j))=0
 | 0,r,p,q,hf,hp,_,h=>absurd (Qcy hp oq) h
 | f + 1, r, p, q, hf, hp, hq, h => by
  by_cases hx:∃ i j,i<m∧j<n∧aZ (r+1) (mn E (ext r p i) (ext r q j))≠0
  ·obtain⟨i,j,hi,hj,h1⟩:=hx
   obtain⟨r',p',q',h2,h3⟩:=Qn3 (m:=m) (n:=n) (E:=E) f (r+1) (ext r p i) (ext r q j) oq (fun a ha=>by unfold ext;split;exact hp a oq;exact hi) (fun a ha=>by unfold ext;split;exact hq a oq;exact hj) h1
   exact⟨r',p',q',by omega,h3⟩
  ·refine⟨r,p,q,V8 _,?_,hp,hq,h,fun i j hi hj=>Vg fun hn=>hx ⟨i,j,hi,hj,hn⟩⟩
   exact Nat.le_of_not_lt fun hr=>h (Qcy hp hr)
def shA (r:Nat) (E:Mi) (p q:Nat→Nat):Mi:=fun a b=>E (if a<r then p a else a-r) (if b<r then q b else b-r)
theorem Qtm {r i j:Nat} {E:Mi} {p q:Nat→Nat}:bm r (shA r E p q) (r+i) (r+j)=aZ (r+1) (mn E (ext r p i) (ext r q j)):=by
 unfold bm
 refine QS fun a _ b _=>?_
 unfold bd shA mn ext
 congr 1
 ·by_cases h:a<r
  ·simp only[if_pos h]
  ·simp only[if_neg h,if_neg (show ¬r+i<r by omega)];omega
 ·by_cases h:b<r
  ·simp only[if_pos h]
  ·simp only[if_neg h,if_neg (show ¬r+j<r by omega)];omega
theorem Qmo (k:Nat) (A:Mi) {t:Nat} (ht:t<k):∃ C:Nat→Int,∀ i,cf k A i t=aN k fun s=>A i s*C s:=by
 refine⟨fun s=>aZ (k+1) (QJ (fun a b=>if b=k then unit t a else A a b) k (unit s)),fun i=>?_⟩
 unfold cf
 rw[← Q31,QS (B:=QJ (fun a b=>if b=k then unit t a else A a b) k (fun b=>if b<k then A i b else unit t k)) fun a ha b hb=>by
  by_cases ea:a=k
  ·subst ea
   rw[setRow_self]
   show QJ (tr (bd a A i 0)) a (unit t) b a=_
   by_cases eb:b=a
   ·subst eb;rw[setRow_self,if_neg (Nat.lt_irrefl b)]
   ·rw[QH eb,if_pos (show b<a by omega)]
    show bd a A i 0 a b=_
    unfold bd
    rw[if_neg (Nat.lt_irrefl a),if_pos (show b<a by omega)]
  ·rw[QH ea]
   show QJ (tr (bd k A i 0)) k (unit t) b a=_
   by_cases eb:b=k
   ·subst eb;rw[setRow_self,if_pos rfl]
   ·rw[QH eb,if_neg eb]
    show bd k A i 0 a b=_
    unfold bd
    rw[if_pos (show a<k by omega),if_pos (show b<k by omega)]]
 rw[Q1s oq,aN]
 have hz:(if k<k then A i k else unit t k)=0:=by rw[if_neg (Nat.lt_irrefl k)];unfold unit;rw[if_neg oq]
 rw[hz,Int.zero_mul,Int.add_zero]
 exact Qq fun s hs=>by rw[if_pos hs]
theorem Qsa {m n r:Nat} {E:Mi} {p q:Nat→Nat} (hp:∀ a,a<r→p a<m) (hq:∀ a,a<r→q a<n) (hz:∀ i j,i<m→j<n→aZ (r+1) (mn E (ext r p i) (ext r q j))=0):Gm m n (aZ r (mn E p q)) E:=by
 have hC:∃ C:Mi,∀ t,t<r→∀ i,cf r (shA r E p q) i t=aN r fun s=>shA r E p q i s*C s t:=by
  refine⟨fun s t=>if h:t<r then Classical.choose (Qmo r (shA r E p q) h) s else 0,fun t ht i=>?_⟩
  rw[Classical.choose_spec (Qmo r (shA r E p q) ht) i]
  exact Qq fun s _=>by simp only[dif_pos ht]
 obtain⟨C,hC⟩:=hC
 have key:∀ i j,i<m→j<n→aZ r (mn E p q)*E i j = -(aN r fun t=>E (p t) j*aN r fun s=>E i (q s)*C s t):=fun i j hi hj=>by
  have h1:=Q1w r (shA r E p q) (r+i) (r+j)
  rw[Qtm,hz i j hi hj]at h1
  have e1:shA r E p q (r+i) (r+j)=E i j:=by unfold shA;rw[if_neg oq,if_neg oq];congr 1<;>omega
  have e2:aZ r (shA r E p q)=aZ r (mn E p q):=QS fun a ha b hb=>by unfold shA mn;rw[if_pos ha,if_pos hb]
  rw[e1,e2]at h1
  have e3:(aN r fun t=>shA r E p q t (r+j)*cf r (shA r E p q) (r+i) t)=aN r fun t=>E (p t) j*aN r fun s=>E i (q s)*C s t:=Qq fun t ht=>by
   rw[hC t ht]
   congr 1
   ·unfold shA;rw[if_pos ht,if_neg oq];congr 1;omega
   ·exact Qq fun s hs=>by unfold shA;rw[if_neg oq,if_pos hs];congr 2;omega
  rw[e3]at h1
  rw[Int.mul_comm];omega
 refine⟨fun i j => -(aN r fun s=>aN r fun t=>(if q s=i then (1:Int) else 0)*(if p t=j then (1:Int) else 0)*C s t),fun a ha b hb=>?_⟩
 rw[key a b ha hb]
 have hr1:∀ i,dN m (fun j => -(aN r fun s=>aN r fun t=>(if q s=i then (1:Int) else 0)*(if p t=j then (1:Int) else 0)*C s t)) E b = -(aN r fun s=>aN r fun t=>(if q s=i then (1:Int) else 0)*(C s t*E (p t) b)):=fun i=>by
  unfold dN
  have e:∀ j,-(aN r fun s=>aN r fun t=>(if q s=i then (1:Int) else 0)*(if p t=j then (1:Int) else 0)*C s t)*E j b=aN r fun s=>aN r fun t => -((if q s=i then (1:Int) else 0)*C s t)*((if p t=j then (1:Int) else 0)*E j b):=fun j=>by
   rw[show ∀ x y:Int,-x*y=x * -y from fun x y=>by grind, ← Wb]
   refine Qq fun s _=>?_
   rw[← Wb]
   exact Qq fun t _=>by grind
  rw[Qq fun j _=>e j,Xw]
  have e2:∀ s,(aN m fun j=>aN r fun t => -((if q s=i then (1:Int) else 0)*C s t)*((if p t=j then (1:Int) else 0)*E j b))=aN r fun t => -((if q s=i then (1:Int) else 0)*(C s t*E (p t) b)):=fun s=>by
   rw[Xw]
   refine Qq fun t ht=>?_
   rw[QM,ZA (k:=p t) (hp t ht) fun j _ hj=>by rw[if_neg (fun e=>hj e.symm),Int.zero_mul],if_pos rfl]
   grind
  rw[Qq fun s _=>e2 s]
  have e3:∀ f:Nat→Nat→Int,(aN r fun s=>aN r fun t => -(f s t)) = -(aN r fun s=>aN r fun t=>f s t):=fun f=>by
   rw[show ∀ x:Int,-x = -1*x from fun x=>by omega, ← QM]
   refine Qq fun s _=>?_
   rw[← QM]
   exact Qq fun t _=>by omega
  rw[e3]
 rw[Qq (g:=fun i => -(E a i*(aN r fun s=>aN r fun t=>(if q s=i then (1:Int) else 0)*(C s t*E (p t) b)))) fun i _=>by rw[hr1 i];grind]
 have e4:∀ f:Nat→Int,(aN n fun i => -(f i)) = -(aN n f):=fun f=>by
  rw[show ∀ x:Int,-x = -1*x from fun x=>by omega, ← QM]
  exact Qq fun t _=>by omega
 rw[e4]
 congr 1
 rw[Qq (g:=fun i=>aN r fun s=>aN r fun t=>(if q s=i then E a i else 0)*(C s t*E (p t) b)) fun i _=>by
  rw[← QM]
  refine Qq fun s _=>?_
  rw[← QM]
  refine Qq fun t _=>?_
  split
  ·rw[Int.one_mul]
  ·rw[Int.zero_mul,Int.mul_zero]]
 rw[Xw]
 rw[Qq (g:=fun s=>aN r fun t=>E a (q s)*(C s t*E (p t) b)) fun s hs=>by
  rw[Xw]
  refine Qq fun t _=>?_
  rw[Wb,ZA (k:=q s) (hq s hs) fun i _ hi=>by rw[if_neg (fun e=>hi e.symm)],if_pos rfl]]
 rw[Xw]
 refine Qq fun t _=>?_
 rw[← QM]
 exact Qq fun s _=>by grind


def rest (t:Nat) (g:List (List Int)):Mi:=fun a b=>gE g (t+a) (t+b)
theorem Q07 {r c a b:Nat} {g:List (List Int)} (h:Rec r c g) (hb:r≤a∨c≤b):gE g a b=0:=by
 unfold gE
 by_cases ha:a<r
 ·have:=h.at ha
  rw[List.getD,List.getElem?_eq_none oq];rfl
 ·have:g.getD a []=[]:=by rw[List.getD,List.getElem?_eq_none (by have:=h.len;omega)];rfl
  rw[this];rfl
theorem XK {M N t j:Nat} {tn:Tn} {g:List (List Int)} (h:Rec M N g) (hj:t+j<M) (hj0:0<j):rest t (XJ t (t+j) tn g)=rop 0 j tn (rest t g):=by
 funext a b
 dsimp only[rest,rop]
 simp only[Vt]
 by_cases hb:t+b<N
 ·rw[Wj h oq hj hb]
  by_cases e1:a=j
  ·subst e1;rw[if_pos rfl,if_pos rfl]
  ·rw[if_neg oq,if_neg e1]
   by_cases e2:a=0
   ·subst e2;rw[if_pos (Vt t),if_pos rfl]
   ·rw[if_neg oq,if_neg e2]
 ·rw[Q07 (h.rows oq hj) (.inr oq),Q07 (a:=t) (b:=t+b) h (.inr oq),Q07 (a:=t+j) (b:=t+b) h (.inr oq),Q07 (a:=t+a) (b:=t+b) h (.inr oq)]
  unfold Tn.p Tn.q
  simp
theorem Q1a {M N t j:Nat} {tn:Tn} {g:List (List Int)} (h:Rec M N g) (hj:t+j<N) (hj0:0<j):rest t (Xq t (t+j) tn g)=tr (rop 0 j tn (tr (rest t g))):=by
 funext a b
 dsimp only[tr,rest,rop]
 simp only[Vt]
 by_cases ha:t+a<M
 ·rw[Wk h oq hj ha]
  by_cases e1:b=j
  ·subst e1;rw[if_pos rfl,if_pos rfl]
  ·rw[if_neg oq,if_neg e1]
   by_cases e2:b=0
   ·subst e2;rw[if_pos (Vt t),if_pos rfl]
   ·rw[if_neg oq,if_neg e2]
 ·rw[Q07 (h.cols (i:=t) (k:=t+j) (t:=tn)) (.inl oq),Q07 (a:=t+a) (b:=t) h (.inl oq),Q07 (a:=t+a) (b:=t+j) h (.inl oq),Q07 (a:=t+a) (b:=t+b) h (.inl oq)]
  unfold Tn.p Tn.q
  simp
theorem jY {j:Nat} {E:Mi}:rop 0 j ⟨1,0,0,1⟩ E=E:=by
 funext a b
 dsimp only[rop,Tn.p,Tn.q]
 by_cases e1:a=j
 ·subst e1;rw[if_pos rfl];omega
 ·rw[if_neg e1]
  by_cases e2:a=0
  ·subst e2;rw[if_pos rfl];omega
  ·rw[if_neg e2]
structure Blk (t M N D:Nat) (g:List (List Int)):Prop where
 z:∀ a b,a<M→b<N→a≠b→(a<t∨b<t)→gE g a b=0
 d:∀ a,a<M→a<N→a<t→(gE g a a).natAbs≤D
theorem Blk.rows {t M N D i:Nat} {tn:Tn} {g:List (List Int)} (h:Blk t M N D g) (hR:Rec M N g) (hti:t<i) (hi:i<M):Blk t M N D (XJ t i tn g):=by
 refine⟨fun a b ha hb hab h1=>?_,fun a ha hb h1=>?_⟩
 ·rw[Wj hR oq hi hb]
  by_cases e1:a=i
  ·rw[if_pos e1,h.z t b oq hb oq oq,h.z i b hi hb oq oq];unfold Tn.q;simp
  ·rw[if_neg e1]
   by_cases e2:a=t
   ·rw[if_pos e2,h.z t b oq hb oq oq,h.z i b hi hb oq oq];unfold Tn.p;simp
   ·rw[if_neg e2];exact h.z a b ha hb hab h1
 ·rw[Wj hR oq hi hb,if_neg oq,if_neg oq];exact h.d a ha hb h1
theorem Blk.cols {t M N D i:Nat} {tn:Tn} {g:List (List Int)} (h:Blk t M N D g) (hR:Rec M N g) (hti:t<i) (hi:i<N):Blk t M N D (Xq t i tn g):=by
 refine⟨fun a b ha hb hab h1=>?_,fun a ha hb h1=>?_⟩
 ·rw[Wk hR oq hi ha]
  by_cases e1:b=i
  ·rw[if_pos e1,h.z a t ha oq oq oq,h.z a i ha hi oq oq];unfold Tn.q;simp
  ·rw[if_neg e1]
   by_cases e2:b=t
   ·rw[if_pos e2,h.z a t ha oq oq oq,h.z a i ha hi oq oq];unfold Tn.p;simp
   ·rw[if_neg e2];exact h.z a b ha hb hab h1
 ·rw[Wk hR oq hi ha,if_neg oq,if_neg oq];exact h.d a ha hb h1
theorem Blk.sz {t M N D L:Nat} {g:List (List Int)} (h:Blk t M N D g) (hD:D≤L) (hL:∀ a b,a<M-t→b<N-t→(rest t g a b).natAbs≤L):Sz L M N g:=fun i j hi hj=>by
 by_cases h1:i<t∨j<t
 ·by_cases e:i=j
  ·subst e;exact V0 (h.d i hi hj oq) hD
  ·rw[h.z i j hi hj e h1];exact V9 _
 ·have:=hL (i-t) (j-t) oq oq
  unfold rest at this
  rwa [show t+(i-t)=i by omega,show t+(j-t)=j by omega]at this
theorem Q83 (E:Mi):∀ d k,dJ E k≤dJ E (k+d)
 | 0,k=>V8 _
 | d+1,k=>V0 (Q83 E d k) (Nat.le_add_right _ _)
theorem Xs {A X:Nat} (hA:1≤A):∀ d c,wB A X c≤wB A X (c+d)
 | 0,c=>V8 _
 | d+1,c=>V0 (Xs hA d c) (Qf1 hA)
theorem PBd.all {m n A H M X e L:Nat} {E:Mi} (h:PBd m n A H M X e E) {k:Nat} (hk:k<m) (l1:A≤L) (l2:H≤L) (l3:M≤L) (l4:wB A X (eF E e (m-1))≤L):∀ a b,a<m→b<n→(aJ k E a b).natAbs≤L:=fun a b ha hb=>by
 have hmono:∀ j d,dJ E j+e≤eF E e (j+d)∧eF E e j≤eF E e (j+d):=fun j d=>by
  have h1:=Q83 E d j
  have h2:=Xm E (j+d)
  have h3:=Xm E j
  have h4:dJ E (j+d)≤dJ E j+d:=by
   clear h1 h2 h3
   induction d with
   | zero=>exact V8 _
   | succ d ih=>show dJ E (j+d)+(if jd E (j+d) then 1 else 0)≤_;split<;>omega
  unfold eF
  split<;>split<;>omega
 have hw:∀ x,x≤eF E e (m-1)→wB A X x≤L:=fun x hx=>by
  have:=Xs (X:=X) h.a1 (eF E e (m-1)-x) x
  rw[show x+(eF E e (m-1)-x)=eF E e (m-1) by omega]at this
  exact V0 this l4
 have hj:=hmono k (m-1-k)
 rw[show k+(m-1-k)=m-1 by omega]at hj
 by_cases hb0:b=0
 ·subst hb0
  by_cases ha0:a=0
  ·subst ha0;exact V0 (Q2v h.nz k) (V0 h.h l2)
  ·by_cases hak:a≤k
   ·rw[Yy h.nz oq hak];exact V9 _
   ·rw[Wf oq];exact V0 (h.a a oq ha) l1
 ·obtain⟨s1,s2⟩:=h.sz (b:=b) oq hb k hk
  by_cases ha0:a=0
  ·subst ha0;exact V0 s1 (hw _ hj.1)
  ·by_cases hak:a≤k
   ·exact V0 (s2 a oq hak) (hw _ hj.2)
   ·rw[Wf oq];exact V0 (h.m a b oq ha oq hb) l3
structure KBd (K m A H M X e B D:Nat) (E:Mi):Prop where
 a:A<256 ^ K
 h:H<256 ^ K
 mx:M<256 ^ K
 w:wB A X (eF E e (m-1))<256 ^ K
 u:(2*max A H) ^ (m-1)*B<256 ^ K
 d:D<256 ^ K
theorem Qgw {C B k m:Nat} (hC:1≤C) (h:k≤m):C ^ k*B≤C ^ m*B:=V1 _ (V4 hC h)
theorem PBd.cb {m n A H M X e:Nat} {E:Mi} (h:PBd m n A H M X e E) {k:Nat} (hk:k+1<m):CB (max A H) (eG (aJ k E 0 0) (E (k+1) 0)):=by
 obtain⟨ta,tb,tc,td⟩:=h.tn hk
 exact⟨V0 ta (Nat.le_max_left ..),V0 tb (Nat.le_max_right ..),V0 tc (Nat.le_max_left ..),V0 td (Nat.le_max_right ..)⟩
theorem Qam {K t M N A H Mx X e B D:Nat} {S:Sm} (hD:Dm M N S) (ht:t<M) (hP:PBd (M-t) (N-t) A H Mx X e (rest t S.d)) (hU:iY B M N S) (hB:Blk t M N D S.d) (hK:KBd K (M-t) A H Mx X e B D (rest t S.d)) :
  ∀ k,k<M-t→∃ S',rowP K t k (t+1) S=some S'∧Dm M N S'∧rest t S'.d=aJ k (rest t S.d)∧iY ((2*max A H) ^ k*B) M N S'∧Blk t M N D S'.d
 | 0,_=>⟨S,rfl,hD,rfl,by rw[Nat.pow_zero,Nat.one_mul];exact hU,hB⟩
 | k + 1, hk => by
  obtain⟨S1,h1,d1,r1,u1,b1⟩:=Qam hD ht hP hU hB hK k oq
  have hC1:1≤2*max A H:=by have:=hP.a1;have:=Nat.le_max_left A H;omega
  have hx:gE S1.d t t=aJ k (rest t S.d) 0 0:=by rw[← r1];rfl
  have hy:gE S1.d (t+1+k) t=rest t S.d (k+1) 0:=by
   rw[← Wf (E:=rest t S.d) (Nat.lt_succ_self k), ← r1];unfold rest
   rw[show t+(k+1)=t+1+k by omega];rfl
  have hall:=hP.all (L:=256 ^ K-1) hk (by have:=hK.a;omega) (by have:=hK.h;omega) (by have:=hK.mx;omega) (by have:=hK.w;omega)
  have hstep:∃ S' ch,gQ K t (t+1+k) S1=some (S',ch)∧Dm M N S'∧rest t S'.d=aJ (k+1) (rest t S.d)∧iY ((2*max A H) ^ (k+1)*B) M N S'∧Blk t M N D S'.d:=by
   have hu2:(2*max A H) ^ (k+1)*B=2*max A H*((2*max A H) ^ k*B):=by rw[Va];grind
   have hcb:=hP.cb hk
   have hst:=Q8r (rest t S.d) k
   unfold gQ
   rw[hx,hy]
   unfold eG at hcb hst
   cases hc:Z5 (aJ k (rest t S.d) 0 0) (rest t S.d (k+1) 0)with
   | none =>
    rw[hc]at hst
    refine⟨S1,false,rfl,d1,?_,u1.mono ?_,b1⟩
    ·rw[r1,hst];exact jY.symm
    ·rw[hu2];exact Nat.le_mul_of_pos_left _ oq
   | some r =>
    rw[hc]at hcb hst
    dsimp only at hcb hst ⊢
    have hd':=d1.rows (i:=t) (k:=t+1+k) (t:=r.1) ht oq
    have hr':rest t (S1.rows t (t+1+k) r.1).d=aJ (k+1) (rest t S.d):=by
     rw[hst, ← r1,show t+1+k=t+(k+1) by omega];exact XK d1.d oq oq
    have hb':Blk t M N D (S1.rows t (t+1+k) r.1).d:=b1.rows d1.d oq oq
    have hu':iY ((2*max A H) ^ (k+1)*B) M N (S1.rows t (t+1+k) r.1):=by
     rw[hu2];exact u1.rows d1 ht oq hcb (by have:=hP.a1;have:=Nat.le_max_left A H;omega)
    have hck:ck K (S1.rows t (t+1+k) r.1)=some (S1.rows t (t+1+k) r.1):=by
     refine Qif hd' hu' (hb'.sz (L:=256 ^ K-1) (by have:=hK.d;omega) fun a b ha hb=>by rw[hr'];exact hall a b ha hb) ?_ (by have:=bG K;omega)
     exact V5 (Qgw hC1 oq) hK.u
    rw[hck]
    exact⟨_,_,rfl,hd',hr',hu',hb'⟩
  obtain⟨S2,ch,h2,h3⟩:=hstep
  refine⟨S2,?_,h3⟩
  rw[Qc1 k 1,h1]
  exact Qjy h2
theorem Q82 {K t M N A H Mx X e B D:Nat} {S:Sm} (hD:Dm M N S) (ht:t<N) (hP:PBd (N-t) (M-t) A H Mx X e (tr (rest t S.d))) (hU:iY B M N S) (hB:Blk t M N D S.d) (hK:KBd K (N-t) A H Mx X e B D (tr (rest t S.d))) (ch0:Bool) :
  ∀ k,k<N-t→∃ S',dP K t k (t+1) ch0 S=some (S',ch0 || decide (0<dJ (tr (rest t S.d)) k))∧Dm M N S'∧rest t S'.d=tr (aJ k (tr (rest t S.d)))∧iY ((2*max A H) ^ k*B) M N S'∧Blk t M N D S'.d
 | 0,_=>⟨S,by show some (S,ch0)=_;rw[show decide (0<dJ (tr (rest t S.d)) 0)=false from rfl,Bool.or_false],hD,rfl,by rw[Nat.pow_zero,Nat.one_mul];exact hU,hB⟩
 | k + 1, hk => by
  obtain⟨S1,h1,d1,r1,u1,b1⟩:=Q82 hD ht hP hU hB hK ch0 k oq
  have hC1:1≤2*max A H:=by have:=hP.a1;have:=Nat.le_max_left A H;omega
  have hx:gE S1.d t t=aJ k (tr (rest t S.d)) 0 0:=by
   have:rest t S1.d 0 0=tr (aJ k (tr (rest t S.d))) 0 0:=by rw[r1]
   exact this
  have hy:gE S1.d t (t+1+k)=tr (rest t S.d) (k+1) 0:=by
   rw[← Wf (E:=tr (rest t S.d)) (Nat.lt_succ_self k)]
   have:rest t S1.d 0 (k+1)=tr (aJ k (tr (rest t S.d))) 0 (k+1):=by rw[r1]
   unfold rest at this
   rw[show t+(k+1)=t+1+k by omega]at this
   exact this
  have hall:=hP.all (L:=256 ^ K-1) hk (by have:=hK.a;omega) (by have:=hK.h;omega) (by have:=hK.mx;omega) (by have:=hK.w;omega)
  have hce:=Qmn (tr (rest t S.d)) k
  have hstep:∃ S',gU K t (t+1+k) S1=some (S',jd (tr (rest t S.d)) k)∧Dm M N S'∧rest t S'.d=tr (aJ (k+1) (tr (rest t S.d)))∧iY ((2*max A H) ^ (k+1)*B) M N S'∧Blk t M N D S'.d:=by
   have hu2:(2*max A H) ^ (k+1)*B=2*max A H*((2*max A H) ^ k*B):=by rw[Va];grind
   have hcb:=hP.cb hk
   have hst:=Q8r (tr (rest t S.d)) k
   unfold gU
   rw[hx,hy]
   unfold eG at hcb hst
   unfold chO at hce
   cases hc:Z5 (aJ k (tr (rest t S.d)) 0 0) (tr (rest t S.d) (k+1) 0)with
   | none =>
    rw[hc]at hst hce
    refine⟨S1,?_,d1,?_,u1.mono ?_,b1⟩
    ·rw[hce]
    ·rw[r1,hst];exact(congrArg tr jY).symm
    ·rw[hu2];exact Nat.le_mul_of_pos_left _ oq
   | some r =>
    rw[hc]at hcb hst hce
    dsimp only at hcb hst hce ⊢
    have hd':=d1.cols (i:=t) (k:=t+1+k) (t:=r.1) ht oq
    have hr':rest t (S1.cols t (t+1+k) r.1).d=tr (aJ (k+1) (tr (rest t S.d))):=by
     rw[hst,show t+1+k=t+(k+1) by omega]
     refine(Q1a d1.d oq oq).trans ?_
     rw[r1];rfl
    have hb':Blk t M N D (S1.cols t (t+1+k) r.1).d:=b1.cols d1.d oq oq
    have hu':iY ((2*max A H) ^ (k+1)*B) M N (S1.cols t (t+1+k) r.1):=by
     rw[hu2];exact u1.cols d1 ht oq hcb (by have:=hP.a1;have:=Nat.le_max_left A H;omega)
    have hck:ck K (S1.cols t (t+1+k) r.1)=some (S1.cols t (t+1+k) r.1):=by
     refine Qif hd' hu' (hb'.sz (L:=256 ^ K-1) (by have:=hK.d;omega) fun a b ha hb=>by rw[hr'];exact hall b a hb ha) ?_ (by have:=bG K;omega)
     exact V5 (Qgw hC1 oq) hK.u
    rw[hck]
    refine⟨_,?_,hd',hr',hu',hb'⟩
    rw[hce]
  obtain⟨S2,h2,h3⟩:=hstep
  refine⟨S2,?_,h3⟩
  rw[Qdj k 1,h1]
  dsimp only
  rw[Ql9 h2]
  congr 2
  show _=(ch0 || decide (0<dJ (tr (rest t S.d)) k+if jd (tr (rest t S.d)) k then 1 else 0))
  cases jd (tr (rest t S.d)) k<;>cases ch0<;>simp

theorem Q86 {E:Mi}:∀ {k},dJ E k=0→∀ j,j<k→jd E j=false
 | 0,_,j,hj=>by omega
 | k + 1, h, j, hj => by
  have h1:dJ E k+(if jd E k then 1 else 0)=0:=h
  cases hc:jd E k with
  | true=>rw[hc,if_pos rfl]at h1;omega
  | false =>
   by_cases e:j=k
   ·subst e;exact hc
   ·exact Q86 (k:=k) oq j oq
theorem Yd {E:Mi} (h:E 0 0≠0):∀ {k},dJ E k=0→∀ b,aJ k E 0 b=E 0 b
 | 0,_,b=>rfl
 | k+1,h0,b=>by
  have hc:=Q86 h0 k oq
  have h1:dJ E k=0:=by have:dJ E k+(if jd E k then 1 else 0)=0:=h0;omega
  rw[Zu]
  obtain⟨f1,f2,_⟩:=(Zt (Zw h k)).f hc
  unfold Tn.p
  rw[f1,f2,Yd h h1 b,Int.one_mul,Int.zero_mul,Int.add_zero]
theorem Q1g {E:Mi} {n:Nat} (h:E 0 0≠0) (hc:fV n E) {k:Nat} (h0:dJ E k=0) {a b:Nat} (ha0:0<a) (ha:a≤k) (hb0:0<b) (hb:b<n):aJ k E a b=E a b:=by
 rw[Qh0 ha0 ha]
 obtain⟨j,rfl⟩:∃ j,a=j+1:=⟨a-1,by omega⟩
 have hj:=Q86 h0 j oq
 have h1:dJ E j=0:=by have:=Q83 E (k-j) j;rw[show j+(k-j)=k by omega]at this;omega
 rw[WO,Yd h h1 b,hc b hb0 hb]
 obtain⟨_,_,f3,_⟩:=(Zt (Zw h j)).f hj
 unfold Tn.q
 rw[f3,Int.mul_zero,Int.one_mul,Int.zero_add]
theorem Q4n {E:Mi} (h:E 0 0≠0):∀ k,(¬∃ f,E 0 0=2*f*aJ k E 0 0)→3 ^ dJ E k*(aJ k E 0 0).natAbs≤(E 0 0).natAbs
 | 0,_=>by show 3 ^ 0*_≤_;rw[Nat.pow_zero,Nat.one_mul];exact V8 _
 | k + 1, hn => by
  have ht:=Zt (Zw h k)
  have hdx:=ht.dx
  rw[← Zu]at hdx
  have ih:=Q4n h k fun⟨f,hf⟩=>hn ⟨f*(eG (aJ k E 0 0) (E (k+1) 0)).d,by rw[hf, ← hdx];rw[hdx];grind⟩
  show 3 ^ (dJ E k+_)*_≤_
  have hl:=ht.le
  rw[← Zu]at hl
  cases hc:jd E k with
  | false=>exact V0 (V3 _ hl) ih
  | true =>
   have h2:=ht.h hc
   rw[← Zu]at h2
   have h3:3*(aJ (k+1) E 0 0).natAbs≤(aJ k E 0 0).natAbs:=by
    obtain⟨x,hx⟩:=Wg h k
    generalize (eG (aJ k E 0 0) (E (k+1) 0)).d=d at hdx
    have hd2:d.natAbs≠2:=fun e=>hn (by
     rcases Int.natAbs_eq d with e2|e2
     ·exact⟨x,by rw[hx, ← hdx,e2,e];grind⟩
     ·exact⟨-x,by rw[hx, ← hdx,e2,e];grind⟩)
    have hnz:=Zw h (k+1)
    have e4:d.natAbs*(aJ (k+1) E 0 0).natAbs=(aJ k E 0 0).natAbs:=by rw[← Vq,hdx]
    rw[← e4]at h2 ⊢
    have hp:0<(aJ (k+1) E 0 0).natAbs:=by omega
    have:=Nat.le_of_mul_le_mul_right h2 hp
    exact V1 _ oq
   rw[if_pos rfl,Va,Vn]
   exact V0 (V3 _ h3) ih

theorem Qc2 {E:Mi} {m i:Nat} {t:Tn} {P:(Nat→Int)→Prop} (hP:∀ (x y:Int) (f g:Nat→Int),P f→P g→P fun b=>x*f b+y*g b) (h:∀ a,a<m→P (E a)) (hi:i<m):∀ a,a<m→P (rop 0 i t E a):=fun a ha=>by
 by_cases e1:a=i
 ·have:rop 0 i t E a=fun b=>t.c*E 0 b+t.d*E i b:=by funext b;unfold rop;rw[if_pos e1];rfl
  rw[this];exact hP _ _ _ _ (h 0 oq) (h i hi)
 ·by_cases e2:a=0
  ·have:rop 0 i t E a=fun b=>t.a*E 0 b+t.b*E i b:=by funext b;unfold rop;rw[if_neg e1,if_pos e2];rfl
   rw[this];exact hP _ _ _ _ (h 0 oq) (h i hi)
  ·have:rop 0 i t E a=E a:=by funext b;unfold rop;rw[if_neg e1,if_neg e2]
   rw[this];exact h a ha
theorem Qd5 {m n i:Nat} {u:Int} {E:Mi} {t:Tn} (h:Gm m n u E) (h0:0<i) (hi:i<m) (hd:t.a*t.d-t.b*t.c=1):Gm m n u (rop 0 i t E):=by
 obtain⟨X,hX⟩:=h
 refine⟨fun j=>tvc 0 i t (X j),fun a ha b hb=>?_⟩
 rw[Qq (g:=fun j=>rop 0 i t E a j*dN m (X j) E b) fun j _=>by unfold dN;rw[Qbp h0 hi hd]]
 exact Qc2 (E:=E) (m:=m) (i:=i) (t:=t) (P:=fun f=>aN n (fun i=>f i*dN m (X i) E b)=u*f b) (fun x y f g hf hg=>by
  have:(aN n fun i=>(x*f i+y*g i)*dN m (X i) E b)=x*(aN n fun i=>f i*dN m (X i) E b)+y*aN n fun i=>g i*dN m (X i) E b:=by
   rw[← QM, ← QM, ← ZB];exact Qq fun i _=>by grind
  show (aN n fun i=>(x*f i+y*g i)*dN m (X i) E b)=u*(x*f b+y*g b)
  rw[this,hf,hg];grind) (fun a ha=>hX a ha b hb) hi a ha
theorem Ql1 {q m n i:Nat} {D:Int} {E:Mi} {t:Tn} (h:iC q m n D E) (hm:0<m) (hc:fV n E) (hD:D∣E 0 0) (h0:0<i) (hi:i<m) (hd:t.a*t.d-t.b*t.c=1):iC q m n D (rop 0 i t E):=by
 obtain⟨Y,hY,h1⟩:=h.all hm hc hD
 refine .inr ⟨_,Qmh hY h0 hi hd,fun j hj=>.inr fun b hb=>?_⟩
 unfold dN
 rw[Qbp h0 hi hd]
 exact h1 j hj b hb
theorem Ql2 {p m n i:Nat} {D:Int} {E:Mi} {t:Tn} (h:iC p n m D (tr E)) (hi:i<m):iC p n m D (tr (rop 0 i t E)):=by
 rcases h with h|⟨Z,hZ,h1⟩
 ·exact .inl h
 ·refine .inr ⟨Z,hZ,fun j hj=>(h1 j hj).imp id fun h2 a ha=>?_⟩
  exact Qc2 (E:=E) (m:=m) (i:=i) (t:=t) (P:=fun f=>D∣aN n fun b=>Z j b*f b) (fun x y f g hf hg=>by
   have:(aN n fun b=>Z j b*(x*f b+y*g b))=x*(aN n fun b=>Z j b*f b)+y*aN n fun b=>Z j b*g b:=by
    rw[← QM, ← QM, ← ZB];exact Qq fun b _=>by grind
   show D∣aN n fun b=>Z j b*(x*f b+y*g b)
   rw[this]
   exact Int.dvd_add (Int.dvd_mul_of_dvd_right hf) (Int.dvd_mul_of_dvd_right hg)) (fun a ha=>h2 a ha) hi a ha

structure Evi (m n:Nat) (u:Int) (q p:Nat) (E:Mi):Prop where
 nz:E 0 0≠0
 g:Gm m n u E
 fr:∀ D,TwoP D (E 0 0)→iC q m n D E
 fc:∀ D,TwoP D (E 0 0)→iC p n m D (tr E)
theorem Evi.tr {m n:Nat} {u:Int} {q p:Nat} {E:Mi} (h:Evi m n u q p E):Evi n m u p q (Go.Proofs.YtljmapfihjkafaaGreatDoor.tr E):=⟨h.nz,Q4z h.g,h.fc,h.fr⟩
def Even2 (x y:Int):Prop:=∃ f,x=2*f*y
theorem Qb0 {m n:Nat} {u:Int} {q p:Nat} {E:Mi} (h:Evi m n u q p E) (hm:0<m) (hn:0<n) (hc:fV n E):Evi m n u q p (aJ (m-1) E)∧(Even2 (E 0 0) (aJ (m-1) E 0 0)→Evi m n u (q+1) p (aJ (m-1) E)):=by
 obtain⟨D,hD⟩:=Qaa _ _ h.nz (V8 _)
 have hnz:=Zw h.nz (m-1)
 have hg:=Q2e h.g h.nz (k:=m-1) oq
 have hfc:∀ D',TwoP D' (aJ (m-1) E 0 0)→iC p n m D' (tr (aJ (m-1) E)):=fun D' hD'=>Qp5 (h.fc D hD) hm (hD.down hD' (Wg h.nz _))
 exact⟨⟨hnz,hg,fun D' hD'=>(Qhv (h.fr D hD) hm hc h.nz hD hD').1,hfc⟩,fun he=>⟨hnz,hg,fun D' hD'=>(Qhv (h.fr D hD) hm hc h.nz hD hD').2 he hn,hfc⟩⟩
theorem Evi.qle {m n:Nat} {u:Int} {q p:Nat} {E:Mi} (h:Evi m n u q p E) (hm:0<m) (hn:0<n):q+1≤m∧p+1≤n:=by
 obtain⟨D,hD⟩:=Qaa _ _ h.nz (V8 _)
 exact⟨(h.fr D hD).le hm,(h.fc D hD).le hn⟩
theorem Ql3 {m n:Nat} {u:Int} {q p i:Nat} {E:Mi} (h:Evi m n u q p E) (hm:0<m) (hc:fV n E) (hcc:fV m (tr E)) (h0:0<i) (hi:i<m):Evi m n u q p (rop 0 i ⟨1,1,0,1⟩ E)∧rop 0 i ⟨1,1,0,1⟩ E 0 0=E 0 0:=by
 have e:rop 0 i ⟨1,1,0,1⟩ E 0 0=E 0 0:=by
  unfold rop Tn.p
  rw[if_neg oq,if_pos rfl,show E i 0=tr E 0 i from rfl,hcc i h0 hi]
  dsimp only
  omega
 refine⟨⟨by rw[e];exact h.nz,Qd5 h.g h0 hi dq,fun D hD=>?_,fun D hD=>?_⟩,e⟩
 ·rw[e]at hD
  exact Ql1 (h.fr D hD) hm hc (by obtain⟨v,_,h,_⟩:=hD;exact h) h0 hi dq
 ·rw[e]at hD
  exact Ql2 (h.fc D hD) hi

abbrev SP:=Nat→Nat→Nat→Nat→Nat→Nat→Mi→Prop
structure Mdl (K D m n:Nat) (P Q:SP):Prop where
 step:∀ {m' n' h e s ub:Nat} {E:Mi},(m'=m∧n'=n∨m'=n∧n'=m)→P m' n' h e s ub E→fV n' E→E 0 0≠0→(E 0 0).natAbs=h →
  ∃ A H Mx X,PBd m' n' A H Mx X 0 E∧KBd K m' A H Mx X 0 (2 ^ ub) D E∧∃ dY,(2*max A H) ^ (m'-1)*2 ^ ub≤2 ^ dY ∧
   (dJ E (m'-1)=0→Q m' n' h e s dY (aJ (m'-1) E)) ∧
   ∀ e',1≤dJ E (m'-1)→(3 ^ dJ E (m'-1)*(aJ (m'-1) E 0 0).natAbs≤h∧e'=e∨e=e'+1)→P n' m' (aJ (m'-1) E 0 0).natAbs e' s dY (tr (aJ (m'-1) E))
 flip:∀ {m' n' h e s ub:Nat} {E:Mi},Q m' n' h e s ub E→Q n' m' h e s ub (tr E)
 spoil:∀ {h e s s' ub i:Nat} {E:Mi},Q m n h e s ub E→s'<s→fV n E→fV m (tr E)→0<i→i<m→2≤h→E 0 0≠0→(E 0 0).natAbs=h→P n m h e s' (ub+1) (tr (rop 0 i ⟨1,1,0,1⟩ E))

structure Bsz (t M N D ub:Nat) (S:Sm):Prop where
 dm:Dm M N S
 bk:Blk t M N D S.d
 su:iY (2 ^ ub) M N S
structure Cmn (t M N D:Nat) (u:Int) (q p h e ub:Nat) (S:Sm):Prop where
 b:Bsz t M N D ub S
 ev:Evi (M-t) (N-t) u q p (rest t S.d)
 hh:(rest t S.d 0 0).natAbs=h
 e:e=(M-t-1-q)+(N-t-1-p)
structure LvR (P:SP) (t M N D:Nat) (u:Int) (q p h e s ub:Nat) (S:Sm):Prop where
 c:Cmn t M N D u q p h e ub S
 cl:fV (N-t) (rest t S.d)
 P:P (M-t) (N-t) h e s ub (rest t S.d)
structure LvC (P:SP) (t M N D:Nat) (u:Int) (q p h e s ub:Nat) (S:Sm):Prop where
 c:Cmn t M N D u q p h e ub S
 cl:fV (M-t) (tr (rest t S.d))
 P:P (N-t) (M-t) h e s ub (tr (rest t S.d))
structure Dd (Q:SP) (t M N D:Nat) (u:Int) (q p h e s ub:Nat) (S:Sm):Prop where
 c:Cmn t M N D u q p h e ub S
 cl:fV (N-t) (rest t S.d)
 cc:fV (M-t) (tr (rest t S.d))
 Q:Q (M-t) (N-t) h e s ub (rest t S.d)

theorem Qjx {P Q:SP} {K D t M N:Nat} {u:Int} {q p h e s ub:Nat} {S:Sm} (md:Mdl K D (M-t) (N-t) P Q) (hM:t<M) (hN:t<N) (h0:LvR P t M N D u q p h e s ub S) :
  ∃ S1 q' e' dY,rowP K t (M-(t+1)) (t+1) S=some S1∧rest t S1.d=aJ (M-t-1) (rest t S.d) ∧
   (Dd Q t M N D u q' p h e' s dY S1∨∃ h',2*h'≤h∧LvC P t M N D u q' p h' e' s dY S1):=by
 obtain⟨A,H,Mx,X,iM,hKB,dY,hub,hQ,hP⟩:=md.step (.inl ⟨rfl,rfl⟩) h0.P h0.cl h0.c.ev.nz h0.c.hh
 obtain⟨S1,h1,d1,r1,u1,b1⟩:=Qam h0.c.b.dm hM iM h0.c.b.su h0.c.b.bk hKB (M-t-1) oq
 rw[show M-t-1=M-(t+1) by omega]at h1
 have hB:Bsz t M N D dY S1:=⟨d1,b1,u1.mono hub⟩
 obtain⟨ev1,ev2⟩:=Qb0 h0.c.ev oq oq h0.cl
 have hz:fV (M-t) (tr (aJ (M-t-1) (rest t S.d))):=fun a ha0 ha=>Yy h0.c.ev.nz ha0 oq
 by_cases hc:dJ (rest t S.d) (M-t-1)=0
 ·have jA:Dd Q t M N D u q p h e s dY S1:={
   c:={ b:=hB,ev:=by rw[r1];exact ev1,hh:=by rw[r1,Yd h0.c.ev.nz hc];exact h0.c.hh,e:=h0.c.e }
   cl:=by
    rw[r1]
    intro b hb0 hb
    rw[Yd h0.c.ev.nz hc];exact h0.cl b hb0 hb
   cc:=by rw[r1];exact hz
   Q:=by rw[r1];exact hQ hc }
  exact⟨S1,q,e,dY,h1,r1,.inl jA⟩
 ·have dD:=YJ h0.c.ev.nz (M-t-1)
  have h2:2*(aJ (M-t-1) (rest t S.d) 0 0).natAbs≤h:=by
   obtain⟨c,hcc⟩:∃ c,dJ (rest t S.d) (M-t-1)=c+1:=⟨_,(Nat.succ_pred hc).symm⟩
   rw[hcc,Va,Vn,h0.c.hh]at dD
   exact V0 (Nat.le_mul_of_pos_left _ (Nat.pow_pos dq)) dD
  by_cases hev:Even2 (rest t S.d 0 0) (aJ (M-t-1) (rest t S.d) 0 0)
  ·have ev3:=ev2 hev
   obtain⟨l1,l2⟩:=ev3.qle oq oq
   have he:=h0.c.e
   refine⟨S1,q+1,e-1,dY,h1,r1,.inr ⟨_,h2,⟨hB,by rw[r1];exact ev3,by rw[r1],by omega⟩,by rw[r1];exact hz,by rw[r1];exact hP (e-1) oq (.inr oq)⟩⟩
  ·have h3:=Q4n h0.c.ev.nz _ hev
   rw[h0.c.hh]at h3
   exact⟨S1,q,e,dY,h1,r1,.inr ⟨_,h2,⟨hB,by rw[r1];exact ev1,by rw[r1],h0.c.e⟩,by rw[r1];exact hz,by rw[r1];exact hP e oq (.inl ⟨h3,rfl⟩)⟩⟩
theorem Qdg {P Q:SP} {K D t M N:Nat} {u:Int} {q p h e s ub:Nat} {S:Sm} (md:Mdl K D (M-t) (N-t) P Q) (hM:t<M) (hN:t<N) (h0:LvC P t M N D u q p h e s ub S) :
  ∃ S1 p' e' dY,rest t S1.d=tr (aJ (N-t-1) (tr (rest t S.d))) ∧
   (dP K t (N-(t+1)) (t+1) false S=some (S1,false)∧Dd Q t M N D u q p' h e' s dY S1∨dP K t (N-(t+1)) (t+1) false S=some (S1,true)∧∃ h',2*h'≤h∧LvR P t M N D u q p' h' e' s dY S1):=by
 obtain⟨A,H,Mx,X,iM,hKB,dY,hub,hQ,hP⟩:=md.step (.inr ⟨rfl,rfl⟩) h0.P h0.cl h0.c.ev.nz h0.c.hh
 obtain⟨S1,h1,d1,r1,u1,b1⟩:=Q82 h0.c.b.dm hN iM h0.c.b.su h0.c.b.bk hKB false (N-t-1) oq
 rw[show N-t-1=N-(t+1) by omega,Bool.false_or]at h1
 rw[show N-(t+1)=N-t-1 by omega]at h1
 have hB:Bsz t M N D dY S1:=⟨d1,b1,u1.mono hub⟩
 have hnz:tr (rest t S.d) 0 0≠0:=h0.c.ev.nz
 obtain⟨ev1,ev2⟩:=Qb0 h0.c.ev.tr oq oq h0.cl
 have hz:fV (N-t) (tr (aJ (N-t-1) (tr (rest t S.d)))):=fun a ha0 ha=>Yy hnz ha0 oq
 rw[show N-(t+1)=N-t-1 by omega]
 by_cases hc:dJ (tr (rest t S.d)) (N-t-1)=0
 ·rw[hc]at h1
  have jA:Dd Q t M N D u q p h e s dY S1:={
   c:={ b:=hB,ev:=by rw[r1];exact ev1.tr,hh:=by rw[r1];show (aJ (N-t-1) (tr (rest t S.d)) 0 0).natAbs=h;rw[Yd hnz hc];exact h0.c.hh,e:=h0.c.e }
   cl:=by rw[r1];exact hz
   cc:=by
    rw[r1]
    intro b hb0 hb
    show aJ (N-t-1) (tr (rest t S.d)) 0 b=0
    rw[Yd hnz hc];exact h0.cl b hb0 hb
   Q:=by rw[r1];exact md.flip (hQ hc) }
  exact⟨S1,p,e,dY,r1,.inl ⟨h1,jA⟩⟩
 ·have dD:=YJ hnz (N-t-1)
  have hh':(tr (rest t S.d) 0 0).natAbs=h:=h0.c.hh
  have h2:2*(aJ (N-t-1) (tr (rest t S.d)) 0 0).natAbs≤h:=by
   obtain⟨c,hcc⟩:∃ c,dJ (tr (rest t S.d)) (N-t-1)=c+1:=⟨_,(Nat.succ_pred hc).symm⟩
   rw[hcc,Va,Vn,hh']at dD
   exact V0 (Nat.le_mul_of_pos_left _ (Nat.pow_pos dq)) dD
  have h1':dP K t (N-t-1) (t+1) false S=some (S1,true):=by
   rw[h1]
   congr 2
   exact decide_eq_true oq
  by_cases hev:Even2 (tr (rest t S.d) 0 0) (aJ (N-t-1) (tr (rest t S.d)) 0 0)
  ·have ev3:=ev2 hev
   obtain⟨l1,l2⟩:=ev3.qle oq oq
   have he:=h0.c.e
   refine⟨S1,p+1,e-1,dY,r1,.inr ⟨h1',_,h2,⟨hB,by rw[r1];exact ev3.tr,by rw[r1];rfl,by omega⟩,by rw[r1];exact hz,by rw[r1];exact hP (e-1) oq (.inr oq)⟩⟩
  ·have h3:=Q4n hnz _ hev
   rw[hh']at h3
   exact⟨S1,p,e,dY,r1,.inr ⟨h1',_,h2,⟨hB,by rw[r1];exact ev1.tr,by rw[r1];rfl,h0.c.e⟩,by rw[r1];exact hz,by rw[r1];exact hP e oq (.inl ⟨h3,rfl⟩)⟩⟩

def Dv (t N i0:Nat) (h0:Int) (S:Sm):Prop:=DR i0 (N-t) h0 (rest t S.d)∧rest t S.d 0 0∣h0
theorem Qsd {t M N i0:Nat} {h0:Int} {S S1:Sm} (h:Dv t N i0 h0 S) (hc:fV (N-t) (rest t S.d)) (hnz:rest t S.d 0 0≠0) (r1:rest t S1.d=aJ (M-t-1) (rest t S.d)):Dv t N i0 h0 S1:=by
 refine⟨?_,?_⟩
 ·rw[r1];exact(h.1.row hc _).1
 ·rw[r1];exact Int.dvd_trans (Wg hnz _) h.2
theorem Qse {t M N i0:Nat} {h0:Int} {S S1:Sm} (h:Dv t N i0 h0 S) (hi:i0<M-t) (hN:t<N) (hc:fV (M-t) (tr (rest t S.d))) (hnz:rest t S.d 0 0≠0) (r1:rest t S1.d=tr (aJ (N-t-1) (tr (rest t S.d)))):Dv t N i0 h0 S1:=by
 refine⟨?_,?_⟩
 ·rw[r1];exact h.1.col hi hc oq
 ·rw[r1];exact Int.dvd_trans (Wg (E:=tr (rest t S.d)) hnz _) h.2

theorem Qi3 {P Q:SP} {K D t M N:Nat} {u:Int} (md:Mdl K D (M-t) (N-t) P Q) (hM:t<M) (hN:t<N):∀ (f q p h e s ub:Nat) (S:Sm),LvR P t M N D u q p h e s ub S→h<2 ^ f→∀ i0 h0,i0<M-t→Dv t N i0 h0 S →
  ∃ S' q' p' h' e' dY,ZG K t M N (f+1) S=some S'∧Dd Q t M N D u q' p' h' e' s dY S'∧Dv t N i0 h0 S'∧h'≤h
 | 0,q,p,h,e,s,ub,S,h0,hf,i0,d0,hi,hd=>by
  have h1:=h0.c.ev.nz
  have h2:=h0.c.hh
  rw[Nat.pow_zero]at hf
  omega
 | f + 1, q, p, h, e, s, ub, S, h0, hf, i0, d0, hi, hd => by
  obtain⟨S1,q1,e1,ub1,g1,r1,hr⟩:=Qjx md hM hN h0
  have hd1:Dv t N i0 d0 S1:=Qsd hd h0.cl h0.c.ev.nz r1
  rcases hr with hD|⟨h1,hh1,hL⟩
  ·refine⟨S1,q1,p,h,e1,ub1,?_,hD,hd1,V8 _⟩
   rw[ZG,g1]
   dsimp only
   rw[Q9p fun a ha1 ha2=>?_]
   ·rfl
   ·have:=hD.cl (a-t) oq oq
    unfold rest at this
    rw[show t+0=t from rfl,show t+(a-t)=a by omega]at this
    exact this
  ·obtain⟨S2,p2,e2,ub2,r2,hcs⟩:=Qdg md hM hN hL
   have hd2:Dv t N i0 d0 S2:=Qse hd1 hi hN hL.cl hL.c.ev.nz r2
   rcases hcs with ⟨g2,hD⟩|⟨g2,h2,hh2,hL2⟩
   ·refine⟨S2,q1,p2,h1,e2,ub2,?_,hD,hd2,by omega⟩
    rw[ZG,g1]
    dsimp only
    rw[g2]
    rfl
   ·obtain⟨S',q',p',h',e',dY,g3,hD,hd3,hle⟩:=Qi3 md hM hN f q1 p2 h2 e2 s ub2 S2 hL2 (by rw[Va]at hf;omega) i0 d0 hi hd2
    refine⟨S',q',p',h',e',dY,?_,hD,hd3,by omega⟩
    rw[ZG,g1]
    dsimp only
    rw[g2]
    exact g3

theorem Qjz {K t M:Nat} {S:Sm} (h:fV (M-t) (tr (rest t S.d))):rowP K t (M-(t+1)) (t+1) S=some S:=Q8u fun a ha1 ha2=>by
 have:=h (a-t) oq oq
 unfold tr rest at this
 rw[show t+0=t from rfl,show t+(a-t)=a by omega]at this
 exact this
theorem Q9n {P Q:SP} {K D t M N:Nat} {u:Int} (md:Mdl K D (M-t) (N-t) P Q) (hM:t<M) (hN:t<N) {f q p h e s ub:Nat} {S0 S:Sm} (g1:rowP K t (M-(t+1)) (t+1) S0=some S) (h0:LvC P t M N D u q p h e s ub S) (hf:h<2 ^ f) (i0:Nat) (d0:Int) (hi:i0<M-t)
  (hdv:∀ S1:Sm,rest t S1.d=tr (aJ (N-t-1) (tr (rest t S.d)))→Dv t N i0 d0 S1) :
  ∃ S' q' p' h' e' dY,ZG K t M N (f+1) S0=some S'∧Dd Q t M N D u q' p' h' e' s dY S'∧Dv t N i0 d0 S'∧h'≤h:=by
 obtain⟨S2,p2,e2,ub2,r2,hcs⟩:=Qdg md hM hN h0
 have hd2:=hdv S2 r2
 rcases hcs with ⟨g2,hD⟩|⟨g2,h2,hh2,hL2⟩
 ·refine⟨S2,q,p2,h,e2,ub2,?_,hD,hd2,V8 _⟩
  rw[ZG,g1]
  dsimp only
  rw[g2]
  rfl
 ·cases f with
  | zero =>
   have h1:=h0.c.ev.nz
   have h2:=h0.c.hh
   rw[Nat.pow_zero]at hf
   omega
  | succ f =>
   obtain⟨S',q',p',h',e',dY,g3,hD,hd3,hle⟩:=Qi3 md hM hN f q p2 h2 e2 s ub2 S2 hL2 (by rw[Va]at hf;omega) i0 d0 hi hd2
   refine⟨S',q',p',h',e',dY,?_,hD,hd3,by omega⟩
   rw[ZG,g1]
   dsimp only
   rw[g2]
   exact g3
theorem Qbg {S:Sm} {t N i:Nat} (h:X3 S t N i=false) (h0:gE S.d t t≠0):∀ j,t<j→j<N→gE S.d t t∣gE S.d i j:=fun j h1 h2=>by
 unfold X3 at h
 have:=List.any_eq_false.1 h j (by rw[List.mem_range'_1];omega)
 have h3:iJ (gE S.d i j) (gE S.d t t)=0:=Vg fun hne=>this (decide_eq_true hne)
 unfold iJ at h3
 rw[if_neg h0]at h3
 exact Int.dvd_of_emod_eq_zero h3
theorem Q7x {S:Sm} {t N i:Nat} (h:∀ j,t<j→j<N→gE S.d t t∣gE S.d i j):X3 S t N i=false:=by
 unfold X3
 refine List.any_eq_false.2 fun j hj=>?_
 rw[List.mem_range'_1]at hj
 have:=Int.emod_eq_zero_of_dvd (h j oq oq)
 unfold iJ
 split<;>simp[this]
theorem Q2r {S:Sm} {t M N:Nat} (h:Z0 S t M N=none):∀ i,t<i→i<M→X3 S t N i=false:=fun i h1 h2=>by
 unfold Z0 at h
 have:=List.find?_eq_none.1 h i (by rw[List.mem_range'_1];omega)
 simpa using this
theorem Q8t {S:Sm} {t M N i:Nat} (h:Z0 S t M N=some i):t<i∧i<M∧X3 S t N i=true∧∀ j,t<j→j<i→X3 S t N j=false:=by
 unfold Z0 at h
 rw[List.find?_range'_eq_some]at h
 obtain⟨h1,h2,h3⟩:=h
 rw[List.mem_range'_1]at h2
 exact⟨by omega,by omega,h1,fun j hj1 hj2=>by simpa using h3 j oq hj2⟩

theorem Q23 {P Q:SP} {K D t M N F:Nat} {u:Int} (md:Mdl K D (M-t) (N-t) P Q) (hM:t<M) (hN:t<N):∀ (f:Nat) (S0 S1:Sm) (q p h e s ub i0:Nat) (d0:Int),s<f→ZG K t M N (F+1) S0=some S1→Dd Q t M N D u q p h e s ub S1→h<2 ^ F→Dv t N i0 d0 S1→s+i0+1=M-t →
  ∃ S' q' p' h' e' s' dY,Zz K (F+1) t M N f S0=some S'∧Dd Q t M N D u q' p' h' e' s' dY S'∧h'≤h∧∀ a b,a<M-t→b<N-t→rest t S'.d 0 0∣rest t S'.d a b
 | 0,_,_,_,_,_,_,_,_,_,_,hs,_,_,_,_,_=>absurd hs (Nat.not_lt_zero _)
 | f + 1, S0, S1, q, p, h, e, s, ub, i0, d0, hs, hcr, hD, hF, hdv, hsi => by
  have hnz:gE S1.d t t≠0:=hD.c.ev.nz
  rw[Zz,hcr]
  dsimp only
  cases hsp:Z0 S1 t M N with
  | none =>
   refine⟨S1,q,p,h,e,s,ub,rfl,hD,V8 _,fun a b ha hb=>?_⟩
   by_cases ha0:a=0
   ·subst ha0
    by_cases hb0:b=0
    ·subst hb0;exact Int.dvd_refl _
    ·rw[hD.cl b oq hb];exact Int.dvd_zero _
   ·by_cases hb0:b=0
    ·subst hb0;rw[show rest t S1.d a 0=tr (rest t S1.d) 0 a from rfl,hD.cc a oq ha];exact Int.dvd_zero _
    ·exact Qbg (Q2r hsp (t+a) oq oq) hnz (t+b) oq oq
  | some i =>
   dsimp only
   obtain⟨hi1,hi2,hb1,hb2⟩:=Q8t hsp
   obtain⟨j,rfl⟩:∃ j,i=t+j:=⟨i-t,by omega⟩
   have hj0:0<j:=by omega
   have hjm:j<M-t:=by omega
   have hji:i0<j:=by
    refine Nat.lt_of_not_le fun hle=>?_
    rw[Q7x (S:=S1) (t:=t) (N:=N) (i:=t+j) fun b hb3 hb4=>?_]at hb1
    ·cases hb1
    ·have:=hdv.1 j hj0 hle (b-t) oq oq
     unfold rest at this
     rw[show t+(b-t)=b by omega]at this
     exact Int.dvd_trans hdv.2 this
   have hh2:2≤h:=by
    refine Nat.le_of_not_lt fun hlt=>?_
    rw[Q7x (S:=S1) (t:=t) (N:=N) (i:=t+j) fun b hb3 hb4=>?_]at hb1
    ·cases hb1
    ·have h1:(gE S1.d t t).natAbs=h:=hD.c.hh
     have h2:(gE S1.d t t).natAbs=1:=by omega
     exact Int.natAbs_dvd.1 (by rw[h2];exact Int.one_dvd _)
   have hP:=md.spoil (s':=M-t-1-j) hD.Q oq hD.cl hD.cc hj0 hjm hh2 hD.c.ev.nz hD.c.hh
   obtain⟨hev,he0⟩:=Ql3 hD.c.ev oq hD.cl hD.cc hj0 hjm
   have hrr:rest t (S1.rows t (t+j) ⟨1,1,0,1⟩).d=rop 0 j ⟨1,1,0,1⟩ (rest t S1.d):=XK hD.c.b.dm.d hi2 hj0
   have hcl2:fV (M-t) (tr (rop 0 j ⟨1,1,0,1⟩ (rest t S1.d))):=fun a ha0 ha=>by
    show rop 0 j ⟨1,1,0,1⟩ (rest t S1.d) a 0=0
    have z1:=hD.cc a ha0 ha
    have z2:=hD.cc j hj0 hjm
    unfold tr at z1 z2
    unfold rop Tn.p Tn.q
    by_cases ea:a=j
    ·rw[if_pos ea,z2];dsimp only;omega
    ·rw[if_neg ea,if_neg oq];exact z1
   have hsz:iY (2 ^ (ub+1)) M N (S1.rows t (t+j) ⟨1,1,0,1⟩):=by
    have:=hD.c.b.su.rows (C:=1) hD.c.b.dm hM hi2 (t:=⟨1,1,0,1⟩) ⟨by decide,by decide,by decide,by decide⟩ (V8 _)
    rw[Va,Vc]
    simpa using this
   have hL:LvC P t M N D u q p h e (M-t-1-j) (ub+1) (S1.rows t (t+j) ⟨1,1,0,1⟩):={
    c:={ b:=⟨hD.c.b.dm.rows hM hi2,hD.c.b.bk.rows hD.c.b.dm.d hi1 hi2,hsz⟩,ev:=by rw[hrr];exact hev,hh:=by rw[hrr,he0];exact hD.c.hh,e:=hD.c.e }
    cl:=by rw[hrr];exact hcl2
    P:=by rw[hrr];exact hP }
   have hck:ck K (S1.rows t (t+j) ⟨1,1,0,1⟩)=some (S1.rows t (t+j) ⟨1,1,0,1⟩):=by
    obtain⟨A,H,Mx,X,iM,hKB,_⟩:=md.step (.inr ⟨rfl,rfl⟩) hL.P hL.cl hL.c.ev.nz hL.c.hh
    have hall:=iM.all (k:=0) (L:=256 ^ K-1) oq (by have:=hKB.a;omega) (by have:=hKB.h;omega) (by have:=hKB.mx;omega) (by have:=hKB.w;omega)
    refine Qif hL.c.b.dm hL.c.b.su (hL.c.b.bk.sz (L:=256 ^ K-1) (by have:=hKB.d;omega) fun a b ha hb=>hall b a hb ha) ?_ (by have:=bG K;omega)
    have hC1:1≤2*max A H:=by have:=iM.a1;have:=Nat.le_max_left A H;omega
    exact V5 (Nat.le_mul_of_pos_left _ (Nat.pow_pos hC1)) hKB.u
   rw[hck]
   dsimp only
   obtain⟨S3,q3,p3,h3,e3,ub3,g3,hD3,hdv3,hle3⟩:=Q9n md hM hN (Qjz hL.cl) hL hF j (rest t S1.d 0 0) hjm fun S2 r2=>by
    rw[hrr]at r2
    refine⟨?_,?_⟩
    ·rw[r2]
     refine DR.spoil (E:=rop 0 j ⟨1,1,0,1⟩ (rest t S1.d)) (m:=M-t) ?_ hj0 hjm (fun b hb=>?_) hcl2 oq fun b hb0' hb'=>Yy (by show rop 0 j ⟨1,1,0,1⟩ (rest t S1.d) 0 0≠0;rw[he0];exact hD.c.ev.nz) hb0' oq
     ·intro a ha0 ha b hb0' hb'
      have:rop 0 j ⟨1,1,0,1⟩ (rest t S1.d) a b=rest t S1.d a b:=by unfold rop;rw[if_neg oq,if_neg oq]
      rw[this]
      exact Qbg (hb2 (t+a) oq oq) hnz (t+b) oq oq
     ·have e1:rop 0 j ⟨1,1,0,1⟩ (rest t S1.d) 0 b-rop 0 j ⟨1,1,0,1⟩ (rest t S1.d) j b=rest t S1.d 0 b:=by
       unfold rop Tn.p Tn.q
       rw[if_neg oq,if_pos rfl,if_pos rfl]
       dsimp only
       omega
      rw[e1]
      by_cases hb0':b=0
      ·subst hb0';exact Int.dvd_refl _
      ·rw[hD.cl b oq hb];exact Int.dvd_zero _
    ·rw[r2]
     have:=Wg (E:=tr (rop 0 j ⟨1,1,0,1⟩ (rest t S1.d))) (by show rop 0 j ⟨1,1,0,1⟩ (rest t S1.d) 0 0≠0;rw[he0];exact hD.c.ev.nz) (N-t-1)
     rw[show tr (rop 0 j ⟨1,1,0,1⟩ (rest t S1.d)) 0 0=rest t S1.d 0 0 from he0]at this
     exact this
   obtain⟨S',q',p',h',e',s',dY,g4,hD4,hle4,hall⟩:=Q23 md hM hN f (S1.rows t (t+j) ⟨1,1,0,1⟩) S3 q3 p3 h3 e3 (M-t-1-j) ub3 j (rest t S1.d 0 0) oq g3 hD3 oq hdv3 oq
   exact⟨S',q',p',h',e',s',dY,g4,hD4,by omega,hall⟩


def Wtu (h e s:Nat):Nat:=h ^ 4*27 ^ e*81 ^ s
structure PuF (hb C U0 m n h e s ub al mu Z:Nat) (E:Mi):Prop where
 hal:hb≤al
 hh:h≤2 ^ hb
 a:∀ a,0<a→a<m→(E a 0).natAbs≤2 ^ al
 m:∀ a b,0<a→a<m→0<b→b<n→(E a b).natAbs≤2 ^ mu
 za:13*(al+(hb+4))≤Z
 zm:8*(mu+2*(hb+4))≤Z
 zc:Z ^ 9*Wtu h e s≤C
 u:ub+4*(al+1)≤U0+2*Z
 z0:1000≤Z
structure QuF (hb C U0 m n h e s ub mu Z:Nat) (E:Mi):Prop where
 hh:h≤2 ^ hb
 m:∀ a b,0<a→a<m→0<b→b<n→(E a b).natAbs≤2 ^ mu
 zm:8*(mu+2*(hb+4))≤Z
 zc:Z ^ 9*Wtu h e s≤C
 u:ub≤U0+2*Z
 z0:1000≤Z
def Pu (hb C U0:Nat):SP:=fun m n h e s ub E=>∃ al mu Z,PuF hb C U0 m n h e s ub al mu Z E
def Qu (hb C U0:Nat):SP:=fun m n h e s ub E=>∃ mu Z,QuF hb C U0 m n h e s ub mu Z E

theorem QR {x K:Nat} (h:x<8*K):2 ^ x<256 ^ K:=by
 rw[show (256:Nat)=2 ^ 8 from rfl, ← Nat.pow_mul]
 exact Nat.pow_lt_pow_right dq h
theorem Q2q {al x:Nat} (c:Nat):wB (2 ^ al) (2 ^ x) (c+1)≤2 ^ (c*al+x+c):=by
 unfold wB
 rw[Nat.add_sub_cancel, ← Nat.pow_mul,Vc al c]
 have h1:c+1≤2 ^ c:=Nat.lt_two_pow_self
 calc (c+1)*2 ^ (c*al)*2 ^ x≤2 ^ c*2 ^ (c*al)*2 ^ x:=V1 _ (V1 _ h1)
  _=2 ^ (c*al+x+c):=by rw[← Nat.pow_add, ← Nat.pow_add];congr 1;omega
theorem Qqg {c al mu hb Z:Nat} (hc:1≤c) (hc4:c≤4) (za:13*(al+(hb+4))≤Z) (zm:8*(mu+2*(hb+4))≤Z) :
  13*((c-1)*al+mu+hb+c+(hb+4))≤(8*c+5)*Z / 8∧8*(c*al+mu+hb+c+2*(hb+4))≤(8*c+5)*Z / 8:=by
 have hcs:c=1∨c=2∨c=3∨c=4:=by omega
 rcases hcs with rfl|rfl|rfl|rfl<;>constructor<;>rw[Nat.le_div_iff_mul_le dq]<;>omega
theorem pow9 {x y:Nat} (h:8*x≤y):8 ^ 9*x ^ 9≤y ^ 9:=by rw[← Nat.mul_pow];exact Nat.pow_le_pow_left h 9
theorem Qoh {c Z h h' e s C:Nat} (hc:1≤c) (hc4:c≤4) (hh:3 ^ c*h'≤h) (hC:Z ^ 9*Wtu h e s≤C):((8*c+5)*Z / 8) ^ 9*Wtu h' e s≤C:=by
 have h1:8 ^ 9*((8*c+5)*Z / 8) ^ 9≤((8*c+5)*Z) ^ 9:=pow9 oq
 have h2:(8*c+5) ^ 9≤8 ^ 9*81 ^ c:=by
  have hcs:c=1∨c=2∨c=3∨c=4:=by omega
  rcases hcs with rfl|rfl|rfl|rfl<;>decide
 have h3:81 ^ c*h' ^ 4≤h ^ 4:=by
  have:=Nat.pow_le_pow_left hh 4
  rw[Nat.mul_pow, ← Nat.pow_mul,Vc c 4,Nat.pow_mul]at this
  exact this
 refine V0 ?_ hC
 unfold Wtu
 refine Nat.le_of_mul_le_mul_left (c:=8 ^ 9) ?_ (show 0<8 ^ 9 by decide)
 rw[Nat.mul_pow]at h1
 calc 8 ^ 9*(((8*c+5)*Z / 8) ^ 9*(h' ^ 4*27 ^ e*81 ^ s))=8 ^ 9*((8*c+5)*Z / 8) ^ 9*(h' ^ 4*27 ^ e*81 ^ s):=by simp only[Vn]
  _≤(8*c+5) ^ 9*Z ^ 9*(h' ^ 4*27 ^ e*81 ^ s):=V1 _ h1
  _≤8 ^ 9*81 ^ c*Z ^ 9*(h' ^ 4*27 ^ e*81 ^ s):=V1 _ (V1 _ h2)
  _=8 ^ 9*(Z ^ 9*(81 ^ c*h' ^ 4*27 ^ e*81 ^ s)):=by simp only[Vn,Nat.mul_left_comm,Vc]
  _≤8 ^ 9*(Z ^ 9*(h ^ 4*27 ^ e*81 ^ s)):=V3 _ (V3 _ (V1 _ (V1 _ h3)))
theorem Qkg {c Z h h' e s C:Nat} (hc:1≤c) (hc4:c≤4) (hh:2 ^ c*h'≤h) (hC:Z ^ 9*Wtu h (e+1) s≤C):((8*c+5)*Z / 8) ^ 9*Wtu h' e s≤C:=by
 have h1:8 ^ 9*((8*c+5)*Z / 8) ^ 9≤((8*c+5)*Z) ^ 9:=pow9 oq
 have h2:(8*c+5) ^ 9≤8 ^ 9*(16 ^ c*27):=by
  have hcs:c=1∨c=2∨c=3∨c=4:=by omega
  rcases hcs with rfl|rfl|rfl|rfl<;>decide
 have h3:16 ^ c*h' ^ 4≤h ^ 4:=by
  have:=Nat.pow_le_pow_left hh 4
  rw[Nat.mul_pow, ← Nat.pow_mul,Vc c 4,Nat.pow_mul]at this
  exact this
 refine V0 ?_ hC
 unfold Wtu
 refine Nat.le_of_mul_le_mul_left (c:=8 ^ 9) ?_ (show 0<8 ^ 9 by decide)
 rw[Nat.mul_pow]at h1
 calc 8 ^ 9*(((8*c+5)*Z / 8) ^ 9*(h' ^ 4*27 ^ e*81 ^ s))=8 ^ 9*((8*c+5)*Z / 8) ^ 9*(h' ^ 4*27 ^ e*81 ^ s):=by simp only[Vn]
  _≤(8*c+5) ^ 9*Z ^ 9*(h' ^ 4*27 ^ e*81 ^ s):=V1 _ h1
  _≤8 ^ 9*(16 ^ c*27)*Z ^ 9*(h' ^ 4*27 ^ e*81 ^ s):=V1 _ (V1 _ h2)
  _=8 ^ 9*(Z ^ 9*(16 ^ c*h' ^ 4*(27*27 ^ e)*81 ^ s)):=by simp only[Vn,Nat.mul_left_comm,Vc]
  _≤8 ^ 9*(Z ^ 9*(h ^ 4*27 ^ (e+1)*81 ^ s)):=by
   rw[Va 27 e,Vc 27 (27 ^ e)]
   exact V3 _ (V3 _ (V1 _ (V1 _ h3)))
theorem Qgy {Z h e s s' C:Nat} (hs:s'<s) (hC:Z ^ 9*Wtu h e s≤C):(13*Z / 8) ^ 9*Wtu h e s'≤C:=by
 have h1:8 ^ 9*(13*Z / 8) ^ 9≤(13*Z) ^ 9:=pow9 oq
 refine V0 ?_ hC
 unfold Wtu
 refine Nat.le_of_mul_le_mul_left (c:=8 ^ 9) ?_ (show 0<8 ^ 9 by decide)
 rw[Nat.mul_pow]at h1
 have h2:81 ^ (s'+1)≤81 ^ s:=V4 dq hs
 calc 8 ^ 9*((13*Z / 8) ^ 9*(h ^ 4*27 ^ e*81 ^ s'))=8 ^ 9*(13*Z / 8) ^ 9*(h ^ 4*27 ^ e*81 ^ s'):=by simp only[Vn]
  _≤13 ^ 9*Z ^ 9*(h ^ 4*27 ^ e*81 ^ s'):=V1 _ h1
  _≤8 ^ 9*81*Z ^ 9*(h ^ 4*27 ^ e*81 ^ s'):=V1 _ (V1 _ dq)
  _=8 ^ 9*(Z ^ 9*(h ^ 4*27 ^ e*(81 ^ s'*81))):=by simp only[Vn,Nat.mul_left_comm,Vc]
  _≤8 ^ 9*(Z ^ 9*(h ^ 4*27 ^ e*81 ^ s)):=V3 _ (V3 _ (V3 _ h2))
theorem Qqh {h e s:Nat} (h0:1≤h):1≤Wtu h e s:=Nat.mul_pos (Nat.mul_pos (Nat.pow_pos h0) (Nat.pow_pos dq)) (Nat.pow_pos dq)
theorem z_le {Z h e s C Zm:Nat} (h0:1≤h) (hC:Z ^ 9*Wtu h e s≤C) (hZ:C<(Zm+1) ^ 9):Z≤Zm:=by
 refine Nat.le_of_lt_succ (Vg fun hn=>?_)
 have h1:(Zm+1) ^ 9≤Z ^ 9:=Nat.pow_le_pow_left oq 9
 have h2:Z ^ 9≤Z ^ 9*Wtu h e s:=Nat.le_mul_of_pos_right _ (Qqh h0)
 omega

theorem Qtf {K D m n hb C U0 Zm:Nat} (hm:m≤5) (hn:n≤5) (hZ:C<(Zm+1) ^ 9) (hK:U0+2*Zm<8*K) (hD:D<256 ^ K):Mdl K D m n (Pu hb C U0) (Qu hb C U0):=by
 refine⟨?_,?_,?_⟩
 ·intro m' n' h e s ub E hd hP hcl hnz hhE
  obtain⟨al,mu,Z,p⟩:=hP
  have h1:1≤h:=by omega
  have hz:=z_le h1 p.zc hZ
  have hm':m'-1≤4:=by omega
  have hA1:1≤2 ^ al:=Nat.pow_pos dq
  have hH1:1≤2 ^ hb:=Nat.pow_pos dq
  have hX:2 ^ hb*2 ^ mu=2 ^ (hb+mu):=by rw[Nat.pow_add]
  have iM:PBd m' n' (2 ^ al) (2 ^ hb) (2 ^ mu) (2 ^ (hb+mu)) 0 E:=⟨hnz,hA1,hH1,by rw[Nat.pow_zero,Nat.one_mul,hX];exact V8 _,by rw[hhE];exact p.hh,p.a,p.m,fun b hb0 hb'=>by rw[hcl b hb0 hb'];exact V9 _⟩
  have hmax:max (2 ^ al) (2 ^ hb)=2 ^ al:=Nat.max_eq_left (V4 dq p.hal)
  have hcn:=Xm E (m'-1)
  obtain⟨c,hc⟩:∃ c,c=dJ E (m'-1):=⟨_,rfl⟩
  rw[← hc]at hcn
  have hix:∃ j,eF E 0 (m'-1)=j∧(j≤c+1):=⟨_,rfl,by unfold eF;rw[← hc];split<;>omega⟩
  obtain⟨j,hj,hjc⟩:=hix
  have hrow:wB (2 ^ al) (2 ^ (hb+mu)) j≤2 ^ (c*al+(hb+mu)+c):=by
   have h2:=Xs (A:=2 ^ al) (X:=2 ^ (hb+mu)) hA1 (c+1-j) j
   rw[show j+(c+1-j)=c+1 by omega]at h2
   exact V0 h2 (Q2q c)
  have hub:∀ x,x≤4→(2*2 ^ al) ^ x*2 ^ ub≤2 ^ (ub+4*(al+1)):=fun x hx=>by
   rw[show 2*2 ^ al=2 ^ (al+1) by rw[Va];omega, ← Nat.pow_mul, ← Nat.pow_add]
   refine V4 dq ?_
   have:=V3 (al+1) hx
   omega
  have hp:=p.u
  have dD:=YJ hnz (m'-1)
  rw[hhE, ← hc]at dD
  have hg1:1≤(aJ (m'-1) E 0 0).natAbs:=by have:=Zw hnz (m'-1);omega
  have hgh:(aJ (m'-1) E 0 0).natAbs≤2 ^ hb:=V0 (Q2v hnz _) (by rw[hhE];exact p.hh)
  have hnew:∀ e',1≤c→(3 ^ c*(aJ (m'-1) E 0 0).natAbs≤h∧e'=e∨e=e'+1)→((8*c+5)*Z / 8) ^ 9*Wtu (aJ (m'-1) E 0 0).natAbs e' s≤C:=fun e' hc1 he=>by
   rcases he with ⟨h3,rfl⟩|rfl
   ·exact Qoh hc1 oq h3 p.zc
   ·exact Qkg hc1 oq dD p.zc
  have hgrow:1≤c→13*Z≤(8*c+5)*Z:=fun h=>V1 _ oq
  have hz0:=p.z0
  have hza:=p.za
  have hzm:=p.zm
  by_cases hc0:c=0
  ·refine⟨_,_,_,_,iM,⟨QR oq,QR (by have:=p.hal;omega),QR oq,?_,?_,hD⟩,ub+4*(al+1),by rw[hmax];exact hub _ hm',fun _=>⟨mu,Z,p.hh,fun a b ha0 ha hb0 hb'=>?_,p.zm,p.zc,by omega,p.z0⟩,fun e' h3=>absurd h3 oq⟩
   ·rw[hj]
    refine V5 hrow (QR ?_)
    subst hc0
    omega
   ·rw[hmax];exact V5 (hub _ hm') (QR oq)
   ·rw[Q1g hnz hcl oq ha0 oq hb0 hb']
    exact p.m a b ha0 ha hb0 hb'
  ·obtain⟨z1,z2⟩:=Qqg (c:=c) oq oq p.za p.zm
   have hgr:=hgrow oq
   have hall:=hnew
   refine⟨_,_,_,_,iM,⟨QR oq,QR (by have:=p.hal;omega),QR oq,?_,?_,hD⟩,ub+4*(al+1),by rw[hmax];exact hub _ hm',fun h3=>absurd h3 oq,fun e' h3 he=>?_⟩
   ·rw[hj]
    refine V5 hrow (QR ?_)
    have h37:(8*c+5)*Z≤37*Z:=V1 _ oq
    omega
   ·rw[hmax];exact V5 (hub _ hm') (QR oq)
   ·rw[← hc]at he
    refine⟨(c-1)*al+mu+hb+c,c*al+mu+hb+c,(8*c+5)*Z / 8,by omega,hgh,fun a ha0 ha=>?_,fun a b ha0 ha hb0 hb'=>?_,z1,z2,hnew e' oq he,by omega,by omega⟩
    ·show (aJ (m'-1) E 0 a).natAbs≤_
     have h4:=(iM.sz ha0 ha (m'-1) oq).1
     rw[← hc,Vt]at h4
     refine V0 h4 ?_
     obtain⟨c',rfl⟩:∃ c',c=c'+1:=⟨c-1,by omega⟩
     refine V0 (Q2q c') (V4 dq ?_)
     rw[Nat.add_sub_cancel]
     omega
    ·show (aJ (m'-1) E b a).natAbs≤_
     have h4:=(iM.sz ha0 ha (m'-1) oq).2 b hb0 oq
     rw[hj]at h4
     refine V0 h4 (V0 hrow (V4 dq ?_))
     omega
 ·intro m' n' h e s ub E hQ
  obtain⟨mu,Z,p⟩:=hQ
  exact⟨mu,Z,p.hh,fun a b ha0 ha hb0 hb'=>p.m b a hb0 hb' ha0 ha,p.zm,p.zc,p.u,p.z0⟩
 ·intro h e s s' ub i E hQ hs hcl hcc h0 hi h2 hnz hhE
  obtain⟨mu,Z,p⟩:=hQ
  have hzm:=p.zm
  have hz0:=p.z0
  have hu:=p.u
  refine⟨max mu hb,mu,13*Z / 8,Nat.le_max_right _ _,p.hh,fun b hb0 hb'=>?_,fun b a hb0 hb' ha0 ha=>?_,?_,?_,Qgy hs p.zc,?_,?_⟩
  ·show (rop 0 i ⟨1,1,0,1⟩ E 0 b).natAbs≤_
   have e1:rop 0 i ⟨1,1,0,1⟩ E 0 b=E i b:=by
    unfold rop Tn.p
    rw[if_neg oq,if_pos rfl,hcl b hb0 hb']
    dsimp only
    omega
   rw[e1]
   exact V0 (p.m i b h0 hi hb0 hb') (V4 dq (Nat.le_max_left _ _))
  ·show (rop 0 i ⟨1,1,0,1⟩ E a b).natAbs≤_
   have e1:rop 0 i ⟨1,1,0,1⟩ E a b=E a b:=by
    unfold rop Tn.q
    by_cases ea:a=i
    ·rw[if_pos ea,ea];dsimp only;omega
    ·rw[if_neg ea,if_neg oq]
   rw[e1]
   exact p.m a b ha0 ha hb0 hb'
  ·rw[Nat.le_div_iff_mul_le dq]
   rcases Nat.le_total mu hb with h3|h3
   ·rw[Nat.max_eq_right h3];omega
   ·rw[Nat.max_eq_left h3];omega
  ·omega
  ·rcases Nat.le_total mu hb with h3|h3
   ·rw[Nat.max_eq_right h3];omega
   ·rw[Nat.max_eq_left h3];omega
  ·omega

def Wm (h e s:Nat):Nat:=h ^ 4*22 ^ e*3831 ^ s
def nb (ze r c a b:Nat):Nat:=ze+(if a=2 then r else 0)+(if b=2 then c else 0)
structure PmF (C U0 m n h e s ub ze r c l V:Nat) (E:Mi):Prop where
 hh:h≤2 ^ ze
 a:∀ a,0<a→a<m→(E a 0).natAbs≤2 ^ (ze+(if a=2 then r else 0)+l)
 m:∀ a b,0<a→a<m→0<b→b<n→h*(E a b).natAbs≤2 ^ nb ze r c a b
 v:l=0∧98*r+75*c+225*(ze+1)≤V∨l=c∧100*r+130*c+225*(ze+1)≤V
 vc:V ^ 15*Wm h e s≤C
 u:9*(ub+2*(ze+r+l+1))≤U0+V
 v0:100000≤V
structure QmF (C U0 m n h e s ub ze r c V:Nat) (E:Mi):Prop where
 hh:h≤2 ^ ze
 m:∀ a b,0<a→a<m→0<b→b<n→h*(E a b).natAbs≤2 ^ nb ze r c a b
 v:75*r+75*c+225*(ze+1)≤V
 vc:V ^ 15*Wm h e s≤C
 u:9*ub≤U0+V
 v0:100000≤V
def Pm (C U0:Nat):SP:=fun m n h e s ub E=>∃ ze r c l V,PmF C U0 m n h e s ub ze r c l V E
def Qm (C U0:Nat):SP:=fun m n h e s ub E=>∃ ze r c V,QmF C U0 m n h e s ub ze r c V E

theorem Qrl {c V h h' e s C:Nat} (hc:1≤c) (hc2:c≤2) (hh:3 ^ c*h'≤h) (hC:V ^ 15*Wm h e s≤C):(4 ^ c*V / 3 ^ c) ^ 15*Wm h' e s≤C:=by
 have h1:(3 ^ c) ^ 15*(4 ^ c*V / 3 ^ c) ^ 15≤(4 ^ c*V) ^ 15:=by rw[← Nat.mul_pow];exact Nat.pow_le_pow_left (Nat.mul_div_le _ _) 15
 have h2:(4 ^ c) ^ 15≤(3 ^ c) ^ 15*81 ^ c:=by
  have hcs:c=1∨c=2:=by omega
  rcases hcs with rfl|rfl<;>decide
 have h3:81 ^ c*h' ^ 4≤h ^ 4:=by
  have:=Nat.pow_le_pow_left hh 4
  rw[Nat.mul_pow, ← Nat.pow_mul,Vc c 4,Nat.pow_mul]at this
  exact this
 refine V0 ?_ hC
 unfold Wm
 refine Nat.le_of_mul_le_mul_left (c:=(3 ^ c) ^ 15) ?_ (Nat.pow_pos (Nat.pow_pos dq))
 rw[Nat.mul_pow]at h1
 calc (3 ^ c) ^ 15*((4 ^ c*V / 3 ^ c) ^ 15*(h' ^ 4*22 ^ e*3831 ^ s))=(3 ^ c) ^ 15*(4 ^ c*V / 3 ^ c) ^ 15*(h' ^ 4*22 ^ e*3831 ^ s):=by simp only[Vn]
  _≤(4 ^ c) ^ 15*V ^ 15*(h' ^ 4*22 ^ e*3831 ^ s):=V1 _ h1
  _≤(3 ^ c) ^ 15*81 ^ c*V ^ 15*(h' ^ 4*22 ^ e*3831 ^ s):=V1 _ (V1 _ h2)
  _=(3 ^ c) ^ 15*(V ^ 15*(81 ^ c*h' ^ 4*22 ^ e*3831 ^ s)):=by simp only[Vn,Nat.mul_left_comm,Vc]
  _≤(3 ^ c) ^ 15*(V ^ 15*(h ^ 4*22 ^ e*3831 ^ s)):=V3 _ (V3 _ (V1 _ (V1 _ h3)))
theorem Qoj {c V h h' e s C:Nat} (hc:1≤c) (hc2:c≤2) (hh:2 ^ c*h'≤h) (hC:V ^ 15*Wm h (e+1) s≤C):(4 ^ c*V / 3 ^ c) ^ 15*Wm h' e s≤C:=by
 have h1:(3 ^ c) ^ 15*(4 ^ c*V / 3 ^ c) ^ 15≤(4 ^ c*V) ^ 15:=by rw[← Nat.mul_pow];exact Nat.pow_le_pow_left (Nat.mul_div_le _ _) 15
 have h2:(4 ^ c) ^ 15≤(3 ^ c) ^ 15*(16 ^ c*22):=by
  have hcs:c=1∨c=2:=by omega
  rcases hcs with rfl|rfl<;>decide
 have h3:16 ^ c*h' ^ 4≤h ^ 4:=by
  have:=Nat.pow_le_pow_left hh 4
  rw[Nat.mul_pow, ← Nat.pow_mul,Vc c 4,Nat.pow_mul]at this
  exact this
 refine V0 ?_ hC
 unfold Wm
 refine Nat.le_of_mul_le_mul_left (c:=(3 ^ c) ^ 15) ?_ (Nat.pow_pos (Nat.pow_pos dq))
 rw[Nat.mul_pow]at h1
 calc (3 ^ c) ^ 15*((4 ^ c*V / 3 ^ c) ^ 15*(h' ^ 4*22 ^ e*3831 ^ s))=(3 ^ c) ^ 15*(4 ^ c*V / 3 ^ c) ^ 15*(h' ^ 4*22 ^ e*3831 ^ s):=by simp only[Vn]
  _≤(4 ^ c) ^ 15*V ^ 15*(h' ^ 4*22 ^ e*3831 ^ s):=V1 _ h1
  _≤(3 ^ c) ^ 15*(16 ^ c*22)*V ^ 15*(h' ^ 4*22 ^ e*3831 ^ s):=V1 _ (V1 _ h2)
  _=(3 ^ c) ^ 15*(V ^ 15*(16 ^ c*h' ^ 4*(22 ^ e*22)*3831 ^ s)):=by simp only[Vn,Nat.mul_left_comm,Vc]
  _≤(3 ^ c) ^ 15*(V ^ 15*(h ^ 4*22 ^ (e+1)*3831 ^ s)):=by
   rw[Va 22 e]
   exact V3 _ (V3 _ (V1 _ (V1 _ h3)))
theorem Qcg {V h e s s' C:Nat} (hs:s'<s) (hC:V ^ 15*Wm h e s≤C):(26*V / 15) ^ 15*Wm h e s'≤C:=by
 have h1:15 ^ 15*(26*V / 15) ^ 15≤(26*V) ^ 15:=by rw[← Nat.mul_pow];exact Nat.pow_le_pow_left (Nat.mul_div_le _ _) 15
 refine V0 ?_ hC
 unfold Wm
 refine Nat.le_of_mul_le_mul_left (c:=15 ^ 15) ?_ (show 0<15 ^ 15 by decide)
 rw[Nat.mul_pow]at h1
 have h2:3831 ^ (s'+1)≤3831 ^ s:=V4 dq hs
 calc 15 ^ 15*((26*V / 15) ^ 15*(h ^ 4*22 ^ e*3831 ^ s'))=15 ^ 15*(26*V / 15) ^ 15*(h ^ 4*22 ^ e*3831 ^ s'):=by simp only[Vn]
  _≤26 ^ 15*V ^ 15*(h ^ 4*22 ^ e*3831 ^ s'):=V1 _ h1
  _≤15 ^ 15*3831*V ^ 15*(h ^ 4*22 ^ e*3831 ^ s'):=V1 _ (V1 _ dq)
  _=15 ^ 15*(V ^ 15*(h ^ 4*22 ^ e*(3831 ^ s'*3831))):=by simp only[Vn,Nat.mul_left_comm,Vc]
  _≤15 ^ 15*(V ^ 15*(h ^ 4*22 ^ e*3831 ^ s)):=V3 _ (V3 _ (V3 _ h2))
theorem v_le {V h e s C Vm:Nat} (h0:1≤h) (hC:V ^ 15*Wm h e s≤C) (hV:C<(Vm+1) ^ 15):V≤Vm:=by
 refine Nat.le_of_lt_succ (Vg fun hn=>?_)
 have h1:(Vm+1) ^ 15≤V ^ 15:=Nat.pow_le_pow_left oq 15
 have h3:1≤Wm h e s:=Nat.mul_pos (Nat.mul_pos (Nat.pow_pos h0) (Nat.pow_pos dq)) (Nat.pow_pos dq)
 have h2:V ^ 15≤V ^ 15*Wm h e s:=Nat.le_mul_of_pos_right _ h3
 omega

theorem Qgc {n:Nat} {E:Mi} (hc:fV n E) {b:Nat} (hb0:0<b) (hb:b<n):aJ 1 E 1 b=(eG (E 0 0) (E 1 0)).d*E 1 b∧aJ 1 E 0 b=(eG (E 0 0) (E 1 0)).b*E 1 b:=by
 constructor
 ·rw[WO]
  show (eG (E 0 0) (E 1 0)).c*E 0 b+(eG (E 0 0) (E 1 0)).d*E 1 b=_
  rw[hc b hb0 hb,Int.mul_zero,Int.zero_add]
 ·rw[Zu]
  show (eG (E 0 0) (E 1 0)).a*E 0 b+(eG (E 0 0) (E 1 0)).b*E 1 b=_
  rw[hc b hb0 hb,Int.mul_zero,Int.zero_add]
theorem Qan {n:Nat} {E:Mi} (h:E 0 0≠0) (hc:fV n E) {b:Nat} (hb0:0<b) (hb:b<n):(aJ 1 E 0 0).natAbs*(aJ 1 E 1 b).natAbs=(E 0 0).natAbs*(E 1 b).natAbs∧(aJ 1 E 0 b).natAbs≤(E 0 0).natAbs*(E 1 b).natAbs∧(jd E 0=false→aJ 1 E 0 b=0):=by
 have ht:=Zt (k:=0) h
 have hdx:=ht.dx
 rw[← Zu]at hdx
 obtain⟨e1,e2⟩:=Qgc hc hb0 hb
 refine⟨?_,?_,fun h0=>?_⟩
 ·rw[e1,Vq, ← Vn, ← Vq,Int.mul_comm]
  have:(eG (E 0 0) (E 1 0)).d*aJ 1 E 0 0=E 0 0:=hdx
  rw[this]
 ·rw[e2,Vq]
  exact V1 _ ht.bb
 ·have:(eG (E 0 0) (E 1 0)).b=0:=(ht.f h0).2.1
  rw[e2,this,Int.zero_mul]
theorem Q77 {E:Mi} (h:E 0 0≠0) {b U Z Y:Nat} (hU:(aJ 1 E 0 b).natAbs≤U) (hZ:(aJ 1 E 0 0).natAbs*(E 2 b).natAbs≤Z) (hY:(E 2 0).natAbs≤Y) (hY1:1≤Y) :
  (aJ 2 E 0 0).natAbs*(aJ 2 E 2 b).natAbs≤Y*U+Z∧(aJ 2 E 0 b).natAbs≤Y*U+Z∧(jd E 1=false→aJ 2 E 0 b=aJ 1 E 0 b):=by
 have ht:=Zt (k:=1) (Zw h 1)
 have hdx:=ht.dx
 have hdy:=ht.dy
 rw[← Zu]at hdx hdy
 have e1:aJ 2 E 2 b=(eG (aJ 1 E 0 0) (E 2 0)).c*aJ 1 E 0 b+(eG (aJ 1 E 0 0) (E 2 0)).d*E 2 b:=WO E 1 b
 have e2:aJ 2 E 0 b=(eG (aJ 1 E 0 0) (E 2 0)).a*aJ 1 E 0 b+(eG (aJ 1 E 0 0) (E 2 0)).b*E 2 b:=Zu E 1 b
 have hcY:(aJ 2 E 0 0).natAbs*(eG (aJ 1 E 0 0) (E 2 0)).c.natAbs≤Y:=by
  rw[← Vq,Int.mul_comm,hdy,Int.natAbs_neg];exact hY
 have hdd:(aJ 2 E 0 0).natAbs*(eG (aJ 1 E 0 0) (E 2 0)).d.natAbs=(aJ 1 E 0 0).natAbs:=by
  rw[← Vq,Int.mul_comm,hdx]
 refine⟨?_,?_,fun h0=>?_⟩
 ·have h1:=Int.natAbs_add_le ((eG (aJ 1 E 0 0) (E 2 0)).c*aJ 1 E 0 b) ((eG (aJ 1 E 0 0) (E 2 0)).d*E 2 b)
  rw[← e1,Vq,Vq]at h1
  refine V0 (V3 _ h1) ?_
  rw[Vp, ← Vn, ← Vn,hdd]
  exact Nat.add_le_add (Vr hcY hU) hZ
 ·have h1:=Int.natAbs_add_le ((eG (aJ 1 E 0 0) (E 2 0)).a*aJ 1 E 0 b) ((eG (aJ 1 E 0 0) (E 2 0)).b*E 2 b)
  rw[← e2,Vq,Vq]at h1
  refine V0 h1 (Nat.add_le_add (Vr (V0 ht.ba (Nat.max_le.2 ⟨hY1,hY⟩)) hU) (V0 (V1 _ ht.bb) hZ))
 ·obtain⟨f1,f2,_⟩:=ht.f h0
  rw[e2,f1,f2,Int.one_mul,Int.zero_mul,Int.add_zero]
theorem Qne {x y z:Nat} (h1:x≤z) (h2:y≤z):2 ^ x+2 ^ y≤2 ^ (z+1):=by
 have e1:2 ^ x≤2 ^ z:=V4 dq h1
 have e2:2 ^ y≤2 ^ z:=V4 dq h2
 rw[Va];omega

structure PmN (m n h ze r c l rn ln:Nat) (E:Mi):Prop where
 cs:dJ E (m-1)=1∧(rn=r+l+ze+1∧ln=0∨rn=r∧ln=r)∨dJ E (m-1)=2∧rn=r+l+ze+1∧ln=rn
 mx:∀ a b,0<a→a<m→0<b→b<n→(aJ (m-1) E 0 0).natAbs*(aJ (m-1) E a b).natAbs≤2 ^ nb ze rn c a b
 u:∀ b,0<b→b<n→(aJ (m-1) E 0 b).natAbs≤2 ^ (ze+(if b=2 then c else 0)+ln)
theorem Qoi {C U0 m n h e s ub ze r c l V:Nat} {E:Mi} (hm:m≤3) (p:PmF C U0 m n h e s ub ze r c l V E) (hcl:fV n E) (hnz:E 0 0≠0) (hh:(E 0 0).natAbs=h) (h1:1≤dJ E (m-1)):∃ rn ln,PmN m n h ze r c l rn ln E:=by
 have hm2:m=2∨m=3:=by
  have:=Xm E (m-1)
  omega
 have hr1:∀ b,0<b→b<n→(aJ 1 E 0 0).natAbs*(aJ 1 E 1 b).natAbs≤2 ^ (ze+(if b=2 then c else 0))∧(aJ 1 E 0 b).natAbs≤2 ^ (ze+(if b=2 then c else 0)):=fun b hb0 hb=>by
  obtain⟨x1,x2,_⟩:=Qan hnz hcl hb0 hb
  have:=p.m 1 b oq oq hb0 hb
  unfold nb at this
  rw[if_neg oq,Vt]at this
  rw[hh]at x1 x2
  exact⟨by omega,by omega⟩
 rcases hm2 with rfl|rfl
 ·have e0:dJ E 1=0+if jd E 0 then 1 else 0:=rfl
  have e1:dJ E 1=1:=by
   have:=Xm E 1
   have h1':1≤dJ E 1:=h1
   omega
  refine⟨r+l+ze+1,0,.inl ⟨e1,.inl ⟨rfl,rfl⟩⟩,fun a b ha0 ha hb0 hb=>?_,fun b hb0 hb=>(hr1 b hb0 hb).2⟩
  obtain rfl:a=1:=by omega
  unfold nb
  rw[if_neg oq,Vt]
  exact(hr1 b hb0 hb).1
 ·have hg2:(aJ 2 E 0 0).natAbs≤(aJ 1 E 0 0).natAbs:=by
   have ht:=Zt (k:=1) (Zw hnz 1)
   have:=ht.le
   rw[← Zu]at this
   exact this
  have hg1:=Q2v hnz 1
  have hrow1:∀ b,0<b→b<n→(aJ 2 E 0 0).natAbs*(aJ 2 E 1 b).natAbs≤2 ^ (ze+(if b=2 then c else 0)):=fun b hb0 hb=>by
   have e5:aJ 2 E 1 b=aJ 1 E 1 b:=Q7k (E:=E) (a:=1) (k:=1) oq oq rfl b
   rw[e5]
   exact V0 (V1 _ hg2) (hr1 b hb0 hb).1
  have hY:(E 2 0).natAbs≤2 ^ (ze+r+l):=by
   have:=p.a 2 oq oq
   rwa [if_pos rfl]at this
  have hZ:∀ b,0<b→b<n→(aJ 1 E 0 0).natAbs*(E 2 b).natAbs≤2 ^ (ze+r+(if b=2 then c else 0)):=fun b hb0 hb=>by
   have:=p.m 2 b oq oq hb0 hb
   unfold nb at this
   rw[if_pos rfl]at this
   rw[hh]at hg1
   exact V0 (V1 _ hg1) this
  have e0:dJ E 2=(0+if jd E 0 then 1 else 0)+if jd E 1 then 1 else 0:=rfl
  have hP:1≤2 ^ (ze+r+l):=Nat.pow_pos dq
  cases c0:jd E 0 with
  | false =>
   have c1:jd E 1=true:=by
    cases c1:jd E 1 with
    | true=>rfl
    | false=>rw[c0,c1]at e0;have:1≤dJ E 2:=h1;rw[e0]at this;simp at this
   have hu0:∀ b,0<b→b<n→(aJ 1 E 0 b).natAbs≤0:=fun b hb0 hb=>by
    rw[(Qan hnz hcl hb0 hb).2.2 c0];exact V8 _
   refine⟨r,r,.inl ⟨by show dJ E 2=1;rw[e0,c0,c1];rfl,.inr ⟨rfl,rfl⟩⟩,fun a b ha0 ha hb0 hb=>?_,fun b hb0 hb=>?_⟩
   ·have ha12:a=1∨a=2:=by omega
    rcases ha12 with rfl|rfl
    ·unfold nb;rw[if_neg oq,Vt];exact hrow1 b hb0 hb
    ·have:=(Q77 hnz (hu0 b hb0 hb) (hZ b hb0 hb) hY hP).1
     rw[Nat.mul_zero,Vu]at this
     unfold nb;rw[if_pos rfl];exact this
   ·have:=(Q77 hnz (hu0 b hb0 hb) (hZ b hb0 hb) hY hP).2.1
    rw[Nat.mul_zero,Vu]at this
    show (aJ 2 E 0 b).natAbs≤_
    rw[show ze+(if b=2 then c else 0)+r=ze+r+(if b=2 then c else 0) by omega]
    exact this
  | true =>
   have hb2:∀ b,0<b→b<n→2 ^ (ze+r+l)*2 ^ (ze+(if b=2 then c else 0))+2 ^ (ze+r+(if b=2 then c else 0))≤2 ^ (ze+(r+l+ze+1)+(if b=2 then c else 0)):=fun b _ _=>by
    rw[← Nat.pow_add]
    refine V0 (Qne (z:=ze+r+l+(ze+(if b=2 then c else 0))) (V8 _) oq) (V4 dq oq)
   have hrow2:∀ b,0<b→b<n→(aJ 2 E 0 0).natAbs*(aJ 2 E 2 b).natAbs≤2 ^ (ze+(r+l+ze+1)+(if b=2 then c else 0))∧(aJ 2 E 0 b).natAbs≤2 ^ (ze+(r+l+ze+1)+(if b=2 then c else 0)):=fun b hb0 hb=>by
    obtain⟨x1,x2,_⟩:=Q77 hnz (hr1 b hb0 hb).2 (hZ b hb0 hb) hY hP
    exact⟨V0 x1 (hb2 b hb0 hb),V0 x2 (hb2 b hb0 hb)⟩
   have hmm:∀ a b,0<a→a<3→0<b→b<n→(aJ 2 E 0 0).natAbs*(aJ 2 E a b).natAbs≤2 ^ nb ze (r+l+ze+1) c a b:=fun a b ha0 ha hb0 hb=>by
    have ha12:a=1∨a=2:=by omega
    rcases ha12 with rfl|rfl
    ·unfold nb;rw[if_neg oq,Vt];exact hrow1 b hb0 hb
    ·unfold nb;rw[if_pos rfl];exact(hrow2 b hb0 hb).1
   cases c1:jd E 1 with
   | false =>
    refine⟨r+l+ze+1,0,.inl ⟨by show dJ E 2=1;rw[e0,c0,c1];rfl,.inl ⟨rfl,rfl⟩⟩,hmm,fun b hb0 hb=>?_⟩
    show (aJ 2 E 0 b).natAbs≤_
    rw[(Q77 hnz (hr1 b hb0 hb).2 (hZ b hb0 hb) hY hP).2.2 c1]
    exact(hr1 b hb0 hb).2
   | true =>
    refine⟨r+l+ze+1,r+l+ze+1,.inr ⟨by show dJ E 2=2;rw[e0,c0,c1];rfl,rfl,rfl⟩,hmm,fun b hb0 hb=>?_⟩
    show (aJ 2 E 0 b).natAbs≤_
    rw[show ze+(if b=2 then c else 0)+(r+l+ze+1)=ze+(r+l+ze+1)+(if b=2 then c else 0) by omega]
    exact(hrow2 b hb0 hb).2

theorem Qro {ze r c a b:Nat}:nb ze r c a b≤ze+r+c:=by unfold nb;split<;>split<;>omega
theorem Qth {K D m n C U0 Vm:Nat} (hm:m≤3) (hn:n≤3) (hV:C<(Vm+1) ^ 15) (hK:U0+Vm<72*K) (hD:D<256 ^ K):Mdl K D m n (Pm C U0) (Qm C U0):=by
 refine⟨?_,?_,?_⟩
 ·intro m' n' h e s ub E hd hP hcl hnz hhE
  obtain⟨ze,r,c,l,V,p⟩:=hP
  have hm3:m'≤3:=by omega
  have h1:1≤h:=by omega
  have hv:=v_le h1 p.vc hV
  have hpv:=p.v
  have hpu:=p.u
  have hv0:=p.v0
  have hlr:l≤c:=by rcases hpv with ⟨h,_⟩|⟨h,_⟩<;>omega
  have hsum:75*(r+c)+225*(ze+1)≤V:=by rcases hpv with ⟨_,h⟩|⟨_,h⟩<;>omega
  have hA1:1≤2 ^ (ze+r+l):=Nat.pow_pos dq
  have hE:∀ a b,0<a→a<m'→0<b→b<n'→(E a b).natAbs≤2 ^ (ze+r+c):=fun a b ha0 ha hb0 hb =>
   V0 (Nat.le_mul_of_pos_left _ h1) (V0 (p.m a b ha0 ha hb0 hb) (V4 dq Qro))
  have iM:PBd m' n' (2 ^ (ze+r+l)) (2 ^ ze) (2 ^ (ze+r+c)) (2 ^ (ze+(ze+r+c))) 0 E :=
   ⟨hnz, hA1, Nat.pow_pos dq, by rw [Nat.pow_zero, Nat.one_mul, ← Nat.pow_add]; exact V8 _, by rw [hhE]; exact p.hh,
    fun a ha0 ha=>V0 (p.a a ha0 ha) (V4 dq (by split<;>omega)),hE,fun b hb0 hb'=>by rw[hcl b hb0 hb'];exact V9 _⟩
  have hmax:max (2 ^ (ze+r+l)) (2 ^ ze)=2 ^ (ze+r+l):=Nat.max_eq_left (V4 dq oq)
  have hcn:=Xm E (m'-1)
  have hub:(2*2 ^ (ze+r+l)) ^ (m'-1)*2 ^ ub≤2 ^ (ub+2*(ze+r+l+1)):=by
   rw[show 2*2 ^ (ze+r+l)=2 ^ (ze+r+l+1) by rw[Va];omega, ← Nat.pow_mul, ← Nat.pow_add]
   refine V4 dq ?_
   have:=V3 (ze+r+l+1) (show m'-1≤2 by omega)
   omega
  have hrow:wB (2 ^ (ze+r+l)) (2 ^ (ze+(ze+r+c))) (eF E 0 (m'-1))≤2 ^ (ze+r+l+(ze+(ze+r+c))+1):=by
   have hix:eF E 0 (m'-1)≤2:=by unfold eF;split<;>omega
   have h2:=Xs (A:=2 ^ (ze+r+l)) (X:=2 ^ (ze+(ze+r+c))) hA1 (2-eF E 0 (m'-1)) (eF E 0 (m'-1))
   rw[show eF E 0 (m'-1)+(2-eF E 0 (m'-1))=1+1 by omega]at h2
   refine V0 h2 (V0 (Q2q 1) (V4 dq oq))
  refine⟨_,_,_,_,iM,⟨QR oq,QR oq,QR oq,V5 hrow (QR oq),by rw[hmax];exact V5 hub (QR oq),hD⟩,ub+2*(ze+r+l+1),by rw[hmax];exact hub,fun hc0=>?_,fun e' hc1 he=>?_⟩
  ·refine⟨ze,r,c,V,p.hh,fun a b ha0 ha hb0 hb=>?_,by omega,p.vc,by omega,hv0⟩
   rw[Q1g hnz hcl hc0 ha0 oq hb0 hb]
   exact p.m a b ha0 ha hb0 hb
  ·obtain⟨rn,ln,q⟩:=Qoi hm3 p hcl hnz hhE hc1
   have dD:=YJ hnz (m'-1)
   rw[hhE]at dD
   obtain⟨cc,hcc⟩:∃ cc,cc=dJ E (m'-1):=⟨_,rfl⟩
   rw[← hcc]at he dD hc1
   have hcs:=q.cs
   rw[← hcc]at hcs
   have hc2:cc≤2:=by omega
   have hpot:(4 ^ cc*V / 3 ^ cc) ^ 15*Wm (aJ (m'-1) E 0 0).natAbs e' s≤C:=by
    rcases he with ⟨h3,rfl⟩|rfl
    ·exact Qrl hc1 hc2 h3 p.vc
    ·exact Qoj hc1 hc2 dD p.vc
   have hg:(aJ (m'-1) E 0 0).natAbs≤2 ^ ze:=V0 (Q2v hnz _) (by rw[hhE];exact p.hh)
   have hgn:1≤(aJ (m'-1) E 0 0).natAbs:=by have:=Zw hnz (m'-1);omega
   have hfin:∀ V',V'=4 ^ cc*V / 3 ^ cc→(ln=0∧98*c+75*rn+225*(ze+1)≤V'∨ln=rn∧100*c+130*rn+225*(ze+1)≤V')→9*(ub+2*(ze+r+l+1)+2*(ze+c+ln+1))≤U0+V'→100000≤V'→Pm C U0 n' m' (aJ (m'-1) E 0 0).natAbs e' s (ub+2*(ze+r+l+1)) (tr (aJ (m'-1) E)):=fun V' hV' hvv huu h00=>by
    refine⟨ze,c,rn,ln,V',hg,fun b hb0 hb=>q.u b hb0 hb,fun b a hb0 hb ha0 ha=>?_,hvv,by rw[hV'];exact hpot,huu,h00⟩
    show (aJ (m'-1) E 0 0).natAbs*(aJ (m'-1) E a b).natAbs≤_
    have:=q.mx a b ha0 ha hb0 hb
    unfold nb at this ⊢
    rw[show ze+(if b=2 then c else 0)+(if a=2 then rn else 0)=ze+(if a=2 then rn else 0)+(if b=2 then c else 0) by omega]
    exact this
   rcases hcs with ⟨hc,hrl⟩|⟨hc,hr,hl⟩
   ·subst hc
    have hq:4 ^ 1*V / 3 ^ 1=4*V / 3:=rfl
    rw[hq]at hfin
    refine hfin _ rfl ?_ ?_ oq
    ·rcases hpv with ⟨rfl,hx⟩|⟨rfl,hx⟩<;>rcases hrl with ⟨rfl,rfl⟩|⟨rfl,rfl⟩
     ·left;omega
     ·right;omega
     ·left;omega
     ·right;omega
    ·rcases hpv with ⟨rfl,hx⟩|⟨rfl,hx⟩<;>rcases hrl with ⟨rfl,rfl⟩|⟨rfl,rfl⟩<;>omega
   ·subst hc
    have hq:4 ^ 2*V / 3 ^ 2=16*V / 9:=rfl
    rw[hq]at hfin
    subst hl
    subst hr
    refine hfin _ rfl ?_ ?_ oq
    ·rcases hpv with ⟨rfl,hx⟩|⟨rfl,hx⟩<;>right<;>omega
    ·rcases hpv with ⟨rfl,hx⟩|⟨rfl,hx⟩<;>omega
 ·intro m' n' h e s ub E hQ
  obtain⟨ze,r,c,V,p⟩:=hQ
  refine⟨ze,c,r,V,p.hh,fun a b ha0 ha hb0 hb'=>?_,by have:=p.v;omega,p.vc,p.u,p.v0⟩
  have:=p.m b a hb0 hb' ha0 ha
  show h*(E b a).natAbs≤_
  unfold nb at this ⊢
  rw[show ze+(if a=2 then c else 0)+(if b=2 then r else 0)=ze+(if b=2 then r else 0)+(if a=2 then c else 0) by omega]
  exact this
 ·intro h e s s' ub i E hQ hs hcl hcc h0 hi h2 hnz hhE
  obtain⟨ze,r,c,V,p⟩:=hQ
  have hpv:=p.v
  have hpu:=p.u
  have hv0:=p.v0
  have hi12:i=1∨i=2:=by omega
  have hcol:∀ b,0<b→b<n→(tr (rop 0 i ⟨1,1,0,1⟩ E) b 0).natAbs≤2 ^ nb ze r c i b:=fun b hb0 hb'=>by
   show (rop 0 i ⟨1,1,0,1⟩ E 0 b).natAbs≤_
   have e1:rop 0 i ⟨1,1,0,1⟩ E 0 b=E i b:=by
    unfold rop Tn.p
    rw[if_neg oq,if_pos rfl,hcl b hb0 hb']
    dsimp only
    omega
   rw[e1]
   exact V0 (Nat.le_mul_of_pos_left _ oq) (p.m i b h0 hi hb0 hb')
  have hmm:∀ b a,0<b→b<n→0<a→a<m→h*(tr (rop 0 i ⟨1,1,0,1⟩ E) b a).natAbs≤2 ^ nb ze c r b a:=fun b a hb0 hb' ha0 ha=>by
   show h*(rop 0 i ⟨1,1,0,1⟩ E a b).natAbs≤_
   have e1:rop 0 i ⟨1,1,0,1⟩ E a b=E a b:=by
    unfold rop Tn.q
    by_cases ea:a=i
    ·rw[if_pos ea,ea];dsimp only;omega
    ·rw[if_neg ea,if_neg oq]
   rw[e1]
   have:=p.m a b ha0 ha hb0 hb'
   unfold nb at this ⊢
   rw[show ze+(if b=2 then c else 0)+(if a=2 then r else 0)=ze+(if a=2 then r else 0)+(if b=2 then c else 0) by omega]
   exact this
  rcases hi12 with rfl|rfl
  ·refine⟨ze,c,r,0,26*V / 15,p.hh,fun b hb0 hb'=>?_,hmm,.inl ⟨rfl,by omega⟩,Qcg hs p.vc,by omega,by omega⟩
   have:=hcol b hb0 hb'
   unfold nb at this
   rw[if_neg oq,Vt]at this
   exact this
  ·refine⟨ze,c,r,r,26*V / 15,p.hh,fun b hb0 hb'=>?_,hmm,.inr ⟨rfl,by omega⟩,Qcg hs p.vc,by omega,by omega⟩
   have:=hcol b hb0 hb'
   unfold nb at this
   rw[if_pos rfl]at this
   rw[show ze+(if b=2 then c else 0)+r=ze+r+(if b=2 then c else 0) by omega]
   exact this

def nA (N c al mu:Nat):Nat:=(c-1)*al+mu+(N+1)+c
def nM (N c al mu:Nat):Nat:=c*al+mu+(N+1)+c
def chk (B:Nat):Nat→Nat→Nat→Bool
 | 0,al,mu=>decide (al≤B) && decide (mu≤B)
 | 1,al,mu=>decide (al≤B) && decide (mu≤B) && chk B 0 (nA 1 1 al mu) (nM 1 1 al mu) && chk B 0 (nM 1 1 al mu) (nM 1 1 al mu)
 | 2,al,mu=>decide (al≤B) && decide (mu≤B) && chk B 1 (nA 2 1 al mu) (nM 2 1 al mu) && chk B 1 (nM 2 1 al mu) (nM 2 1 al mu) && chk B 0 (nA 2 2 al mu) (nM 2 2 al mu) && chk B 0 (nM 2 2 al mu) (nM 2 2 al mu)
 | 3,al,mu=>decide (al≤B) && decide (mu≤B) && chk B 2 (nA 3 1 al mu) (nM 3 1 al mu) && chk B 2 (nM 3 1 al mu) (nM 3 1 al mu) && chk B 1 (nA 3 2 al mu) (nM 3 2 al mu) && chk B 1 (nM 3 2 al mu) (nM 3 2 al mu) && chk B 0 (nA 3 3 al mu) (nM 3 3 al mu) && chk B 0 (nM 3 3 al mu) (nM 3 3 al mu)
 | n+4,al,mu=>decide (al≤B) && decide (mu≤B) && chk B (n+3) (nA (n+4) 1 al mu) (nM (n+4) 1 al mu) && chk B (n+3) (nM (n+4) 1 al mu) (nM (n+4) 1 al mu) && chk B (n+2) (nA (n+4) 2 al mu) (nM (n+4) 2 al mu) && chk B (n+2) (nM (n+4) 2 al mu) (nM (n+4) 2 al mu) && chk B (n+1) (nA (n+4) 3 al mu) (nM (n+4) 3 al mu) && chk B (n+1) (nM (n+4) 3 al mu) (nM (n+4) 3 al mu) && chk B n (nA (n+4) 4 al mu) (nM (n+4) 4 al mu) && chk B n (nM (n+4) 4 al mu) (nM (n+4) 4 al mu)
theorem Q85 {B:Nat}:∀ {N al mu:Nat},chk B N al mu=true→al≤B∧mu≤B
 | 0,_,_,h=>by simp only[chk,Bool.and_eq_true,decide_eq_true_eq]at h;exact h
 | 1,_,_,h=>by simp only[chk,Bool.and_eq_true,decide_eq_true_eq]at h;exact h.1.1
 | 2,_,_,h=>by rw[chk]at h;simp only[Bool.and_eq_true,decide_eq_true_eq]at h;exact h.1.1.1.1
 | 3,_,_,h=>by rw[chk]at h;simp only[Bool.and_eq_true,decide_eq_true_eq]at h;exact h.1.1.1.1.1.1
 | n+4,_,_,h=>by rw[chk]at h;simp only[Bool.and_eq_true,decide_eq_true_eq]at h;exact h.1.1.1.1.1.1.1.1
theorem Qlc {B:Nat} {N c al mu:Nat} (h:chk B N al mu=true) (h1:1≤c) (h2:c≤N) (h4:c≤4):chk B (N-c) (nA N c al mu) (nM N c al mu)=true∧chk B (N-c) (nM N c al mu) (nM N c al mu)=true:=by
 match N,h,h2 with
 | 0,_,h2=>omega
 | 1,h,h2 =>
  obtain rfl:c=1:=by omega
  rw[chk]at h;simp only[Bool.and_eq_true]at h
  exact⟨h.1.2,h.2⟩
 | 2,h,h2 =>
  rw[chk]at h;simp only[Bool.and_eq_true]at h
  have hc:c=1∨c=2:=by omega
  rcases hc with rfl|rfl
  ·exact⟨h.1.1.1.2,h.1.1.2⟩
  ·exact⟨h.1.2,h.2⟩
 | 3,h,h2 =>
  rw[chk]at h;simp only[Bool.and_eq_true]at h
  have hc:c=1∨c=2∨c=3:=by omega
  rcases hc with rfl|rfl|rfl
  ·exact⟨h.1.1.1.1.1.2,h.1.1.1.1.2⟩
  ·exact⟨h.1.1.1.2,h.1.1.2⟩
  ·exact⟨h.1.2,h.2⟩
 | n+4,h,h2 =>
  rw[chk]at h;simp only[Bool.and_eq_true]at h
  have hc:c=1∨c=2∨c=3∨c=4:=by omega
  rcases hc with rfl|rfl|rfl|rfl
  ·exact⟨h.1.1.1.1.1.1.1.2,h.1.1.1.1.1.1.2⟩
  ·exact⟨h.1.1.1.1.1.2,h.1.1.1.1.2⟩
  ·exact⟨h.1.1.1.2,h.1.1.2⟩
  ·exact⟨h.1.2,h.2⟩

structure PoF (B U0 m n h s ub N al mu:Nat) (E:Mi):Prop where
 hh:h<2 ^ (N+1)
 la:N+1≤al
 lm:N+1≤mu
 a:∀ a,0<a→a<m→(E a 0).natAbs≤2 ^ al
 m:∀ a b,0<a→a<m→0<b→b<n→(E a b).natAbs≤2 ^ mu
 c1:chk B N al mu=true
 c2:chk B N mu mu=true
 u:ub+4*(B+1)*(N+2*s+2)≤U0
structure QoF (B U0 m n h s ub N mu:Nat) (E:Mi):Prop where
 hh:h<2 ^ (N+1)
 lm:N+1≤mu
 m:∀ a b,0<a→a<m→0<b→b<n→(E a b).natAbs≤2 ^ mu
 c2:chk B N mu mu=true
 u:ub+4*(B+1)*(N+2*s+1)≤U0
def Po (B U0:Nat):SP:=fun m n h _ s ub E=>∃ N al mu,PoF B U0 m n h s ub N al mu E
def Qo (B U0:Nat):SP:=fun m n h _ s ub E=>∃ N mu,QoF B U0 m n h s ub N mu E

theorem Qtg {K D m n B U0:Nat} (hm:m≤5) (hn:n≤5) (hK:U0<8*K) (hB:2*B+10<8*K) (hD:D<256 ^ K):Mdl K D m n (Po B U0) (Qo B U0):=by
 refine⟨?_,?_,?_⟩
 ·intro m' n' h e s ub E hd hP hcl hnz hhE
  obtain⟨N,al,mu,p⟩:=hP
  have h1:1≤h:=by omega
  have hm':m'-1≤4:=by omega
  obtain⟨b1,b2⟩:=Q85 p.c1
  have hla:=p.la
  have hlm:=p.lm
  have hA1:1≤2 ^ al:=Nat.pow_pos dq
  have iM:PBd m' n' (2 ^ al) (2 ^ (N+1)) (2 ^ mu) (2 ^ (N+1+mu)) 0 E:=⟨hnz,hA1,Nat.pow_pos dq,by rw[Nat.pow_zero,Nat.one_mul, ← Nat.pow_add];exact V8 _,by rw[hhE];exact Nat.le_of_lt p.hh,p.a,p.m,fun b hb0 hb'=>by rw[hcl b hb0 hb'];exact V9 _⟩
  have hmax:max (2 ^ al) (2 ^ (N+1))=2 ^ al:=Nat.max_eq_left (V4 dq p.la)
  have hcn:=Xm E (m'-1)
  obtain⟨c,hc⟩:∃ c,c=dJ E (m'-1):=⟨_,rfl⟩
  rw[← hc]at hcn
  have hix:∃ j,eF E 0 (m'-1)=j∧(j≤c+1):=⟨_,rfl,by unfold eF;rw[← hc];split<;>omega⟩
  obtain⟨j,hj,hjc⟩:=hix
  have hrow:wB (2 ^ al) (2 ^ (N+1+mu)) j≤2 ^ (c*al+(N+1+mu)+c):=by
   have h2:=Xs (A:=2 ^ al) (X:=2 ^ (N+1+mu)) hA1 (c+1-j) j
   rw[show j+(c+1-j)=c+1 by omega]at h2
   exact V0 h2 (Q2q c)
  have hub:(2*2 ^ al) ^ (m'-1)*2 ^ ub≤2 ^ (ub+4*(al+1)):=by
   rw[show 2*2 ^ al=2 ^ (al+1) by rw[Va];omega, ← Nat.pow_mul, ← Nat.pow_add]
   refine V4 dq ?_
   have:=V3 (al+1) hm'
   omega
  have hp:=p.u
  have hq:4*(al+1)≤4*(B+1):=by omega
  have hu1:ub+4*(al+1)+4*(B+1)*(N+2*s+1)≤U0:=by
   have:4*(B+1)*(N+2*s+2)=4*(B+1)*(N+2*s+1)+4*(B+1):=by rw[← Nat.mul_succ]
   omega
  have dD:=YJ hnz (m'-1)
  rw[hhE, ← hc]at dD
  have hg1:1≤(aJ (m'-1) E 0 0).natAbs:=by have:=Zw hnz (m'-1);omega
  have hcN:c≤N:=by
   have h2:2 ^ c<2 ^ (N+1):=V5 (V0 (Nat.le_mul_of_pos_right _ hg1) dD) p.hh
   have:=(Nat.pow_lt_pow_iff_right (show 1<2 by decide)).1 h2
   omega
  by_cases hc0:c=0
  ·refine⟨_,_,_,_,iM,⟨QR oq,QR oq,QR oq,?_,?_,hD⟩,ub+4*(al+1),by rw[hmax];exact hub,fun _=>⟨N,mu,p.hh,p.lm,fun a b ha0 ha hb0 hb'=>?_,p.c2,hu1⟩,fun e' h3=>absurd h3 oq⟩
   ·rw[hj]
    refine V5 hrow (QR ?_)
    subst hc0
    omega
   ·rw[hmax];exact V5 hub (QR oq)
   ·rw[Q1g hnz hcl oq ha0 oq hb0 hb']
    exact p.m a b ha0 ha hb0 hb'
  ·obtain⟨k1,k2⟩:=Qlc p.c1 (c:=c) oq hcN oq
   obtain⟨b3,b4⟩:=Q85 k1
   have hnm:c*al+(N+1+mu)+c=nM N c al mu:=by unfold nM;omega
   refine⟨_,_,_,_,iM,⟨QR oq,QR oq,QR oq,?_,?_,hD⟩,ub+4*(al+1),by rw[hmax];exact hub,fun h3=>absurd h3 oq,fun e' h3 he=>?_⟩
   ·rw[hj]
    refine V5 hrow (QR ?_)
    omega
   ·rw[hmax];exact V5 hub (QR oq)
   ·refine⟨N-c,nA N c al mu,nM N c al mu,?_,by unfold nA;omega,by unfold nM;omega,fun a ha0 ha=>?_,fun a b ha0 ha hb0 hb'=>?_,k1,k2,?_⟩
    ·have h5:2 ^ c*(aJ (m'-1) E 0 0).natAbs<2 ^ c*2 ^ (N-c+1):=by
      rw[← Nat.pow_add,show c+(N-c+1)=N+1 by omega]
      exact V5 dD p.hh
     exact Nat.lt_of_mul_lt_mul_left h5
    ·show (aJ (m'-1) E 0 a).natAbs≤_
     have h4:=(iM.sz ha0 ha (m'-1) oq).1
     rw[← hc,Vt]at h4
     refine V0 h4 ?_
     obtain⟨c',rfl⟩:∃ c',c=c'+1:=⟨c-1,by omega⟩
     refine V0 (Q2q c') (V4 dq ?_)
     unfold nA
     rw[Nat.add_sub_cancel]
     omega
    ·show (aJ (m'-1) E b a).natAbs≤_
     have h4:=(iM.sz ha0 ha (m'-1) oq).2 b hb0 oq
     rw[hj]at h4
     refine V0 h4 (V0 hrow (V4 dq ?_))
     omega
    ·have:4*(B+1)*(N-c+2*s+2)≤4*(B+1)*(N+2*s+1):=V3 _ oq
     omega
 ·intro m' n' h e s ub E hQ
  obtain⟨N,mu,p⟩:=hQ
  exact⟨N,mu,p.hh,p.lm,fun a b ha0 ha hb0 hb'=>p.m b a hb0 hb' ha0 ha,p.c2,p.u⟩
 ·intro h e s s' ub i E hQ hs hcl hcc h0 hi h2 hnz hhE
  obtain⟨N,mu,p⟩:=hQ
  have hu:=p.u
  refine⟨N,mu,mu,p.hh,p.lm,p.lm,fun b hb0 hb'=>?_,fun b a hb0 hb' ha0 ha=>?_,p.c2,p.c2,?_⟩
  ·show (rop 0 i ⟨1,1,0,1⟩ E 0 b).natAbs≤_
   have e1:rop 0 i ⟨1,1,0,1⟩ E 0 b=E i b:=by
    unfold rop Tn.p
    rw[if_neg oq,if_pos rfl,hcl b hb0 hb']
    dsimp only
    omega
   rw[e1]
   exact p.m i b h0 hi hb0 hb'
  ·show (rop 0 i ⟨1,1,0,1⟩ E a b).natAbs≤_
   have e1:rop 0 i ⟨1,1,0,1⟩ E a b=E a b:=by
    unfold rop Tn.q
    by_cases ea:a=i
    ·rw[if_pos ea,ea];dsimp only;omega
    ·rw[if_neg ea,if_neg oq]
   rw[e1]
   exact p.m a b ha0 ha hb0 hb'
  ·have h6:4*(B+1)*(N+2*s'+2)+4*(B+1)≤4*(B+1)*(N+2*s+1):=by
    rw[← Nat.mul_succ];exact V3 _ oq
   omega

end Go.Proofs.YtljmapfihjkafaaGreatDoor

