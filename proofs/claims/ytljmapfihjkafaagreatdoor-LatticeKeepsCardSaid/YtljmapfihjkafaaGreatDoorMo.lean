import Derived.Test.YtljmapfihjkafaaGreatDoorMn
import Derived.Test.YtljmapfihjkafaaGreatDoorMl
import Derived.Test.YtljmapfihjkafaaGreatDoorMm
import Derived.Test.YtljmapfihjkafaaGreatDoorMj
import Derived.Test.YtljmapfihjkafaaGreatDoorMc
set_option maxHeartbeats 16000000
namespace Go.Proofs.YtljmapfihjkafaaGreatDoor
open Go Go.RowKit
set_option linter.unusedSimpArgs false
set_option linter.unusedVariables false
set_option linter.unusedSectionVars false

def Wtu (h e s:Nat):Nat:=h ^ 4*27 ^ e*81 ^ s
structure PuF (hb C U0 m n h e s ub al mu Z:Nat) (E:Mi):Prop where
 hal:hb≤al
 hh:h≤2 ^ hb
 a:∀ a,0<a→a<m→(E a 0).natAbs≤2 ^ al
 m:∀ a b,0<a→a<m→0<b→b<n→(E a b).natAbs≤2 ^ mu
 za:13*(al+(hb+4))≤Z
 zm:8*(mu+2*(hb+4))≤Z
 zc:Z ^ 9*Wtu h e s≤C
 u:ub+4*(al+1)≤U0+2*Z
 z0:1000≤Z
structure QuF (hb C U0 m n h e s ub mu Z:Nat) (E:Mi):Prop where
 hh:h≤2 ^ hb
 m:∀ a b,0<a→a<m→0<b→b<n→(E a b).natAbs≤2 ^ mu
 zm:8*(mu+2*(hb+4))≤Z
 zc:Z ^ 9*Wtu h e s≤C
 u:ub≤U0+2*Z
 z0:1000≤Z
def Pu (hb C U0:Nat):SP:=fun m n h e s ub E=>∃ al mu Z,PuF hb C U0 m n h e s ub al mu Z E
def Qu (hb C U0:Nat):SP:=fun m n h e s ub E=>∃ mu Z,QuF hb C U0 m n h e s ub mu Z E

theorem QN {x K:Nat} (h:x<8*K):2 ^ x<256 ^ K:=by
 rw[show (256:Nat)=2 ^ 8 from rfl, ← Nat.pow_mul]
 exact Nat.pow_lt_pow_right dq h
theorem Q0n {al x:Nat} (c:Nat):wB (2 ^ al) (2 ^ x) (c+1)≤2 ^ (c*al+x+c):=by
 unfold wB
 rw[Nat.add_sub_cancel, ← Nat.pow_mul,Nat.mul_comm al c]
 have h1:c+1≤2 ^ c:=Nat.lt_two_pow_self
 calc (c+1)*2 ^ (c*al)*2 ^ x≤2 ^ c*2 ^ (c*al)*2 ^ x:=Nat.mul_le_mul_right _ (Nat.mul_le_mul_right _ h1)
  _=2 ^ (c*al+x+c):=by rw[← Nat.pow_add, ← Nat.pow_add];congr 1;omega
theorem Qn0 {c al mu hb Z:Nat} (hc:1≤c) (hc4:c≤4) (za:13*(al+(hb+4))≤Z) (zm:8*(mu+2*(hb+4))≤Z) :
  13*((c-1)*al+mu+hb+c+(hb+4))≤(8*c+5)*Z / 8∧8*(c*al+mu+hb+c+2*(hb+4))≤(8*c+5)*Z / 8:=by
 have hcs:c=1∨c=2∨c=3∨c=4:=by omega
 rcases hcs with rfl|rfl|rfl|rfl<;>constructor<;>rw[Nat.le_div_iff_mul_le dq]<;>omega
theorem pow9 {x y:Nat} (h:8*x≤y):8 ^ 9*x ^ 9≤y ^ 9:=by rw[← Nat.mul_pow];exact Nat.pow_le_pow_left h 9
theorem Ql7 {c Z h h' e s C:Nat} (hc:1≤c) (hc4:c≤4) (hh:3 ^ c*h'≤h) (hC:Z ^ 9*Wtu h e s≤C):((8*c+5)*Z / 8) ^ 9*Wtu h' e s≤C:=by
 have h1:8 ^ 9*((8*c+5)*Z / 8) ^ 9≤((8*c+5)*Z) ^ 9:=pow9 oq
 have h2:(8*c+5) ^ 9≤8 ^ 9*81 ^ c:=by
  have hcs:c=1∨c=2∨c=3∨c=4:=by omega
  rcases hcs with rfl|rfl|rfl|rfl<;>decide
 have h3:81 ^ c*h' ^ 4≤h ^ 4:=by
  have:=Nat.pow_le_pow_left hh 4
  rw[Nat.mul_pow, ← Nat.pow_mul,Nat.mul_comm c 4,Nat.pow_mul]at this
  exact this
 refine Nat.le_trans ?_ hC
 unfold Wtu
 refine Nat.le_of_mul_le_mul_left (c:=8 ^ 9) ?_ (show 0<8 ^ 9 by decide)
 rw[Nat.mul_pow]at h1
 calc 8 ^ 9*(((8*c+5)*Z / 8) ^ 9*(h' ^ 4*27 ^ e*81 ^ s))=8 ^ 9*((8*c+5)*Z / 8) ^ 9*(h' ^ 4*27 ^ e*81 ^ s):=by simp only[Nat.mul_assoc]
  _≤(8*c+5) ^ 9*Z ^ 9*(h' ^ 4*27 ^ e*81 ^ s):=Nat.mul_le_mul_right _ h1
  _≤8 ^ 9*81 ^ c*Z ^ 9*(h' ^ 4*27 ^ e*81 ^ s):=Nat.mul_le_mul_right _ (Nat.mul_le_mul_right _ h2)
  _=8 ^ 9*(Z ^ 9*(81 ^ c*h' ^ 4*27 ^ e*81 ^ s)):=by simp only[Nat.mul_assoc,Nat.mul_left_comm,Nat.mul_comm]
  _≤8 ^ 9*(Z ^ 9*(h ^ 4*27 ^ e*81 ^ s)):=Nat.mul_le_mul_left _ (Nat.mul_le_mul_left _ (Nat.mul_le_mul_right _ (Nat.mul_le_mul_right _ h3)))
theorem Qhc {c Z h h' e s C:Nat} (hc:1≤c) (hc4:c≤4) (hh:2 ^ c*h'≤h) (hC:Z ^ 9*Wtu h (e+1) s≤C):((8*c+5)*Z / 8) ^ 9*Wtu h' e s≤C:=by
 have h1:8 ^ 9*((8*c+5)*Z / 8) ^ 9≤((8*c+5)*Z) ^ 9:=pow9 oq
 have h2:(8*c+5) ^ 9≤8 ^ 9*(16 ^ c*27):=by
  have hcs:c=1∨c=2∨c=3∨c=4:=by omega
  rcases hcs with rfl|rfl|rfl|rfl<;>decide
 have h3:16 ^ c*h' ^ 4≤h ^ 4:=by
  have:=Nat.pow_le_pow_left hh 4
  rw[Nat.mul_pow, ← Nat.pow_mul,Nat.mul_comm c 4,Nat.pow_mul]at this
  exact this
 refine Nat.le_trans ?_ hC
 unfold Wtu
 refine Nat.le_of_mul_le_mul_left (c:=8 ^ 9) ?_ (show 0<8 ^ 9 by decide)
 rw[Nat.mul_pow]at h1
 calc 8 ^ 9*(((8*c+5)*Z / 8) ^ 9*(h' ^ 4*27 ^ e*81 ^ s))=8 ^ 9*((8*c+5)*Z / 8) ^ 9*(h' ^ 4*27 ^ e*81 ^ s):=by simp only[Nat.mul_assoc]
  _≤(8*c+5) ^ 9*Z ^ 9*(h' ^ 4*27 ^ e*81 ^ s):=Nat.mul_le_mul_right _ h1
  _≤8 ^ 9*(16 ^ c*27)*Z ^ 9*(h' ^ 4*27 ^ e*81 ^ s):=Nat.mul_le_mul_right _ (Nat.mul_le_mul_right _ h2)
  _=8 ^ 9*(Z ^ 9*(16 ^ c*h' ^ 4*(27*27 ^ e)*81 ^ s)):=by simp only[Nat.mul_assoc,Nat.mul_left_comm,Nat.mul_comm]
  _≤8 ^ 9*(Z ^ 9*(h ^ 4*27 ^ (e+1)*81 ^ s)):=by
   rw[Nat.pow_succ 27 e,Nat.mul_comm 27 (27 ^ e)]
   exact Nat.mul_le_mul_left _ (Nat.mul_le_mul_left _ (Nat.mul_le_mul_right _ (Nat.mul_le_mul_right _ h3)))
theorem Qdx {Z h e s s' C:Nat} (hs:s'<s) (hC:Z ^ 9*Wtu h e s≤C):(13*Z / 8) ^ 9*Wtu h e s'≤C:=by
 have h1:8 ^ 9*(13*Z / 8) ^ 9≤(13*Z) ^ 9:=pow9 oq
 refine Nat.le_trans ?_ hC
 unfold Wtu
 refine Nat.le_of_mul_le_mul_left (c:=8 ^ 9) ?_ (show 0<8 ^ 9 by decide)
 rw[Nat.mul_pow]at h1
 have h2:81 ^ (s'+1)≤81 ^ s:=Nat.pow_le_pow_right dq hs
 calc 8 ^ 9*((13*Z / 8) ^ 9*(h ^ 4*27 ^ e*81 ^ s'))=8 ^ 9*(13*Z / 8) ^ 9*(h ^ 4*27 ^ e*81 ^ s'):=by simp only[Nat.mul_assoc]
  _≤13 ^ 9*Z ^ 9*(h ^ 4*27 ^ e*81 ^ s'):=Nat.mul_le_mul_right _ h1
  _≤8 ^ 9*81*Z ^ 9*(h ^ 4*27 ^ e*81 ^ s'):=Nat.mul_le_mul_right _ (Nat.mul_le_mul_right _ dq)
  _=8 ^ 9*(Z ^ 9*(h ^ 4*27 ^ e*(81 ^ s'*81))):=by simp only[Nat.mul_assoc,Nat.mul_left_comm,Nat.mul_comm]
  _≤8 ^ 9*(Z ^ 9*(h ^ 4*27 ^ e*81 ^ s)):=Nat.mul_le_mul_left _ (Nat.mul_le_mul_left _ (Nat.mul_le_mul_left _ h2))
theorem Qn1 {h e s:Nat} (h0:1≤h):1≤Wtu h e s:=Nat.mul_pos (Nat.mul_pos (Nat.pow_pos h0) (Nat.pow_pos dq)) (Nat.pow_pos dq)
theorem z_le {Z h e s C Zm:Nat} (h0:1≤h) (hC:Z ^ 9*Wtu h e s≤C) (hZ:C<(Zm+1) ^ 9):Z≤Zm:=by
 refine Nat.le_of_lt_succ (Decidable.byContradiction fun hn=>?_)
 have h1:(Zm+1) ^ 9≤Z ^ 9:=Nat.pow_le_pow_left oq 9
 have h2:Z ^ 9≤Z ^ 9*Wtu h e s:=Nat.le_mul_of_pos_right _ (Qn1 h0)
 omega

theorem Qpi {K D m n hb C U0 Zm:Nat} (hm:m≤5) (hn:n≤5) (hZ:C<(Zm+1) ^ 9) (hK:U0+2*Zm<8*K) (hD:D<256 ^ K):Mdl K D m n (Pu hb C U0) (Qu hb C U0):=by
 refine⟨?_,?_,?_⟩
 ·intro m' n' h e s ub E hd hP hcl hnz hhE
  obtain⟨al,mu,Z,p⟩:=hP
  have h1:1≤h:=by omega
  have hz:=z_le h1 p.zc hZ
  have hm':m'-1≤4:=by omega
  have hA1:1≤2 ^ al:=Nat.pow_pos dq
  have hH1:1≤2 ^ hb:=Nat.pow_pos dq
  have hX:2 ^ hb*2 ^ mu=2 ^ (hb+mu):=by rw[Nat.pow_add]
  have hPB:PBd m' n' (2 ^ al) (2 ^ hb) (2 ^ mu) (2 ^ (hb+mu)) 0 E:=⟨hnz,hA1,hH1,by rw[Nat.pow_zero,Nat.one_mul,hX];exact Nat.le_refl _,by rw[hhE];exact p.hh,p.a,p.m,fun b hb0 hb'=>by rw[hcl b hb0 hb'];exact Nat.zero_le _⟩
  have hmax:max (2 ^ al) (2 ^ hb)=2 ^ al:=Nat.max_eq_left (Nat.pow_le_pow_right dq p.hal)
  have hcn:=YX E (m'-1)
  obtain⟨c,hc⟩:∃ c,c=cnC E (m'-1):=⟨_,rfl⟩
  rw[← hc]at hcn
  have hix:∃ j,rIx E 0 (m'-1)=j∧(j≤c+1):=⟨_,rfl,by unfold rIx;rw[← hc];split<;>omega⟩
  obtain⟨j,hj,hjc⟩:=hix
  have hrow:wB (2 ^ al) (2 ^ (hb+mu)) j≤2 ^ (c*al+(hb+mu)+c):=by
   have h2:=YP (A:=2 ^ al) (X:=2 ^ (hb+mu)) hA1 (c+1-j) j
   rw[show j+(c+1-j)=c+1 by omega]at h2
   exact Nat.le_trans h2 (Q0n c)
  have hub:∀ x,x≤4→(2*2 ^ al) ^ x*2 ^ ub≤2 ^ (ub+4*(al+1)):=fun x hx=>by
   rw[show 2*2 ^ al=2 ^ (al+1) by rw[Nat.pow_succ];omega, ← Nat.pow_mul, ← Nat.pow_add]
   refine Nat.pow_le_pow_right dq ?_
   have:=Nat.mul_le_mul_left (al+1) hx
   omega
  have hp:=p.u
  have hhalf:=Ys hnz (m'-1)
  rw[hhE, ← hc]at hhalf
  have hg1:1≤(pas (m'-1) E 0 0).natAbs:=by have:=Zv hnz (m'-1);omega
  have hgh:(pas (m'-1) E 0 0).natAbs≤2 ^ hb:=Nat.le_trans (Q0s hnz _) (by rw[hhE];exact p.hh)
  have hnew:∀ e',1≤c→(3 ^ c*(pas (m'-1) E 0 0).natAbs≤h∧e'=e∨e=e'+1)→((8*c+5)*Z / 8) ^ 9*Wtu (pas (m'-1) E 0 0).natAbs e' s≤C:=fun e' hc1 he=>by
   rcases he with ⟨h3,rfl⟩|rfl
   ·exact Ql7 hc1 oq h3 p.zc
   ·exact Qhc hc1 oq hhalf p.zc
  have hgrow:1≤c→13*Z≤(8*c+5)*Z:=fun h=>Nat.mul_le_mul_right _ oq
  have hz0:=p.z0
  have hza:=p.za
  have hzm:=p.zm
  by_cases hc0:c=0
  ·refine⟨_,_,_,_,hPB,⟨QN oq,QN (by have:=p.hal;omega),QN oq,?_,?_,hD⟩,ub+4*(al+1),by rw[hmax];exact hub _ hm',fun _=>⟨mu,Z,p.hh,fun a b ha0 ha hb0 hb'=>?_,p.zm,p.zc,by omega,p.z0⟩,fun e' h3=>absurd h3 oq⟩
   ·rw[hj]
    refine Nat.lt_of_le_of_lt hrow (QN ?_)
    subst hc0
    omega
   ·rw[hmax];exact Nat.lt_of_le_of_lt (hub _ hm') (QN oq)
   ·rw[Q2n hnz hcl oq ha0 oq hb0 hb']
    exact p.m a b ha0 ha hb0 hb'
  ·obtain⟨z1,z2⟩:=Qn0 (c:=c) oq oq p.za p.zm
   have hgr:=hgrow oq
   have hall:=hnew
   refine⟨_,_,_,_,hPB,⟨QN oq,QN (by have:=p.hal;omega),QN oq,?_,?_,hD⟩,ub+4*(al+1),by rw[hmax];exact hub _ hm',fun h3=>absurd h3 oq,fun e' h3 he=>?_⟩
   ·rw[hj]
    refine Nat.lt_of_le_of_lt hrow (QN ?_)
    have h37:(8*c+5)*Z≤37*Z:=Nat.mul_le_mul_right _ oq
    omega
   ·rw[hmax];exact Nat.lt_of_le_of_lt (hub _ hm') (QN oq)
   ·rw[← hc]at he
    refine⟨(c-1)*al+mu+hb+c,c*al+mu+hb+c,(8*c+5)*Z / 8,by omega,hgh,fun a ha0 ha=>?_,fun a b ha0 ha hb0 hb'=>?_,z1,z2,hnew e' oq he,by omega,by omega⟩
    ·show (pas (m'-1) E 0 a).natAbs≤_
     have h4:=(hPB.sz ha0 ha (m'-1) oq).1
     rw[← hc,Nat.add_zero]at h4
     refine Nat.le_trans h4 ?_
     obtain⟨c',rfl⟩:∃ c',c=c'+1:=⟨c-1,by omega⟩
     refine Nat.le_trans (Q0n c') (Nat.pow_le_pow_right dq ?_)
     rw[Nat.add_sub_cancel]
     omega
    ·show (pas (m'-1) E b a).natAbs≤_
     have h4:=(hPB.sz ha0 ha (m'-1) oq).2 b hb0 oq
     rw[hj]at h4
     refine Nat.le_trans h4 (Nat.le_trans hrow (Nat.pow_le_pow_right dq ?_))
     omega
 ·intro m' n' h e s ub E hQ
  obtain⟨mu,Z,p⟩:=hQ
  exact⟨mu,Z,p.hh,fun a b ha0 ha hb0 hb'=>p.m b a hb0 hb' ha0 ha,p.zm,p.zc,p.u,p.z0⟩
 ·intro h e s s' ub i E hQ hs hcl hcc h0 hi h2 hnz hhE
  obtain⟨mu,Z,p⟩:=hQ
  have hzm:=p.zm
  have hz0:=p.z0
  have hu:=p.u
  refine⟨max mu hb,mu,13*Z / 8,Nat.le_max_right _ _,p.hh,fun b hb0 hb'=>?_,fun b a hb0 hb' ha0 ha=>?_,?_,?_,Qdx hs p.zc,?_,?_⟩
  ·show (rop 0 i ⟨1,1,0,1⟩ E 0 b).natAbs≤_
   have e1:rop 0 i ⟨1,1,0,1⟩ E 0 b=E i b:=by
    unfold rop Tn.p
    rw[if_neg oq,if_pos rfl,hcl b hb0 hb']
    dsimp only
    omega
   rw[e1]
   exact Nat.le_trans (p.m i b h0 hi hb0 hb') (Nat.pow_le_pow_right dq (Nat.le_max_left _ _))
  ·show (rop 0 i ⟨1,1,0,1⟩ E a b).natAbs≤_
   have e1:rop 0 i ⟨1,1,0,1⟩ E a b=E a b:=by
    unfold rop Tn.q
    by_cases ea:a=i
    ·rw[if_pos ea,ea];dsimp only;omega
    ·rw[if_neg ea,if_neg oq]
   rw[e1]
   exact p.m a b ha0 ha hb0 hb'
  ·rw[Nat.le_div_iff_mul_le dq]
   rcases Nat.le_total mu hb with h3|h3
   ·rw[Nat.max_eq_right h3];omega
   ·rw[Nat.max_eq_left h3];omega
  ·omega
  ·rcases Nat.le_total mu hb with h3|h3
   ·rw[Nat.max_eq_right h3];omega
   ·rw[Nat.max_eq_left h3];omega
  ·omega

def Wm (h e s:Nat):Nat:=h ^ 4*22 ^ e*3831 ^ s
def nb (ze r c a b:Nat):Nat:=ze+(if a=2 then r else 0)+(if b=2 then c else 0)
structure PmF (C U0 m n h e s ub ze r c l V:Nat) (E:Mi):Prop where
 hh:h≤2 ^ ze
 a:∀ a,0<a→a<m→(E a 0).natAbs≤2 ^ (ze+(if a=2 then r else 0)+l)
 m:∀ a b,0<a→a<m→0<b→b<n→h*(E a b).natAbs≤2 ^ nb ze r c a b
 v:l=0∧98*r+75*c+225*(ze+1)≤V∨l=c∧100*r+130*c+225*(ze+1)≤V
 vc:V ^ 15*Wm h e s≤C
 u:9*(ub+2*(ze+r+l+1))≤U0+V
 v0:100000≤V
structure QmF (C U0 m n h e s ub ze r c V:Nat) (E:Mi):Prop where
 hh:h≤2 ^ ze
 m:∀ a b,0<a→a<m→0<b→b<n→h*(E a b).natAbs≤2 ^ nb ze r c a b
 v:75*r+75*c+225*(ze+1)≤V
 vc:V ^ 15*Wm h e s≤C
 u:9*ub≤U0+V
 v0:100000≤V
def Pm (C U0:Nat):SP:=fun m n h e s ub E=>∃ ze r c l V,PmF C U0 m n h e s ub ze r c l V E
def Qm (C U0:Nat):SP:=fun m n h e s ub E=>∃ ze r c V,QmF C U0 m n h e s ub ze r c V E

theorem Qo2 {c V h h' e s C:Nat} (hc:1≤c) (hc2:c≤2) (hh:3 ^ c*h'≤h) (hC:V ^ 15*Wm h e s≤C):(4 ^ c*V / 3 ^ c) ^ 15*Wm h' e s≤C:=by
 have h1:(3 ^ c) ^ 15*(4 ^ c*V / 3 ^ c) ^ 15≤(4 ^ c*V) ^ 15:=by rw[← Nat.mul_pow];exact Nat.pow_le_pow_left (Nat.mul_div_le _ _) 15
 have h2:(4 ^ c) ^ 15≤(3 ^ c) ^ 15*81 ^ c:=by
  have hcs:c=1∨c=2:=by omega
  rcases hcs with rfl|rfl<;>decide
 have h3:81 ^ c*h' ^ 4≤h ^ 4:=by
  have:=Nat.pow_le_pow_left hh 4
  rw[Nat.mul_pow, ← Nat.pow_mul,Nat.mul_comm c 4,Nat.pow_mul]at this
  exact this
 refine Nat.le_trans ?_ hC
 unfold Wm
 refine Nat.le_of_mul_le_mul_left (c:=(3 ^ c) ^ 15) ?_ (Nat.pow_pos (Nat.pow_pos dq))
 rw[Nat.mul_pow]at h1
 calc (3 ^ c) ^ 15*((4 ^ c*V / 3 ^ c) ^ 15*(h' ^ 4*22 ^ e*3831 ^ s))=(3 ^ c) ^ 15*(4 ^ c*V / 3 ^ c) ^ 15*(h' ^ 4*22 ^ e*3831 ^ s):=by simp only[Nat.mul_assoc]
  _≤(4 ^ c) ^ 15*V ^ 15*(h' ^ 4*22 ^ e*3831 ^ s):=Nat.mul_le_mul_right _ h1
  _≤(3 ^ c) ^ 15*81 ^ c*V ^ 15*(h' ^ 4*22 ^ e*3831 ^ s):=Nat.mul_le_mul_right _ (Nat.mul_le_mul_right _ h2)
  _=(3 ^ c) ^ 15*(V ^ 15*(81 ^ c*h' ^ 4*22 ^ e*3831 ^ s)):=by simp only[Nat.mul_assoc,Nat.mul_left_comm,Nat.mul_comm]
  _≤(3 ^ c) ^ 15*(V ^ 15*(h ^ 4*22 ^ e*3831 ^ s)):=Nat.mul_le_mul_left _ (Nat.mul_le_mul_left _ (Nat.mul_le_mul_right _ (Nat.mul_le_mul_right _ h3)))
theorem Ql9 {c V h h' e s C:Nat} (hc:1≤c) (hc2:c≤2) (hh:2 ^ c*h'≤h) (hC:V ^ 15*Wm h (e+1) s≤C):(4 ^ c*V / 3 ^ c) ^ 15*Wm h' e s≤C:=by
 have h1:(3 ^ c) ^ 15*(4 ^ c*V / 3 ^ c) ^ 15≤(4 ^ c*V) ^ 15:=by rw[← Nat.mul_pow];exact Nat.pow_le_pow_left (Nat.mul_div_le _ _) 15
 have h2:(4 ^ c) ^ 15≤(3 ^ c) ^ 15*(16 ^ c*22):=by
  have hcs:c=1∨c=2:=by omega
  rcases hcs with rfl|rfl<;>decide
 have h3:16 ^ c*h' ^ 4≤h ^ 4:=by
  have:=Nat.pow_le_pow_left hh 4
  rw[Nat.mul_pow, ← Nat.pow_mul,Nat.mul_comm c 4,Nat.pow_mul]at this
  exact this
 refine Nat.le_trans ?_ hC
 unfold Wm
 refine Nat.le_of_mul_le_mul_left (c:=(3 ^ c) ^ 15) ?_ (Nat.pow_pos (Nat.pow_pos dq))
 rw[Nat.mul_pow]at h1
 calc (3 ^ c) ^ 15*((4 ^ c*V / 3 ^ c) ^ 15*(h' ^ 4*22 ^ e*3831 ^ s))=(3 ^ c) ^ 15*(4 ^ c*V / 3 ^ c) ^ 15*(h' ^ 4*22 ^ e*3831 ^ s):=by simp only[Nat.mul_assoc]
  _≤(4 ^ c) ^ 15*V ^ 15*(h' ^ 4*22 ^ e*3831 ^ s):=Nat.mul_le_mul_right _ h1
  _≤(3 ^ c) ^ 15*(16 ^ c*22)*V ^ 15*(h' ^ 4*22 ^ e*3831 ^ s):=Nat.mul_le_mul_right _ (Nat.mul_le_mul_right _ h2)
  _=(3 ^ c) ^ 15*(V ^ 15*(16 ^ c*h' ^ 4*(22 ^ e*22)*3831 ^ s)):=by simp only[Nat.mul_assoc,Nat.mul_left_comm,Nat.mul_comm]
  _≤(3 ^ c) ^ 15*(V ^ 15*(h ^ 4*22 ^ (e+1)*3831 ^ s)):=by
   rw[Nat.pow_succ 22 e]
   exact Nat.mul_le_mul_left _ (Nat.mul_le_mul_left _ (Nat.mul_le_mul_right _ (Nat.mul_le_mul_right _ h3)))
theorem Q9v {V h e s s' C:Nat} (hs:s'<s) (hC:V ^ 15*Wm h e s≤C):(26*V / 15) ^ 15*Wm h e s'≤C:=by
 have h1:15 ^ 15*(26*V / 15) ^ 15≤(26*V) ^ 15:=by rw[← Nat.mul_pow];exact Nat.pow_le_pow_left (Nat.mul_div_le _ _) 15
 refine Nat.le_trans ?_ hC
 unfold Wm
 refine Nat.le_of_mul_le_mul_left (c:=15 ^ 15) ?_ (show 0<15 ^ 15 by decide)
 rw[Nat.mul_pow]at h1
 have h2:3831 ^ (s'+1)≤3831 ^ s:=Nat.pow_le_pow_right dq hs
 calc 15 ^ 15*((26*V / 15) ^ 15*(h ^ 4*22 ^ e*3831 ^ s'))=15 ^ 15*(26*V / 15) ^ 15*(h ^ 4*22 ^ e*3831 ^ s'):=by simp only[Nat.mul_assoc]
  _≤26 ^ 15*V ^ 15*(h ^ 4*22 ^ e*3831 ^ s'):=Nat.mul_le_mul_right _ h1
  _≤15 ^ 15*3831*V ^ 15*(h ^ 4*22 ^ e*3831 ^ s'):=Nat.mul_le_mul_right _ (Nat.mul_le_mul_right _ dq)
  _=15 ^ 15*(V ^ 15*(h ^ 4*22 ^ e*(3831 ^ s'*3831))):=by simp only[Nat.mul_assoc,Nat.mul_left_comm,Nat.mul_comm]
  _≤15 ^ 15*(V ^ 15*(h ^ 4*22 ^ e*3831 ^ s)):=Nat.mul_le_mul_left _ (Nat.mul_le_mul_left _ (Nat.mul_le_mul_left _ h2))
theorem v_le {V h e s C Vm:Nat} (h0:1≤h) (hC:V ^ 15*Wm h e s≤C) (hV:C<(Vm+1) ^ 15):V≤Vm:=by
 refine Nat.le_of_lt_succ (Decidable.byContradiction fun hn=>?_)
 have h1:(Vm+1) ^ 15≤V ^ 15:=Nat.pow_le_pow_left oq 15
 have h3:1≤Wm h e s:=Nat.mul_pos (Nat.mul_pos (Nat.pow_pos h0) (Nat.pow_pos dq)) (Nat.pow_pos dq)
 have h2:V ^ 15≤V ^ 15*Wm h e s:=Nat.le_mul_of_pos_right _ h3
 omega

theorem Qda {n:Nat} {E:Mi} (hc:Cln n E) {b:Nat} (hb0:0<b) (hb:b<n):pas 1 E 1 b=(tnO (E 0 0) (E 1 0)).d*E 1 b∧pas 1 E 0 b=(tnO (E 0 0) (E 1 0)).b*E 1 b:=by
 constructor
 ·rw[XT]
  show (tnO (E 0 0) (E 1 0)).c*E 0 b+(tnO (E 0 0) (E 1 0)).d*E 1 b=_
  rw[hc b hb0 hb,Int.mul_zero,Int.zero_add]
 ·rw[Za]
  show (tnO (E 0 0) (E 1 0)).a*E 0 b+(tnO (E 0 0) (E 1 0)).b*E 1 b=_
  rw[hc b hb0 hb,Int.mul_zero,Int.zero_add]
theorem Q85 {n:Nat} {E:Mi} (h:E 0 0≠0) (hc:Cln n E) {b:Nat} (hb0:0<b) (hb:b<n):(pas 1 E 0 0).natAbs*(pas 1 E 1 b).natAbs=(E 0 0).natAbs*(E 1 b).natAbs∧(pas 1 E 0 b).natAbs≤(E 0 0).natAbs*(E 1 b).natAbs∧(chg E 0=false→pas 1 E 0 b=0):=by
 have ht:=Z9 (k:=0) h
 have hdx:=ht.dx
 rw[← Za]at hdx
 obtain⟨e1,e2⟩:=Qda hc hb0 hb
 refine⟨?_,?_,fun h0=>?_⟩
 ·rw[e1,Int.natAbs_mul, ← Nat.mul_assoc, ← Int.natAbs_mul,Int.mul_comm]
  have:(tnO (E 0 0) (E 1 0)).d*pas 1 E 0 0=E 0 0:=hdx
  rw[this]
 ·rw[e2,Int.natAbs_mul]
  exact Nat.mul_le_mul_right _ ht.bb
 ·have:(tnO (E 0 0) (E 1 0)).b=0:=(ht.f h0).2.1
  rw[e2,this,Int.zero_mul]
theorem Q4v {E:Mi} (h:E 0 0≠0) {b U Z Y:Nat} (hU:(pas 1 E 0 b).natAbs≤U) (hZ:(pas 1 E 0 0).natAbs*(E 2 b).natAbs≤Z) (hY:(E 2 0).natAbs≤Y) (hY1:1≤Y) :
  (pas 2 E 0 0).natAbs*(pas 2 E 2 b).natAbs≤Y*U+Z∧(pas 2 E 0 b).natAbs≤Y*U+Z∧(chg E 1=false→pas 2 E 0 b=pas 1 E 0 b):=by
 have ht:=Z9 (k:=1) (Zv h 1)
 have hdx:=ht.dx
 have hdy:=ht.dy
 rw[← Za]at hdx hdy
 have e1:pas 2 E 2 b=(tnO (pas 1 E 0 0) (E 2 0)).c*pas 1 E 0 b+(tnO (pas 1 E 0 0) (E 2 0)).d*E 2 b:=XT E 1 b
 have e2:pas 2 E 0 b=(tnO (pas 1 E 0 0) (E 2 0)).a*pas 1 E 0 b+(tnO (pas 1 E 0 0) (E 2 0)).b*E 2 b:=Za E 1 b
 have hcY:(pas 2 E 0 0).natAbs*(tnO (pas 1 E 0 0) (E 2 0)).c.natAbs≤Y:=by
  rw[← Int.natAbs_mul,Int.mul_comm,hdy,Int.natAbs_neg];exact hY
 have hdd:(pas 2 E 0 0).natAbs*(tnO (pas 1 E 0 0) (E 2 0)).d.natAbs=(pas 1 E 0 0).natAbs:=by
  rw[← Int.natAbs_mul,Int.mul_comm,hdx]
 refine⟨?_,?_,fun h0=>?_⟩
 ·have h1:=Int.natAbs_add_le ((tnO (pas 1 E 0 0) (E 2 0)).c*pas 1 E 0 b) ((tnO (pas 1 E 0 0) (E 2 0)).d*E 2 b)
  rw[← e1,Int.natAbs_mul,Int.natAbs_mul]at h1
  refine Nat.le_trans (Nat.mul_le_mul_left _ h1) ?_
  rw[Nat.mul_add, ← Nat.mul_assoc, ← Nat.mul_assoc,hdd]
  exact Nat.add_le_add (Nat.mul_le_mul hcY hU) hZ
 ·have h1:=Int.natAbs_add_le ((tnO (pas 1 E 0 0) (E 2 0)).a*pas 1 E 0 b) ((tnO (pas 1 E 0 0) (E 2 0)).b*E 2 b)
  rw[← e2,Int.natAbs_mul,Int.natAbs_mul]at h1
  refine Nat.le_trans h1 (Nat.add_le_add (Nat.mul_le_mul (Nat.le_trans ht.ba (Nat.max_le.2 ⟨hY1,hY⟩)) hU) (Nat.le_trans (Nat.mul_le_mul_right _ ht.bb) hZ))
 ·obtain⟨f1,f2,_⟩:=ht.f h0
  rw[e2,f1,f2,Int.one_mul,Int.zero_mul,Int.add_zero]
theorem Qk1 {x y z:Nat} (h1:x≤z) (h2:y≤z):2 ^ x+2 ^ y≤2 ^ (z+1):=by
 have e1:2 ^ x≤2 ^ z:=Nat.pow_le_pow_right dq h1
 have e2:2 ^ y≤2 ^ z:=Nat.pow_le_pow_right dq h2
 rw[Nat.pow_succ];omega

structure PmN (m n h ze r c l rn ln:Nat) (E:Mi):Prop where
 cs:cnC E (m-1)=1∧(rn=r+l+ze+1∧ln=0∨rn=r∧ln=r)∨cnC E (m-1)=2∧rn=r+l+ze+1∧ln=rn
 mx:∀ a b,0<a→a<m→0<b→b<n→(pas (m-1) E 0 0).natAbs*(pas (m-1) E a b).natAbs≤2 ^ nb ze rn c a b
 u:∀ b,0<b→b<n→(pas (m-1) E 0 b).natAbs≤2 ^ (ze+(if b=2 then c else 0)+ln)
theorem Ql8 {C U0 m n h e s ub ze r c l V:Nat} {E:Mi} (hm:m≤3) (p:PmF C U0 m n h e s ub ze r c l V E) (hcl:Cln n E) (hnz:E 0 0≠0) (hh:(E 0 0).natAbs=h) (h1:1≤cnC E (m-1)):∃ rn ln,PmN m n h ze r c l rn ln E:=by
 have hm2:m=2∨m=3:=by
  have:=YX E (m-1)
  omega
 have hr1:∀ b,0<b→b<n→(pas 1 E 0 0).natAbs*(pas 1 E 1 b).natAbs≤2 ^ (ze+(if b=2 then c else 0))∧(pas 1 E 0 b).natAbs≤2 ^ (ze+(if b=2 then c else 0)):=fun b hb0 hb=>by
  obtain⟨x1,x2,_⟩:=Q85 hnz hcl hb0 hb
  have:=p.m 1 b oq oq hb0 hb
  unfold nb at this
  rw[if_neg oq,Nat.add_zero]at this
  rw[hh]at x1 x2
  exact⟨by omega,by omega⟩
 rcases hm2 with rfl|rfl
 ·have e0:cnC E 1=0+if chg E 0 then 1 else 0:=rfl
  have e1:cnC E 1=1:=by
   have:=YX E 1
   have h1':1≤cnC E 1:=h1
   omega
  refine⟨r+l+ze+1,0,.inl ⟨e1,.inl ⟨rfl,rfl⟩⟩,fun a b ha0 ha hb0 hb=>?_,fun b hb0 hb=>(hr1 b hb0 hb).2⟩
  obtain rfl:a=1:=by omega
  unfold nb
  rw[if_neg oq,Nat.add_zero]
  exact(hr1 b hb0 hb).1
 ·have hg2:(pas 2 E 0 0).natAbs≤(pas 1 E 0 0).natAbs:=by
   have ht:=Z9 (k:=1) (Zv hnz 1)
   have:=ht.le
   rw[← Za]at this
   exact this
  have hg1:=Q0s hnz 1
  have hrow1:∀ b,0<b→b<n→(pas 2 E 0 0).natAbs*(pas 2 E 1 b).natAbs≤2 ^ (ze+(if b=2 then c else 0)):=fun b hb0 hb=>by
   have e5:pas 2 E 1 b=pas 1 E 1 b:=Q56 (E:=E) (a:=1) (k:=1) oq oq rfl b
   rw[e5]
   exact Nat.le_trans (Nat.mul_le_mul_right _ hg2) (hr1 b hb0 hb).1
  have hY:(E 2 0).natAbs≤2 ^ (ze+r+l):=by
   have:=p.a 2 oq oq
   rwa [if_pos rfl]at this
  have hZ:∀ b,0<b→b<n→(pas 1 E 0 0).natAbs*(E 2 b).natAbs≤2 ^ (ze+r+(if b=2 then c else 0)):=fun b hb0 hb=>by
   have:=p.m 2 b oq oq hb0 hb
   unfold nb at this
   rw[if_pos rfl]at this
   rw[hh]at hg1
   exact Nat.le_trans (Nat.mul_le_mul_right _ hg1) this
  have e0:cnC E 2=(0+if chg E 0 then 1 else 0)+if chg E 1 then 1 else 0:=rfl
  have hP:1≤2 ^ (ze+r+l):=Nat.pow_pos dq
  cases c0:chg E 0 with
  | false =>
   have c1:chg E 1=true:=by
    cases c1:chg E 1 with
    | true=>rfl
    | false=>rw[c0,c1]at e0;have:1≤cnC E 2:=h1;rw[e0]at this;simp at this
   have hu0:∀ b,0<b→b<n→(pas 1 E 0 b).natAbs≤0:=fun b hb0 hb=>by
    rw[(Q85 hnz hcl hb0 hb).2.2 c0];exact Nat.le_refl _
   refine⟨r,r,.inl ⟨by show cnC E 2=1;rw[e0,c0,c1];rfl,.inr ⟨rfl,rfl⟩⟩,fun a b ha0 ha hb0 hb=>?_,fun b hb0 hb=>?_⟩
   ·have ha12:a=1∨a=2:=by omega
    rcases ha12 with rfl|rfl
    ·unfold nb;rw[if_neg oq,Nat.add_zero];exact hrow1 b hb0 hb
    ·have:=(Q4v hnz (hu0 b hb0 hb) (hZ b hb0 hb) hY hP).1
     rw[Nat.mul_zero,Nat.zero_add]at this
     unfold nb;rw[if_pos rfl];exact this
   ·have:=(Q4v hnz (hu0 b hb0 hb) (hZ b hb0 hb) hY hP).2.1
    rw[Nat.mul_zero,Nat.zero_add]at this
    show (pas 2 E 0 b).natAbs≤_
    rw[show ze+(if b=2 then c else 0)+r=ze+r+(if b=2 then c else 0) by omega]
    exact this
  | true =>
   have hb2:∀ b,0<b→b<n→2 ^ (ze+r+l)*2 ^ (ze+(if b=2 then c else 0))+2 ^ (ze+r+(if b=2 then c else 0))≤2 ^ (ze+(r+l+ze+1)+(if b=2 then c else 0)):=fun b _ _=>by
    rw[← Nat.pow_add]
    refine Nat.le_trans (Qk1 (z:=ze+r+l+(ze+(if b=2 then c else 0))) (Nat.le_refl _) oq) (Nat.pow_le_pow_right dq oq)
   have hrow2:∀ b,0<b→b<n→(pas 2 E 0 0).natAbs*(pas 2 E 2 b).natAbs≤2 ^ (ze+(r+l+ze+1)+(if b=2 then c else 0))∧(pas 2 E 0 b).natAbs≤2 ^ (ze+(r+l+ze+1)+(if b=2 then c else 0)):=fun b hb0 hb=>by
    obtain⟨x1,x2,_⟩:=Q4v hnz (hr1 b hb0 hb).2 (hZ b hb0 hb) hY hP
    exact⟨Nat.le_trans x1 (hb2 b hb0 hb),Nat.le_trans x2 (hb2 b hb0 hb)⟩
   have hmm:∀ a b,0<a→a<3→0<b→b<n→(pas 2 E 0 0).natAbs*(pas 2 E a b).natAbs≤2 ^ nb ze (r+l+ze+1) c a b:=fun a b ha0 ha hb0 hb=>by
    have ha12:a=1∨a=2:=by omega
    rcases ha12 with rfl|rfl
    ·unfold nb;rw[if_neg oq,Nat.add_zero];exact hrow1 b hb0 hb
    ·unfold nb;rw[if_pos rfl];exact(hrow2 b hb0 hb).1
   cases c1:chg E 1 with
   | false =>
    refine⟨r+l+ze+1,0,.inl ⟨by show cnC E 2=1;rw[e0,c0,c1];rfl,.inl ⟨rfl,rfl⟩⟩,hmm,fun b hb0 hb=>?_⟩
    show (pas 2 E 0 b).natAbs≤_
    rw[(Q4v hnz (hr1 b hb0 hb).2 (hZ b hb0 hb) hY hP).2.2 c1]
    exact(hr1 b hb0 hb).2
   | true =>
    refine⟨r+l+ze+1,r+l+ze+1,.inr ⟨by show cnC E 2=2;rw[e0,c0,c1];rfl,rfl,rfl⟩,hmm,fun b hb0 hb=>?_⟩
    show (pas 2 E 0 b).natAbs≤_
    rw[show ze+(if b=2 then c else 0)+(r+l+ze+1)=ze+(r+l+ze+1)+(if b=2 then c else 0) by omega]
    exact(hrow2 b hb0 hb).2

theorem Qo6 {ze r c a b:Nat}:nb ze r c a b≤ze+r+c:=by unfold nb;split<;>split<;>omega
theorem Qpk {K D m n C U0 Vm:Nat} (hm:m≤3) (hn:n≤3) (hV:C<(Vm+1) ^ 15) (hK:U0+Vm<72*K) (hD:D<256 ^ K):Mdl K D m n (Pm C U0) (Qm C U0):=by
 refine⟨?_,?_,?_⟩
 ·intro m' n' h e s ub E hd hP hcl hnz hhE
  obtain⟨ze,r,c,l,V,p⟩:=hP
  have hm3:m'≤3:=by omega
  have h1:1≤h:=by omega
  have hv:=v_le h1 p.vc hV
  have hpv:=p.v
  have hpu:=p.u
  have hv0:=p.v0
  have hlr:l≤c:=by rcases hpv with ⟨h,_⟩|⟨h,_⟩<;>omega
  have hsum:75*(r+c)+225*(ze+1)≤V:=by rcases hpv with ⟨_,h⟩|⟨_,h⟩<;>omega
  have hA1:1≤2 ^ (ze+r+l):=Nat.pow_pos dq
  have hE:∀ a b,0<a→a<m'→0<b→b<n'→(E a b).natAbs≤2 ^ (ze+r+c):=fun a b ha0 ha hb0 hb =>
   Nat.le_trans (Nat.le_mul_of_pos_left _ h1) (Nat.le_trans (p.m a b ha0 ha hb0 hb) (Nat.pow_le_pow_right dq Qo6))
  have hPB:PBd m' n' (2 ^ (ze+r+l)) (2 ^ ze) (2 ^ (ze+r+c)) (2 ^ (ze+(ze+r+c))) 0 E :=
   ⟨hnz, hA1, Nat.pow_pos dq, by rw [Nat.pow_zero, Nat.one_mul, ← Nat.pow_add]; exact Nat.le_refl _, by rw [hhE]; exact p.hh,
    fun a ha0 ha=>Nat.le_trans (p.a a ha0 ha) (Nat.pow_le_pow_right dq (by split<;>omega)),hE,fun b hb0 hb'=>by rw[hcl b hb0 hb'];exact Nat.zero_le _⟩
  have hmax:max (2 ^ (ze+r+l)) (2 ^ ze)=2 ^ (ze+r+l):=Nat.max_eq_left (Nat.pow_le_pow_right dq oq)
  have hcn:=YX E (m'-1)
  have hub:(2*2 ^ (ze+r+l)) ^ (m'-1)*2 ^ ub≤2 ^ (ub+2*(ze+r+l+1)):=by
   rw[show 2*2 ^ (ze+r+l)=2 ^ (ze+r+l+1) by rw[Nat.pow_succ];omega, ← Nat.pow_mul, ← Nat.pow_add]
   refine Nat.pow_le_pow_right dq ?_
   have:=Nat.mul_le_mul_left (ze+r+l+1) (show m'-1≤2 by omega)
   omega
  have hrow:wB (2 ^ (ze+r+l)) (2 ^ (ze+(ze+r+c))) (rIx E 0 (m'-1))≤2 ^ (ze+r+l+(ze+(ze+r+c))+1):=by
   have hix:rIx E 0 (m'-1)≤2:=by unfold rIx;split<;>omega
   have h2:=YP (A:=2 ^ (ze+r+l)) (X:=2 ^ (ze+(ze+r+c))) hA1 (2-rIx E 0 (m'-1)) (rIx E 0 (m'-1))
   rw[show rIx E 0 (m'-1)+(2-rIx E 0 (m'-1))=1+1 by omega]at h2
   refine Nat.le_trans h2 (Nat.le_trans (Q0n 1) (Nat.pow_le_pow_right dq oq))
  refine⟨_,_,_,_,hPB,⟨QN oq,QN oq,QN oq,Nat.lt_of_le_of_lt hrow (QN oq),by rw[hmax];exact Nat.lt_of_le_of_lt hub (QN oq),hD⟩,ub+2*(ze+r+l+1),by rw[hmax];exact hub,fun hc0=>?_,fun e' hc1 he=>?_⟩
  ·refine⟨ze,r,c,V,p.hh,fun a b ha0 ha hb0 hb=>?_,by omega,p.vc,by omega,hv0⟩
   rw[Q2n hnz hcl hc0 ha0 oq hb0 hb]
   exact p.m a b ha0 ha hb0 hb
  ·obtain⟨rn,ln,q⟩:=Ql8 hm3 p hcl hnz hhE hc1
   have hhalf:=Ys hnz (m'-1)
   rw[hhE]at hhalf
   obtain⟨cc,hcc⟩:∃ cc,cc=cnC E (m'-1):=⟨_,rfl⟩
   rw[← hcc]at he hhalf hc1
   have hcs:=q.cs
   rw[← hcc]at hcs
   have hc2:cc≤2:=by omega
   have hpot:(4 ^ cc*V / 3 ^ cc) ^ 15*Wm (pas (m'-1) E 0 0).natAbs e' s≤C:=by
    rcases he with ⟨h3,rfl⟩|rfl
    ·exact Qo2 hc1 hc2 h3 p.vc
    ·exact Ql9 hc1 hc2 hhalf p.vc
   have hg:(pas (m'-1) E 0 0).natAbs≤2 ^ ze:=Nat.le_trans (Q0s hnz _) (by rw[hhE];exact p.hh)
   have hgn:1≤(pas (m'-1) E 0 0).natAbs:=by have:=Zv hnz (m'-1);omega
   have hfin:∀ V',V'=4 ^ cc*V / 3 ^ cc→(ln=0∧98*c+75*rn+225*(ze+1)≤V'∨ln=rn∧100*c+130*rn+225*(ze+1)≤V')→9*(ub+2*(ze+r+l+1)+2*(ze+c+ln+1))≤U0+V'→100000≤V'→Pm C U0 n' m' (pas (m'-1) E 0 0).natAbs e' s (ub+2*(ze+r+l+1)) (tr (pas (m'-1) E)):=fun V' hV' hvv huu h00=>by
    refine⟨ze,c,rn,ln,V',hg,fun b hb0 hb=>q.u b hb0 hb,fun b a hb0 hb ha0 ha=>?_,hvv,by rw[hV'];exact hpot,huu,h00⟩
    show (pas (m'-1) E 0 0).natAbs*(pas (m'-1) E a b).natAbs≤_
    have:=q.mx a b ha0 ha hb0 hb
    unfold nb at this ⊢
    rw[show ze+(if b=2 then c else 0)+(if a=2 then rn else 0)=ze+(if a=2 then rn else 0)+(if b=2 then c else 0) by omega]
    exact this
   rcases hcs with ⟨hc,hrl⟩|⟨hc,hr,hl⟩
   ·subst hc
    have hq:4 ^ 1*V / 3 ^ 1=4*V / 3:=rfl
    rw[hq]at hfin
    refine hfin _ rfl ?_ ?_ oq
    ·rcases hpv with ⟨rfl,hx⟩|⟨rfl,hx⟩<;>rcases hrl with ⟨rfl,rfl⟩|⟨rfl,rfl⟩
     ·left;omega
     ·right;omega
     ·left;omega
     ·right;omega
    ·rcases hpv with ⟨rfl,hx⟩|⟨rfl,hx⟩<;>rcases hrl with ⟨rfl,rfl⟩|⟨rfl,rfl⟩<;>omega
   ·subst hc
    have hq:4 ^ 2*V / 3 ^ 2=16*V / 9:=rfl
    rw[hq]at hfin
    subst hl
    subst hr
    refine hfin _ rfl ?_ ?_ oq
    ·rcases hpv with ⟨rfl,hx⟩|⟨rfl,hx⟩<;>right<;>omega
    ·rcases hpv with ⟨rfl,hx⟩|⟨rfl,hx⟩<;>omega
 ·intro m' n' h e s ub E hQ
  obtain⟨ze,r,c,V,p⟩:=hQ
  refine⟨ze,c,r,V,p.hh,fun a b ha0 ha hb0 hb'=>?_,by have:=p.v;omega,p.vc,p.u,p.v0⟩
  have:=p.m b a hb0 hb' ha0 ha
  show h*(E b a).natAbs≤_
  unfold nb at this ⊢
  rw[show ze+(if a=2 then c else 0)+(if b=2 then r else 0)=ze+(if b=2 then r else 0)+(if a=2 then c else 0) by omega]
  exact this
 ·intro h e s s' ub i E hQ hs hcl hcc h0 hi h2 hnz hhE
  obtain⟨ze,r,c,V,p⟩:=hQ
  have hpv:=p.v
  have hpu:=p.u
  have hv0:=p.v0
  have hi12:i=1∨i=2:=by omega
  have hcol:∀ b,0<b→b<n→(tr (rop 0 i ⟨1,1,0,1⟩ E) b 0).natAbs≤2 ^ nb ze r c i b:=fun b hb0 hb'=>by
   show (rop 0 i ⟨1,1,0,1⟩ E 0 b).natAbs≤_
   have e1:rop 0 i ⟨1,1,0,1⟩ E 0 b=E i b:=by
    unfold rop Tn.p
    rw[if_neg oq,if_pos rfl,hcl b hb0 hb']
    dsimp only
    omega
   rw[e1]
   exact Nat.le_trans (Nat.le_mul_of_pos_left _ oq) (p.m i b h0 hi hb0 hb')
  have hmm:∀ b a,0<b→b<n→0<a→a<m→h*(tr (rop 0 i ⟨1,1,0,1⟩ E) b a).natAbs≤2 ^ nb ze c r b a:=fun b a hb0 hb' ha0 ha=>by
   show h*(rop 0 i ⟨1,1,0,1⟩ E a b).natAbs≤_
   have e1:rop 0 i ⟨1,1,0,1⟩ E a b=E a b:=by
    unfold rop Tn.q
    by_cases ea:a=i
    ·rw[if_pos ea,ea];dsimp only;omega
    ·rw[if_neg ea,if_neg oq]
   rw[e1]
   have:=p.m a b ha0 ha hb0 hb'
   unfold nb at this ⊢
   rw[show ze+(if b=2 then c else 0)+(if a=2 then r else 0)=ze+(if a=2 then r else 0)+(if b=2 then c else 0) by omega]
   exact this
  rcases hi12 with rfl|rfl
  ·refine⟨ze,c,r,0,26*V / 15,p.hh,fun b hb0 hb'=>?_,hmm,.inl ⟨rfl,by omega⟩,Q9v hs p.vc,by omega,by omega⟩
   have:=hcol b hb0 hb'
   unfold nb at this
   rw[if_neg oq,Nat.add_zero]at this
   exact this
  ·refine⟨ze,c,r,r,26*V / 15,p.hh,fun b hb0 hb'=>?_,hmm,.inr ⟨rfl,by omega⟩,Q9v hs p.vc,by omega,by omega⟩
   have:=hcol b hb0 hb'
   unfold nb at this
   rw[if_pos rfl]at this
   rw[show ze+(if b=2 then c else 0)+r=ze+r+(if b=2 then c else 0) by omega]
   exact this

def nA (N c al mu:Nat):Nat:=(c-1)*al+mu+(N+1)+c
def nM (N c al mu:Nat):Nat:=c*al+mu+(N+1)+c
def chk (B:Nat):Nat→Nat→Nat→Bool
 | 0,al,mu=>decide (al≤B) && decide (mu≤B)
 | 1,al,mu=>decide (al≤B) && decide (mu≤B) && chk B 0 (nA 1 1 al mu) (nM 1 1 al mu) && chk B 0 (nM 1 1 al mu) (nM 1 1 al mu)
 | 2,al,mu=>decide (al≤B) && decide (mu≤B) && chk B 1 (nA 2 1 al mu) (nM 2 1 al mu) && chk B 1 (nM 2 1 al mu) (nM 2 1 al mu) && chk B 0 (nA 2 2 al mu) (nM 2 2 al mu) && chk B 0 (nM 2 2 al mu) (nM 2 2 al mu)
 | 3,al,mu=>decide (al≤B) && decide (mu≤B) && chk B 2 (nA 3 1 al mu) (nM 3 1 al mu) && chk B 2 (nM 3 1 al mu) (nM 3 1 al mu) && chk B 1 (nA 3 2 al mu) (nM 3 2 al mu) && chk B 1 (nM 3 2 al mu) (nM 3 2 al mu) && chk B 0 (nA 3 3 al mu) (nM 3 3 al mu) && chk B 0 (nM 3 3 al mu) (nM 3 3 al mu)
 | n+4,al,mu=>decide (al≤B) && decide (mu≤B) && chk B (n+3) (nA (n+4) 1 al mu) (nM (n+4) 1 al mu) && chk B (n+3) (nM (n+4) 1 al mu) (nM (n+4) 1 al mu) && chk B (n+2) (nA (n+4) 2 al mu) (nM (n+4) 2 al mu) && chk B (n+2) (nM (n+4) 2 al mu) (nM (n+4) 2 al mu) && chk B (n+1) (nA (n+4) 3 al mu) (nM (n+4) 3 al mu) && chk B (n+1) (nM (n+4) 3 al mu) (nM (n+4) 3 al mu) && chk B n (nA (n+4) 4 al mu) (nM (n+4) 4 al mu) && chk B n (nM (n+4) 4 al mu) (nM (n+4) 4 al mu)
theorem Q5q {B:Nat}:∀ {N al mu:Nat},chk B N al mu=true→al≤B∧mu≤B
 | 0,_,_,h=>by simp only[chk,Bool.and_eq_true,decide_eq_true_eq]at h;exact h
 | 1,_,_,h=>by simp only[chk,Bool.and_eq_true,decide_eq_true_eq]at h;exact h.1.1
 | 2,_,_,h=>by rw[chk]at h;simp only[Bool.and_eq_true,decide_eq_true_eq]at h;exact h.1.1.1.1
 | 3,_,_,h=>by rw[chk]at h;simp only[Bool.and_eq_true,decide_eq_true_eq]at h;exact h.1.1.1.1.1.1
 | n+4,_,_,h=>by rw[chk]at h;simp only[Bool.and_eq_true,decide_eq_true_eq]at h;exact h.1.1.1.1.1.1.1.1
theorem Qib {B:Nat} {N c al mu:Nat} (h:chk B N al mu=true) (h1:1≤c) (h2:c≤N) (h4:c≤4):chk B (N-c) (nA N c al mu) (nM N c al mu)=true∧chk B (N-c) (nM N c al mu) (nM N c al mu)=true:=by
 match N,h,h2 with
 | 0,_,h2=>omega
 | 1,h,h2 =>
  obtain rfl:c=1:=by omega
  rw[chk]at h;simp only[Bool.and_eq_true]at h
  exact⟨h.1.2,h.2⟩
 | 2,h,h2 =>
  rw[chk]at h;simp only[Bool.and_eq_true]at h
  have hc:c=1∨c=2:=by omega
  rcases hc with rfl|rfl
  ·exact⟨h.1.1.1.2,h.1.1.2⟩
  ·exact⟨h.1.2,h.2⟩
 | 3,h,h2 =>
  rw[chk]at h;simp only[Bool.and_eq_true]at h
  have hc:c=1∨c=2∨c=3:=by omega
  rcases hc with rfl|rfl|rfl
  ·exact⟨h.1.1.1.1.1.2,h.1.1.1.1.2⟩
  ·exact⟨h.1.1.1.2,h.1.1.2⟩
  ·exact⟨h.1.2,h.2⟩
 | n+4,h,h2 =>
  rw[chk]at h;simp only[Bool.and_eq_true]at h
  have hc:c=1∨c=2∨c=3∨c=4:=by omega
  rcases hc with rfl|rfl|rfl|rfl
  ·exact⟨h.1.1.1.1.1.1.1.2,h.1.1.1.1.1.1.2⟩
  ·exact⟨h.1.1.1.1.1.2,h.1.1.1.1.2⟩
  ·exact⟨h.1.1.1.2,h.1.1.2⟩
  ·exact⟨h.1.2,h.2⟩

structure PoF (B U0 m n h s ub N al mu:Nat) (E:Mi):Prop where
 hh:h<2 ^ (N+1)
 la:N+1≤al
 lm:N+1≤mu
 a:∀ a,0<a→a<m→(E a 0).natAbs≤2 ^ al
 m:∀ a b,0<a→a<m→0<b→b<n→(E a b).natAbs≤2 ^ mu
 c1:chk B N al mu=true
 c2:chk B N mu mu=true
 u:ub+4*(B+1)*(N+2*s+2)≤U0
structure QoF (B U0 m n h s ub N mu:Nat) (E:Mi):Prop where
 hh:h<2 ^ (N+1)
 lm:N+1≤mu
 m:∀ a b,0<a→a<m→0<b→b<n→(E a b).natAbs≤2 ^ mu
 c2:chk B N mu mu=true
 u:ub+4*(B+1)*(N+2*s+1)≤U0
def Po (B U0:Nat):SP:=fun m n h _ s ub E=>∃ N al mu,PoF B U0 m n h s ub N al mu E
def Qo (B U0:Nat):SP:=fun m n h _ s ub E=>∃ N mu,QoF B U0 m n h s ub N mu E

theorem Qpj {K D m n B U0:Nat} (hm:m≤5) (hn:n≤5) (hK:U0<8*K) (hB:2*B+10<8*K) (hD:D<256 ^ K):Mdl K D m n (Po B U0) (Qo B U0):=by
 refine⟨?_,?_,?_⟩
 ·intro m' n' h e s ub E hd hP hcl hnz hhE
  obtain⟨N,al,mu,p⟩:=hP
  have h1:1≤h:=by omega
  have hm':m'-1≤4:=by omega
  obtain⟨b1,b2⟩:=Q5q p.c1
  have hla:=p.la
  have hlm:=p.lm
  have hA1:1≤2 ^ al:=Nat.pow_pos dq
  have hPB:PBd m' n' (2 ^ al) (2 ^ (N+1)) (2 ^ mu) (2 ^ (N+1+mu)) 0 E:=⟨hnz,hA1,Nat.pow_pos dq,by rw[Nat.pow_zero,Nat.one_mul, ← Nat.pow_add];exact Nat.le_refl _,by rw[hhE];exact Nat.le_of_lt p.hh,p.a,p.m,fun b hb0 hb'=>by rw[hcl b hb0 hb'];exact Nat.zero_le _⟩
  have hmax:max (2 ^ al) (2 ^ (N+1))=2 ^ al:=Nat.max_eq_left (Nat.pow_le_pow_right dq p.la)
  have hcn:=YX E (m'-1)
  obtain⟨c,hc⟩:∃ c,c=cnC E (m'-1):=⟨_,rfl⟩
  rw[← hc]at hcn
  have hix:∃ j,rIx E 0 (m'-1)=j∧(j≤c+1):=⟨_,rfl,by unfold rIx;rw[← hc];split<;>omega⟩
  obtain⟨j,hj,hjc⟩:=hix
  have hrow:wB (2 ^ al) (2 ^ (N+1+mu)) j≤2 ^ (c*al+(N+1+mu)+c):=by
   have h2:=YP (A:=2 ^ al) (X:=2 ^ (N+1+mu)) hA1 (c+1-j) j
   rw[show j+(c+1-j)=c+1 by omega]at h2
   exact Nat.le_trans h2 (Q0n c)
  have hub:(2*2 ^ al) ^ (m'-1)*2 ^ ub≤2 ^ (ub+4*(al+1)):=by
   rw[show 2*2 ^ al=2 ^ (al+1) by rw[Nat.pow_succ];omega, ← Nat.pow_mul, ← Nat.pow_add]
   refine Nat.pow_le_pow_right dq ?_
   have:=Nat.mul_le_mul_left (al+1) hm'
   omega
  have hp:=p.u
  have hq:4*(al+1)≤4*(B+1):=by omega
  have hu1:ub+4*(al+1)+4*(B+1)*(N+2*s+1)≤U0:=by
   have:4*(B+1)*(N+2*s+2)=4*(B+1)*(N+2*s+1)+4*(B+1):=by rw[← Nat.mul_succ]
   omega
  have hhalf:=Ys hnz (m'-1)
  rw[hhE, ← hc]at hhalf
  have hg1:1≤(pas (m'-1) E 0 0).natAbs:=by have:=Zv hnz (m'-1);omega
  have hcN:c≤N:=by
   have h2:2 ^ c<2 ^ (N+1):=Nat.lt_of_le_of_lt (Nat.le_trans (Nat.le_mul_of_pos_right _ hg1) hhalf) p.hh
   have:=(Nat.pow_lt_pow_iff_right (show 1<2 by decide)).1 h2
   omega
  by_cases hc0:c=0
  ·refine⟨_,_,_,_,hPB,⟨QN oq,QN oq,QN oq,?_,?_,hD⟩,ub+4*(al+1),by rw[hmax];exact hub,fun _=>⟨N,mu,p.hh,p.lm,fun a b ha0 ha hb0 hb'=>?_,p.c2,hu1⟩,fun e' h3=>absurd h3 oq⟩
   ·rw[hj]
    refine Nat.lt_of_le_of_lt hrow (QN ?_)
    subst hc0
    omega
   ·rw[hmax];exact Nat.lt_of_le_of_lt hub (QN oq)
   ·rw[Q2n hnz hcl oq ha0 oq hb0 hb']
    exact p.m a b ha0 ha hb0 hb'
  ·obtain⟨k1,k2⟩:=Qib p.c1 (c:=c) oq hcN oq
   obtain⟨b3,b4⟩:=Q5q k1
   have hnm:c*al+(N+1+mu)+c=nM N c al mu:=by unfold nM;omega
   refine⟨_,_,_,_,hPB,⟨QN oq,QN oq,QN oq,?_,?_,hD⟩,ub+4*(al+1),by rw[hmax];exact hub,fun h3=>absurd h3 oq,fun e' h3 he=>?_⟩
   ·rw[hj]
    refine Nat.lt_of_le_of_lt hrow (QN ?_)
    omega
   ·rw[hmax];exact Nat.lt_of_le_of_lt hub (QN oq)
   ·refine⟨N-c,nA N c al mu,nM N c al mu,?_,by unfold nA;omega,by unfold nM;omega,fun a ha0 ha=>?_,fun a b ha0 ha hb0 hb'=>?_,k1,k2,?_⟩
    ·have h5:2 ^ c*(pas (m'-1) E 0 0).natAbs<2 ^ c*2 ^ (N-c+1):=by
      rw[← Nat.pow_add,show c+(N-c+1)=N+1 by omega]
      exact Nat.lt_of_le_of_lt hhalf p.hh
     exact Nat.lt_of_mul_lt_mul_left h5
    ·show (pas (m'-1) E 0 a).natAbs≤_
     have h4:=(hPB.sz ha0 ha (m'-1) oq).1
     rw[← hc,Nat.add_zero]at h4
     refine Nat.le_trans h4 ?_
     obtain⟨c',rfl⟩:∃ c',c=c'+1:=⟨c-1,by omega⟩
     refine Nat.le_trans (Q0n c') (Nat.pow_le_pow_right dq ?_)
     unfold nA
     rw[Nat.add_sub_cancel]
     omega
    ·show (pas (m'-1) E b a).natAbs≤_
     have h4:=(hPB.sz ha0 ha (m'-1) oq).2 b hb0 oq
     rw[hj]at h4
     refine Nat.le_trans h4 (Nat.le_trans hrow (Nat.pow_le_pow_right dq ?_))
     omega
    ·have:4*(B+1)*(N-c+2*s+2)≤4*(B+1)*(N+2*s+1):=Nat.mul_le_mul_left _ oq
     omega
 ·intro m' n' h e s ub E hQ
  obtain⟨N,mu,p⟩:=hQ
  exact⟨N,mu,p.hh,p.lm,fun a b ha0 ha hb0 hb'=>p.m b a hb0 hb' ha0 ha,p.c2,p.u⟩
 ·intro h e s s' ub i E hQ hs hcl hcc h0 hi h2 hnz hhE
  obtain⟨N,mu,p⟩:=hQ
  have hu:=p.u
  refine⟨N,mu,mu,p.hh,p.lm,p.lm,fun b hb0 hb'=>?_,fun b a hb0 hb' ha0 ha=>?_,p.c2,p.c2,?_⟩
  ·show (rop 0 i ⟨1,1,0,1⟩ E 0 b).natAbs≤_
   have e1:rop 0 i ⟨1,1,0,1⟩ E 0 b=E i b:=by
    unfold rop Tn.p
    rw[if_neg oq,if_pos rfl,hcl b hb0 hb']
    dsimp only
    omega
   rw[e1]
   exact p.m i b h0 hi hb0 hb'
  ·show (rop 0 i ⟨1,1,0,1⟩ E a b).natAbs≤_
   have e1:rop 0 i ⟨1,1,0,1⟩ E a b=E a b:=by
    unfold rop Tn.q
    by_cases ea:a=i
    ·rw[if_pos ea,ea];dsimp only;omega
    ·rw[if_neg ea,if_neg oq]
   rw[e1]
   exact p.m a b ha0 ha hb0 hb'
  ·have h6:4*(B+1)*(N+2*s'+2)+4*(B+1)≤4*(B+1)*(N+2*s+1):=by
    rw[← Nat.mul_succ];exact Nat.mul_le_mul_left _ oq
   omega


structure St0 (t M N D B ub:Nat) (u:Int) (S:Sm):Prop where
 b:Bsz t M N D ub S
 sz:∀ a b,a<M-t→b<N-t→(rest t S.d a b).natAbs<2 ^ B
 g:Gm (M-t) (N-t) u (rest t S.d)
 nz:rest t S.d 0 0≠0
theorem Qiu {m n:Nat} {u:Int} {E:Mi} (h:E 0 0≠0) (hg:Gm m n u E):Evi m n u 0 0 E:=⟨h,hg,fun _ _=>.inl rfl,fun _ _=>.inl rfl⟩
theorem Q4m {B j:Nat} (c:Nat) (hj:j≤c+1):wB (2 ^ B) (2 ^ B) j≤2 ^ (c*B+B+c):=by
 have h2:=YP (A:=2 ^ B) (X:=2 ^ B) (Nat.pow_pos dq) (c+1-j) j
 rw[show j+(c+1-j)=c+1 by omega]at h2
 exact Nat.le_trans h2 (Q0n c)
theorem Q71 {K D t M N B ub q:Nat} {u:Int} {S:Sm} (hM:t<M) (hN:t<N) (hm:M-t≤5) (hq:M-t-1≤q) (h0:St0 t M N D B ub u S) (hK:5*B+5<8*K) (hU:ub+q*(B+1)<8*K) (hD:D<256 ^ K) :
  ∃ S1,rowP K t (M-(t+1)) (t+1) S=some S1∧rest t S1.d=pas (M-t-1) (rest t S.d)∧Bsz t M N D (ub+q*(B+1)) S1∧Evi (M-t) (N-t) u 0 0 (rest t S1.d)∧Cln (M-t) (tr (rest t S1.d)) ∧
   (∀ b,0<b→b<N-t→(rest t S1.d 0 b).natAbs≤2 ^ (cnC (rest t S.d) (M-t-1)*B+B+cnC (rest t S.d) (M-t-1))) ∧
   (∀ a b,0<a→a<M-t→0<b→b<N-t→(rest t S1.d a b).natAbs≤wB (2 ^ B) (2 ^ B) (rIx (rest t S.d) 1 (M-t-1))):=by
 have hA1:1≤2 ^ B:=Nat.pow_pos dq
 have hPB:PBd (M-t) (N-t) (2 ^ B) (2 ^ B) (2 ^ B) (2 ^ B) 1 (rest t S.d):=⟨h0.nz,hA1,hA1,by rw[Nat.pow_one];exact Nat.le_refl _,Nat.le_of_lt (h0.sz 0 0 oq oq),fun a _ ha=>Nat.le_of_lt (h0.sz a 0 ha oq),fun a b _ ha _ hb=>Nat.le_of_lt (h0.sz a b ha hb),fun b _ hb=>by
  unfold wB;rw[Nat.sub_self,Nat.pow_zero,Nat.one_mul];simpa using Nat.le_of_lt (h0.sz 0 b oq hb)⟩
 have hcn:=YX (rest t S.d) (M-t-1)
 have hrix:rIx (rest t S.d) 1 (M-t-1)≤M-t-1+1:=by unfold rIx;split<;>omega
 have hub:(2*max (2 ^ B) (2 ^ B)) ^ (M-t-1)*2 ^ ub≤2 ^ (ub+q*(B+1)):=by
  rw[Nat.max_self,show 2*2 ^ B=2 ^ (B+1) by rw[Nat.pow_succ];omega, ← Nat.pow_mul, ← Nat.pow_add]
  refine Nat.pow_le_pow_right dq ?_
  have:=Nat.mul_le_mul_left (B+1) hq
  rw[Nat.mul_comm (B+1) q]at this
  omega
 have hKB:KBd K (M-t) (2 ^ B) (2 ^ B) (2 ^ B) (2 ^ B) 1 (2 ^ ub) D (rest t S.d):=⟨QN oq,QN oq,QN oq,by
  refine Nat.lt_of_le_of_lt (Q4m (M-t-1) hrix) (QN ?_)
  have:=Nat.mul_le_mul_right B (show M-t-1≤4 by omega)
  omega,Nat.lt_of_le_of_lt hub (QN hU),hD⟩
 obtain⟨S1,h1,d1,r1,u1,b1⟩:=Q84 h0.b.dm hM hPB h0.b.su h0.b.bk hKB (M-t-1) oq
 rw[show M-t-1=M-(t+1) by omega]at h1
 refine⟨S1,h1,r1,⟨d1,b1,u1.mono hub⟩,by rw[r1];exact Qiu (Zv h0.nz _) (Q2y h0.g h0.nz oq),by rw[r1];exact fun a ha0 ha=>YT h0.nz ha0 oq,fun b hb0 hb=>?_,fun a b ha0 ha hb0 hb=>?_⟩
 ·rw[r1]
  have:=(hPB.sz hb0 hb (M-t-1) oq).1
  exact Nat.le_trans this (Q4m _ (Nat.le_refl _))
 ·rw[r1]
  exact(hPB.sz hb0 hb (M-t-1) oq).2 a ha0 oq

theorem Q7x {K D t M N B ub N0 BM U0 F:Nat} {u:Int} {S:Sm} (hM:t<M) (hN:t<N) (hm:M-t≤5) (hn:N-t≤5) (h0:St0 t M N D B ub u S) (hh:(rest t S.d 0 0).natAbs<2 ^ (N0+1)) (hB:N0+1≤B)
  (hchk:∀ c,c≤N0→chk BM (N0-c) (c*B+B+c) ((c+1)*B+B+(c+1))=true∧chk BM (N0-c) ((c+1)*B+B+(c+1)) ((c+1)*B+B+(c+1))=true)
  (hU0:ub+4*(B+1)+4*(BM+1)*(N0+10)≤U0) (hK:U0<8*K) (hK2:5*B+5<8*K) (hK3:2*BM+10<8*K) (hD:D<256 ^ K) (hF:N0+1≤F) :
  ∀ f,5≤f→∃ S' q' p' h' e' s' ub',stageF K (F+1) t M N f S=some S'∧Dd (Qo BM U0) t M N D u q' p' h' e' s' ub' S'∧h'≤(rest t S.d 0 0).natAbs∧∀ a b,a<M-t→b<N-t→rest t S'.d 0 0∣rest t S'.d a b:=fun f hf=>by
 obtain⟨S1,g1,r1,bs1,ev1,cl1,z1,z2⟩:=Q71 (K:=K) (q:=4) hM hN hm oq h0 hK2 oq hD
 have md:=Qpj (K:=K) (D:=D) (m:=M-t) (n:=N-t) (B:=BM) (U0:=U0) hm hn hK hK3 hD
 have hhalf:=Ys h0.nz (M-t-1)
 obtain⟨c,hc⟩:∃ c,c=cnC (rest t S.d) (M-t-1):=⟨_,rfl⟩
 rw[← hc]at hhalf z1
 have hg1:1≤(pas (M-t-1) (rest t S.d) 0 0).natAbs:=by have:=Zv h0.nz (M-t-1);omega
 have hcN:c≤N0:=by
  have h2:2 ^ c<2 ^ (N0+1):=Nat.lt_of_le_of_lt (Nat.le_trans (Nat.le_mul_of_pos_right _ hg1) hhalf) hh
  have:=(Nat.pow_lt_pow_iff_right (show 1<2 by decide)).1 h2
  omega
 obtain⟨k1,k2⟩:=hchk c hcN
 have hcB:=Nat.le_mul_of_pos_left B (show 0<c+1 by omega)
 have hcs:(c+1)*B=c*B+B:=Nat.succ_mul c B
 have hL:LvC (Po BM U0) t M N D u 0 0 (rest t S1.d 0 0).natAbs (M-t-1+(N-t-1)) (M-t-1) (ub+4*(B+1)) S1:={
  c:={ b:=bs1,ev:=ev1,hh:=rfl,e:=by omega }
  cl:=cl1
  P:=⟨N0-c,c*B+B+c,(c+1)*B+B+(c+1),{
   hh:=by
    rw[r1]
    have h5:2 ^ c*(pas (M-t-1) (rest t S.d) 0 0).natAbs<2 ^ c*2 ^ (N0-c+1):=by
     rw[← Nat.pow_add,show c+(N0-c+1)=N0+1 by omega]
     exact Nat.lt_of_le_of_lt hhalf hh
    exact Nat.lt_of_mul_lt_mul_left h5
   la:=by omega
   lm:=by omega
   a:=fun b hb0 hb=>z1 b hb0 hb
   m:=fun b a hb0 hb ha0 ha=>Nat.le_trans (z2 a b ha0 ha hb0 hb) (Q4m (c+1) (by unfold rIx;rw[← hc];split<;>omega))
   c1:=k1
   c2:=k2
   u:=by
    have:=Nat.mul_le_mul_left (4*(BM+1)) (show N0-c+2*(M-t-1)+2≤N0+10 by omega)
    omega }⟩ }
 have hle1:(rest t S1.d 0 0).natAbs≤(rest t S.d 0 0).natAbs:=by rw[r1];exact Q0s h0.nz _
 have hF2:(rest t S1.d 0 0).natAbs<2 ^ F:=Nat.lt_of_le_of_lt hle1 (Nat.lt_of_lt_of_le hh (Nat.pow_le_pow_right dq hF))
 obtain⟨S',q',p',h',e',ub',g3,hD3,hdv,hle⟩:=Q76 md hM hN g1 hL hF2 0 0 oq fun S2 _=>⟨fun a ha0 ha=>absurd ha oq,Int.dvd_zero _⟩
 obtain⟨S4,q4,p4,h4,e4,s4,ub4,g4,hD4,hle4,hall⟩:=Q07 md hM hN f S S' q' p' h' e' (M-t-1) ub' 0 0 oq g3 hD3 oq hdv oq
 exact⟨S4,q4,p4,h4,e4,s4,ub4,g4,hD4,by omega,hall⟩

theorem Ww {P Q:SP} {K D t M N B B1 B2 ub F q:Nat} {u:Int} {S:Sm} (md:Mdl K D (M-t) (N-t) P Q) (hM:t<M) (hN:t<N) (hm:M-t≤5) (hn:N-t≤5) (hq1:M-t-1≤q) (hq2:N-t-1≤q) (h0:St0 t M N D B ub u S) (hu:u≠0)
  (hB1:(M-t-1)*B+B+(M-t-1)≤B1) (hB2:(N-t-2)*B1+(B+B1)+(N-t-2)≤B2)
  (hK2:5*B+5<8*K) (hK3:B2<8*K) (hU:ub+q*(B+1)+q*(B1+1)<8*K) (hD:D<256 ^ K) (hF:u.natAbs<2 ^ F)
  (hP:∀ h E,1≤h→h≤u.natAbs→(∃ W,Gm (M-t) (N-t) u W∧W 0 0≠0∧Cln (M-t) (tr W)∧E=tr (pas (N-t-1) (tr W)))→(∀ a,0<a→a<M-t→(E a 0).natAbs≤2 ^ B2)→(∀ a b,0<a→a<M-t→0<b→b<N-t→(E a b).natAbs≤2 ^ B2)→P (M-t) (N-t) h (M-t-1+(N-t-1)) (M-t-1) (ub+q*(B+1)+q*(B1+1)) E)
  (hQ:∀ h E,1≤h→h≤u.natAbs→Gm (M-t) (N-t) u E→(∀ a b,0<a→a<M-t→0<b→b<N-t→(E a b).natAbs≤2 ^ B2)→Q (M-t) (N-t) h (M-t-1+(N-t-1)) (M-t-1) (ub+q*(B+1)+q*(B1+1)) E) :
  ∀ f,5≤f→∃ S' q' p' h' e' s' ub',stageF K (F+1+1) t M N f S=some S'∧Dd Q t M N D u q' p' h' e' s' ub' S'∧h'≤u.natAbs∧∀ a b,a<M-t→b<N-t→rest t S'.d 0 0∣rest t S'.d a b:=fun f hf=>by
 obtain⟨S1,g1,r1,bs1,ev1,cl1,z1,z2⟩:=Q71 (K:=K) (q:=q) hM hN hm hq1 h0 hK2 oq hD
 have hcn:=YX (rest t S.d) (M-t-1)
 have hrx:rIx (rest t S.d) 1 (M-t-1)≤M-t-1+1:=by unfold rIx;split<;>omega
 have hBB:B≤B1:=by omega
 have y1:∀ b,0<b→b<N-t→(rest t S1.d 0 b).natAbs≤2 ^ B1:=fun b hb0 hb=>Nat.le_trans (z1 b hb0 hb) (Nat.pow_le_pow_right dq (by
  have:=Nat.mul_le_mul_right B hcn
  omega))
 have y2:∀ a b,0<a→a<M-t→0<b→b<N-t→(rest t S1.d a b).natAbs≤2 ^ B1:=fun a b ha0 ha hb0 hb=>Nat.le_trans (z2 a b ha0 ha hb0 hb) (Nat.le_trans (Q4m (M-t-1) hrx) (Nat.pow_le_pow_right dq hB1))
 have hnz1:tr (rest t S1.d) 0 0≠0:=ev1.nz
 have hp1:(tr (rest t S1.d) 0 0).natAbs≤2 ^ B:=by
  show (rest t S1.d 0 0).natAbs≤_
  rw[r1];exact Nat.le_trans (Q0s h0.nz _) (Nat.le_of_lt (h0.sz 0 0 oq oq))
 have hA1:1≤2 ^ B1:=Nat.pow_pos dq
 have hPB:PBd (N-t) (M-t) (2 ^ B1) (2 ^ B) (2 ^ B1) (2 ^ (B+B1)) 0 (tr (rest t S1.d)):=⟨hnz1,hA1,Nat.pow_pos dq,by rw[Nat.pow_zero,Nat.one_mul, ← Nat.pow_add];exact Nat.le_refl _,hp1,fun b hb0 hb=>y1 b hb0 hb,fun b a hb0 hb ha0 ha=>y2 a b ha0 ha hb0 hb,fun a ha0 ha=>by rw[cl1 a ha0 ha];exact Nat.zero_le _⟩
 have hmax:max (2 ^ B1) (2 ^ B)=2 ^ B1:=Nat.max_eq_left (Nat.pow_le_pow_right dq hBB)
 have hub:(2*max (2 ^ B1) (2 ^ B)) ^ (N-t-1)*2 ^ (ub+q*(B+1))≤2 ^ (ub+q*(B+1)+q*(B1+1)):=by
  rw[hmax,show 2*2 ^ B1=2 ^ (B1+1) by rw[Nat.pow_succ];omega, ← Nat.pow_mul, ← Nat.pow_add]
  refine Nat.pow_le_pow_right dq ?_
  have:=Nat.mul_le_mul_left (B1+1) hq2
  rw[Nat.mul_comm (B1+1) q]at this
  omega
 have hcn2:=YX (tr (rest t S1.d)) (N-t-1)
 have hw:∀ j,j≤N-t-2+1→wB (2 ^ B1) (2 ^ (B+B1)) j≤2 ^ B2:=fun j hj=>by
  have h2:=YP (A:=2 ^ B1) (X:=2 ^ (B+B1)) hA1 (N-t-2+1-j) j
  rw[show j+(N-t-2+1-j)=N-t-2+1 by omega]at h2
  exact Nat.le_trans h2 (Nat.le_trans (Q0n _) (Nat.pow_le_pow_right dq hB2))
 have hrx2:rIx (tr (rest t S1.d)) 0 (N-t-1)≤N-t-2+1:=by unfold rIx;split<;>omega
 have hKB:KBd K (N-t) (2 ^ B1) (2 ^ B) (2 ^ B1) (2 ^ (B+B1)) 0 (2 ^ (ub+q*(B+1))) D (tr (rest t S1.d)):=⟨QN oq,QN oq,QN oq,Nat.lt_of_le_of_lt (hw _ hrx2) (QN hK3),Nat.lt_of_le_of_lt hub (QN hU),hD⟩
 obtain⟨S2,h2,d2,r2,u2,b2⟩:=Q8l bs1.dm hN hPB bs1.su bs1.bk hKB false (N-t-1) oq
 rw[Bool.false_or]at h2
 have bs2:Bsz t M N D (ub+q*(B+1)+q*(B1+1)) S2:=⟨d2,b2,u2.mono hub⟩
 obtain⟨ev2,_⟩:=Q8h ev1.tr oq oq cl1
 have ev2':Evi (M-t) (N-t) u 0 0 (rest t S2.d):=by rw[r2];exact ev2.tr
 have hdu:rest t S2.d 0 0∣u:=Qjb ev1.g oq oq ev1.nz cl1 fun b hb=>by
  rw[r2]
  show pas (N-t-1) (tr (rest t S1.d)) 0 0∣tr (rest t S1.d) b 0
  by_cases e:b=0
  ·subst e;exact XF hnz1 _
  ·exact Q9x hnz1 oq oq
 have hle:(rest t S2.d 0 0).natAbs≤u.natAbs:=Nat.le_of_dvd oq (Int.natAbs_dvd_natAbs.2 hdu)
 have hge:1≤(rest t S2.d 0 0).natAbs:=by have:=ev2'.nz;omega
 have w2:∀ a b,0<a→a<M-t→0<b→b<N-t→(rest t S2.d a b).natAbs≤2 ^ B2:=fun a b ha0 ha hb0 hb=>by
  rw[r2]
  exact Nat.le_trans ((hPB.sz ha0 ha (N-t-1) oq).2 b hb0 oq) (hw _ hrx2)
 have w1:∀ a,0<a→a<M-t→(rest t S2.d a 0).natAbs≤2 ^ B2:=fun a ha0 ha=>by
  rw[r2]
  refine Nat.le_trans (hPB.sz ha0 ha (N-t-1) oq).1 (hw _ oq)
 have hz:Cln (N-t) (rest t S2.d):=by rw[r2];exact fun a ha0 ha=>YT hnz1 ha0 oq
 have he0:M-t-1+(N-t-1)=M-t-1-0+(N-t-1-0):=by rw[Nat.sub_zero,Nat.sub_zero]
 have hF2:u.natAbs<2 ^ (F+1):=by rw[Nat.pow_succ];omega
 have hdr0:∀ S':Sm,Dv t N 0 0 S':=fun S'=>⟨fun a ha0 ha=>absurd (Nat.lt_of_lt_of_le ha0 ha) (Nat.lt_irrefl 0),Int.dvd_zero _⟩
 have fin:∀ S' q' p' h' e' ub',crossF K t M N (F+1+1) S=some S'→Dd Q t M N D u q' p' h' e' (M-t-1) ub' S'→h'≤u.natAbs→∃ S' q' p' h' e' s' ub',stageF K (F+1+1) t M N f S=some S'∧Dd Q t M N D u q' p' h' e' s' ub' S'∧h'≤u.natAbs∧∀ a b,a<M-t→b<N-t→rest t S'.d 0 0∣rest t S'.d a b:=fun S' q' p' h' e' ub' g3 hD3 hle3=>by
  obtain⟨S4,q4,p4,h4,e4,s4,ub4,g4,hD4,hle4,hall⟩:=Q07 md hM hN (F:=F+1) f S S' q' p' h' e' (M-t-1) ub' 0 0 oq g3 hD3 (Nat.lt_of_le_of_lt hle3 hF2) (hdr0 S') oq
  exact⟨S4,q4,p4,h4,e4,s4,ub4,g4,hD4,by omega,hall⟩
 rw[show N-t-1=N-(t+1) by omega]at h2
 by_cases hc:cnC (tr (rest t S1.d)) (N-t-1)=0
 ·rw[show N-(t+1)=N-t-1 by omega,hc]at h2
  refine fin S2 0 0 (rest t S2.d 0 0).natAbs (M-t-1+(N-t-1)) _ ?_ { c:={ b:=bs2,ev:=ev2',hh:=rfl,e:=he0 },cl:=hz,cc:=?_,Q:=hQ _ _ hge hle ev2'.g w2 } hle
  ·rw[crossF,g1]
   dsimp only
   rw[show N-(t+1)=N-t-1 by omega,h2]
   rfl
  ·rw[r2]
   intro b hb0 hb
   show pas (N-t-1) (tr (rest t S1.d)) 0 b=0
   rw[YE hnz1 hc];exact cl1 b hb0 hb
 ·have h2':colP K t (N-(t+1)) (t+1) false S1=some (S2,true):=by
   rw[h2]
   congr 2
   rw[show N-(t+1)=N-t-1 by omega]
   exact decide_eq_true oq
  have hL:LvR P t M N D u 0 0 (rest t S2.d 0 0).natAbs (M-t-1+(N-t-1)) (M-t-1) (ub+q*(B+1)+q*(B1+1)) S2:={ c:={ b:=bs2,ev:=ev2',hh:=rfl,e:=he0 },cl:=hz,P:=hP _ _ hge hle ⟨_,ev1.g,ev1.nz,cl1,r2⟩ w1 w2 }
  obtain⟨S',q',p',h',e',ub',g3,hD3,hdv,hle3⟩:=crossG md hM hN F 0 0 _ _ _ _ S2 hL (Nat.lt_of_le_of_lt hle hF) 0 0 oq (hdr0 S2)
  refine fin S' q' p' h' e' ub' ?_ hD3 oq
  rw[crossF,g1]
  dsimp only
  rw[h2']
  exact g3

structure PreS (t M N D B ub:Nat) (u:Int) (S:Sm):Prop where
 b:Bsz t M N D ub S
 sz:∀ a b,a<M-t→b<N-t→(rest t S.d a b).natAbs<2 ^ B
 g:Gm (M-t) (N-t) u (rest t S.d)
theorem Qbj {S:Sm} {t m n i j:Nat} (h:findP S t m n=some (i,j)):t≤i∧i<m∧t≤j∧j<n∧gE S.d i j≠0:=by
 unfold findP at h
 obtain⟨j',hj,h1⟩:=List.exists_of_findSome?_eq_some h
 rw[List.mem_range'_1]at hj
 rw[Option.map_eq_some_iff]at h1
 obtain⟨i',h2,h3⟩:=h1
 cases h3
 have h4:=List.find?_some h2
 have h5:=List.mem_of_find?_eq_some h2
 rw[List.mem_range'_1]at h5
 exact⟨by omega,by omega,by omega,by omega,of_decide_eq_true h4⟩
theorem Qcf {M N t j:Nat} {g:List (List Int)} (h:Rec M N g) (hj:t+j<M) (hj0:0<j) (a b:Nat):rest t (rowsL t (t+j) ⟨0,1,-1,0⟩ g) a b=if a=j then -(rest t g 0 b) else if a=0 then rest t g j b else rest t g a b:=by
 rw[WA h hj hj0]
 unfold rop Tn.p Tn.q
 by_cases e1:a=j
 ·rw[if_pos e1,if_pos e1];dsimp only;omega
 ·rw[if_neg e1,if_neg e1]
  by_cases e2:a=0
  ·rw[if_pos e2,if_pos e2];dsimp only;omega
  ·rw[if_neg e2,if_neg e2]
theorem Qcg {M N t j:Nat} {g:List (List Int)} (h:Rec M N g) (hj:t+j<N) (hj0:0<j) (a b:Nat):rest t (colsL t (t+j) ⟨0,1,-1,0⟩ g) a b=if b=j then -(rest t g a 0) else if b=0 then rest t g a j else rest t g a b:=by
 rw[Q2e h hj hj0]
 show rop 0 j ⟨0,1,-1,0⟩ (tr (rest t g)) b a=_
 unfold rop Tn.p Tn.q tr
 by_cases e1:b=j
 ·rw[if_pos e1,if_pos e1];dsimp only;omega
 ·rw[if_neg e1,if_neg e1]
  by_cases e2:b=0
  ·rw[if_pos e2,if_pos e2];dsimp only;omega
  ·rw[if_neg e2,if_neg e2]
theorem Q99:CB 1 ⟨0,1,-1,0⟩:=⟨by decide,by decide,by decide,by decide⟩
theorem PreS.rows {K t M N D B ub j:Nat} {u:Int} {S:Sm} (h:PreS t M N D B ub u S) (hj:t+j<M) (hj0:0<j) (hD:D<256 ^ K) (hB:B<8*K) (hU:ub+1<8*K):ck K (S.rows t (t+j) ⟨0,1,-1,0⟩)=some (S.rows t (t+j) ⟨0,1,-1,0⟩)∧PreS t M N D B (ub+1) u (S.rows t (t+j) ⟨0,1,-1,0⟩):=by
 have hp:PreS t M N D B (ub+1) u (S.rows t (t+j) ⟨0,1,-1,0⟩):={
  b:=⟨h.b.dm.rows oq hj,h.b.bk.rows h.b.dm.d oq hj,by
   have:=h.b.su.rows (C:=1) (i:=t) h.b.dm oq hj Q99 (Nat.le_refl _)
   rw[Nat.pow_succ,Nat.mul_comm]
   simpa using this⟩
  sz:=fun a b ha hb=>by
   show (rest t (rowsL t (t+j) ⟨0,1,-1,0⟩ S.d) a b).natAbs<_
   rw[Qcf h.b.dm.d hj hj0]
   split
   ·rw[Int.natAbs_neg];exact h.sz 0 b oq hb
   ·split
    ·exact h.sz j b oq hb
    ·exact h.sz a b ha hb
  g:=by
   show Gm _ _ u (rest t (rowsL t (t+j) ⟨0,1,-1,0⟩ S.d))
   rw[WA h.b.dm.d hj hj0]
   exact Qaf h.g hj0 oq dq }
 exact⟨Qf9 hp.b.dm hp.b.su (hp.b.bk.sz (L:=256 ^ K-1) oq fun a b ha hb=>by
  have h1:=hp.sz a b ha hb
  have h2:=QN hB
  omega) (QN hU) (by have:=pos256 K;omega),hp⟩
theorem PreS.cols {K t M N D B ub j:Nat} {u:Int} {S:Sm} (h:PreS t M N D B ub u S) (hj:t+j<N) (hj0:0<j) (hD:D<256 ^ K) (hB:B<8*K) (hU:ub+1<8*K):ck K (S.cols t (t+j) ⟨0,1,-1,0⟩)=some (S.cols t (t+j) ⟨0,1,-1,0⟩)∧PreS t M N D B (ub+1) u (S.cols t (t+j) ⟨0,1,-1,0⟩):=by
 have hp:PreS t M N D B (ub+1) u (S.cols t (t+j) ⟨0,1,-1,0⟩):={
  b:=⟨h.b.dm.cols oq hj,h.b.bk.cols h.b.dm.d oq hj,by
   have:=h.b.su.cols (C:=1) (i:=t) h.b.dm oq hj Q99 (Nat.le_refl _)
   rw[Nat.pow_succ,Nat.mul_comm]
   simpa using this⟩
  sz:=fun a b ha hb=>by
   show (rest t (colsL t (t+j) ⟨0,1,-1,0⟩ S.d) a b).natAbs<_
   rw[Qcg h.b.dm.d hj hj0]
   split
   ·rw[Int.natAbs_neg];exact h.sz a 0 ha oq
   ·split
    ·exact h.sz a j ha oq
    ·exact h.sz a b ha hb
  g:=by
   show Gm _ _ u (rest t (colsL t (t+j) ⟨0,1,-1,0⟩ S.d))
   rw[Q2e h.b.dm.d hj hj0]
   exact Q5e (Qaf (Q5e h.g) hj0 oq dq) }
 exact⟨Qf9 hp.b.dm hp.b.su (hp.b.bk.sz (L:=256 ^ K-1) oq fun a b ha hb=>by
  have h1:=hp.sz a b ha hb
  have h2:=QN hB
  omega) (QN hU) (by have:=pos256 K;omega),hp⟩
theorem PreS.mono {t M N D B ub ub':Nat} {u:Int} {S:Sm} (h:PreS t M N D B ub u S) (hu:ub≤ub'):PreS t M N D B ub' u S:=⟨⟨h.b.dm,h.b.bk,h.b.su.mono (Nat.pow_le_pow_right dq hu)⟩,h.sz,h.g⟩
theorem Qhe {K t M N D B ub:Nat} {u:Int} {S:Sm} (h:PreS t M N D B ub u S) (hD:D<256 ^ K) (hB:B<8*K) (hU:ub+2<8*K):∃ S' fl,pivotF K t M N S=some (S',fl)∧(fl=true→St0 t M N D B (ub+2) u S'):=by
 unfold pivotF
 cases hf:findP S t M N with
 | none=>exact⟨S,false,rfl,fun h=>by cases h⟩
 | some ij =>
  obtain⟨i,j⟩:=ij
  obtain⟨h1,h2,h3,h4,h5⟩:=Qbj hf
  obtain⟨i',rfl⟩:∃ i',i=t+i':=⟨i-t,by omega⟩
  obtain⟨j',rfl⟩:∃ j',j=t+j':=⟨j-t,by omega⟩
  dsimp only
  have hA:∃ S1,(if t+i'=t then some S else ck K (S.rows t (t+i') ⟨0,1,-1,0⟩))=some S1∧PreS t M N D B (ub+1) u S1∧rest t S1.d 0 j'≠0:=by
   by_cases e:i'=0
   ·subst e
    exact⟨S,if_pos rfl,h.mono oq,h5⟩
   ·obtain⟨g1,g2⟩:=h.rows (j:=i') (K:=K) h2 oq hD hB oq
    refine⟨_,by rw[if_neg oq];exact g1,g2,?_⟩
    show rest t (rowsL t (t+i') ⟨0,1,-1,0⟩ S.d) 0 j'≠0
    rw[Qcf h.b.dm.d h2 oq,if_neg oq,if_pos rfl]
    exact h5
  obtain⟨S1,g1,p1,n1⟩:=hA
  rw[g1]
  dsimp only
  have hC:∃ S2,(if t+j'=t then some S1 else ck K (S1.cols t (t+j') ⟨0,1,-1,0⟩))=some S2∧PreS t M N D B (ub+2) u S2∧rest t S2.d 0 0≠0:=by
   by_cases e:j'=0
   ·subst e
    exact⟨S1,if_pos rfl,p1.mono oq,n1⟩
   ·obtain⟨g2,g3⟩:=p1.cols (j:=j') (K:=K) h4 oq hD hB oq
    refine⟨_,by rw[if_neg oq];exact g2,g3,?_⟩
    show rest t (colsL t (t+j') ⟨0,1,-1,0⟩ S1.d) 0 0≠0
    rw[Qcg p1.b.dm.d h4 oq,if_neg oq,if_pos rfl]
    exact n1
  obtain⟨S2,g2,p2,n2⟩:=hC
  rw[g2]
  exact⟨S2,true,rfl,fun _=>⟨p2.b,p2.sz,p2.g,n2⟩⟩

structure PostS (t M N D B ub:Nat) (u:Int) (S:Sm):Prop where
 b:Bsz t M N D ub S
 cl:Cln (N-t) (rest t S.d)
 cc:Cln (M-t) (tr (rest t S.d))
 sz:∀ a b,0<a→a<M-t→0<b→b<N-t→(rest t S.d a b).natAbs<2 ^ B
 g:Gm (M-t) (N-t) u (rest t S.d)
 nz:rest t S.d 0 0≠0
theorem Qls {m n:Nat} {u:Int} {E:Mi} (h:Gm (m+1) (n+1) u E) (hc:Cln (n+1) E) (hcc:Cln (m+1) (tr E)):Gm m n u fun a b=>E (a+1) (b+1):=by
 obtain⟨X,hX⟩:=h
 refine⟨fun i j=>X (i+1) (j+1),fun a ha b hb=>?_⟩
 have h1:=hX (a+1) oq (b+1) oq
 rw[Q1b (r:=0) oq]at h1
 have z1:E (a+1) 0=0:=hcc (a+1) oq oq
 rw[z1,Int.zero_mul,Int.add_zero]at h1
 rw[← h1]
 refine Qq fun i _=>?_
 rw[Qct]
 congr 1
 unfold rsum
 rw[Q1b (r:=0) oq,hc (b+1) oq oq,Int.mul_zero,Int.add_zero]
 exact Qq fun j _=>by rw[Qct]
theorem Qhd {t M N D B ub:Nat} {u:Int} {S:Sm} (h:PostS t M N D B ub u S) (hM:t<M) (hN:t<N) (hu:u≠0) (hD:u.natAbs≤D):PreS (t+1) M N D B ub u (if gE S.d t t<0 then S.neg t else S):=by
 have hdv:rest t S.d 0 0∣u:=Qjb h.g oq oq h.nz h.cc fun b hb=>by
  by_cases e:b=0
  ·subst e;exact Int.dvd_refl _
  ·rw[h.cl b oq hb];exact Int.dvd_zero _
 have hle:(gE S.d t t).natAbs≤D:=Nat.le_trans (Nat.le_of_dvd oq (Int.natAbs_dvd_natAbs.2 hdv)) hD
 have hbase:PreS (t+1) M N D B ub u S:={
  b:=⟨h.b.dm,⟨fun a b ha hb hab h1=>by
   by_cases h2:a<t∨b<t
   ·exact h.b.bk.z a b ha hb hab h2
   ·have h3:a=t∨b=t:=by omega
    rcases h3 with rfl|rfl
    ·have:=h.cl (b-a) oq oq
     unfold rest at this
     rw[show a+(b-a)=b by omega]at this
     exact this
    ·have:=h.cc (a-b) oq oq
     unfold tr rest at this
     rw[show b+(a-b)=a by omega]at this
     exact this,fun a ha hb h1=>by
   by_cases h2:a<t
   ·exact h.b.bk.d a ha hb h2
   ·obtain rfl:a=t:=by omega
    exact hle⟩,h.b.su⟩
  sz:=fun a b ha hb=>by
   have:=h.sz (a+1) (b+1) oq oq oq oq
   unfold rest at this ⊢
   rwa [show t+1+a=t+(a+1) by omega,show t+1+b=t+(b+1) by omega]
  g:=by
   have:=Qls (m:=M-(t+1)) (n:=N-(t+1)) (by rw[show M-(t+1)+1=M-t by omega,show N-(t+1)+1=N-t by omega];exact h.g) (by rw[show N-(t+1)+1=N-t by omega];exact h.cl) (by rw[show M-(t+1)+1=M-t by omega];exact h.cc)
   have e:rest (t+1) S.d=fun a b=>rest t S.d (a+1) (b+1):=by
    funext a b
    unfold rest
    rw[show t+1+a=t+(a+1) by omega,show t+1+b=t+(b+1) by omega]
   rw[e];exact this }
 split
 ·have hr:rest (t+1) (S.neg t).d=rest (t+1) S.d:=by
   funext a b
   show gE (negR t S.d) (t+1+a) (t+1+b)=_
   rw[Qi3 h.b.dm.d hM,if_neg oq];rfl
  exact {
   b:=⟨h.b.dm.neg' hM,⟨fun a b ha hb hab h1=>by
    show gE (negR t S.d) a b=0
    rw[Qi3 h.b.dm.d hM]
    split
    ·rw[hbase.b.bk.z t b hM hb oq oq];rfl
    ·exact hbase.b.bk.z a b ha hb hab h1,fun a ha hb h1=>by
    show (gE (negR t S.d) a a).natAbs≤D
    rw[Qi3 h.b.dm.d hM]
    split
    ·rename_i e;subst e;rw[Int.natAbs_neg];exact hbase.b.bk.d a ha hb h1
    ·exact hbase.b.bk.d a ha hb h1⟩,h.b.su.neg h.b.dm hM⟩
   sz:=by rw[hr];exact hbase.sz
   g:=by rw[hr];exact hbase.g }
 ·exact hbase
theorem Qeo {K fc f M N D:Nat} {u:Int} (hu:u≠0) (hD:u.natAbs≤D) (hD2:D<256 ^ K) (Bq uq:Nat→Nat) (hB:∀ t,t<M→t<N→Bq t<8*K) (hU:∀ t,t<M→t<N→uq t+2<8*K)
  (hst:∀ t S,t<M→t<N→St0 t M N D (Bq t) (uq t+2) u S→∃ S',stageF K fc t M N f S=some S'∧PostS t M N D (Bq (t+1)) (uq (t+1)) u S'):∀ k t S,t+k=min M N→PreS t M N D (Bq t) (uq t) u S→∃ S',formF K fc f M N k t S=some S'
 | 0,_,S,_,_=>⟨S,rfl⟩
 | k + 1, t, S, hk, hp => by
  have hM:t<M:=by omega
  have hN:t<N:=by omega
  obtain⟨S1,fl,h1,h2⟩:=Qhe hp hD2 (hB t hM hN) (hU t hM hN)
  rw[formF,h1]
  dsimp only
  cases fl with
  | false=>exact⟨S1,rfl⟩
  | true =>
   obtain⟨S2,h3,h4⟩:=hst t S1 hM hN (h2 rfl)
   rw[if_pos rfl,h3]
   dsimp only
   exact Qeo hu hD hD2 Bq uq hB hU hst k (t+1) _ oq (Qhd h4 hM hN hu hD)

theorem Qk3 {x y:Int} (hx:x≠0):(tnO x y).b.natAbs*((tnO x y).p x y).natAbs≤x.natAbs:=by
 unfold tnO
 by_cases hy:y=0
 ·subst hy;rw[Q35];simp
 ·by_cases hd:x∣y
  ·rw[Q4c hy hx hd];simp
  ·rw[Q4b hy hd]
   have h:=gcdN hx hy
   have e:(Tn.p ⟨(gcdF x y).2.1,(gcdF x y).2.2,-(y / (gcdF x y).1),x / (gcdF x y).1⟩ x y)=(gcdF x y).1:=h.b
   dsimp only
   rw[e]
   exact h.ht
theorem gm_z {u:Int} {E:Mi} (h:Gm 2 2 u E) (h0:E 0 0≠0) (hc:E 1 0=0):E 1 1=0∨E 1 1∣u:=by
 by_cases hz:E 1 1=0
 ·exact .inl hz
 ·refine .inr ?_
  obtain⟨X,hX⟩:=h
  have h1:=hX 1 dq 1 dq
  have h2:=hX 1 dq 0 dq
  simp only[smI,rsum,hc,Int.zero_mul,Int.zero_add,Int.mul_zero,Int.add_zero]at h1 h2
  have h3:X 1 0=0:=by
   rcases Int.mul_eq_zero.1 h2 with h|h
   ·exact absurd h hz
   ·rcases Int.mul_eq_zero.1 h with h|h
    ·exact h
    ·exact absurd h h0
  rw[h3,Int.zero_mul,Int.zero_add,Int.mul_comm u]at h1
  have h4:=Int.eq_of_mul_eq_mul_left hz h1
  exact⟨X 1 1,by rw[← h4,Int.mul_comm]⟩
theorem Qei {u:Int} {E:Mi} (hu:u≠0) (h:Gm 2 2 u E) (h0:E 0 0≠0) (hc:E 1 0=0):(E 1 1).natAbs≤u.natAbs:=by
 rcases gm_z h h0 hc with h1|h1
 ·rw[h1];exact Nat.zero_le _
 ·exact Nat.le_of_dvd oq (Int.natAbs_dvd_natAbs.2 h1)
theorem Qeh {u:Int} {E:Mi} (hu:u≠0) (h:Gm 2 2 u E) (h0:E 0 0≠0) (hc:E 0 1=0):(E 1 1).natAbs≤u.natAbs:=Qei (E:=tr E) hu (Q5e h) h0 hc

def Pw (u:Int) (hb U0:Nat):SP:=fun m n h _ s ub E=>Gm m n u E∧(∀ a,0<a→a<m→(E a 0).natAbs≤2 ^ (2*hb))∧h≤u.natAbs∧∃ N,h<2 ^ (N+1)∧ub+(2*hb+1)*(N+2*s+2)≤U0
def Qw (u:Int) (hb U0:Nat):SP:=fun m n h _ s ub E=>Gm m n u E∧h≤u.natAbs∧∃ N,h<2 ^ (N+1)∧ub+(2*hb+1)*(N+2*s+1)≤U0
theorem Qob {K D m n hb U0:Nat} {u:Int} (hu:u≠0) (hub:u.natAbs≤2 ^ hb) (hm:m≤2) (hn:n≤2) (hK:U0<8*K) (hK2:3*hb+3<8*K) (hD:D<256 ^ K):Mdl K D m n (Pw u hb U0) (Qw u hb U0):=by
 refine⟨?_,?_,?_⟩
 ·intro m' n' h e s ub E hd hP hcl hnz hhE
  obtain⟨hg,ha,hhu,N,hN,hU⟩:=hP
  have hm2:m'≤2:=by omega
  have hn2:n'≤2:=by omega
  have hA1:1≤2 ^ (2*hb):=Nat.pow_pos dq
  have hE:∀ a b,0<a→a<m'→0<b→b<n'→(E a b).natAbs≤2 ^ hb:=fun a b ha0 ha hb0 hb=>by
   obtain rfl:a=1:=by omega
   obtain rfl:b=1:=by omega
   obtain rfl:m'=2:=by omega
   obtain rfl:n'=2:=by omega
   exact Nat.le_trans (Qeh hu hg hnz (hcl 1 oq oq)) hub
  have hPB:PBd m' n' (2 ^ (2*hb)) (2 ^ hb) (2 ^ hb) (2 ^ (hb+hb)) 0 E:=⟨hnz,hA1,Nat.pow_pos dq,by rw[Nat.pow_zero,Nat.one_mul, ← Nat.pow_add];exact Nat.le_refl _,by rw[hhE];exact Nat.le_trans hhu hub,ha,hE,fun b hb0 hb'=>by rw[hcl b hb0 hb'];exact Nat.zero_le _⟩
  have hmax:max (2 ^ (2*hb)) (2 ^ hb)=2 ^ (2*hb):=Nat.max_eq_left (Nat.pow_le_pow_right dq oq)
  have hcn:=YX E (m'-1)
  have hub2:(2*2 ^ (2*hb)) ^ (m'-1)*2 ^ ub≤2 ^ (ub+(2*hb+1)):=by
   rw[show 2*2 ^ (2*hb)=2 ^ (2*hb+1) by rw[Nat.pow_succ];omega, ← Nat.pow_mul, ← Nat.pow_add]
   refine Nat.pow_le_pow_right dq ?_
   have:=Nat.mul_le_mul_left (2*hb+1) (show m'-1≤1 by omega)
   omega
  have hrow:wB (2 ^ (2*hb)) (2 ^ (hb+hb)) (rIx E 0 (m'-1))≤2 ^ (0*(2*hb)+(hb+hb)+0):=by
   have hix:rIx E 0 (m'-1)≤1:=by unfold rIx;split<;>omega
   have h2:=YP (A:=2 ^ (2*hb)) (X:=2 ^ (hb+hb)) hA1 (1-rIx E 0 (m'-1)) (rIx E 0 (m'-1))
   rw[show rIx E 0 (m'-1)+(1-rIx E 0 (m'-1))=0+1 by omega]at h2
   exact Nat.le_trans h2 (Q0n 0)
  have hst:(2*hb+1)*(N+2*s+2)=(2*hb+1)*(N+2*s+1)+(2*hb+1):=Nat.mul_succ _ _
  refine⟨_,_,_,_,hPB,⟨QN oq,QN oq,QN oq,Nat.lt_of_le_of_lt hrow (QN oq),by rw[hmax];exact Nat.lt_of_le_of_lt hub2 (QN oq),hD⟩,ub+(2*hb+1),by rw[hmax];exact hub2,fun hc0=>⟨?_,hhu,N,hN,by omega⟩,fun e' hc1 he=>?_⟩
  ·by_cases h0:m'=0
   ·subst h0;exact hg
   ·exact Q2y hg hnz oq
  ·obtain rfl:m'=2:=by omega
   have hhalf:=Ys hnz 1
   have hc:cnC E 1=1:=by have h1:1≤cnC E 1:=hc1;have:=YX E 1;omega
   rw[hc,hhE]at hhalf
   refine⟨Q5e (Q2y hg hnz oq),fun b hb0 hb9=>?_,?_,N-1,?_,?_⟩
   ·show (pas 1 E 0 b).natAbs≤_
    have h3:=(Q85 hnz hcl hb0 hb9).2.1
    rw[hhE]at h3
    refine Nat.le_trans h3 ?_
    rw[show 2*hb=hb+hb by omega,Nat.pow_add]
    exact Nat.mul_le_mul (Nat.le_trans hhu hub) (hE 1 b oq oq hb0 hb9)
   ·show (pas 1 E 0 0).natAbs≤_
    have:=Q0s hnz 1
    omega
   ·show (pas 1 E 0 0).natAbs<_
    have hg1:1≤(pas 1 E 0 0).natAbs:=by have:=Zv hnz 1;omega
    have hN1:1≤N:=by
     refine Nat.le_of_not_lt fun h0=>?_
     obtain rfl:N=0:=by omega
     simp at hN hhalf
     omega
    rw[show N-1+1=N by omega]
    rw[Nat.pow_succ]at hN
    rw[Nat.pow_one]at hhalf
    omega
   ·have hN1:1≤N:=by
     have hg1:1≤(pas 1 E 0 0).natAbs:=by have:=Zv hnz 1;omega
     refine Nat.le_of_not_lt fun h0=>?_
     obtain rfl:N=0:=by omega
     simp at hN hhalf
     omega
    rw[show N-1+2*s+2=N+2*s+1 by omega]
    omega
 ·intro m' n' h e s ub E hQ
  exact⟨Q5e hQ.1,hQ.2⟩
 ·intro h e s s' ub i E hQ hs hcl hcc h0 hi h2 hnz hhE
  obtain⟨hg,hhu,N,hN,hU⟩:=hQ
  obtain rfl:i=1:=by omega
  obtain rfl:m=2:=by omega
  refine⟨Q5e (Qaf hg oq oq dq),fun b hb0 hb9=>?_,hhu,N,hN,?_⟩
  ·show (rop 0 1 ⟨1,1,0,1⟩ E 0 b).natAbs≤_
   have e1:rop 0 1 ⟨1,1,0,1⟩ E 0 b=E 1 b:=by
    unfold rop Tn.p
    rw[if_neg oq,if_pos rfl,hcl b hb0 hb9]
    dsimp only
    omega
   rw[e1]
   obtain rfl:b=1:=by omega
   obtain rfl:n=2:=by omega
   exact Nat.le_trans (Nat.le_trans (Qei hu hg hnz (hcc 1 oq oq)) hub) (Nat.pow_le_pow_right dq oq)
  ·have h5:(2*hb+1)*(N+2*s'+2)+(2*hb+1)≤(2*hb+1)*(N+2*s+1):=by
    rw[← Nat.mul_succ];exact Nat.mul_le_mul_left _ oq
   omega
theorem Qc4 {u:Int} {W E:Mi} {m n:Nat} (hu:u≠0) (hm:m≤2) (hn:n≤2) (hn0:0<n) (hg:Gm m n u W) (h0:W 0 0≠0) (hc:Cln m (tr W)) (hE:E=tr (pas (n-1) (tr W))):Gm m n u E∧∀ a,0<a→a<m→(E a 0).natAbs≤u.natAbs:=by
 have hgE:Gm m n u E:=by rw[hE];exact Q5e (Q2y (Q5e hg) h0 oq)
 refine⟨hgE,fun a ha0 ha=>?_⟩
 obtain rfl:a=1:=by omega
 obtain rfl:m=2:=by omega
 by_cases h1:n=1
 ·subst h1
  rw[hE]
  show (tr W 0 1).natAbs≤_
  rw[hc 1 oq oq];exact Nat.zero_le _
 ·obtain rfl:n=2:=by omega
  have h00:tr W 0 0≠0:=h0
  have hz:E 0 1=0:=by rw[hE];exact YT (E:=tr W) h00 oq oq
  have hnz:E 0 0≠0:=by rw[hE];exact Zv (E:=tr W) h00 1
  refine Nat.le_trans ?_ (Qeh hu hgE hnz hz)
  rw[hE]
  show (pas 1 (tr W) 0 1).natAbs≤(pas 1 (tr W) 1 1).natAbs
  obtain⟨e1,e2⟩:=Qda (E:=tr W) (n:=2) hc (b:=1) oq oq
  rw[e1,e2,Int.natAbs_mul,Int.natAbs_mul]
  refine Nat.mul_le_mul_right _ ?_
  have h5:=Qk3 (x:=tr W 0 0) (y:=tr W 1 0) h00
  have h6:=(Z9 (E:=tr W) (k:=0) h00).dx
  have h7:=(Z9 (E:=tr W) (k:=0) h00).nz
  have h8:(tnO (tr W 0 0) (tr W 1 0)).d.natAbs*((tnO (tr W 0 0) (tr W 1 0)).p (tr W 0 0) (tr W 1 0)).natAbs=(tr W 0 0).natAbs:=by rw[← Int.natAbs_mul];exact congrArg Int.natAbs h6
  rw[← h8]at h5
  refine Nat.le_of_mul_le_mul_right h5 ?_
  have:(tnO (tr W 0 0) (tr W 1 0)).p (tr W 0 0) (tr W 1 0)≠0:=h7
  omega

def pm:Nat→(Nat→Nat→Nat)→Nat
 | 0,_=>1
 | n+1,A=>(List.range (n+1)).foldl (fun s i=>s+A i 0*pm n (fun a b=>A (sk i a) (b+1))) 0
theorem Qcs:∀ {n:Nat} {f:Nat→Int} {g:Nat→Nat},(∀ i,i<n→(f i).natAbs≤g i)→(smI n f).natAbs≤(List.range n).foldl (fun s i=>s+g i) 0
 | 0,_,_,_=>Nat.le_refl _
 | n+1,f,g,h=>by
  rw[List.range_succ,List.foldl_append]
  have h1:=Qcs (n:=n) (f:=f) (g:=g) fun i hi=>h i oq
  have h2:=h n oq
  have h3:=Int.natAbs_add_le (smI n f) (f n)
  show (smI n f+f n).natAbs≤(List.range n).foldl (fun s i=>s+g i) 0+g n
  omega
theorem Qng (i:Nat):(sg i).natAbs=1:=by unfold sg;split<;>rfl
theorem Qex:∀ {n:Nat} {A:Mi} {B:Nat→Nat→Nat},(∀ i j,i<n→j<n→(A i j).natAbs≤B i j)→(det n A).natAbs≤pm n B
 | 0,_,_,_=>Nat.le_refl _
 | n+1,A,B,h=>by
  rw[det,pm]
  refine Qcs fun i hi=>?_
  rw[Int.natAbs_mul,Int.natAbs_mul,Qng,Nat.one_mul]
  refine Nat.mul_le_mul (h i 0 hi oq) (Qex fun a b ha hb=>h _ _ (by unfold sk;split<;>omega) oq)
theorem Qm1 {E:Mi} {n:Nat} {p q:Nat→Nat} (hp:∀ a,a<n→p a<n) (hq:∀ a,a<n→q a<n) (h:det n E=0):det n (mn E p q)=0:=by
 have e:det n (mn E p q)=det n (mmI n (fun a i=>if p a=i then 1 else 0) (mmI n E fun j b=>if q b=j then 1 else 0)):=QL fun a ha b hb=>by
  show E (p a) (q b)=smI n fun i=>(if p a=i then (1:Int) else 0)*smI n fun j=>E i j*(if q b=j then (1:Int) else 0)
  rw[Zt (k:=p a) (hp a ha) fun i _ hi=>by rw[if_neg (fun e=>hi e.symm),Int.zero_mul],if_pos rfl,Int.one_mul]
  rw[Zt (k:=q b) (hq b hb) fun j _ hj=>by rw[if_neg (fun e=>hj e.symm),Int.mul_zero],if_pos rfl,Int.mul_one]
 rw[e,Qam,Qam,h,Int.zero_mul,Int.mul_zero]
def pat (x y:Nat):Nat→Nat→Nat:=fun i j=>if (i+j) % 2=0 then x else y
theorem Qpl {M N x y U:Nat} {E:Mi} (hM:M≤5) (hN:N≤5) (hE:∀ i j,i<M→j<N→(E i j).natAbs≤pat x y i j) (hxy:y≤x) (h5:pm 5 (pat x y)≤U) (h4:∀ r,r≤4→pm r (fun _ _=>x)≤U):∃ u:Int,u≠0∧u.natAbs≤U∧Gm M N u E:=by
 by_cases hd:M=5∧N=5∧det 5 E≠0
 ·obtain⟨rfl,rfl,hd⟩:=hd
  refine⟨det 5 E,hd,Nat.le_trans (Qex hE) h5,?_⟩
  have:=Qom (m:=5) (n:=5) (r:=5) (E:=E) (p:=id) (q:=id) (fun a ha=>ha) (fun a ha=>ha) fun i j hi hj=>Qa9 (m:=5) (fun a ha=>by
   unfold ext
   by_cases h:a<5
   ·simp only[if_pos h];exact h
   ·simp only[if_neg h];exact hi) oq
  exact this
 ·obtain⟨r,p,q,_,hrM,hp,hq,hne,hz⟩:=Qjs (m:=M) (n:=N) (E:=E) (M+1) 0 id id oq (fun a ha=>absurd ha oq) (fun a ha=>absurd ha oq) (by rw[det];decide)
  have hrN:r≤N:=by
   refine Nat.le_of_not_lt fun hlt=>hne ?_
   rw[← Q31]
   exact Qa9 (E:=tr E) (p:=q) (q:=p) (m:=N) hq hlt
  have hr4:r≤4:=by
   refine Nat.le_of_not_lt fun hlt=>?_
   obtain rfl:r=5:=by omega
   obtain rfl:M=5:=by omega
   obtain rfl:N=5:=by omega
   refine hne (Qm1 hp hq ?_)
   exact Decidable.byContradiction fun h=>hd ⟨rfl,rfl,h⟩
  refine⟨_,hne,Nat.le_trans (Qex (B:=fun _ _=>x) fun i j hi hj=>?_) (h4 r hr4),Qom hp hq hz⟩
  refine Nat.le_trans (hE _ _ (hp i hi) (hq j hj)) ?_
  unfold pat
  split<;>omega

theorem Q2l {Q:SP} {t M N D B q p h e s ub ub2:Nat} {u:Int} {S:Sm} (h0:Dd Q t M N D u q p h e s ub S) (hub:ub≤ub2) (hs:∀ a b,0<a→a<M-t→0<b→b<N-t→(rest t S.d a b).natAbs<2 ^ B):PostS t M N D B ub2 u S :=
 ⟨⟨h0.c.b.dm,h0.c.b.bk,h0.c.b.su.mono (Nat.pow_le_pow_right dq hub)⟩,h0.cl,h0.cc,hs,h0.c.ev.g,h0.c.ev.nz⟩
theorem Q5b {x a b:Nat} (h:x≤2 ^ a) (hab:a<b):x<2 ^ b:=Nat.lt_of_le_of_lt h (Nat.pow_lt_pow_right dq hab)

structure Nmb (U hb B0 N0 b1 u1 Zm b2 u2 Vm b3 u3 u4 K:Nat):Prop where
 nU:U≤2 ^ hb
 nh:5≤hb∧hb≤40
 nc:N0+1≤B0∧N0≤6∧B0≤10∧1≤b1
 nk:∀ c,c≤N0→chk (b1-1) (N0-c) (c*B0+B0+c) ((c+1)*B0+B0+(c+1))=true∧chk (b1-1) (N0-c) ((c+1)*B0+B0+(c+1)) ((c+1)*B0+B0+(c+1))=true
 n1:2+4*(B0+1)+4*(b1-1+1)*(N0+10)≤u1
 nz:(13*(13*b1+11)+13*(hb+4)) ^ 9*(U ^ 4*27 ^ 6*81 ^ 3)<(Zm+1) ^ 9
 nl:100≤b1∧hb≤b1
 n2:Zm / 8<b2
 n3:u1+2+3*(b1+1)+3*(4*b1+3+1)+2*Zm≤u2
 nv:(225*(7*b2+5+hb+1)) ^ 15*(U ^ 4*22 ^ 4*3831 ^ 2)<(Vm+1) ^ 15
 nm:1000≤b2
 n4:Vm / 75<b3
 n5:9*(u2+2+2*(b2+1)+2*(3*b2+2+1))+18*(7*b2+5+hb+1)+Vm≤9*u3
 n6:u3+2+(b3+1)+(2*b3+1+1)+(2*hb+1)*(hb+5)≤u4
 kk:u4+100000<8*K
 k2:5*b3+5<8*K

section
variable {U hb B0 N0 b1 u1 Zm b2 u2 Vm b3 u3 u4 K M N D:Nat} {u:Int} (nm:Nmb U hb B0 N0 b1 u1 Zm b2 u2 Vm b3 u3 u4 K) (hM5:M≤5) (hN5:N≤5) (hu:u≠0) (huU:u.natAbs≤U) (hD:D<256 ^ K)
include nm hM5 hN5 hD
theorem Qkc (hB:B0=N0+1) {S:Sm} (hM:0<M) (hN:0<N) (h0:St0 0 M N D B0 2 u S):∃ S',stageF K (hb+3) 0 M N 5 S=some S'∧PostS 0 M N D b1 u1 u S':=by
 have h1:=nm.n1;have h2:=nm.n3;have h3:=nm.n5;have h4:=nm.n6;have h5:=nm.kk;have h6:=nm.nc;have h7:=nm.nh
 obtain⟨S',q',p',h',e',s',ub',g,hd,_,_⟩:=Q7x (K:=K) (F:=hb+2) (N0:=N0) (BM:=b1-1) (U0:=u1) hM hN oq oq h0 (by rw[← hB];exact h0.sz 0 0 oq oq) oq nm.nk oq oq oq oq hD oq 5 oq
 obtain⟨N',mu,p⟩:=hd.Q
 have hb2:=(Q5q p.c2).2
 have hpu:=p.u
 exact⟨S',g,Q2l hd oq fun a b ha0 ha hb0 hb=>Q5b (p.m a b ha0 ha hb0 hb) oq⟩
include hu huU
theorem Qkb {S:Sm} (hM:1<M) (hN:1<N) (h0:St0 1 M N D b1 (u1+2) u S):∃ S',stageF K (hb+3) 1 M N 5 S=some S'∧PostS 1 M N D b2 u2 u S':=by
 have h2:=nm.n3;have h3:=nm.n5;have h4:=nm.n6;have h5:=nm.kk;have h7:=nm.nh;have h8:=nm.nl;have h9:=nm.n2
 have hUb:=nm.nU
 have md:=Qpi (K:=K) (D:=D) (m:=M-1) (n:=N-1) (hb:=hb) (C:=(13*(13*b1+11)+13*(hb+4)) ^ 9*(U ^ 4*27 ^ 6*81 ^ 3)) (U0:=u1+2+3*(b1+1)+3*(4*b1+3+1)) (Zm:=Zm) oq oq nm.nz oq hD
 have hw:∀ h e s,h≤U→e≤6→s≤3→(13*(13*b1+11)+13*(hb+4)) ^ 9*Wtu h e s≤(13*(13*b1+11)+13*(hb+4)) ^ 9*(U ^ 4*27 ^ 6*81 ^ 3):=fun h e s h1 h2 h3=>by
  refine Nat.mul_le_mul_left _ ?_
  unfold Wtu
  exact Nat.mul_le_mul (Nat.mul_le_mul (Nat.pow_le_pow_left h1 4) (Nat.pow_le_pow_right dq h2)) (Nat.pow_le_pow_right dq h3)
 obtain⟨S',q',p',h',e',s',ub',g,hd,_,_⟩:=Ww (K:=K) (q:=3) (B1:=4*b1+3) (B2:=13*b1+11) (F:=hb+1) md hM hN oq oq oq oq h0 hu
  (by have:=Nat.mul_le_mul_right b1 (show M-1-1≤3 by omega);omega) (by have:=Nat.mul_le_mul_right (4*b1+3) (show N-1-2≤2 by omega);omega) oq oq oq hD (Nat.lt_of_le_of_lt (Nat.le_trans huU hUb) (Nat.pow_lt_pow_right dq oq))
  (fun h E h1 hh _ ha hm=>⟨13*b1+11,13*b1+11,13*(13*b1+11)+13*(hb+4),by omega,Nat.le_trans hh (Nat.le_trans huU hUb),ha,hm,by omega,by omega,hw _ _ _ oq oq oq,by omega,by omega⟩)
  (fun h E h1 hh _ hm=>⟨13*b1+11,13*(13*b1+11)+13*(hb+4),Nat.le_trans hh (Nat.le_trans huU hUb),hm,by omega,hw _ _ _ oq oq oq,by omega,by omega⟩) 5 oq
 obtain⟨mu,Z,p⟩:=hd.Q
 have hge:1≤h':=by have:=hd.c.ev.nz;have:=hd.c.hh;omega
 have hz:=z_le hge p.zc nm.nz
 have hpz:=p.zm
 have hpu:=p.u
 exact⟨S',g,Q2l hd oq fun a b ha0 ha hb0 hb=>Q5b (p.m a b ha0 ha hb0 hb) oq⟩
theorem Qka {S:Sm} (hM:2<M) (hN:2<N) (h0:St0 2 M N D b2 (u2+2) u S):∃ S',stageF K (hb+3) 2 M N 5 S=some S'∧PostS 2 M N D b3 u3 u S':=by
 have h3:=nm.n5;have h4:=nm.n6;have h5:=nm.kk;have h7:=nm.nh;have h8:=nm.nl;have h9:=nm.n4;have h10:=nm.nm
 have hUb:=nm.nU
 have md:=Qpk (K:=K) (D:=D) (m:=M-2) (n:=N-2) (C:=(225*(7*b2+5+hb+1)) ^ 15*(U ^ 4*22 ^ 4*3831 ^ 2)) (U0:=9*(u2+2+2*(b2+1)+2*(3*b2+2+1))+18*(7*b2+5+hb+1)) (Vm:=Vm) oq oq nm.nv oq hD
 have hw:∀ h e s,h≤U→e≤4→s≤2→(225*(7*b2+5+hb+1)) ^ 15*Wm h e s≤(225*(7*b2+5+hb+1)) ^ 15*(U ^ 4*22 ^ 4*3831 ^ 2):=fun h e s h1 h2 h3=>by
  refine Nat.mul_le_mul_left _ ?_
  unfold Wm
  exact Nat.mul_le_mul (Nat.mul_le_mul (Nat.pow_le_pow_left h1 4) (Nat.pow_le_pow_right dq h2)) (Nat.pow_le_pow_right dq h3)
 have hnb:∀ h a b x,h≤U→x≤2 ^ (7*b2+5)→h*x≤2 ^ nb (7*b2+5+hb) 0 0 a b:=fun h a b x h1 h2=>by
  have:nb (7*b2+5+hb) 0 0 a b=hb+(7*b2+5):=by unfold nb;split<;>split<;>omega
  rw[this,Nat.pow_add]
  exact Nat.mul_le_mul (Nat.le_trans h1 hUb) h2
 obtain⟨S',q',p',h',e',s',ub',g,hd,_,_⟩:=Ww (K:=K) (q:=2) (B1:=3*b2+2) (B2:=7*b2+5) (F:=hb+1) md hM hN oq oq oq oq h0 hu
  (by have:=Nat.mul_le_mul_right b2 (show M-2-1≤2 by omega);omega) (by have:=Nat.mul_le_mul_right (3*b2+2) (show N-2-2≤1 by omega);omega) oq oq oq hD (Nat.lt_of_le_of_lt (Nat.le_trans huU hUb) (Nat.pow_lt_pow_right dq oq))
  (fun h E h1 hh _ ha hm=>⟨7*b2+5+hb,0,0,0,225*(7*b2+5+hb+1),Nat.le_trans hh (Nat.le_trans huU (Nat.le_trans hUb (Nat.pow_le_pow_right dq oq))),fun a ha0 ha1=>Nat.le_trans (ha a ha0 ha1) (Nat.pow_le_pow_right dq oq),fun a b ha0 ha1 hb0 hb1=>hnb _ _ _ _ (Nat.le_trans hh huU) (hm a b ha0 ha1 hb0 hb1),.inl ⟨rfl,by omega⟩,hw _ _ _ oq oq oq,by omega,by omega⟩)
  (fun h E h1 hh _ hm=>⟨7*b2+5+hb,0,0,225*(7*b2+5+hb+1),Nat.le_trans hh (Nat.le_trans huU (Nat.le_trans hUb (Nat.pow_le_pow_right dq oq))),fun a b ha0 ha1 hb0 hb1=>hnb _ _ _ _ (Nat.le_trans hh huU) (hm a b ha0 ha1 hb0 hb1),by omega,hw _ _ _ oq oq oq,by omega,by omega⟩) 5 oq
 obtain⟨ze,r,c,V,p⟩:=hd.Q
 have hge:1≤h':=by have:=hd.c.ev.nz;have:=hd.c.hh;omega
 have hz:=v_le hge p.vc nm.nv
 have hpv:=p.v
 have hpu:=p.u
 refine⟨S',g,Q2l hd oq fun a b ha0 ha hb0 hb1=>?_⟩
 have h11:=p.m a b ha0 ha hb0 hb1
 refine Q5b (a:=ze+r+c) ?_ oq
 exact Nat.le_trans (Nat.le_mul_of_pos_left _ hge) (Nat.le_trans h11 (Nat.pow_le_pow_right dq Qo6))
theorem Qk9 {S:Sm} (hM:3<M) (hN:3<N) (h0:St0 3 M N D b3 (u3+2) u S):∃ S',stageF K (hb+3) 3 M N 5 S=some S'∧PostS 3 M N D (hb+1) u4 u S':=by
 have h4:=nm.n6;have h5:=nm.kk;have h7:=nm.nh;have h8:=nm.k2
 have hUb:=nm.nU
 have huh:=Nat.le_trans huU hUb
 have md:=Qob (K:=K) (D:=D) (m:=M-3) (n:=N-3) (hb:=hb) (U0:=u4) hu huh oq oq oq oq hD
 have hs:∀ s,s≤1→u3+2+1*(b3+1)+1*(2*b3+1+1)+(2*hb+1)*(hb+2*s+2)≤u4:=fun s hs=>by
  have:=Nat.mul_le_mul_left (2*hb+1) (show hb+2*s+2≤hb+5 by omega)
  omega
 obtain⟨S',q',p',h',e',s',ub',g,hd,_,_⟩:=Ww (K:=K) (q:=1) (B1:=2*b3+1) (B2:=3*b3+1) (F:=hb+1) md hM hN oq oq oq oq h0 hu
  (by have:=Nat.mul_le_mul_right b3 (show M-3-1≤1 by omega);omega) (by rw[show N-3-2=0 by omega];omega) oq oq oq hD (Nat.lt_of_le_of_lt huh (Nat.pow_lt_pow_right dq oq))
  (fun h E h1 hh hW ha hm => by
   obtain⟨W,w1,w2,w3,w4⟩:=hW
   obtain⟨c1,c2⟩:=Qc4 hu oq oq oq w1 w2 w3 w4
   exact⟨c1,fun a ha0 ha1=>Nat.le_trans (c2 a ha0 ha1) (Nat.le_trans huh (Nat.pow_le_pow_right dq oq)),hh,hb,Nat.lt_of_le_of_lt (Nat.le_trans hh huh) (Nat.pow_lt_pow_right dq oq),hs _ oq⟩)
  (fun h E h1 hh hg hm => ⟨hg, hh, hb, Nat.lt_of_le_of_lt (Nat.le_trans hh huh) (Nat.pow_lt_pow_right dq oq), by
   have:=hs (M-3-1) oq
   have h9:=Nat.mul_le_mul_left (2*hb+1) (show hb+2*(M-3-1)+1≤hb+2*(M-3-1)+2 by omega)
   omega⟩) 5 oq
 obtain⟨q1,q2,N',q3,q4⟩:=hd.Q
 refine⟨S',g,Q2l hd oq fun a b ha0 ha hb0 hb1=>?_⟩
 obtain rfl:a=1:=by omega
 obtain rfl:b=1:=by omega
 obtain rfl:M=5:=by omega
 obtain rfl:N=5:=by omega
 exact Q5b (Nat.le_trans (Qei hu q1 hd.c.ev.nz (hd.cc 1 oq oq)) huh) oq
theorem Qk8 {S:Sm} (hM:4<M) (hN:4<N) (h0:St0 4 M N D (hb+1) (u4+2) u S):∃ S',stageF K (hb+3) 4 M N 5 S=some S'∧PostS 4 M N D (hb+1) (u4+10000) u S':=by
 have h5:=nm.kk;have h7:=nm.nh
 have hUb:=nm.nU
 have huh:=Nat.le_trans huU hUb
 have md:=Qob (K:=K) (D:=D) (m:=M-4) (n:=N-4) (hb:=hb) (U0:=u4+10000) hu huh oq oq oq oq hD
 have hs:u4+2+0*(hb+1+1)+0*(hb+1+1)+(2*hb+1)*(hb+2*(M-4-1)+2)≤u4+10000:=by
  rw[show M-4-1=0 by omega]
  have:=Nat.mul_le_mul (show 2*hb+1≤81 by omega) (show hb+2*0+2≤42 by omega)
  omega
 obtain⟨S',q',p',h',e',s',ub',g,hd,_,_⟩:=Ww (K:=K) (q:=0) (B1:=hb+1) (B2:=2*hb+2) (F:=hb+1) md hM hN oq oq oq oq h0 hu
  (by rw[show M-4-1=0 by omega];omega) (by rw[show N-4-2=0 by omega];omega) oq oq oq hD (Nat.lt_of_le_of_lt huh (Nat.pow_lt_pow_right dq oq))
  (fun h E h1 hh hW ha hm => by
   obtain⟨W,w1,w2,w3,w4⟩:=hW
   obtain⟨c1,c2⟩:=Qc4 hu oq oq oq w1 w2 w3 w4
   exact⟨c1,fun a ha0 ha1=>absurd ha1 oq,hh,hb,Nat.lt_of_le_of_lt (Nat.le_trans hh huh) (Nat.pow_lt_pow_right dq oq),hs⟩)
  (fun h E h1 hh hg hm => ⟨hg, hh, hb, Nat.lt_of_le_of_lt (Nat.le_trans hh huh) (Nat.pow_lt_pow_right dq oq), by
   have h9:=Nat.mul_le_mul_left (2*hb+1) (show hb+2*(M-4-1)+1≤hb+2*(M-4-1)+2 by omega)
   omega⟩) 5 oq
 obtain⟨q1,q2,N',q3,q4⟩:=hd.Q
 exact⟨S',g,Q2l hd oq fun a b ha0 ha hb0 hb1=>absurd ha oq⟩
end

theorem Qep {U hb B0 N0 b1 u1 Zm b2 u2 Vm b3 u3 u4 K M N:Nat} {u:Int} {a:List (List Int)} (nm:Nmb U hb B0 N0 b1 u1 Zm b2 u2 Vm b3 u3 u4 K) (hB0:B0=N0+1) (hM5:M≤5) (hN5:N≤5) (hu:u≠0) (huU:u.natAbs≤U) (ha:Rec M N a) (hs:∀ i j,i<M→j<N→(gE a i j).natAbs<2 ^ B0) (hg:Gm M N u (gE a))
  (hdm:Dm M N (startS M N a)) (hsu:SzU 1 M N (startS M N a)):∃ S',formF K (hb+3) 5 M N (min M N) 0 (startS M N a)=some S':=by
 have h1:=nm.n1;have h2:=nm.n3;have h3:=nm.n5;have h4:=nm.n6;have h5:=nm.kk;have h6:=nm.nc;have h7:=nm.nh;have h8:=nm.k2;have h9:=nm.nl;have h10:=nm.nm
 have hD:U<256 ^ K:=Nat.lt_of_le_of_lt nm.nU (QN oq)
 have hr:rest 0 (startS M N a).d=gE a:=by
  funext i j
  show gE a (0+i) (0+j)=gE a i j
  rw[Nat.zero_add,Nat.zero_add]
 refine Qeo (D:=U) hu huU hD (fun t=>if t=0 then B0 else if t=1 then b1 else if t=2 then b2 else if t=3 then b3 else hb+1) (fun t=>if t=0 then 0 else if t=1 then u1 else if t=2 then u2 else if t=3 then u3 else if t=4 then u4 else u4+10000) ?_ ?_ ?_ (min M N) 0 _ oq ?_
 ·intro t _ _
  skip
  split
  ·omega
  ·split
   ·omega
   ·split
    ·omega
    ·split<;>omega
 ·intro t _ _
  skip
  split
  ·omega
  ·split
   ·omega
   ·split
    ·omega
    ·split
     ·omega
     ·split<;>omega
 ·intro t S hM hN h0
  have ht:t=0∨t=1∨t=2∨t=3∨t=4:=by omega
  rcases ht with rfl|rfl|rfl|rfl|rfl
  ·exact Qkc nm hM5 hN5 hD hB0 hM hN h0
  ·exact Qkb nm hM5 hN5 hu huU hD hM hN h0
  ·exact Qka nm hM5 hN5 hu huU hD hM hN h0
  ·exact Qk9 nm hM5 hN5 hu huU hD hM hN h0
  ·exact Qk8 nm hM5 hN5 hu huU hD hM hN h0
 ·exact {
   b:=⟨hdm,⟨fun a b _ _ _ h=>absurd h oq,fun a _ _ h=>absurd h oq⟩,hsu⟩
   sz:=fun i j hi hj=>by rw[hr];exact hs i j hi hj
   g:=by rw[hr];exact hg }
theorem Qpg {K:Nat} (hK:1466761996654≤K):Nmb 8100000 23 4 3 104 5430 827561200 103445151 1655129407 77626091574967 1035014554333 8629052208905 11734095873225 K :=
 ⟨by decide,by decide,by decide,by decide,by decide,by decide,by decide,by decide,by decide,by decide,by decide,by decide,by decide,by decide,by omega,by omega⟩
theorem Qo3:pm 5 (pat 12 6)≤8100000∧∀ r,r≤4→pm r (fun _ _=>12)≤8100000:=⟨by decide,by decide⟩
theorem Qlv {K M N:Nat} {a:List (List Int)} (hK:1466761996654≤K) (hM5:M≤5) (hN5:N≤5) (ha:Rec M N a) (hs:∀ i j,i<M→j<N→(gE a i j).natAbs≤pat 12 6 i j) (hdm:Dm M N (startS M N a)) (hsu:SzU 1 M N (startS M N a)):∃ S',formF K 26 5 M N (min M N) 0 (startS M N a)=some S':=by
 obtain⟨u,hu,huU,hg⟩:=Qpl (E:=gE a) hM5 hN5 hs dq Qo3.1 Qo3.2
 refine Qep (Qpg hK) rfl hM5 hN5 hu huU ha (fun i j hi hj=>?_) hg hdm hsu
 have:=hs i j hi hj
 unfold pat at this
 split at this<;>omega

theorem Qek:∀ {n:Nat},n≤5→gM n n (oneL n)=oneZ n
 | 0,_=>(by kernel_rfl:gM 0 0 (oneL 0)=oneZ 0)
 | 1,_=>(by kernel_rfl:gM 1 1 (oneL 1)=oneZ 1)
 | 2,_=>(by kernel_rfl:gM 2 2 (oneL 2)=oneZ 2)
 | 3,_=>(by kernel_rfl:gM 3 3 (oneL 3)=oneZ 3)
 | 4,_=>(by kernel_rfl:gM 4 4 (oneL 4)=oneZ 4)
 | 5,_=>(by kernel_rfl:gM 5 5 (oneL 5)=oneZ 5)
 | n+6,h=>absurd h oq
theorem Qi4:∀ {n:Nat},n≤5→formF 2 26 5 n n (min n n) 0 (startS n n (rowsOf (oneZ n)))=some (startS n n (oneL n))
 | 0,_=>(by kernel_rfl:formF 2 26 5 0 0 (min 0 0) 0 (startS 0 0 (rowsOf (oneZ 0)))=some (startS 0 0 (oneL 0)))
 | 1,_=>(by kernel_rfl:formF 2 26 5 1 1 (min 1 1) 0 (startS 1 1 (rowsOf (oneZ 1)))=some (startS 1 1 (oneL 1)))
 | 2,_=>(by kernel_rfl:formF 2 26 5 2 2 (min 2 2) 0 (startS 2 2 (rowsOf (oneZ 2)))=some (startS 2 2 (oneL 2)))
 | 3,_=>(by kernel_rfl:formF 2 26 5 3 3 (min 3 3) 0 (startS 3 3 (rowsOf (oneZ 3)))=some (startS 3 3 (oneL 3)))
 | 4,_=>(by kernel_rfl:formF 2 26 5 4 4 (min 4 4) 0 (startS 4 4 (rowsOf (oneZ 4)))=some (startS 4 4 (oneL 4)))
 | 5,_=>(by kernel_rfl:formF 2 26 5 5 5 (min 5 5) 0 (startS 5 5 (rowsOf (oneZ 5)))=some (startS 5 5 (oneL 5)))
 | n+6,h=>absurd h oq
theorem Qlx:∀ {n:Nat},n≤5→(facP (oneL n) (min n n)).length=n
 | 0,_=>(by kernel_rfl:(facP (oneL 0) (min 0 0)).length=0)
 | 1,_=>(by kernel_rfl:(facP (oneL 1) (min 1 1)).length=1)
 | 2,_=>(by kernel_rfl:(facP (oneL 2) (min 2 2)).length=2)
 | 3,_=>(by kernel_rfl:(facP (oneL 3) (min 3 3)).length=3)
 | 4,_=>(by kernel_rfl:(facP (oneL 4) (min 4 4)).length=4)
 | 5,_=>(by kernel_rfl:(facP (oneL 5) (min 5 5)).length=5)
 | n+6,h=>absurd h oq
theorem Qew {n i:Nat} (hi:i<n):diaR (oneZ n) i=1:=by
 unfold diaR
 rw[if_pos (show i<(oneZ n).c from hi),show (oneZ n).at i i=idI i i from Q90 hi hi]
 exact if_pos rfl
theorem Qbv {n:Nat} (cs:List Int):wrongF (oneZ n) cs=none:=by
 unfold wrongF
 refine List.find?_eq_none.2 fun i hi=>?_
 have hi:i<n:=List.mem_range.1 hi
 rw[Qew hi]
 simp
theorem Qg8 {n:Nat} {xs:List Int} (hn:n≤200) (h:xs.length=n):appL (oneZ n) xs=xs:=by
 subst h
 rw[← Q8a]
 show (mulZ (oneZ (colZ xs).r) (colZ xs)).e=xs
 rw[Qhj (a:=colZ xs) (Q8k hn)]
 rfl
theorem Qgl {n:Nat} {xs:List Int} (h:xs.length=n):solS (oneZ n) xs n (List.range n)=xs:=by
 unfold solS
 rw[Zo (g':=fun i=>xs.getD i 0) (fun i hi=>by
  rw[if_pos (List.mem_range.2 hi)]
  unfold solE
  rw[Qew hi,if_neg dq,Int.ediv_one]),Qcc h]
theorem Qf0 {n:Nat} {b:ZM} (hn:n≤5) (hb:RtZ b) (h:b.r=n):corZ (startS n n (oneL n)) (oneZ n) b=b:=by
 subst h
 have h1:∀ j,(colL b j).length=b.r:=fun j=>Xj _ _
 unfold corZ
 rw[← Q8z hb]
 unfold zof
 rw[show (ZM.mk b.r b.c (tbz b.r b.c b.at)).c=b.c from rfl]
 refine congrArg _ (QO fun i j hi hj=>?_)
 rw[show (ZM.mk b.r b.c (tbz b.r b.c b.at))=b from Q8z hb]
 unfold corE solV
 rw[show (oneZ b.r).r=b.r from rfl,show (oneZ b.r).c=b.r from rfl]
 show (appL (gM b.r b.r (oneL b.r)) (solS (gM b.r b.r (oneL b.r)) (appL (gM b.r b.r (oneL b.r)) (colL b j)) b.r (List.range b.r))).getD i 0=b.at i j
 rw[Qek hn,Qg8 oq (h1 j),Qgl (h1 j),Qg8 oq (h1 j)]
 exact ZG hi

theorem Qkh (X:List (List Int)) (i j:Nat):(smE X 1 i j).natAbs≤pat 12 6 i j:=by
 unfold smE pat
 split<;>omega
theorem Qkf (X:List (List Int)) (i j:Nat):(((smX X 1).getD i []).getD j 0).natAbs≤pat 12 6 i j:=by
 by_cases h:i<min X.length 5
 ·rw[Q4u h]
  unfold smRow
  by_cases hj:j<smN X i
  ·rw[ZG hj];exact Qkh X i j
  ·rw[List.getD,List.getElem?_eq_none (by rw[Xj];omega)];exact Nat.zero_le _
 ·rw[Q7z h];exact Nat.zero_le _
theorem Qd5 {m:ZM} (h:RtZ m):Rec m.r m.c (rowsOf m):=⟨by simp[rowsOf],fun x hx=>by
 obtain⟨i,hi,rfl⟩:=List.mem_map.1 hx
 exact XQ h (List.mem_range.1 hi)⟩
theorem Qi2 {m:ZM} {i j:Nat} (hi:i<m.r) (hj:j<m.c):gE (rowsOf m) i j=m.at i j:=by
 have h1:(rowsOf m).getD i []=rowI m i:=ZG hi
 unfold gE
 rw[h1]
 exact Wz hj
theorem Qlu (X:List (List Int)) {K:Nat} (hK:1466761996654≤K+1):∃ S',formF (K+1) 26 5 (ofZ (smX X 1)).r (ofZ (smX X 1)).c (min (ofZ (smX X 1)).r (ofZ (smX X 1)).c) 0 (startS (ofZ (smX X 1)).r (ofZ (smX X 1)).c (rowsOf (ofZ (smX X 1))))=some S':=by
 have ht:=Qnc X 1
 have hR:Rec (ofZ (smX X 1)).r (ofZ (smX X 1)).c (rowsOf (ofZ (smX X 1))):=Qd5 ht
 refine Qlv hK (sm_r X 1) (sm_c X 1) hR (fun i j hi hj=>?_) (Qgk hR) (Qci _ _ _)
 rw[Qi2 hi hj]
 show ((zof (smX X 1).length (ofC (smX X 1) (smX X 1).length) (ofE (smX X 1))).at i j).natAbs≤_
 rw[Q90 (show i<(smX X 1).length from hi) (show j<ofC (smX X 1) (smX X 1).length from hj)]
 exact Qkf X i j


theorem Q3b (w:World) (v u:Value) (a b:XM) (ha:IsX w v a) (hb:IsX w u b) (hl:a.E.length<1000000000) (hl':b.E.length<1000000000) :
  Calls Tryz.prog 18 #[v,u] w (Ret fun v w'=>Kp [] w w'∧IsB (RX a∧a=b) v):=by
 have ha0:=ha
 have hb0:=hb
 obtain⟨E,rfl,hE⟩:=ha
 obtain⟨E',rfl,hE'⟩:=hb
 refine Q9 [] [] spq [] Tryz.func18 rfl mixed (by kernel_rfl) Tryz.ntmps18 Tryz.results18 rfl ⟨by simp,by simp⟩ spq ?_
 simp only[toS,textOps,toSOp,kindAt,kindOf,odAt,sopsAt,ordOf,zipF]
 have hR:=WX.rd (c:=⟨Tryz.prog,50,w,[],by simp⟩) hE rfl []
 have hR':=WX.rd (c:=⟨Tryz.prog,50,w,[],by simp⟩) hE' rfl []
 repeat' first|apply jS|apply jO|apply jN|refine Q0 ?_|refine Q7 ?_|refine Qt fun _=>?_|apply jT
 rename_i b2 b3
 refine Q6 pqq rfl eqq rfl (fun w hk _=>Zs w _ a (ha0.mono hk) hl) fun w v w' _ _ _ hc0=>?_
 obtain⟨y1,rfl,hy1⟩:=hc0
 repeat' first|apply jS|apply jO|apply jN|refine Q0 ?_|refine Q7 ?_|apply jT
 refine Q6 pqq rfl eqq rfl (fun w hk _=>Zs w _ b (hb0.mono hk) hl') fun w v w' _ _ _ hc0=>?_
 obtain⟨y2,rfl,hy2⟩:=hc0
 cases y1<;>cases y2
 ·repeat' first|apply jS|apply jO|apply jN|apply jT|refine Q1 ?_|refine Q0 ?_|refine Ql ?_|refine QP (h:=?_)|apply jV|refine Q8 rfl ?_|refine QJ (h:=?_)|apply jR
  exact Qh rfl (fun a w' st=>⟨st.kp,IsB.f (fun h=>by cases hy1.2 h.1)⟩)
 ·repeat' first|apply jS|apply jO|apply jN|apply jT|refine Q1 ?_|refine Q0 ?_|refine Ql ?_|refine QP (h:=?_)|apply jV|refine Q8 rfl ?_|refine QJ (h:=?_)|apply jR
  exact Qh rfl (fun a w' st=>⟨st.kp,IsB.f (fun h=>by cases hy1.2 h.1)⟩)
 ·repeat' first|apply jS|apply jO|apply jN|apply jT|refine Q1 ?_|refine Q0 ?_|refine Ql ?_|refine Qx (h:=?_)|refine QP (h:=?_)|apply jV|refine Q8 rfl ?_|refine QJ (h:=?_)|apply jR
  exact Qh rfl (fun a w' st=>⟨st.kp,IsB.f (fun h=>by cases hy2.2 (h.2▸h.1))⟩)
 ·have g1:=(hy1.1 rfl)
  have g2:=(hy2.1 rfl)
  repeat' first|apply jS|apply jO|apply jN|apply jT|refine Q1 ?_|refine Q3 ?_|refine Q0 ?_|refine Qb ?_|refine Ql ?_|refine Qx (h:=?_)|refine QP (h:=?_)|(refine Z5 (h1:=?_) (h2:=?_)<;>intro hc<;>try (exfalso;omega))|apply jV|apply jK|apply jR|refine Q8 rfl ?_|refine Q4 rfl ?_|refine QJ (h:=?_)|apply jB
  all_goals first
   | exact Qh rfl (fun a w' st=>⟨st.kp,IsB.f fun h=>by have h2:=h.2;subst h2;omega⟩)
   | skip
  have hRC:a.R=b.R∧a.C=b.C:=⟨by omega,by omega⟩
  have hn:a.E.length=b.E.length:=by
   obtain⟨m,hm,rfl⟩:=g1
   obtain⟨n,hn,rfl⟩:=g2
   have e1:m.r=n.r:=by have:(m.r:Int)=n.r:=hRC.1;omega
   have e2:m.c=n.c:=by have:(m.c:Int)=n.c:=hRC.2;omega
   show (m.e.map wz).length=(n.e.map wz).length
   rw[List.length_map,List.length_map,hm.len,hn.len,e1,e2]
  refine Qi (ι:=Nat) ⟨fun i=>[(7,nv i),(2,.pointer (some ⟨b2,0,none⟩)),(3,.pointer (some ⟨b3,0,none⟩))],fun _=>[(b3,.cells #[iv b.R,iv b.C,E'] 26),(b2,.cells #[iv a.R,iv a.C,E] 26)],
   fun i=>i≤a.E.length∧∀ j,j<i→a.E.getD j w0x=b.E.getD j w0x,fun i=>a.E.length-i⟩ 0 ⟨by omega,fun j h=>by omega⟩ cqq (HSub.refl _) (fun i hi=>?_)
  obtain⟨hin,hpr⟩:=hi
  dsimp only at hin hpr ⊢
  by_cases hlt:i<a.E.length
  ·have hlt2:i<b.E.length:=by omega
   repeat' first|apply jS|apply jO|apply jD|apply jN|apply jT|refine Q1 ?_|refine Q3 ?_|refine Qb ?_|refine Q2g (h:=?_)|refine Qky (h:=?_)|refine Q0p (h:=?_)|(refine Qk (h1:=?_) (h2:=?_)<;>intro hc<;>try (exfalso;omega))|apply jK|refine Q8 rfl ?_|apply jB
   refine Qpf rfl rfl rfl rfl ?_
   by_cases he:a.E.getD i w0x=b.E.getD i w0x
   ·rw[he]
    simp only[BEq.rfl,decide_true,Bool.and_self,Bool.not_true]
    repeat' first|apply jO|apply jN|apply jT|refine Q1 ?_|refine Q0 ?_|refine Qg ?_|apply jK|refine Q4 rfl ?_|apply jW
    refine Qa (i+1) ⟨by omega,fun j h=>?_⟩ dgq cqq (HSub.refl _)
    rcases Nat.lt_or_ge j i with h'|h'
    ·exact hpr j h'
    ·have:j=i:=by omega
     subst this;exact he
   ·have hb:(!((a.E.getD i w0x).1 == (b.E.getD i w0x).1 && decide ((a.E.getD i w0x).2=(b.E.getD i w0x).2)))=true:=by
     simp only[Bool.not_eq_true',Bool.and_eq_false_iff]
     by_cases h1:(a.E.getD i w0x).1=(b.E.getD i w0x).1
     ·refine .inr ?_
      simp only[decide_eq_false_iff_not]
      exact fun h2=>he (Prod.ext h1 h2)
     ·exact .inl (by simpa using h1)
    rw[hb]
    repeat' first|apply jS|apply jO|apply jN|apply jT|refine Q0 ?_|apply jV|apply jR|refine Q8 rfl ?_|refine QH ?_
    exact Qh rfl (fun a w' st=>⟨st.kp,IsB.f (fun h=>he (by rw[h.2]))⟩)
  ·repeat' first|apply jS|apply jO|apply jN|apply jT|refine Q1 ?_|refine Q3 ?_|refine Q0 ?_|refine Qb ?_|refine Q0p (h:=?_)|(refine Qk (h1:=?_) (h2:=?_)<;>intro hc<;>try (exfalso;omega))|apply jU|apply jE|apply jR|refine Q4 rfl ?_|refine Qe ?_
   exact Qh rfl (fun a' w' st=>⟨st.kp,IsB.t ⟨g1,XM.ext' oq oq (Q5j (d:=w0x) hn (fun j hj=>hpr j oq))⟩⟩)


section
variable {c:Cx} {Q:Exit→Act→World→Prop} {m:Mode} {F:SFrame} {H:SHeap} {r:List SOp} {g:Option (Option Tmp × Bool)} {ns:Bool} {d:Tmp} {ty t t':TypeId} {x y:Operand}
theorem Qdm {s:TypeId} {fs:Array Field} {fl:Field} {f:Nat} {vs:Array Value} {v:Value} (hu:c.P.underlying s=some (.struct fs)) (hf:fs[f]?=some fl) (ht:T1 c.P fl.type) (hd:dstOk c.n (some d)=true) (hg:guardF F g=some true) (hx:ev F x=some (.agg vs)) (hv:vs[fl.offset]?=some v)
  (h:JO c Q m r ((d,v)::F) H):JO c Q m (⟨some d,.field s x f,ty,g,.mov,ns⟩::r) F H :=
 Zz hd hg (fun a w fr=>by
  simp only[execOp,fr.ev hx,Instr.field,Sem.run_bind,run_underlying hu,Result.andThen_ok,hf,asAgg,Sem.run_pure,part,T1.agg,Bool.false_eq_true,if_false,hv]) h

end

end Go.Proofs.YtljmapfihjkafaaGreatDoor

