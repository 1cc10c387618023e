import Derived.Test.YtljmapfihjkafaaGreatDoorMn
import Derived.Test.YtljmapfihjkafaaGreatDoorMi
import Derived.Test.YtljmapfihjkafaaGreatDoorMl
import Derived.Test.YtljmapfihjkafaaGreatDoorMm
import Derived.Test.YtljmapfihjkafaaGreatDoorMg
import Derived.Test.YtljmapfihjkafaaGreatDoorMc
set_option maxHeartbeats 16000000
namespace Go.Proofs.YtljmapfihjkafaaGreatDoor
open Go Go.RowKit
set_option linter.unusedSimpArgs false
set_option linter.unusedVariables false
set_option linter.unusedSectionVars false

structure St0 (t M N D B ub:Nat) (u:Int) (S:Sm):Prop where
 b:Bsz t M N D ub S
 sz:∀ a b,a<M-t→b<N-t→(rest t S.d a b).natAbs<2 ^ B
 g:Gm (M-t) (N-t) u (rest t S.d)
 nz:rest t S.d 0 0≠0
theorem Qlw {m n:Nat} {u:Int} {E:Mi} (h:E 0 0≠0) (hg:Gm m n u E):Evi m n u 0 0 E:=⟨h,hg,fun _ _=>.inl rfl,fun _ _=>.inl rfl⟩
theorem Q3z {B j:Nat} (c:Nat) (hj:j≤c+1):wB (2 ^ B) (2 ^ B) j≤2 ^ (c*B+B+c):=by
 have h2:=Xs (A:=2 ^ B) (X:=2 ^ B) (Nat.pow_pos dq) (c+1-j) j
 rw[show j+(c+1-j)=c+1 by omega]at h2
 exact V0 h2 (Q2q c)
theorem Q54 {K D t M N B ub q:Nat} {u:Int} {S:Sm} (hM:t<M) (hN:t<N) (hm:M-t≤5) (hq:M-t-1≤q) (h0:St0 t M N D B ub u S) (hK:5*B+5<8*K) (hU:ub+q*(B+1)<8*K) (hD:D<256 ^ K) :
  ∃ S1,rowP K t (M-(t+1)) (t+1) S=some S1∧rest t S1.d=aJ (M-t-1) (rest t S.d)∧Bsz t M N D (ub+q*(B+1)) S1∧Evi (M-t) (N-t) u 0 0 (rest t S1.d)∧fV (M-t) (tr (rest t S1.d)) ∧
   (∀ b,0<b→b<N-t→(rest t S1.d 0 b).natAbs≤2 ^ (dJ (rest t S.d) (M-t-1)*B+B+dJ (rest t S.d) (M-t-1))) ∧
   (∀ a b,0<a→a<M-t→0<b→b<N-t→(rest t S1.d a b).natAbs≤wB (2 ^ B) (2 ^ B) (eF (rest t S.d) 1 (M-t-1))):=by
 have hA1:1≤2 ^ B:=Nat.pow_pos dq
 have iM:PBd (M-t) (N-t) (2 ^ B) (2 ^ B) (2 ^ B) (2 ^ B) 1 (rest t S.d):=⟨h0.nz,hA1,hA1,by rw[Nat.pow_one];exact V8 _,Nat.le_of_lt (h0.sz 0 0 oq oq),fun a _ ha=>Nat.le_of_lt (h0.sz a 0 ha oq),fun a b _ ha _ hb=>Nat.le_of_lt (h0.sz a b ha hb),fun b _ hb=>by
  unfold wB;rw[Nat.sub_self,Nat.pow_zero,Nat.one_mul];simpa using Nat.le_of_lt (h0.sz 0 b oq hb)⟩
 have hcn:=Xm (rest t S.d) (M-t-1)
 have hrix:eF (rest t S.d) 1 (M-t-1)≤M-t-1+1:=by unfold eF;split<;>omega
 have hub:(2*max (2 ^ B) (2 ^ B)) ^ (M-t-1)*2 ^ ub≤2 ^ (ub+q*(B+1)):=by
  rw[Nat.max_self,show 2*2 ^ B=2 ^ (B+1) by rw[Va];omega, ← Nat.pow_mul, ← Nat.pow_add]
  refine V4 dq ?_
  have:=V3 (B+1) hq
  rw[Vc (B+1) q]at this
  omega
 have hKB:KBd K (M-t) (2 ^ B) (2 ^ B) (2 ^ B) (2 ^ B) 1 (2 ^ ub) D (rest t S.d):=⟨QR oq,QR oq,QR oq,by
  refine V5 (Q3z (M-t-1) hrix) (QR ?_)
  have:=V1 B (show M-t-1≤4 by omega)
  omega,V5 hub (QR hU),hD⟩
 obtain⟨S1,h1,d1,r1,u1,b1⟩:=Qam h0.b.dm hM iM h0.b.su h0.b.bk hKB (M-t-1) oq
 rw[show M-t-1=M-(t+1) by omega]at h1
 refine⟨S1,h1,r1,⟨d1,b1,u1.mono hub⟩,by rw[r1];exact Qlw (Zw h0.nz _) (Q2e h0.g h0.nz oq),by rw[r1];exact fun a ha0 ha=>Yy h0.nz ha0 oq,fun b hb0 hb=>?_,fun a b ha0 ha hb0 hb=>?_⟩
 ·rw[r1]
  have:=(iM.sz hb0 hb (M-t-1) oq).1
  exact V0 this (Q3z _ (V8 _))
 ·rw[r1]
  exact(iM.sz hb0 hb (M-t-1) oq).2 a ha0 oq

theorem Qaf {K D t M N B ub N0 BM U0 F:Nat} {u:Int} {S:Sm} (hM:t<M) (hN:t<N) (hm:M-t≤5) (hn:N-t≤5) (h0:St0 t M N D B ub u S) (hh:(rest t S.d 0 0).natAbs<2 ^ (N0+1)) (hB:N0+1≤B)
  (hchk:∀ c,c≤N0→chk BM (N0-c) (c*B+B+c) ((c+1)*B+B+(c+1))=true∧chk BM (N0-c) ((c+1)*B+B+(c+1)) ((c+1)*B+B+(c+1))=true)
  (hU0:ub+4*(B+1)+4*(BM+1)*(N0+10)≤U0) (hK:U0<8*K) (hK2:5*B+5<8*K) (hK3:2*BM+10<8*K) (hD:D<256 ^ K) (hF:N0+1≤F) :
  ∀ f,5≤f→∃ S' q' p' h' e' s' dY,Zz K (F+1) t M N f S=some S'∧Dd (Qo BM U0) t M N D u q' p' h' e' s' dY S'∧h'≤(rest t S.d 0 0).natAbs∧∀ a b,a<M-t→b<N-t→rest t S'.d 0 0∣rest t S'.d a b:=fun f hf=>by
 obtain⟨S1,g1,r1,bs1,ev1,cl1,z1,z2⟩:=Q54 (K:=K) (q:=4) hM hN hm oq h0 hK2 oq hD
 have md:=Qtg (K:=K) (D:=D) (m:=M-t) (n:=N-t) (B:=BM) (U0:=U0) hm hn hK hK3 hD
 have dD:=YJ h0.nz (M-t-1)
 obtain⟨c,hc⟩:∃ c,c=dJ (rest t S.d) (M-t-1):=⟨_,rfl⟩
 rw[← hc]at dD z1
 have hg1:1≤(aJ (M-t-1) (rest t S.d) 0 0).natAbs:=by have:=Zw h0.nz (M-t-1);omega
 have hcN:c≤N0:=by
  have h2:2 ^ c<2 ^ (N0+1):=V5 (V0 (Nat.le_mul_of_pos_right _ hg1) dD) hh
  have:=(Nat.pow_lt_pow_iff_right (show 1<2 by decide)).1 h2
  omega
 obtain⟨k1,k2⟩:=hchk c hcN
 have hcB:=Nat.le_mul_of_pos_left B (show 0<c+1 by omega)
 have hcs:(c+1)*B=c*B+B:=Nat.succ_mul c B
 have hL:LvC (Po BM U0) t M N D u 0 0 (rest t S1.d 0 0).natAbs (M-t-1+(N-t-1)) (M-t-1) (ub+4*(B+1)) S1:={
  c:={ b:=bs1,ev:=ev1,hh:=rfl,e:=by omega }
  cl:=cl1
  P:=⟨N0-c,c*B+B+c,(c+1)*B+B+(c+1),{
   hh:=by
    rw[r1]
    have h5:2 ^ c*(aJ (M-t-1) (rest t S.d) 0 0).natAbs<2 ^ c*2 ^ (N0-c+1):=by
     rw[← Nat.pow_add,show c+(N0-c+1)=N0+1 by omega]
     exact V5 dD hh
    exact Nat.lt_of_mul_lt_mul_left h5
   la:=by omega
   lm:=by omega
   a:=fun b hb0 hb=>z1 b hb0 hb
   m:=fun b a hb0 hb ha0 ha=>V0 (z2 a b ha0 ha hb0 hb) (Q3z (c+1) (by unfold eF;rw[← hc];split<;>omega))
   c1:=k1
   c2:=k2
   u:=by
    have:=V3 (4*(BM+1)) (show N0-c+2*(M-t-1)+2≤N0+10 by omega)
    omega }⟩ }
 have hle1:(rest t S1.d 0 0).natAbs≤(rest t S.d 0 0).natAbs:=by rw[r1];exact Q2v h0.nz _
 have hF2:(rest t S1.d 0 0).natAbs<2 ^ F:=V5 hle1 (V7 hh (V4 dq hF))
 obtain⟨S',q',p',h',e',dY,g3,hD3,hdv,hle⟩:=Q9n md hM hN g1 hL hF2 0 0 oq fun S2 _=>⟨fun a ha0 ha=>absurd ha oq,Int.dvd_zero _⟩
 obtain⟨S4,q4,p4,h4,e4,s4,ub4,g4,hD4,hle4,hall⟩:=Q23 md hM hN f S S' q' p' h' e' (M-t-1) dY 0 0 oq g3 hD3 oq hdv oq
 exact⟨S4,q4,p4,h4,e4,s4,ub4,g4,hD4,by omega,hall⟩

theorem Q15 {P Q:SP} {K D t M N B B1 B2 ub F q:Nat} {u:Int} {S:Sm} (md:Mdl K D (M-t) (N-t) P Q) (hM:t<M) (hN:t<N) (hm:M-t≤5) (hn:N-t≤5) (hq1:M-t-1≤q) (hq2:N-t-1≤q) (h0:St0 t M N D B ub u S) (hu:u≠0)
  (hB1:(M-t-1)*B+B+(M-t-1)≤B1) (hB2:(N-t-2)*B1+(B+B1)+(N-t-2)≤B2)
  (hK2:5*B+5<8*K) (hK3:B2<8*K) (hU:ub+q*(B+1)+q*(B1+1)<8*K) (hD:D<256 ^ K) (hF:u.natAbs<2 ^ F)
  (hP:∀ h E,1≤h→h≤u.natAbs→(∃ W,Gm (M-t) (N-t) u W∧W 0 0≠0∧fV (M-t) (tr W)∧E=tr (aJ (N-t-1) (tr W)))→(∀ a,0<a→a<M-t→(E a 0).natAbs≤2 ^ B2)→(∀ a b,0<a→a<M-t→0<b→b<N-t→(E a b).natAbs≤2 ^ B2)→P (M-t) (N-t) h (M-t-1+(N-t-1)) (M-t-1) (ub+q*(B+1)+q*(B1+1)) E)
  (hQ:∀ h E,1≤h→h≤u.natAbs→Gm (M-t) (N-t) u E→(∀ a b,0<a→a<M-t→0<b→b<N-t→(E a b).natAbs≤2 ^ B2)→Q (M-t) (N-t) h (M-t-1+(N-t-1)) (M-t-1) (ub+q*(B+1)+q*(B1+1)) E) :
  ∀ f,5≤f→∃ S' q' p' h' e' s' dY,Zz K (F+1+1) t M N f S=some S'∧Dd Q t M N D u q' p' h' e' s' dY S'∧h'≤u.natAbs∧∀ a b,a<M-t→b<N-t→rest t S'.d 0 0∣rest t S'.d a b:=fun f hf=>by
 obtain⟨S1,g1,r1,bs1,ev1,cl1,z1,z2⟩:=Q54 (K:=K) (q:=q) hM hN hm hq1 h0 hK2 oq hD
 have hcn:=Xm (rest t S.d) (M-t-1)
 have hrx:eF (rest t S.d) 1 (M-t-1)≤M-t-1+1:=by unfold eF;split<;>omega
 have hBB:B≤B1:=by omega
 have y1:∀ b,0<b→b<N-t→(rest t S1.d 0 b).natAbs≤2 ^ B1:=fun b hb0 hb=>V0 (z1 b hb0 hb) (V4 dq (by
  have:=V1 B hcn
  omega))
 have y2:∀ a b,0<a→a<M-t→0<b→b<N-t→(rest t S1.d a b).natAbs≤2 ^ B1:=fun a b ha0 ha hb0 hb=>V0 (z2 a b ha0 ha hb0 hb) (V0 (Q3z (M-t-1) hrx) (V4 dq hB1))
 have iK:tr (rest t S1.d) 0 0≠0:=ev1.nz
 have hp1:(tr (rest t S1.d) 0 0).natAbs≤2 ^ B:=by
  show (rest t S1.d 0 0).natAbs≤_
  rw[r1];exact V0 (Q2v h0.nz _) (Nat.le_of_lt (h0.sz 0 0 oq oq))
 have hA1:1≤2 ^ B1:=Nat.pow_pos dq
 have iM:PBd (N-t) (M-t) (2 ^ B1) (2 ^ B) (2 ^ B1) (2 ^ (B+B1)) 0 (tr (rest t S1.d)):=⟨iK,hA1,Nat.pow_pos dq,by rw[Nat.pow_zero,Nat.one_mul, ← Nat.pow_add];exact V8 _,hp1,fun b hb0 hb=>y1 b hb0 hb,fun b a hb0 hb ha0 ha=>y2 a b ha0 ha hb0 hb,fun a ha0 ha=>by rw[cl1 a ha0 ha];exact V9 _⟩
 have hmax:max (2 ^ B1) (2 ^ B)=2 ^ B1:=Nat.max_eq_left (V4 dq hBB)
 have hub:(2*max (2 ^ B1) (2 ^ B)) ^ (N-t-1)*2 ^ (ub+q*(B+1))≤2 ^ (ub+q*(B+1)+q*(B1+1)):=by
  rw[hmax,show 2*2 ^ B1=2 ^ (B1+1) by rw[Va];omega, ← Nat.pow_mul, ← Nat.pow_add]
  refine V4 dq ?_
  have:=V3 (B1+1) hq2
  rw[Vc (B1+1) q]at this
  omega
 have hcn2:=Xm (tr (rest t S1.d)) (N-t-1)
 have hw:∀ j,j≤N-t-2+1→wB (2 ^ B1) (2 ^ (B+B1)) j≤2 ^ B2:=fun j hj=>by
  have h2:=Xs (A:=2 ^ B1) (X:=2 ^ (B+B1)) hA1 (N-t-2+1-j) j
  rw[show j+(N-t-2+1-j)=N-t-2+1 by omega]at h2
  exact V0 h2 (V0 (Q2q _) (V4 dq hB2))
 have hrx2:eF (tr (rest t S1.d)) 0 (N-t-1)≤N-t-2+1:=by unfold eF;split<;>omega
 have hKB:KBd K (N-t) (2 ^ B1) (2 ^ B) (2 ^ B1) (2 ^ (B+B1)) 0 (2 ^ (ub+q*(B+1))) D (tr (rest t S1.d)):=⟨QR oq,QR oq,QR oq,V5 (hw _ hrx2) (QR hK3),V5 hub (QR hU),hD⟩
 obtain⟨S2,h2,d2,r2,u2,b2⟩:=Q82 bs1.dm hN iM bs1.su bs1.bk hKB false (N-t-1) oq
 rw[Bool.false_or]at h2
 have bs2:Bsz t M N D (ub+q*(B+1)+q*(B1+1)) S2:=⟨d2,b2,u2.mono hub⟩
 obtain⟨ev2,_⟩:=Qb0 ev1.tr oq oq cl1
 have ev2':Evi (M-t) (N-t) u 0 0 (rest t S2.d):=by rw[r2];exact ev2.tr
 have hdu:rest t S2.d 0 0∣u:=Qmj ev1.g oq oq ev1.nz cl1 fun b hb=>by
  rw[r2]
  show aJ (N-t-1) (tr (rest t S1.d)) 0 0∣tr (rest t S1.d) b 0
  by_cases e:b=0
  ·subst e;exact Wg iK _
  ·exact Q7j iK oq oq
 have hle:(rest t S2.d 0 0).natAbs≤u.natAbs:=Nat.le_of_dvd oq (Int.natAbs_dvd_natAbs.2 hdu)
 have hge:1≤(rest t S2.d 0 0).natAbs:=by have:=ev2'.nz;omega
 have w2:∀ a b,0<a→a<M-t→0<b→b<N-t→(rest t S2.d a b).natAbs≤2 ^ B2:=fun a b ha0 ha hb0 hb=>by
  rw[r2]
  exact V0 ((iM.sz ha0 ha (N-t-1) oq).2 b hb0 oq) (hw _ hrx2)
 have w1:∀ a,0<a→a<M-t→(rest t S2.d a 0).natAbs≤2 ^ B2:=fun a ha0 ha=>by
  rw[r2]
  refine V0 (iM.sz ha0 ha (N-t-1) oq).1 (hw _ oq)
 have hz:fV (N-t) (rest t S2.d):=by rw[r2];exact fun a ha0 ha=>Yy iK ha0 oq
 have he0:M-t-1+(N-t-1)=M-t-1-0+(N-t-1-0):=by rw[Nat.sub_zero,Nat.sub_zero]
 have hF2:u.natAbs<2 ^ (F+1):=by rw[Va];omega
 have hdr0:∀ S':Sm,Dv t N 0 0 S':=fun S'=>⟨fun a ha0 ha=>absurd (V7 ha0 ha) (Nat.lt_irrefl 0),Int.dvd_zero _⟩
 have fin:∀ S' q' p' h' e' dY,ZG K t M N (F+1+1) S=some S'→Dd Q t M N D u q' p' h' e' (M-t-1) dY S'→h'≤u.natAbs→∃ S' q' p' h' e' s' dY,Zz K (F+1+1) t M N f S=some S'∧Dd Q t M N D u q' p' h' e' s' dY S'∧h'≤u.natAbs∧∀ a b,a<M-t→b<N-t→rest t S'.d 0 0∣rest t S'.d a b:=fun S' q' p' h' e' dY g3 hD3 hle3=>by
  obtain⟨S4,q4,p4,h4,e4,s4,ub4,g4,hD4,hle4,hall⟩:=Q23 md hM hN (F:=F+1) f S S' q' p' h' e' (M-t-1) dY 0 0 oq g3 hD3 (V5 hle3 hF2) (hdr0 S') oq
  exact⟨S4,q4,p4,h4,e4,s4,ub4,g4,hD4,by omega,hall⟩
 rw[show N-t-1=N-(t+1) by omega]at h2
 by_cases hc:dJ (tr (rest t S1.d)) (N-t-1)=0
 ·rw[show N-(t+1)=N-t-1 by omega,hc]at h2
  refine fin S2 0 0 (rest t S2.d 0 0).natAbs (M-t-1+(N-t-1)) _ ?_ { c:={ b:=bs2,ev:=ev2',hh:=rfl,e:=he0 },cl:=hz,cc:=?_,Q:=hQ _ _ hge hle ev2'.g w2 } hle
  ·rw[ZG,g1]
   dsimp only
   rw[show N-(t+1)=N-t-1 by omega,h2]
   rfl
  ·rw[r2]
   intro b hb0 hb
   show aJ (N-t-1) (tr (rest t S1.d)) 0 b=0
   rw[Yd iK hc];exact cl1 b hb0 hb
 ·have h2':dP K t (N-(t+1)) (t+1) false S1=some (S2,true):=by
   rw[h2]
   congr 2
   rw[show N-(t+1)=N-t-1 by omega]
   exact decide_eq_true oq
  have hL:LvR P t M N D u 0 0 (rest t S2.d 0 0).natAbs (M-t-1+(N-t-1)) (M-t-1) (ub+q*(B+1)+q*(B1+1)) S2:={ c:={ b:=bs2,ev:=ev2',hh:=rfl,e:=he0 },cl:=hz,P:=hP _ _ hge hle ⟨_,ev1.g,ev1.nz,cl1,r2⟩ w1 w2 }
  obtain⟨S',q',p',h',e',dY,g3,hD3,hdv,hle3⟩:=Qi3 md hM hN F 0 0 _ _ _ _ S2 hL (V5 hle hF) 0 0 oq (hdr0 S2)
  refine fin S' q' p' h' e' dY ?_ hD3 oq
  rw[ZG,g1]
  dsimp only
  rw[h2']
  exact g3

structure gI (t M N D B ub:Nat) (u:Int) (S:Sm):Prop where
 b:Bsz t M N D ub S
 sz:∀ a b,a<M-t→b<N-t→(rest t S.d a b).natAbs<2 ^ B
 g:Gm (M-t) (N-t) u (rest t S.d)
theorem Q2f {S:Sm} {t m n i j:Nat} (h:Q2g S t m n=some (i,j)):t≤i∧i<m∧t≤j∧j<n∧gE S.d i j≠0:=by
 unfold Q2g at h
 obtain⟨j',hj,h1⟩:=List.exists_of_findSome?_eq_some h
 rw[List.mem_range'_1]at hj
 rw[Option.map_eq_some_iff]at h1
 obtain⟨i',h2,h3⟩:=h1
 cases h3
 have h4:=List.find?_some h2
 have h5:=List.mem_of_find?_eq_some h2
 rw[List.mem_range'_1]at h5
 exact⟨by omega,by omega,by omega,by omega,of_decide_eq_true h4⟩
theorem Qff {M N t j:Nat} {g:List (List Int)} (h:Rec M N g) (hj:t+j<M) (hj0:0<j) (a b:Nat):rest t (XJ t (t+j) ⟨0,1,-1,0⟩ g) a b=if a=j then -(rest t g 0 b) else if a=0 then rest t g j b else rest t g a b:=by
 rw[XK h hj hj0]
 unfold rop Tn.p Tn.q
 by_cases e1:a=j
 ·rw[if_pos e1,if_pos e1];dsimp only;omega
 ·rw[if_neg e1,if_neg e1]
  by_cases e2:a=0
  ·rw[if_pos e2,if_pos e2];dsimp only;omega
  ·rw[if_neg e2,if_neg e2]
theorem Qfg {M N t j:Nat} {g:List (List Int)} (h:Rec M N g) (hj:t+j<N) (hj0:0<j) (a b:Nat):rest t (Xq t (t+j) ⟨0,1,-1,0⟩ g) a b=if b=j then -(rest t g a 0) else if b=0 then rest t g a j else rest t g a b:=by
 rw[Q1a h hj hj0]
 show rop 0 j ⟨0,1,-1,0⟩ (tr (rest t g)) b a=_
 unfold rop Tn.p Tn.q tr
 by_cases e1:b=j
 ·rw[if_pos e1,if_pos e1];dsimp only;omega
 ·rw[if_neg e1,if_neg e1]
  by_cases e2:b=0
  ·rw[if_pos e2,if_pos e2];dsimp only;omega
  ·rw[if_neg e2,if_neg e2]
theorem Qbs:CB 1 ⟨0,1,-1,0⟩:=⟨by decide,by decide,by decide,by decide⟩
theorem gI.rows {K t M N D B ub j:Nat} {u:Int} {S:Sm} (h:gI t M N D B ub u S) (hj:t+j<M) (hj0:0<j) (hD:D<256 ^ K) (hB:B<8*K) (hU:ub+1<8*K):ck K (S.rows t (t+j) ⟨0,1,-1,0⟩)=some (S.rows t (t+j) ⟨0,1,-1,0⟩)∧gI t M N D B (ub+1) u (S.rows t (t+j) ⟨0,1,-1,0⟩):=by
 have hp:gI t M N D B (ub+1) u (S.rows t (t+j) ⟨0,1,-1,0⟩):={
  b:=⟨h.b.dm.rows oq hj,h.b.bk.rows h.b.dm.d oq hj,by
   have:=h.b.su.rows (C:=1) (i:=t) h.b.dm oq hj Qbs (V8 _)
   rw[Va,Vc]
   simpa using this⟩
  sz:=fun a b ha hb=>by
   show (rest t (XJ t (t+j) ⟨0,1,-1,0⟩ S.d) a b).natAbs<_
   rw[Qff h.b.dm.d hj hj0]
   split
   ·rw[Int.natAbs_neg];exact h.sz 0 b oq hb
   ·split
    ·exact h.sz j b oq hb
    ·exact h.sz a b ha hb
  g:=by
   show Gm _ _ u (rest t (XJ t (t+j) ⟨0,1,-1,0⟩ S.d))
   rw[XK h.b.dm.d hj hj0]
   exact Qd5 h.g hj0 oq dq }
 exact⟨Qif hp.b.dm hp.b.su (hp.b.bk.sz (L:=256 ^ K-1) oq fun a b ha hb=>by
  have h1:=hp.sz a b ha hb
  have h2:=QR hB
  omega) (QR hU) (by have:=bG K;omega),hp⟩
theorem gI.cols {K t M N D B ub j:Nat} {u:Int} {S:Sm} (h:gI t M N D B ub u S) (hj:t+j<N) (hj0:0<j) (hD:D<256 ^ K) (hB:B<8*K) (hU:ub+1<8*K):ck K (S.cols t (t+j) ⟨0,1,-1,0⟩)=some (S.cols t (t+j) ⟨0,1,-1,0⟩)∧gI t M N D B (ub+1) u (S.cols t (t+j) ⟨0,1,-1,0⟩):=by
 have hp:gI t M N D B (ub+1) u (S.cols t (t+j) ⟨0,1,-1,0⟩):={
  b:=⟨h.b.dm.cols oq hj,h.b.bk.cols h.b.dm.d oq hj,by
   have:=h.b.su.cols (C:=1) (i:=t) h.b.dm oq hj Qbs (V8 _)
   rw[Va,Vc]
   simpa using this⟩
  sz:=fun a b ha hb=>by
   show (rest t (Xq t (t+j) ⟨0,1,-1,0⟩ S.d) a b).natAbs<_
   rw[Qfg h.b.dm.d hj hj0]
   split
   ·rw[Int.natAbs_neg];exact h.sz a 0 ha oq
   ·split
    ·exact h.sz a j ha oq
    ·exact h.sz a b ha hb
  g:=by
   show Gm _ _ u (rest t (Xq t (t+j) ⟨0,1,-1,0⟩ S.d))
   rw[Q1a h.b.dm.d hj hj0]
   exact Q4z (Qd5 (Q4z h.g) hj0 oq dq) }
 exact⟨Qif hp.b.dm hp.b.su (hp.b.bk.sz (L:=256 ^ K-1) oq fun a b ha hb=>by
  have h1:=hp.sz a b ha hb
  have h2:=QR hB
  omega) (QR hU) (by have:=bG K;omega),hp⟩
theorem gI.mono {t M N D B ub dY:Nat} {u:Int} {S:Sm} (h:gI t M N D B ub u S) (hu:ub≤dY):gI t M N D B dY u S:=⟨⟨h.b.dm,h.b.bk,h.b.su.mono (V4 dq hu)⟩,h.sz,h.g⟩
theorem Qch {K t M N D B ub:Nat} {u:Int} {S:Sm} (h:gI t M N D B ub u S) (hD:D<256 ^ K) (hB:B<8*K) (hU:ub+2<8*K):∃ S' fl,X1 K t M N S=some (S',fl)∧(fl=true→St0 t M N D B (ub+2) u S'):=by
 unfold X1
 cases hf:Q2g S t M N with
 | none=>exact⟨S,false,rfl,fun h=>by cases h⟩
 | some ij =>
  obtain⟨i,j⟩:=ij
  obtain⟨h1,h2,h3,h4,h5⟩:=Q2f hf
  obtain⟨i',rfl⟩:∃ i',i=t+i':=⟨i-t,by omega⟩
  obtain⟨j',rfl⟩:∃ j',j=t+j':=⟨j-t,by omega⟩
  dsimp only
  have hA:∃ S1,(if t+i'=t then some S else ck K (S.rows t (t+i') ⟨0,1,-1,0⟩))=some S1∧gI t M N D B (ub+1) u S1∧rest t S1.d 0 j'≠0:=by
   by_cases e:i'=0
   ·subst e
    exact⟨S,if_pos rfl,h.mono oq,h5⟩
   ·obtain⟨g1,g2⟩:=h.rows (j:=i') (K:=K) h2 oq hD hB oq
    refine⟨_,by rw[if_neg oq];exact g1,g2,?_⟩
    show rest t (XJ t (t+i') ⟨0,1,-1,0⟩ S.d) 0 j'≠0
    rw[Qff h.b.dm.d h2 oq,if_neg oq,if_pos rfl]
    exact h5
  obtain⟨S1,g1,p1,n1⟩:=hA
  rw[g1]
  dsimp only
  have hC:∃ S2,(if t+j'=t then some S1 else ck K (S1.cols t (t+j') ⟨0,1,-1,0⟩))=some S2∧gI t M N D B (ub+2) u S2∧rest t S2.d 0 0≠0:=by
   by_cases e:j'=0
   ·subst e
    exact⟨S1,if_pos rfl,p1.mono oq,n1⟩
   ·obtain⟨g2,g3⟩:=p1.cols (j:=j') (K:=K) h4 oq hD hB oq
    refine⟨_,by rw[if_neg oq];exact g2,g3,?_⟩
    show rest t (Xq t (t+j') ⟨0,1,-1,0⟩ S1.d) 0 0≠0
    rw[Qfg p1.b.dm.d h4 oq,if_neg oq,if_pos rfl]
    exact n1
  obtain⟨S2,g2,p2,n2⟩:=hC
  rw[g2]
  exact⟨S2,true,rfl,fun _=>⟨p2.b,p2.sz,p2.g,n2⟩⟩

structure iF (t M N D B ub:Nat) (u:Int) (S:Sm):Prop where
 b:Bsz t M N D ub S
 cl:fV (N-t) (rest t S.d)
 cc:fV (M-t) (tr (rest t S.d))
 sz:∀ a b,0<a→a<M-t→0<b→b<N-t→(rest t S.d a b).natAbs<2 ^ B
 g:Gm (M-t) (N-t) u (rest t S.d)
 nz:rest t S.d 0 0≠0
theorem Qp2 {m n:Nat} {u:Int} {E:Mi} (h:Gm (m+1) (n+1) u E) (hc:fV (n+1) E) (hcc:fV (m+1) (tr E)):Gm m n u fun a b=>E (a+1) (b+1):=by
 obtain⟨X,hX⟩:=h
 refine⟨fun i j=>X (i+1) (j+1),fun a ha b hb=>?_⟩
 have h1:=hX (a+1) oq (b+1) oq
 rw[Q3g (r:=0) oq]at h1
 have z1:E (a+1) 0=0:=hcc (a+1) oq oq
 rw[z1,Int.zero_mul,Int.add_zero]at h1
 rw[← h1]
 refine Qq fun i _=>?_
 rw[Qfv]
 congr 1
 unfold dN
 rw[Q3g (r:=0) oq,hc (b+1) oq oq,Int.mul_zero,Int.add_zero]
 exact Qq fun j _=>by rw[Qfv]
theorem Qcf {t M N D B ub:Nat} {u:Int} {S:Sm} (h:iF t M N D B ub u S) (hM:t<M) (hN:t<N) (hu:u≠0) (hD:u.natAbs≤D):gI (t+1) M N D B ub u (if gE S.d t t<0 then S.neg t else S):=by
 have hdv:rest t S.d 0 0∣u:=Qmj h.g oq oq h.nz h.cc fun b hb=>by
  by_cases e:b=0
  ·subst e;exact Int.dvd_refl _
  ·rw[h.cl b oq hb];exact Int.dvd_zero _
 have hle:(gE S.d t t).natAbs≤D:=V0 (Nat.le_of_dvd oq (Int.natAbs_dvd_natAbs.2 hdv)) hD
 have hbase:gI (t+1) M N D B ub u S:={
  b:=⟨h.b.dm,⟨fun a b ha hb hab h1=>by
   by_cases h2:a<t∨b<t
   ·exact h.b.bk.z a b ha hb hab h2
   ·have h3:a=t∨b=t:=by omega
    rcases h3 with rfl|rfl
    ·have:=h.cl (b-a) oq oq
     unfold rest at this
     rw[show a+(b-a)=b by omega]at this
     exact this
    ·have:=h.cc (a-b) oq oq
     unfold tr rest at this
     rw[show b+(a-b)=a by omega]at this
     exact this,fun a ha hb h1=>by
   by_cases h2:a<t
   ·exact h.b.bk.d a ha hb h2
   ·obtain rfl:a=t:=by omega
    exact hle⟩,h.b.su⟩
  sz:=fun a b ha hb=>by
   have:=h.sz (a+1) (b+1) oq oq oq oq
   unfold rest at this ⊢
   rwa [show t+1+a=t+(a+1) by omega,show t+1+b=t+(b+1) by omega]
  g:=by
   have:=Qp2 (m:=M-(t+1)) (n:=N-(t+1)) (by rw[show M-(t+1)+1=M-t by omega,show N-(t+1)+1=N-t by omega];exact h.g) (by rw[show N-(t+1)+1=N-t by omega];exact h.cl) (by rw[show M-(t+1)+1=M-t by omega];exact h.cc)
   have e:rest (t+1) S.d=fun a b=>rest t S.d (a+1) (b+1):=by
    funext a b
    unfold rest
    rw[show t+1+a=t+(a+1) by omega,show t+1+b=t+(b+1) by omega]
   rw[e];exact this }
 split
 ·have hr:rest (t+1) (S.neg t).d=rest (t+1) S.d:=by
   funext a b
   show gE (negR t S.d) (t+1+a) (t+1+b)=_
   rw[Q7u h.b.dm.d hM,if_neg oq];rfl
  exact {
   b:=⟨h.b.dm.neg' hM,⟨fun a b ha hb hab h1=>by
    show gE (negR t S.d) a b=0
    rw[Q7u h.b.dm.d hM]
    split
    ·rw[hbase.b.bk.z t b hM hb oq oq];rfl
    ·exact hbase.b.bk.z a b ha hb hab h1,fun a ha hb h1=>by
    show (gE (negR t S.d) a a).natAbs≤D
    rw[Q7u h.b.dm.d hM]
    split
    ·rename_i e;subst e;rw[Int.natAbs_neg];exact hbase.b.bk.d a ha hb h1
    ·exact hbase.b.bk.d a ha hb h1⟩,h.b.su.neg h.b.dm hM⟩
   sz:=by rw[hr];exact hbase.sz
   g:=by rw[hr];exact hbase.g }
 ·exact hbase
theorem Qhs {K fc f M N D:Nat} {u:Int} (hu:u≠0) (hD:u.natAbs≤D) (hD2:D<256 ^ K) (Bq uq:Nat→Nat) (hB:∀ t,t<M→t<N→Bq t<8*K) (hU:∀ t,t<M→t<N→uq t+2<8*K)
  (hst:∀ t S,t<M→t<N→St0 t M N D (Bq t) (uq t+2) u S→∃ S',Zz K fc t M N f S=some S'∧iF t M N D (Bq (t+1)) (uq (t+1)) u S'):∀ k t S,t+k=min M N→gI t M N D (Bq t) (uq t) u S→∃ S',ZF K fc f M N k t S=some S'
 | 0,_,S,_,_=>⟨S,rfl⟩
 | k + 1, t, S, hk, hp => by
  have hM:t<M:=by omega
  have hN:t<N:=by omega
  obtain⟨S1,fl,h1,h2⟩:=Qch hp hD2 (hB t hM hN) (hU t hM hN)
  rw[ZF,h1]
  dsimp only
  cases fl with
  | false=>exact⟨S1,rfl⟩
  | true =>
   obtain⟨S2,h3,h4⟩:=hst t S1 hM hN (h2 rfl)
   rw[if_pos rfl,h3]
   dsimp only
   exact Qhs hu hD hD2 Bq uq hB hU hst k (t+1) _ oq (Qcf h4 hM hN hu hD)

theorem Qng {x y:Int} (hx:x≠0):(eG x y).b.natAbs*((eG x y).p x y).natAbs≤x.natAbs:=by
 unfold eG
 by_cases hy:y=0
 ·subst hy;rw[Q5a];simp
 ·by_cases hd:x∣y
  ·rw[Q6k hy hx hd];simp
  ·rw[Q6j hy hd]
   have h:=gcdN hx hy
   have e:(Tn.p ⟨(dB x y).2.1,(dB x y).2.2,-(y / (dB x y).1),x / (dB x y).1⟩ x y)=(dB x y).1:=h.b
   dsimp only
   rw[e]
   exact h.ht
theorem gm_z {u:Int} {E:Mi} (h:Gm 2 2 u E) (h0:E 0 0≠0) (hc:E 1 0=0):E 1 1=0∨E 1 1∣u:=by
 by_cases hz:E 1 1=0
 ·exact .inl hz
 ·refine .inr ?_
  obtain⟨X,hX⟩:=h
  have h1:=hX 1 dq 1 dq
  have h2:=hX 1 dq 0 dq
  simp only[aN,dN,hc,Int.zero_mul,Int.zero_add,Int.mul_zero,Int.add_zero]at h1 h2
  have h3:X 1 0=0:=by
   rcases Int.mul_eq_zero.1 h2 with h|h
   ·exact absurd h hz
   ·rcases Int.mul_eq_zero.1 h with h|h
    ·exact h
    ·exact absurd h h0
  rw[h3,Int.zero_mul,Int.zero_add,Int.mul_comm u]at h1
  have h4:=Int.eq_of_mul_eq_mul_left hz h1
  exact⟨X 1 1,by rw[← h4,Int.mul_comm]⟩
theorem Qhl {u:Int} {E:Mi} (hu:u≠0) (h:Gm 2 2 u E) (h0:E 0 0≠0) (hc:E 1 0=0):(E 1 1).natAbs≤u.natAbs:=by
 rcases gm_z h h0 hc with h1|h1
 ·rw[h1];exact V9 _
 ·exact Nat.le_of_dvd oq (Int.natAbs_dvd_natAbs.2 h1)
theorem Qhk {u:Int} {E:Mi} (hu:u≠0) (h:Gm 2 2 u E) (h0:E 0 0≠0) (hc:E 0 1=0):(E 1 1).natAbs≤u.natAbs:=Qhl (E:=tr E) hu (Q4z h) h0 hc

def Pw (u:Int) (hb U0:Nat):SP:=fun m n h _ s ub E=>Gm m n u E∧(∀ a,0<a→a<m→(E a 0).natAbs≤2 ^ (2*hb))∧h≤u.natAbs∧∃ N,h<2 ^ (N+1)∧ub+(2*hb+1)*(N+2*s+2)≤U0
def Qw (u:Int) (hb U0:Nat):SP:=fun m n h _ s ub E=>Gm m n u E∧h≤u.natAbs∧∃ N,h<2 ^ (N+1)∧ub+(2*hb+1)*(N+2*s+1)≤U0
theorem Qrt {K D m n hb U0:Nat} {u:Int} (hu:u≠0) (hub:u.natAbs≤2 ^ hb) (hm:m≤2) (hn:n≤2) (hK:U0<8*K) (hK2:3*hb+3<8*K) (hD:D<256 ^ K):Mdl K D m n (Pw u hb U0) (Qw u hb U0):=by
 refine⟨?_,?_,?_⟩
 ·intro m' n' h e s ub E hd hP hcl hnz hhE
  obtain⟨hg,ha,hhu,N,hN,hU⟩:=hP
  have hm2:m'≤2:=by omega
  have hn2:n'≤2:=by omega
  have hA1:1≤2 ^ (2*hb):=Nat.pow_pos dq
  have hE:∀ a b,0<a→a<m'→0<b→b<n'→(E a b).natAbs≤2 ^ hb:=fun a b ha0 ha hb0 hb=>by
   obtain rfl:a=1:=by omega
   obtain rfl:b=1:=by omega
   obtain rfl:m'=2:=by omega
   obtain rfl:n'=2:=by omega
   exact V0 (Qhk hu hg hnz (hcl 1 oq oq)) hub
  have iM:PBd m' n' (2 ^ (2*hb)) (2 ^ hb) (2 ^ hb) (2 ^ (hb+hb)) 0 E:=⟨hnz,hA1,Nat.pow_pos dq,by rw[Nat.pow_zero,Nat.one_mul, ← Nat.pow_add];exact V8 _,by rw[hhE];exact V0 hhu hub,ha,hE,fun b hb0 hb'=>by rw[hcl b hb0 hb'];exact V9 _⟩
  have hmax:max (2 ^ (2*hb)) (2 ^ hb)=2 ^ (2*hb):=Nat.max_eq_left (V4 dq oq)
  have hcn:=Xm E (m'-1)
  have hub2:(2*2 ^ (2*hb)) ^ (m'-1)*2 ^ ub≤2 ^ (ub+(2*hb+1)):=by
   rw[show 2*2 ^ (2*hb)=2 ^ (2*hb+1) by rw[Va];omega, ← Nat.pow_mul, ← Nat.pow_add]
   refine V4 dq ?_
   have:=V3 (2*hb+1) (show m'-1≤1 by omega)
   omega
  have hrow:wB (2 ^ (2*hb)) (2 ^ (hb+hb)) (eF E 0 (m'-1))≤2 ^ (0*(2*hb)+(hb+hb)+0):=by
   have hix:eF E 0 (m'-1)≤1:=by unfold eF;split<;>omega
   have h2:=Xs (A:=2 ^ (2*hb)) (X:=2 ^ (hb+hb)) hA1 (1-eF E 0 (m'-1)) (eF E 0 (m'-1))
   rw[show eF E 0 (m'-1)+(1-eF E 0 (m'-1))=0+1 by omega]at h2
   exact V0 h2 (Q2q 0)
  have hst:(2*hb+1)*(N+2*s+2)=(2*hb+1)*(N+2*s+1)+(2*hb+1):=Nat.mul_succ _ _
  refine⟨_,_,_,_,iM,⟨QR oq,QR oq,QR oq,V5 hrow (QR oq),by rw[hmax];exact V5 hub2 (QR oq),hD⟩,ub+(2*hb+1),by rw[hmax];exact hub2,fun hc0=>⟨?_,hhu,N,hN,by omega⟩,fun e' hc1 he=>?_⟩
  ·by_cases h0:m'=0
   ·subst h0;exact hg
   ·exact Q2e hg hnz oq
  ·obtain rfl:m'=2:=by omega
   have dD:=YJ hnz 1
   have hc:dJ E 1=1:=by have h1:1≤dJ E 1:=hc1;have:=Xm E 1;omega
   rw[hc,hhE]at dD
   refine⟨Q4z (Q2e hg hnz oq),fun b hb0 hb9=>?_,?_,N-1,?_,?_⟩
   ·show (aJ 1 E 0 b).natAbs≤_
    have h3:=(Qan hnz hcl hb0 hb9).2.1
    rw[hhE]at h3
    refine V0 h3 ?_
    rw[show 2*hb=hb+hb by omega,Nat.pow_add]
    exact Vr (V0 hhu hub) (hE 1 b oq oq hb0 hb9)
   ·show (aJ 1 E 0 0).natAbs≤_
    have:=Q2v hnz 1
    omega
   ·show (aJ 1 E 0 0).natAbs<_
    have hg1:1≤(aJ 1 E 0 0).natAbs:=by have:=Zw hnz 1;omega
    have hN1:1≤N:=by
     refine Nat.le_of_not_lt fun h0=>?_
     obtain rfl:N=0:=by omega
     simp at hN dD
     omega
    rw[show N-1+1=N by omega]
    rw[Va]at hN
    rw[Nat.pow_one]at dD
    omega
   ·have hN1:1≤N:=by
     have hg1:1≤(aJ 1 E 0 0).natAbs:=by have:=Zw hnz 1;omega
     refine Nat.le_of_not_lt fun h0=>?_
     obtain rfl:N=0:=by omega
     simp at hN dD
     omega
    rw[show N-1+2*s+2=N+2*s+1 by omega]
    omega
 ·intro m' n' h e s ub E hQ
  exact⟨Q4z hQ.1,hQ.2⟩
 ·intro h e s s' ub i E hQ hs hcl hcc h0 hi h2 hnz hhE
  obtain⟨hg,hhu,N,hN,hU⟩:=hQ
  obtain rfl:i=1:=by omega
  obtain rfl:m=2:=by omega
  refine⟨Q4z (Qd5 hg oq oq dq),fun b hb0 hb9=>?_,hhu,N,hN,?_⟩
  ·show (rop 0 1 ⟨1,1,0,1⟩ E 0 b).natAbs≤_
   have e1:rop 0 1 ⟨1,1,0,1⟩ E 0 b=E 1 b:=by
    unfold rop Tn.p
    rw[if_neg oq,if_pos rfl,hcl b hb0 hb9]
    dsimp only
    omega
   rw[e1]
   obtain rfl:b=1:=by omega
   obtain rfl:n=2:=by omega
   exact V0 (V0 (Qhl hu hg hnz (hcc 1 oq oq)) hub) (V4 dq oq)
  ·have h5:(2*hb+1)*(N+2*s'+2)+(2*hb+1)≤(2*hb+1)*(N+2*s+1):=by
    rw[← Nat.mul_succ];exact V3 _ oq
   omega
theorem Qf6 {u:Int} {W E:Mi} {m n:Nat} (hu:u≠0) (hm:m≤2) (hn:n≤2) (hn0:0<n) (hg:Gm m n u W) (h0:W 0 0≠0) (hc:fV m (tr W)) (hE:E=tr (aJ (n-1) (tr W))):Gm m n u E∧∀ a,0<a→a<m→(E a 0).natAbs≤u.natAbs:=by
 have hgE:Gm m n u E:=by rw[hE];exact Q4z (Q2e (Q4z hg) h0 oq)
 refine⟨hgE,fun a ha0 ha=>?_⟩
 obtain rfl:a=1:=by omega
 obtain rfl:m=2:=by omega
 by_cases h1:n=1
 ·subst h1
  rw[hE]
  show (tr W 0 1).natAbs≤_
  rw[hc 1 oq oq];exact V9 _
 ·obtain rfl:n=2:=by omega
  have h00:tr W 0 0≠0:=h0
  have hz:E 0 1=0:=by rw[hE];exact Yy (E:=tr W) h00 oq oq
  have hnz:E 0 0≠0:=by rw[hE];exact Zw (E:=tr W) h00 1
  refine V0 ?_ (Qhk hu hgE hnz hz)
  rw[hE]
  show (aJ 1 (tr W) 0 1).natAbs≤(aJ 1 (tr W) 1 1).natAbs
  obtain⟨e1,e2⟩:=Qgc (E:=tr W) (n:=2) hc (b:=1) oq oq
  rw[e1,e2,Vq,Vq]
  refine V1 _ ?_
  have h5:=Qng (x:=tr W 0 0) (y:=tr W 1 0) h00
  have h6:=(Zt (E:=tr W) (k:=0) h00).dx
  have h7:=(Zt (E:=tr W) (k:=0) h00).nz
  have h8:(eG (tr W 0 0) (tr W 1 0)).d.natAbs*((eG (tr W 0 0) (tr W 1 0)).p (tr W 0 0) (tr W 1 0)).natAbs=(tr W 0 0).natAbs:=by rw[← Vq];exact congrArg Int.natAbs h6
  rw[← h8]at h5
  refine Nat.le_of_mul_le_mul_right h5 ?_
  have:(eG (tr W 0 0) (tr W 1 0)).p (tr W 0 0) (tr W 1 0)≠0:=h7
  omega

def pm:Nat→(Nat→Nat→Nat)→Nat
 | 0,_=>1
 | n+1,A=>(List.range (n+1)).foldl (fun s i=>s+A i 0*pm n (fun a b=>A (sk i a) (b+1))) 0
theorem Qfu:∀ {n:Nat} {f:Nat→Int} {g:Nat→Nat},(∀ i,i<n→(f i).natAbs≤g i)→(aN n f).natAbs≤(List.range n).foldl (fun s i=>s+g i) 0
 | 0,_,_,_=>V8 _
 | n+1,f,g,h=>by
  rw[List.range_succ,List.foldl_append]
  have h1:=Qfu (n:=n) (f:=f) (g:=g) fun i hi=>h i oq
  have h2:=h n oq
  have h3:=Int.natAbs_add_le (aN n f) (f n)
  show (aN n f+f n).natAbs≤(List.range n).foldl (fun s i=>s+g i) 0+g n
  omega
theorem Qqx (i:Nat):(sg i).natAbs=1:=by unfold sg;split<;>rfl
theorem Qi0:∀ {n:Nat} {A:Mi} {B:Nat→Nat→Nat},(∀ i j,i<n→j<n→(A i j).natAbs≤B i j)→(aZ n A).natAbs≤pm n B
 | 0,_,_,_=>V8 _
 | n+1,A,B,h=>by
  rw[aZ,pm]
  refine Qfu fun i hi=>?_
  rw[Vq,Vq,Qqx,Nat.one_mul]
  refine Vr (h i 0 hi oq) (Qi0 fun a b ha hb=>h _ _ (by unfold sk;split<;>omega) oq)
theorem Qpc {E:Mi} {n:Nat} {p q:Nat→Nat} (hp:∀ a,a<n→p a<n) (hq:∀ a,a<n→q a<n) (h:aZ n E=0):aZ n (mn E p q)=0:=by
 have e:aZ n (mn E p q)=aZ n (bM n (fun a i=>if p a=i then 1 else 0) (bM n E fun j b=>if q b=j then 1 else 0)):=QS fun a ha b hb=>by
  show E (p a) (q b)=aN n fun i=>(if p a=i then (1:Int) else 0)*aN n fun j=>E i j*(if q b=j then (1:Int) else 0)
  rw[ZA (k:=p a) (hp a ha) fun i _ hi=>by rw[if_neg (fun e=>hi e.symm),Int.zero_mul],if_pos rfl,Int.one_mul]
  rw[ZA (k:=q b) (hq b hb) fun j _ hj=>by rw[if_neg (fun e=>hj e.symm),Int.mul_zero],if_pos rfl,Int.mul_one]
 rw[e,Q9m,Q9m,h,Int.zero_mul,Int.mul_zero]
def pat (x y:Nat):Nat→Nat→Nat:=fun i j=>if (i+j) % 2=0 then x else y
theorem Q4m {Q:SP} {t M N D B q p h e s ub ub2:Nat} {u:Int} {S:Sm} (h0:Dd Q t M N D u q p h e s ub S) (hub:ub≤ub2) (hs:∀ a b,0<a→a<M-t→0<b→b<N-t→(rest t S.d a b).natAbs<2 ^ B):iF t M N D B ub2 u S :=
 ⟨⟨h0.c.b.dm,h0.c.b.bk,h0.c.b.su.mono (V4 dq hub)⟩,h0.cl,h0.cc,hs,h0.c.ev.g,h0.c.ev.nz⟩
theorem Q4u {x a b:Nat} (h:x≤2 ^ a) (hab:a<b):x<2 ^ b:=V5 h (Nat.pow_lt_pow_right dq hab)

structure Nmb (U hb B0 N0 b1 u1 Zm b2 u2 Vm b3 u3 u4 K:Nat):Prop where
 nU:U≤2 ^ hb
 nh:5≤hb∧hb≤40
 nc:N0+1≤B0∧N0≤6∧B0≤10∧1≤b1
 nk:∀ c,c≤N0→chk (b1-1) (N0-c) (c*B0+B0+c) ((c+1)*B0+B0+(c+1))=true∧chk (b1-1) (N0-c) ((c+1)*B0+B0+(c+1)) ((c+1)*B0+B0+(c+1))=true
 n1:2+4*(B0+1)+4*(b1-1+1)*(N0+10)≤u1
 nz:(13*(13*b1+11)+13*(hb+4)) ^ 9*(U ^ 4*27 ^ 6*81 ^ 3)<(Zm+1) ^ 9
 nl:100≤b1∧hb≤b1
 n2:Zm / 8<b2
 n3:u1+2+3*(b1+1)+3*(4*b1+3+1)+2*Zm≤u2
 nv:(225*(7*b2+5+hb+1)) ^ 15*(U ^ 4*22 ^ 4*3831 ^ 2)<(Vm+1) ^ 15
 nm:1000≤b2
 n4:Vm / 75<b3
 n5:9*(u2+2+2*(b2+1)+2*(3*b2+2+1))+18*(7*b2+5+hb+1)+Vm≤9*u3
 n6:u3+2+(b3+1)+(2*b3+1+1)+(2*hb+1)*(hb+5)≤u4
 kk:u4+100000<8*K
 k2:5*b3+5<8*K

section
variable {U hb B0 N0 b1 u1 Zm b2 u2 Vm b3 u3 u4 K M N D:Nat} {u:Int} (nm:Nmb U hb B0 N0 b1 u1 Zm b2 u2 Vm b3 u3 u4 K) (hM5:M≤5) (jh:N≤5) (hu:u≠0) (huU:u.natAbs≤U) (hD:D<256 ^ K)
include nm hM5 jh hD
theorem Qnp (hB:B0=N0+1) {S:Sm} (hM:0<M) (hN:0<N) (h0:St0 0 M N D B0 2 u S):∃ S',Zz K (hb+3) 0 M N 5 S=some S'∧iF 0 M N D b1 u1 u S':=by
 have h1:=nm.n1;have h2:=nm.n3;have h3:=nm.n5;have h4:=nm.n6;have h5:=nm.kk;have h6:=nm.nc;have h7:=nm.nh
 obtain⟨S',q',p',h',e',s',dY,g,hd,_,_⟩:=Qaf (K:=K) (F:=hb+2) (N0:=N0) (BM:=b1-1) (U0:=u1) hM hN oq oq h0 (by rw[← hB];exact h0.sz 0 0 oq oq) oq nm.nk oq oq oq oq hD oq 5 oq
 obtain⟨N',mu,p⟩:=hd.Q
 have hb2:=(Q85 p.c2).2
 have hpu:=p.u
 exact⟨S',g,Q4m hd oq fun a b ha0 ha hb0 hb=>Q4u (p.m a b ha0 ha hb0 hb) oq⟩
include hu huU
theorem Qno {S:Sm} (hM:1<M) (hN:1<N) (h0:St0 1 M N D b1 (u1+2) u S):∃ S',Zz K (hb+3) 1 M N 5 S=some S'∧iF 1 M N D b2 u2 u S':=by
 have h2:=nm.n3;have h3:=nm.n5;have h4:=nm.n6;have h5:=nm.kk;have h7:=nm.nh;have h8:=nm.nl;have h9:=nm.n2
 have hUb:=nm.nU
 have md:=Qtf (K:=K) (D:=D) (m:=M-1) (n:=N-1) (hb:=hb) (C:=(13*(13*b1+11)+13*(hb+4)) ^ 9*(U ^ 4*27 ^ 6*81 ^ 3)) (U0:=u1+2+3*(b1+1)+3*(4*b1+3+1)) (Zm:=Zm) oq oq nm.nz oq hD
 have hw:∀ h e s,h≤U→e≤6→s≤3→(13*(13*b1+11)+13*(hb+4)) ^ 9*Wtu h e s≤(13*(13*b1+11)+13*(hb+4)) ^ 9*(U ^ 4*27 ^ 6*81 ^ 3):=fun h e s h1 h2 h3=>by
  refine V3 _ ?_
  unfold Wtu
  exact Vr (Vr (Nat.pow_le_pow_left h1 4) (V4 dq h2)) (V4 dq h3)
 obtain⟨S',q',p',h',e',s',dY,g,hd,_,_⟩:=Q15 (K:=K) (q:=3) (B1:=4*b1+3) (B2:=13*b1+11) (F:=hb+1) md hM hN oq oq oq oq h0 hu
  (by have:=V1 b1 (show M-1-1≤3 by omega);omega) (by have:=V1 (4*b1+3) (show N-1-2≤2 by omega);omega) oq oq oq hD (V5 (V0 huU hUb) (Nat.pow_lt_pow_right dq oq))
  (fun h E h1 hh _ ha hm=>⟨13*b1+11,13*b1+11,13*(13*b1+11)+13*(hb+4),by omega,V0 hh (V0 huU hUb),ha,hm,by omega,by omega,hw _ _ _ oq oq oq,by omega,by omega⟩)
  (fun h E h1 hh _ hm=>⟨13*b1+11,13*(13*b1+11)+13*(hb+4),V0 hh (V0 huU hUb),hm,by omega,hw _ _ _ oq oq oq,by omega,by omega⟩) 5 oq
 obtain⟨mu,Z,p⟩:=hd.Q
 have hge:1≤h':=by have:=hd.c.ev.nz;have:=hd.c.hh;omega
 have hz:=z_le hge p.zc nm.nz
 have hpz:=p.zm
 have hpu:=p.u
 exact⟨S',g,Q4m hd oq fun a b ha0 ha hb0 hb=>Q4u (p.m a b ha0 ha hb0 hb) oq⟩
theorem Qnn {S:Sm} (hM:2<M) (hN:2<N) (h0:St0 2 M N D b2 (u2+2) u S):∃ S',Zz K (hb+3) 2 M N 5 S=some S'∧iF 2 M N D b3 u3 u S':=by
 have h3:=nm.n5;have h4:=nm.n6;have h5:=nm.kk;have h7:=nm.nh;have h8:=nm.nl;have h9:=nm.n4;have h10:=nm.nm
 have hUb:=nm.nU
 have md:=Qth (K:=K) (D:=D) (m:=M-2) (n:=N-2) (C:=(225*(7*b2+5+hb+1)) ^ 15*(U ^ 4*22 ^ 4*3831 ^ 2)) (U0:=9*(u2+2+2*(b2+1)+2*(3*b2+2+1))+18*(7*b2+5+hb+1)) (Vm:=Vm) oq oq nm.nv oq hD
 have hw:∀ h e s,h≤U→e≤4→s≤2→(225*(7*b2+5+hb+1)) ^ 15*Wm h e s≤(225*(7*b2+5+hb+1)) ^ 15*(U ^ 4*22 ^ 4*3831 ^ 2):=fun h e s h1 h2 h3=>by
  refine V3 _ ?_
  unfold Wm
  exact Vr (Vr (Nat.pow_le_pow_left h1 4) (V4 dq h2)) (V4 dq h3)
 have hnb:∀ h a b x,h≤U→x≤2 ^ (7*b2+5)→h*x≤2 ^ nb (7*b2+5+hb) 0 0 a b:=fun h a b x h1 h2=>by
  have:nb (7*b2+5+hb) 0 0 a b=hb+(7*b2+5):=by unfold nb;split<;>split<;>omega
  rw[this,Nat.pow_add]
  exact Vr (V0 h1 hUb) h2
 obtain⟨S',q',p',h',e',s',dY,g,hd,_,_⟩:=Q15 (K:=K) (q:=2) (B1:=3*b2+2) (B2:=7*b2+5) (F:=hb+1) md hM hN oq oq oq oq h0 hu
  (by have:=V1 b2 (show M-2-1≤2 by omega);omega) (by have:=V1 (3*b2+2) (show N-2-2≤1 by omega);omega) oq oq oq hD (V5 (V0 huU hUb) (Nat.pow_lt_pow_right dq oq))
  (fun h E h1 hh _ ha hm=>⟨7*b2+5+hb,0,0,0,225*(7*b2+5+hb+1),V0 hh (V0 huU (V0 hUb (V4 dq oq))),fun a ha0 ha1=>V0 (ha a ha0 ha1) (V4 dq oq),fun a b ha0 ha1 hb0 hb1=>hnb _ _ _ _ (V0 hh huU) (hm a b ha0 ha1 hb0 hb1),.inl ⟨rfl,by omega⟩,hw _ _ _ oq oq oq,by omega,by omega⟩)
  (fun h E h1 hh _ hm=>⟨7*b2+5+hb,0,0,225*(7*b2+5+hb+1),V0 hh (V0 huU (V0 hUb (V4 dq oq))),fun a b ha0 ha1 hb0 hb1=>hnb _ _ _ _ (V0 hh huU) (hm a b ha0 ha1 hb0 hb1),by omega,hw _ _ _ oq oq oq,by omega,by omega⟩) 5 oq
 obtain⟨ze,r,c,V,p⟩:=hd.Q
 have hge:1≤h':=by have:=hd.c.ev.nz;have:=hd.c.hh;omega
 have hz:=v_le hge p.vc nm.nv
 have hpv:=p.v
 have hpu:=p.u
 refine⟨S',g,Q4m hd oq fun a b ha0 ha hb0 hb1=>?_⟩
 have h11:=p.m a b ha0 ha hb0 hb1
 refine Q4u (a:=ze+r+c) ?_ oq
 exact V0 (Nat.le_mul_of_pos_left _ hge) (V0 h11 (V4 dq Qro))
theorem Qnm {S:Sm} (hM:3<M) (hN:3<N) (h0:St0 3 M N D b3 (u3+2) u S):∃ S',Zz K (hb+3) 3 M N 5 S=some S'∧iF 3 M N D (hb+1) u4 u S':=by
 have h4:=nm.n6;have h5:=nm.kk;have h7:=nm.nh;have h8:=nm.k2
 have hUb:=nm.nU
 have huh:=V0 huU hUb
 have md:=Qrt (K:=K) (D:=D) (m:=M-3) (n:=N-3) (hb:=hb) (U0:=u4) hu huh oq oq oq oq hD
 have hs:∀ s,s≤1→u3+2+1*(b3+1)+1*(2*b3+1+1)+(2*hb+1)*(hb+2*s+2)≤u4:=fun s hs=>by
  have:=V3 (2*hb+1) (show hb+2*s+2≤hb+5 by omega)
  omega
 obtain⟨S',q',p',h',e',s',dY,g,hd,_,_⟩:=Q15 (K:=K) (q:=1) (B1:=2*b3+1) (B2:=3*b3+1) (F:=hb+1) md hM hN oq oq oq oq h0 hu
  (by have:=V1 b3 (show M-3-1≤1 by omega);omega) (by rw[show N-3-2=0 by omega];omega) oq oq oq hD (V5 huh (Nat.pow_lt_pow_right dq oq))
  (fun h E h1 hh hW ha hm => by
   obtain⟨W,w1,w2,w3,w4⟩:=hW
   obtain⟨c1,c2⟩:=Qf6 hu oq oq oq w1 w2 w3 w4
   exact⟨c1,fun a ha0 ha1=>V0 (c2 a ha0 ha1) (V0 huh (V4 dq oq)),hh,hb,V5 (V0 hh huh) (Nat.pow_lt_pow_right dq oq),hs _ oq⟩)
  (fun h E h1 hh hg hm => ⟨hg, hh, hb, V5 (V0 hh huh) (Nat.pow_lt_pow_right dq oq), by
   have:=hs (M-3-1) oq
   have h9:=V3 (2*hb+1) (show hb+2*(M-3-1)+1≤hb+2*(M-3-1)+2 by omega)
   omega⟩) 5 oq
 obtain⟨q1,q2,N',q3,q4⟩:=hd.Q
 refine⟨S',g,Q4m hd oq fun a b ha0 ha hb0 hb1=>?_⟩
 obtain rfl:a=1:=by omega
 obtain rfl:b=1:=by omega
 obtain rfl:M=5:=by omega
 obtain rfl:N=5:=by omega
 exact Q4u (V0 (Qhl hu q1 hd.c.ev.nz (hd.cc 1 oq oq)) huh) oq
theorem Qnl {S:Sm} (hM:4<M) (hN:4<N) (h0:St0 4 M N D (hb+1) (u4+2) u S):∃ S',Zz K (hb+3) 4 M N 5 S=some S'∧iF 4 M N D (hb+1) (u4+10000) u S':=by
 have h5:=nm.kk;have h7:=nm.nh
 have hUb:=nm.nU
 have huh:=V0 huU hUb
 have md:=Qrt (K:=K) (D:=D) (m:=M-4) (n:=N-4) (hb:=hb) (U0:=u4+10000) hu huh oq oq oq oq hD
 have hs:u4+2+0*(hb+1+1)+0*(hb+1+1)+(2*hb+1)*(hb+2*(M-4-1)+2)≤u4+10000:=by
  rw[show M-4-1=0 by omega]
  have:=Vr (show 2*hb+1≤81 by omega) (show hb+2*0+2≤42 by omega)
  omega
 obtain⟨S',q',p',h',e',s',dY,g,hd,_,_⟩:=Q15 (K:=K) (q:=0) (B1:=hb+1) (B2:=2*hb+2) (F:=hb+1) md hM hN oq oq oq oq h0 hu
  (by rw[show M-4-1=0 by omega];omega) (by rw[show N-4-2=0 by omega];omega) oq oq oq hD (V5 huh (Nat.pow_lt_pow_right dq oq))
  (fun h E h1 hh hW ha hm => by
   obtain⟨W,w1,w2,w3,w4⟩:=hW
   obtain⟨c1,c2⟩:=Qf6 hu oq oq oq w1 w2 w3 w4
   exact⟨c1,fun a ha0 ha1=>absurd ha1 oq,hh,hb,V5 (V0 hh huh) (Nat.pow_lt_pow_right dq oq),hs⟩)
  (fun h E h1 hh hg hm => ⟨hg, hh, hb, V5 (V0 hh huh) (Nat.pow_lt_pow_right dq oq), by
   have h9:=V3 (2*hb+1) (show hb+2*(M-4-1)+1≤hb+2*(M-4-1)+2 by omega)
   omega⟩) 5 oq
 obtain⟨q1,q2,N',q3,q4⟩:=hd.Q
 exact⟨S',g,Q4m hd oq fun a b ha0 ha hb0 hb1=>absurd ha oq⟩
end

theorem Q1o {U hb B0 N0 b1 u1 Zm b2 u2 Vm b3 u3 u4 K M N:Nat} {u:Int} {a:List (List Int)} (nm:Nmb U hb B0 N0 b1 u1 Zm b2 u2 Vm b3 u3 u4 K) (hB0:B0=N0+1) (hM5:M≤5) (jh:N≤5) (hu:u≠0) (huU:u.natAbs≤U) (ha:Rec M N a) (hs:∀ i j,i<M→j<N→(gE a i j).natAbs<2 ^ B0) (hg:Gm M N u (gE a))
  (hdm:Dm M N (QY M N a)) (hsu:iY 1 M N (QY M N a)):∃ S',ZF K (hb+3) 5 M N (min M N) 0 (QY M N a)=some S':=by
 have h1:=nm.n1;have h2:=nm.n3;have h3:=nm.n5;have h4:=nm.n6;have h5:=nm.kk;have h6:=nm.nc;have h7:=nm.nh;have h8:=nm.k2;have h9:=nm.nl;have h10:=nm.nm
 have hD:U<256 ^ K:=V5 nm.nU (QR oq)
 have hr:rest 0 (QY M N a).d=gE a:=by
  funext i j
  show gE a (0+i) (0+j)=gE a i j
  rw[Vu,Vu]
 refine Qhs (D:=U) hu huU hD (fun t=>if t=0 then B0 else if t=1 then b1 else if t=2 then b2 else if t=3 then b3 else hb+1) (fun t=>if t=0 then 0 else if t=1 then u1 else if t=2 then u2 else if t=3 then u3 else if t=4 then u4 else u4+10000) ?_ ?_ ?_ (min M N) 0 _ oq ?_
 ·intro t _ _
  skip
  split
  ·omega
  ·split
   ·omega
   ·split
    ·omega
    ·split<;>omega
 ·intro t _ _
  skip
  split
  ·omega
  ·split
   ·omega
   ·split
    ·omega
    ·split
     ·omega
     ·split<;>omega
 ·intro t S hM hN h0
  have ht:t=0∨t=1∨t=2∨t=3∨t=4:=by omega
  rcases ht with rfl|rfl|rfl|rfl|rfl
  ·exact Qnp nm hM5 jh hD hB0 hM hN h0
  ·exact Qno nm hM5 jh hu huU hD hM hN h0
  ·exact Qnn nm hM5 jh hu huU hD hM hN h0
  ·exact Qnm nm hM5 jh hu huU hD hM hN h0
  ·exact Qnl nm hM5 jh hu huU hD hM hN h0
 ·exact {
   b:=⟨hdm,⟨fun a b _ _ _ h=>absurd h oq,fun a _ _ h=>absurd h oq⟩,hsu⟩
   sz:=fun i j hi hj=>by rw[hr];exact hs i j hi hj
   g:=by rw[hr];exact hg }
theorem Qte {K:Nat} (hK:1582850030757≤K):Nmb 2600000 22 5 4 256 14362 1209015500 151126938 2418049219 83759938033969 1116799173787 9312402623474 12662800146055 K :=
 ⟨by decide,by decide,by decide,by decide,by decide,by decide,by decide,by decide,by decide,by decide,by decide,by decide,by decide,by decide,by omega,by omega⟩


structure Kept (t0 m n:Nat) (P:Sm→Prop):Prop where
 r:∀ {S:Sm} {i k:Nat} {t:Tn},P S→t0≤i→i<k→k<m→t.a*t.d-t.b*t.c=1→P (S.rows i k t)
 c:∀ {S:Sm} {i k:Nat} {t:Tn},P S→t0≤i→i<k→k<n→t.a*t.d-t.b*t.c=1→P (S.cols i k t)
 n:∀ {S:Sm} {t:Nat},P S→t0≤t→t<m→P (S.neg t)
theorem Q6l {x y:Int} {t:Tn} {c:Bool} (h:Z5 x y=some (t,c)):t.a*t.d-t.b*t.c=1:=by
 unfold Z5 at h
 split at h
 ·cases h
 ·rename_i hy
  split at h
  ·cases h;dsimp only;omega
  ·cases h
   dsimp only
   have hg:=Q50 x y
   have hd:(dB x y).1∣x:=by rw[hg.e];exact Int.gcd_dvd_left ..
   have he:(dB x y).1∣y:=by rw[hg.e];exact Int.gcd_dvd_right ..
   have hs:=(hg.n hy).2.2
   generalize (dB x y).1=g at *
   generalize (dB x y).2.1=s at *
   generalize (dB x y).2.2=u at *
   obtain⟨p,rfl⟩:=hd
   obtain⟨q,rfl⟩:=he
   have hg0:g≠0:=fun e=>hy (by rw[e,Int.zero_mul])
   rw[Int.mul_ediv_cancel_left _ hg0,Int.mul_ediv_cancel_left _ hg0]
   have:g*(s*p-u * -q)=g*1:=by grind
   exact Int.eq_of_mul_eq_mul_left hg0 this
section
variable {t0 m n K:Nat} {P:Sm→Prop} (kp:Kept t0 m n P)
include kp
theorem Qi9 {t i:Nat} {S:Sm} {r:Sm × Bool} (h:gQ K t i S=some r) (ht:t0≤t) (hti:t<i) (hi:i<m) (hp:P S):P r.1:=by
 unfold gQ at h
 cases h1:Z5 (gE S.d t t) (gE S.d i t)with
 | none=>rw[h1]at h;cases h;exact hp
 | some q =>
  obtain⟨tn,c⟩:=q
  rw[h1]at h
  dsimp only at h
  cases h2:ck K (S.rows t i tn)with
  | none=>rw[h2]at h;cases h
  | some S2=>rw[h2]at h;obtain⟨rfl,_⟩:=Zl h2;cases h;exact kp.r hp ht hti hi (Q6l h1)
theorem Qia {t i:Nat} {S:Sm} {r:Sm × Bool} (h:gU K t i S=some r) (ht:t0≤t) (hti:t<i) (hi:i<n) (hp:P S):P r.1:=by
 unfold gU at h
 cases h1:Z5 (gE S.d t t) (gE S.d t i)with
 | none=>rw[h1]at h;cases h;exact hp
 | some q =>
  obtain⟨tn,c⟩:=q
  rw[h1]at h
  dsimp only at h
  cases h2:ck K (S.cols t i tn)with
  | none=>rw[h2]at h;cases h
  | some S2=>rw[h2]at h;obtain⟨rfl,_⟩:=Zl h2;cases h;exact kp.c hp ht hti hi (Q6l h1)
theorem Q8v {t:Nat} (ht:t0≤t):∀ {k i:Nat} {S S':Sm},rowP K t k i S=some S'→t<i→i+k≤m→P S→P S'
 | 0,_,_,_,h,_,_,hp=>by rw[rowP]at h;cases h;exact hp
 | k+1,i,_,_,h,hti,hk,hp=>by
  obtain⟨r,h1,h2⟩:=Q18 h
  exact Q8v ht h2 oq oq (Qi9 kp h1 ht hti oq hp)
theorem Q9q {t:Nat} (ht:t0≤t):∀ {k i:Nat} {ch:Bool} {S:Sm} {q:Sm × Bool},dP K t k i ch S=some q→t<i→i+k≤n→P S→P q.1
 | 0,_,_,_,_,h,_,_,hp=>by rw[dP]at h;cases h;exact hp
 | k+1,i,_,_,_,h,hti,hk,hp=>by
  obtain⟨r,h1,h2⟩:=Q1t h
  exact Q9q ht h2 oq oq (Qia kp h1 ht hti oq hp)
theorem Q0t {t:Nat} (ht:t0≤t) (gB:t<m) (htn:t<n):∀ {f:Nat} {S S':Sm},ZG K t m n f S=some S'→P S→P S'
 | 0,_,_,h,_=>by rw[ZG]at h;cases h
 | f+1,_,_,h,hp=>by
  obtain⟨S1,S2,ch,h1,h2,h3,h4⟩:=Wo h
  have hb2:=Q9q kp ht h2 oq oq (Q8v kp ht h1 oq oq hp)
  cases ch with
  | true=>exact Q0t ht gB htn (h3 rfl) hb2
  | false=>rw[← h4 rfl];exact hb2
theorem W9 {t fc:Nat} (ht:t0≤t) (gB:t<m) (htn:t<n):∀ {f:Nat} {S S':Sm},Zz K fc t m n f S=some S'→P S→P S'
 | 0,_,_,h,_=>by rw[Zz]at h;cases h
 | f + 1, _, _, h, hp => by
  obtain⟨Sa,h1,⟨_,rfl⟩|⟨i,Sb,h2,h3,h4⟩⟩:=W8 h
  ·exact Q0t kp ht gB htn h1 hp
  ·obtain⟨rfl,_⟩:=Zl h3
   have hl:=Wa h2
   exact W9 ht gB htn h4 (kp.r (Q0t kp ht gB htn h1 hp) ht hl.1 hl.2 dq)
theorem Q0n {t:Nat} (ht:t0≤t) {S:Sm} {r:Sm × Bool} (h:X1 K t m n S=some r) (hp:P S):P r.1:=by
 unfold X1 at h
 cases hf:Q2g S t m n with
 | none=>rw[hf]at h;cases h;exact hp
 | some q =>
  obtain⟨i,j⟩:=q
  obtain⟨f1,f2,f3,f4,_⟩:=Q2f hf
  rw[hf]at h
  dsimp only at h
  have hr:∀ S1,(if i=t then some S else ck K (S.rows t i ⟨0,1,-1,0⟩))=some S1→P S1:=fun S1 h1=>by
   split at h1
   ·cases h1;exact hp
   ·obtain⟨rfl,_⟩:=Zl h1;exact kp.r hp ht oq f2 dq
  cases h1:(if i=t then some S else ck K (S.rows t i ⟨0,1,-1,0⟩))with
  | none=>rw[h1]at h;cases h
  | some S1 =>
   have p1:=hr S1 h1
   rw[h1]at h
   dsimp only at h
   have hc:∀ S2,(if j=t then some S1 else ck K (S1.cols t j ⟨0,1,-1,0⟩))=some S2→P S2:=fun S2 h2=>by
    split at h2
    ·cases h2;exact p1
    ·obtain⟨rfl,_⟩:=Zl h2;exact kp.c p1 ht oq f4 dq
   cases h2:(if j=t then some S1 else ck K (S1.cols t j ⟨0,1,-1,0⟩))with
   | none=>rw[h2]at h;cases h
   | some S2=>rw[h2]at h;cases h;exact hc S2 h2
theorem Q6h {fc f:Nat}:∀ {k t:Nat} {S S':Sm},ZF K fc f m n k t S=some S'→t0≤t→t+k≤min m n→P S→P S'
 | 0,_,_,_,h,_,_,hp=>by rw[ZF]at h;cases h;exact hp
 | k + 1, t, _, _, h, ht, hk, hp => by
  obtain⟨S1,fl,h1,h2,h3⟩:=WQ h
  have p1:=Q0n kp ht h1 hp
  cases fl with
  | false=>rw[← h2 rfl];exact p1
  | true =>
   obtain⟨S2,h4,h5⟩:=h3 rfl
   have p2:=W9 kp ht oq oq h4 p1
   refine Q6h h5 oq oq ?_
   split
   ·exact kp.n p2 ht oq
   ·exact p2
end

def cop (i k:Nat) (t:Tn) (E:Mi):Mi:=tr (rop i k t (tr E))
theorem Q3p {M N i k:Nat} {tn:Tn} {g:List (List Int)} (h:Rec M N g) (hi:i<M) (hk:k<M):gE (XJ i k tn g)=rop i k tn (gE g):=by
 funext a b
 dsimp only[rop]
 by_cases hb:b<N
 ·exact Wj h hi hk hb
 ·rw[Q07 (h.rows hi hk) (.inr oq),Q07 (a:=i) h (.inr oq),Q07 (a:=k) h (.inr oq),Q07 (a:=a) h (.inr oq)]
  unfold Tn.p Tn.q
  simp
theorem Q3q {M N i k:Nat} {tn:Tn} {g:List (List Int)} (h:Rec M N g) (hi:i<N) (hk:k<N):gE (Xq i k tn g)=cop i k tn (gE g):=by
 funext a b
 dsimp only[cop,tr,rop]
 by_cases ha:a<M
 ·exact Wk h hi hk ha
 ·rw[Q07 (h.cols (i:=i) (k:=k) (t:=tn)) (.inl oq),Q07 (b:=i) h (.inl oq),Q07 (b:=k) h (.inl oq),Q07 (b:=b) h (.inl oq)]
  unfold Tn.p Tn.q
  simp
theorem Qhc {m i k:Nat} {t:Tn} {U X:Mi}:bM m (rop i k t U) X=rop i k t (bM m U X):=by
 funext a b
 dsimp only[bM,rop]
 split
 ·unfold Tn.q;rw[← QM, ← QM, ← ZB];exact Qq fun c _=>by grind
 ·split
  ·unfold Tn.p;rw[← QM, ← QM, ← ZB];exact Qq fun c _=>by grind
  ·rfl
theorem Qcz {m i k:Nat} {t:Tn} {U X:Mi}:bM m U (cop i k t X)=cop i k t (bM m U X):=by
 funext a b
 dsimp only[bM,cop,tr,rop]
 split
 ·unfold Tn.q;rw[← QM, ← QM, ← ZB];exact Qq fun c _=>by grind
 ·split
  ·unfold Tn.p;rw[← QM, ← QM, ← ZB];exact Qq fun c _=>by grind
  ·rfl
theorem flip2 (t:Tn):t.flip.flip=t:=by
 unfold Tn.flip;simp
theorem Qdb {t:Tn} (h:t.a*t.d-t.b*t.c=1):t.flip.a*t.flip.d-t.flip.b*t.flip.c=1:=by
 unfold Tn.flip;dsimp only;grind
theorem Qme {m i k:Nat} {t:Tn} {U Y:Mi} (hik:i<k) (hk:k<m) (hd:t.a*t.d-t.b*t.c=1):bM m (cop i k t.flip Y) (rop i k t U)=bM m Y U:=by
 funext a b
 have h:=Qbp (m:=m) (i:=i) (k:=k) (t:=t) (y:=Y a) (E:=U) (b:=b) hik hk hd
 dsimp only[bM]
 rw[← h]
 refine Qq fun c _=>?_
 congr 1
theorem Qr2 {m i k:Nat} {t:Tn} {E:Mi} (hik:i<k) (hk:k<m) (hd:t.a*t.d-t.b*t.c=1) (h:∀ a b,a<m→b<m→E a b=dO a b):∀ a b,a<m→b<m→rop i k t (cop i k t.flip E) a b=dO a b:=fun a b ha hb=>by
 have h1:=h a b ha hb
 have h2:=h i b oq hb
 have h3:=h k b hk hb
 have h4:=h a i ha oq
 have h5:=h a k ha hk
 have h6:=h i i oq oq
 have h7:=h i k oq hk
 have h8:=h k i hk oq
 have h9:=h k k hk hk
 dsimp only[rop,cop,tr,Tn.p,Tn.q,Tn.flip]
 unfold dO at *
 by_cases e1:a=k<;>by_cases e2:a=i<;>by_cases e3:b=k<;>by_cases e4:b=i<;>by_cases e5:a=b<;>simp_all<;>grind
structure Cor (m n:Nat) (A:Mi) (S:Sm):Prop where
 dm:Dm m n S
 uu:∀ a b,a<m→b<m→bM m (gE S.u) (gE S.ui) a b=dO a b
 iu:∀ a b,a<m→b<m→bM m (gE S.ui) (gE S.u) a b=dO a b
 vv:∀ a b,a<n→b<n→bM n (gE S.v) (gE S.vi) a b=dO a b
 iv:∀ a b,a<n→b<n→bM n (gE S.vi) (gE S.v) a b=dO a b
 dd:∀ a b,a<m→b<n→bM m (gE S.u) (bM n A (gE S.v)) a b=gE S.d a b
theorem Qgd {m n i k:Nat} {t:Tn} {E F:Mi} (hi:i<m) (hk:k<m) (h:∀ a b,a<m→b<n→E a b=F a b):∀ a b,a<m→b<n→rop i k t E a b=rop i k t F a b:=fun a b ha hb=>by
 unfold rop;rw[h i b hi hb,h k b hk hb,h a b ha hb]
theorem Qi6 {m n i k:Nat} {t:Tn} {E F:Mi} (hi:i<n) (hk:k<n) (h:∀ a b,a<m→b<n→E a b=F a b):∀ a b,a<m→b<n→cop i k t E a b=cop i k t F a b:=fun a b ha hb=>by
 dsimp only[cop,tr,rop];rw[h a i ha hi,h a k ha hk,h a b ha hb]
theorem Qdf (m n:Nat) (A:Mi):Kept 0 m n (Cor m n A):=by
 refine⟨fun {S i k t} h _ hik hk hd=>?_,fun {S i k t} h _ hik hk hd=>?_,fun {S t} h _ ht=>?_⟩
 ·have hi:i<m:=by omega
  have e1:gE (S.rows i k t).u=rop i k t (gE S.u):=Q3p h.dm.u hi hk
  have e2:gE (S.rows i k t).ui=cop i k t.flip (gE S.ui):=Q3q h.dm.ui hi hk
  have e3:gE (S.rows i k t).d=rop i k t (gE S.d):=Q3p h.dm.d hi hk
  refine⟨h.dm.rows hi hk,?_,?_,h.vv,h.iv,?_⟩
  ·rw[e1,e2,Qhc,Qcz];exact Qr2 hik hk hd h.uu
  ·rw[e1,e2,Qme hik hk hd];exact h.iu
  ·rw[e1,e3,Qhc];exact Qgd hi hk h.dd
 ·have hi:i<n:=by omega
  have e1:gE (S.cols i k t).v=cop i k t (gE S.v):=Q3q h.dm.v hi hk
  have e2:gE (S.cols i k t).vi=rop i k t.flip (gE S.vi):=Q3p h.dm.vi hi hk
  have e3:gE (S.cols i k t).d=cop i k t (gE S.d):=Q3q h.dm.d hi hk
  have hf:cop i k t (gE S.v)=cop i k t.flip.flip (gE S.v):=by rw[flip2]
  refine⟨h.dm.cols hi hk,h.uu,h.iu,?_,?_,?_⟩
  ·rw[e1,e2,hf,Qme hik hk (Qdb hd)];exact h.vv
  ·rw[e1,e2,hf,Qhc,Qcz];exact Qr2 hik hk (Qdb hd) h.iv
  ·rw[e1,e3,Qcz,Qcz];exact Qi6 hi hk h.dd
 ·have e1:∀ a b,gE (S.neg t).u a b=if a=t then -(gE S.u t b) else gE S.u a b:=fun a b=>Q7u h.dm.u ht
  have e2:∀ a b,a<m→gE (S.neg t).ui a b=if b=t then -(gE S.ui a t) else gE S.ui a b:=fun a b ha=>Qsc h.dm.ui ht ha
  have e3:∀ a b,gE (S.neg t).d a b=if a=t then -(gE S.d t b) else gE S.d a b:=fun a b=>Q7u h.dm.d ht
  refine⟨h.dm.neg' ht,fun a b ha hb=>?_,fun a b ha hb=>?_,h.vv,h.iv,fun a b ha hb=>?_⟩
  ·have h1:=h.uu a b ha hb
   have:bM m (gE (S.neg t).u) (gE (S.neg t).ui) a b=(if a=t then -1 else 1)*(if b=t then -1 else 1)*bM m (gE S.u) (gE S.ui) a b:=by
    unfold bM
    rw[← QM]
    refine Qq fun c hc=>?_
    rw[e1,e2 c b hc]
    by_cases x:a=t<;>by_cases y:b=t<;>simp[x,y,Int.neg_mul,Int.mul_neg]
   rw[this,h1]
   unfold dO
   by_cases x:a=t<;>by_cases y:b=t<;>by_cases z:a=b<;>simp_all
  ·rw[← h.iu a b ha hb]
   unfold bM
   refine Qq fun c hc=>?_
   rw[e1,e2 a c ha]
   by_cases x:c=t
   ·subst x;simp[Int.neg_mul,Int.mul_neg]
   ·simp[x]
  ·rw[e3]
   have:bM m (gE (S.neg t).u) (bM n A (gE (S.neg t).v)) a b=(if a=t then -1 else 1)*bM m (gE S.u) (bM n A (gE S.v)) a b:=by
    show (aN m fun c=>gE (S.neg t).u a c*bM n A (gE S.v) c b)=_*aN m _
    rw[← QM]
    refine Qq fun c hc=>?_
    rw[e1]
    by_cases x:a=t<;>simp[x,Int.neg_mul]
   rw[this,h.dd a b ha hb]
   by_cases x:a=t<;>simp[x]
theorem Q9o {m n:Nat} {a:List (List Int)} (hd:Dm m n (QY m n a)):Cor m n (gE a) (QY m n a):=by
 have ho:∀ k i j,i<k→j<k→gE (fJ k) i j=dO i j:=fun k i j hi hj=>by
  unfold gE fJ dO
  simp[List.getD,List.getElem?_map,List.getElem?_range hi,List.getElem?_range hj]
 have hid:∀ k a b,a<k→b<k→bM k (gE (fJ k)) (gE (fJ k)) a b=dO a b:=fun k a b ha hb=>by
  rw[ZE (A':=dO) (B':=gE (fJ k)) (fun c hc=>ho k a c ha hc) (fun c hc=>rfl),Q6b ha]
  exact ho k a b ha hb
 refine⟨hd,hid m,hid m,hid n,hid n,fun a' b' ha hb=>?_⟩
 show bM m (gE (fJ m)) (bM n (gE a) (gE (fJ n))) a' b'=gE a a' b'
 rw[ZE (A':=dO) (B':=bM n (gE a) (gE (fJ n))) (fun c hc=>ho m a' c ha hc) (fun c hc=>rfl),Q6b ha]
 rw[ZE (A':=gE a) (B':=dO) (fun c hc=>rfl) (fun c hc=>ho n c b' hc hb),Q2b hb]

theorem Qla {K t j M N:Nat} {S:Sm} {r:Sm × Bool} (hR:Rec M N S.d) (hj:t+(j+1)<M) (h:gQ K t (t+(j+1)) S=some r):rest t r.1.d=stp (j+1) (rest t S.d)∧r.2=chO (rest t S.d 0 0) (rest t S.d (j+1) 0)∧Rec M N r.1.d:=by
 unfold gQ at h
 have e1:rest t S.d 0 0=gE S.d t t:=rfl
 have e2:rest t S.d (j+1) 0=gE S.d (t+(j+1)) t:=rfl
 unfold stp eG chO
 rw[e1,e2]
 cases h1:Z5 (gE S.d t t) (gE S.d (t+(j+1)) t)with
 | none=>rw[h1]at h;cases h;exact⟨(jY).symm,rfl,hR⟩
 | some q =>
  obtain⟨tn,c⟩:=q
  rw[h1]at h
  dsimp only at h
  cases h2:ck K (S.rows t (t+(j+1)) tn)with
  | none=>rw[h2]at h;cases h
  | some S2=>rw[h2]at h;obtain⟨rfl,_⟩:=Zl h2;cases h;exact⟨XK hR hj oq,rfl,hR.rows oq hj⟩
theorem Qlb {K t j M N:Nat} {S:Sm} {r:Sm × Bool} (hR:Rec M N S.d) (hj:t+(j+1)<N) (h:gU K t (t+(j+1)) S=some r):tr (rest t r.1.d)=stp (j+1) (tr (rest t S.d))∧r.2=chO (rest t S.d 0 0) (rest t S.d 0 (j+1))∧Rec M N r.1.d:=by
 unfold gU at h
 have e1:tr (rest t S.d) 0 0=gE S.d t t:=rfl
 have e2:tr (rest t S.d) (j+1) 0=gE S.d t (t+(j+1)):=rfl
 have e3:rest t S.d 0 0=gE S.d t t:=rfl
 have e4:rest t S.d 0 (j+1)=gE S.d t (t+(j+1)):=rfl
 unfold stp eG chO
 rw[e1,e2,e3,e4]
 cases h1:Z5 (gE S.d t t) (gE S.d t (t+(j+1)))with
 | none=>rw[h1]at h;cases h;exact⟨(jY).symm,rfl,hR⟩
 | some q =>
  obtain⟨tn,c⟩:=q
  rw[h1]at h
  dsimp only at h
  cases h2:ck K (S.cols t (t+(j+1)) tn)with
  | none=>rw[h2]at h;cases h
  | some S2=>rw[h2]at h;obtain⟨rfl,_⟩:=Zl h2;cases h;exact⟨by show tr (rest t (Xq t (t+(j+1)) tn S.d))=_;rw[Q1a hR hj oq];rfl,rfl,hR.cols⟩
theorem Qc0 {K t M N:Nat} {E:Mi}:∀ {k j:Nat} {S S':Sm},Rec M N S.d→t+(j+1)+k≤M→rest t S.d=aJ j E→rowP K t k (t+(j+1)) S=some S'→rest t S'.d=aJ (j+k) E∧Rec M N S'.d
 | 0,_,_,_,hR,_,he,h=>by rw[rowP]at h;cases h;exact⟨he,hR⟩
 | k+1,j,S,_,hR,hk,he,h=>by
  obtain⟨r,h1,h2⟩:=Q18 h
  obtain⟨f1,_,f3⟩:=Qla hR oq h1
  rw[show j+(k+1)=j+1+k by omega]
  exact Qc0 f3 oq (by rw[f1,he];rfl) h2
theorem Qdi {K t M N:Nat} {E:Mi}:∀ {k j:Nat} {ch:Bool} {S:Sm} {q:Sm × Bool},Rec M N S.d→t+(j+1)+k≤N→tr (rest t S.d)=aJ j E→dP K t k (t+(j+1)) ch S=some q→tr (rest t q.1.d)=aJ (j+k) E∧Rec M N q.1.d∧(q.2=false→ch=false∧dJ E (j+k)=dJ E j)
 | 0,_,_,_,_,hR,_,he,h=>by rw[dP]at h;cases h;exact⟨he,hR,fun h=>⟨h,rfl⟩⟩
 | k + 1, j, ch, S, _, hR, hk, he, h => by
  obtain⟨r,h1,h2⟩:=Q1t h
  obtain⟨f1,f2,f3⟩:=Qlb hR oq h1
  rw[show j+(k+1)=j+1+k by omega]
  obtain⟨g1,g2,g3⟩:=Qdi (E:=E) f3 oq (by rw[f1,he];rfl) h2
  refine⟨g1,g2,fun hq=>?_⟩
  obtain⟨g4,g5⟩:=g3 hq
  rw[Bool.or_eq_false_iff]at g4
  refine⟨g4.1,?_⟩
  rw[g5]
  show dJ E j+(if jd E j then 1 else 0)=_
  have e:jd E j=r.2:=by
   rw[f2]
   unfold jd
   rw[← he]
   rfl
  rw[e,g4.2];simp
theorem Q0s {K t M N:Nat} (hM:t<M) (hN:t<N):∀ {f:Nat} {S S':Sm},Rec M N S.d→rest t S.d 0 0≠0→ZG K t M N f S=some S'→Rec M N S'.d∧rest t S'.d 0 0≠0∧fV (N-t) (rest t S'.d)∧fV (M-t) (tr (rest t S'.d))
 | 0,_,_,_,_,h=>by rw[ZG]at h;cases h
 | f + 1, S, S', hR, h0, h => by
  obtain⟨S1,S2,ch,h1,h2,h3,h4⟩:=Wo h
  obtain⟨r1,hR1⟩:=Qc0 (E:=rest t S.d) (j:=0) hR oq rfl (show rowP K t (M-(t+1)) (t+(0+1)) S=some S1 from h1)
  rw[Vu]at r1
  have n1:tr (rest t S1.d) 0 0≠0:=by show rest t S1.d 0 0≠0;rw[r1];exact Zw h0 _
  have c1:fV (M-t) (tr (rest t S1.d)):=fun a ha0 ha=>by show rest t S1.d a 0=0;rw[r1];exact Yy h0 ha0 oq
  obtain⟨r2,hR2,r3⟩:=Qdi (E:=tr (rest t S1.d)) (j:=0) hR1 oq rfl (show dP K t (N-(t+1)) (t+(0+1)) false S1=some (S2,ch) from h2)
  rw[Vu]at r2 r3
  have n2:rest t S2.d 0 0≠0:=by show tr (rest t S2.d) 0 0≠0;rw[r2];exact Zw n1 _
  cases ch with
  | true=>exact Q0s hM hN hR2 n2 (h3 rfl)
  | false =>
   rw[← h4 rfl]
   obtain⟨_,hc⟩:=r3 rfl
   refine⟨hR2,n2,fun b hb0 hb=>?_,fun a ha0 ha=>?_⟩
   ·show tr (rest t S2.d) b 0=0;rw[r2];exact Yy n1 hb0 oq
   ·rw[r2,Yd n1 hc];exact c1 a ha0 ha
theorem Q47 {K t M N fc:Nat} (hM:t<M) (hN:t<N):∀ {f:Nat} {S S':Sm},Rec M N S.d→rest t S.d 0 0≠0→Zz K fc t M N f S=some S'→Rec M N S'.d∧rest t S'.d 0 0≠0∧fV (N-t) (rest t S'.d)∧fV (M-t) (tr (rest t S'.d))∧∀ i j,t<i→i<M→t<j→j<N→gE S'.d t t∣gE S'.d i j
 | 0,_,_,_,_,h=>by rw[Zz]at h;cases h
 | f + 1, S, S', hR, h0, h => by
  obtain⟨Sa,h1,⟨h2,rfl⟩|⟨i,Sb,h2,h3,h4⟩⟩:=W8 h
  ·obtain⟨g1,g2,g3,g4⟩:=Q0s hM hN hR h0 h1
   exact⟨g1,g2,g3,g4,fun i j hi hiM hj hjN=>Qbg (Q2r h2 i hi hiM) g2 j hj hjN⟩
  ·obtain⟨g1,g2,g3,g4⟩:=Q0s hM hN hR h0 h1
   obtain⟨rfl,_⟩:=Zl h3
   have hl:=Wa h2
   refine Q47 hM hN (g1.rows oq hl.2) ?_ h4
   have e:t+(i-t)=i:=by omega
   have:rest t (XJ t i ⟨1,1,0,1⟩ Sa.d)=rop 0 (i-t) ⟨1,1,0,1⟩ (rest t Sa.d):=by
    have:=XK (t:=t) (j:=i-t) (tn:=⟨1,1,0,1⟩) g1 oq oq
    rw[e]at this;exact this
   show rest t (XJ t i ⟨1,1,0,1⟩ Sa.d) 0 0≠0
   rw[this]
   unfold rop Tn.p
   rw[if_neg oq,if_pos rfl]
   have h5:=g4 (i-t) oq oq
   have h6:rest t Sa.d (i-t) 0=0:=h5
   rw[h6]
   simpa using g2
theorem Qej {S:Sm} {t m n:Nat} (h:Q2g S t m n=none):∀ i j,t≤i→i<m→t≤j→j<n→gE S.d i j=0:=fun i j hi him hj hjn=>by
 unfold Q2g at h
 rw[List.findSome?_eq_none_iff]at h
 have h1:=h j (by rw[List.mem_range'_1];omega)
 rw[Option.map_eq_none_iff,List.find?_eq_none]at h1
 have h2:=h1 i (by rw[List.mem_range'_1];omega)
 simpa using h2
structure Dgt (t m n:Nat) (g:List (List Int)):Prop where
 rc:Rec m n g
 z:∀ a b,a<m→b<n→a≠b→(a<t∨b<t)→gE g a b=0
 p:∀ a,a<t→a<m→a<n→0<gE g a a
 c:∀ a i j,a<t→a<m→a<n→a≤i→i<m→a≤j→j<n→gE g a a∣gE g i j
theorem Q7y (t m n:Nat):Kept t m n fun S=>Dgt t m n S.d:=by
 refine⟨fun {S i k tn} h hi hik hk hd=>?_,fun {S i k tn} h hi hik hk hd=>?_,fun {S i} h hi him=>?_⟩
 ·have e:∀ a b,gE (S.rows i k tn).d a b=rop i k tn (gE S.d) a b:=fun a b=>by rw[show gE (S.rows i k tn).d=rop i k tn (gE S.d) from Q3p h.rc oq hk]
  have e0:∀ a b,a<t→gE (S.rows i k tn).d a b=gE S.d a b:=fun a b ha=>by rw[e];unfold rop;rw[if_neg oq,if_neg oq]
  refine⟨h.rc.rows oq hk,fun a b ha hb hab h1=>?_,fun a ha h1 h2=>by rw[e0 a a ha];exact h.p a ha h1 h2,fun a i' j' ha h1 h2 h3 h4 h5 h6=>?_⟩
  ·by_cases hat:a<t
   ·rw[e0 a b hat];exact h.z a b ha hb hab h1
   ·rw[e]
    unfold rop Tn.p Tn.q
    have zi:=h.z i b oq hb oq oq
    have zk:=h.z k b hk hb oq oq
    rw[zi,zk,h.z a b ha hb hab h1]
    simp
  ·rw[e0 a a ha,e]
   unfold rop Tn.p Tn.q
   have d1:=h.c a i j' ha h1 h2 oq oq h5 h6
   have d2:=h.c a k j' ha h1 h2 oq hk h5 h6
   split
   ·exact Int.dvd_add (Int.dvd_mul_of_dvd_right d1) (Int.dvd_mul_of_dvd_right d2)
   ·split
    ·exact Int.dvd_add (Int.dvd_mul_of_dvd_right d1) (Int.dvd_mul_of_dvd_right d2)
    ·exact h.c a i' j' ha h1 h2 h3 h4 h5 h6
 ·have e:∀ a b,gE (S.cols i k tn).d a b=cop i k tn (gE S.d) a b:=fun a b=>by rw[show gE (S.cols i k tn).d=cop i k tn (gE S.d) from Q3q h.rc oq hk]
  have e0:∀ a b,b<t→gE (S.cols i k tn).d a b=gE S.d a b:=fun a b ha=>by rw[e];dsimp only[cop,tr,rop];rw[if_neg oq,if_neg oq]
  refine⟨h.rc.cols,fun a b ha hb hab h1=>?_,fun a ha h1 h2=>by rw[e0 a a ha];exact h.p a ha h1 h2,fun a i' j' ha h1 h2 h3 h4 h5 h6=>?_⟩
  ·by_cases hat:b<t
   ·rw[e0 a b hat];exact h.z a b ha hb hab h1
   ·rw[e]
    dsimp only[cop,tr,rop,Tn.p,Tn.q]
    have zi:=h.z a i ha oq oq oq
    have zk:=h.z a k ha hk oq oq
    rw[zi,zk,h.z a b ha hb hab h1]
    simp
  ·rw[e0 a a ha,e]
   dsimp only[cop,tr,rop,Tn.p,Tn.q]
   have d1:=h.c a i' i ha h1 h2 h3 h4 oq oq
   have d2:=h.c a i' k ha h1 h2 h3 h4 oq hk
   split
   ·exact Int.dvd_add (Int.dvd_mul_of_dvd_right d1) (Int.dvd_mul_of_dvd_right d2)
   ·split
    ·exact Int.dvd_add (Int.dvd_mul_of_dvd_right d1) (Int.dvd_mul_of_dvd_right d2)
    ·exact h.c a i' j' ha h1 h2 h3 h4 h5 h6
 ·have e:∀ a b,gE (S.neg i).d a b=if a=i then -(gE S.d i b) else gE S.d a b:=fun a b=>Q7u h.rc him
  refine⟨Q78 h.rc him,fun a b ha hb hab h1=>?_,fun a ha h1 h2=>by rw[e,if_neg oq];exact h.p a ha h1 h2,fun a i' j' ha h1 h2 h3 h4 h5 h6=>?_⟩
  ·rw[e]
   split
   ·rename_i e1;subst e1;rw[h.z a b ha hb hab h1];rfl
   ·exact h.z a b ha hb hab h1
  ·rw[e,e,if_neg oq]
   split
   ·rename_i e1;subst e1;exact Int.dvd_neg.2 (h.c a i' j' ha h1 h2 h3 h4 h5 h6)
   ·exact h.c a i' j' ha h1 h2 h3 h4 h5 h6
structure DiaR (m n r:Nat) (g:List (List Int)):Prop where
 rc:Rec m n g
 le:r≤m∧r≤n
 z:∀ a b,a<m→b<n→a≠b→gE g a b=0
 p:∀ a,a<r→0<gE g a a
 e:∀ a,r≤a→a<m→a<n→gE g a a=0
 c:∀ a b,a≤b→b<r→gE g a a∣gE g b b
theorem Qed {K t m n:Nat} {S S1:Sm} (hR:Rec m n S.d) (h:X1 K t m n S=some (S1,true)):t<m∧t<n∧rest t S1.d 0 0≠0:=by
 unfold X1 at h
 cases hf:Q2g S t m n with
 | none=>rw[hf]at h;cases h
 | some q =>
  obtain⟨i,j⟩:=q
  obtain⟨f1,f2,f3,f4,f5⟩:=Q2f hf
  rw[hf]at h
  dsimp only at h
  refine⟨by omega,by omega,?_⟩
  have hr:∀ S1,(if i=t then some S else ck K (S.rows t i ⟨0,1,-1,0⟩))=some S1→Rec m n S1.d∧gE S1.d t j≠0:=fun S1 h1=>by
   split at h1
   ·rename_i e;subst e;cases h1;exact⟨hR,f5⟩
   ·obtain⟨rfl,_⟩:=Zl h1
    refine⟨hR.rows oq f2,?_⟩
    show gE (XJ t i ⟨0,1,-1,0⟩ S.d) t j≠0
    rw[Wj hR oq f2 f4,if_neg oq,if_pos rfl]
    unfold Tn.p
    simpa using f5
  cases h1:(if i=t then some S else ck K (S.rows t i ⟨0,1,-1,0⟩))with
  | none=>rw[h1]at h;cases h
  | some S1' =>
   obtain⟨p1,p2⟩:=hr S1' h1
   rw[h1]at h
   dsimp only at h
   have hc:∀ S2,(if j=t then some S1' else ck K (S1'.cols t j ⟨0,1,-1,0⟩))=some S2→rest t S2.d 0 0≠0:=fun S2 h2=>by
    split at h2
    ·rename_i e;subst e;cases h2;exact p2
    ·obtain⟨rfl,_⟩:=Zl h2
     show gE (Xq t j ⟨0,1,-1,0⟩ S1'.d) t t≠0
     rw[Wk p1 oq f4 oq,if_neg oq,if_pos rfl]
     unfold Tn.p
     simpa using p2
   cases h2:(if j=t then some S1' else ck K (S1'.cols t j ⟨0,1,-1,0⟩))with
   | none=>rw[h2]at h;cases h
   | some S2=>rw[h2]at h;cases h;exact hc _ h2
theorem Qee {K t m n:Nat} {S S1:Sm} (h:X1 K t m n S=some (S1,false)):S1=S∧Q2g S t m n=none:=by
 unfold X1 at h
 cases hf:Q2g S t m n with
 | none=>rw[hf]at h;cases h;exact⟨rfl,rfl⟩
 | some q =>
  rw[hf]at h
  dsimp only at h
  cases h1:(if q.1=t then some S else ck K (S.rows t q.1 ⟨0,1,-1,0⟩))with
  | none=>rw[h1]at h;cases h
  | some S1' =>
   rw[h1]at h
   dsimp only at h
   cases h2:(if q.2=t then some S1' else ck K (S1'.cols t q.2 ⟨0,1,-1,0⟩))with
   | none=>rw[h2]at h;cases h
   | some S2=>rw[h2]at h;cases h
theorem Qd9 {K fc f m n:Nat}:∀ {k t:Nat} {S S':Sm},ZF K fc f m n k t S=some S'→t+k=min m n→Dgt t m n S.d→∃ r,DiaR m n r S'.d
 | 0,t,S,_,h,hk,hp=>by
  rw[ZF]at h;cases h
  exact⟨t,hp.rc,by omega,fun a b ha hb hab=>hp.z a b ha hb hab oq,fun a ha=>hp.p a ha oq oq,fun a ha h1 h2=>by omega,fun a b hab hb=>hp.c a b b oq oq oq hab oq hab oq⟩
 | k + 1, t, S, S', h, hk, hp => by
  obtain⟨S1,fl,h1,h2,h3⟩:=WQ h
  have p1:=Q0n (Q7y t m n) (V8 t) h1 hp
  cases fl with
  | false =>
   rw[← h2 rfl]
   obtain⟨rfl,hn⟩:=Qee h1
   have hz:=Qej hn
   exact⟨t,hp.rc,by omega,fun a b ha hb hab=>by
    by_cases h:a<t∨b<t
    ·exact hp.z a b ha hb hab h
    ·exact hz a b oq ha oq hb,fun a ha=>hp.p a ha oq oq,fun a ha h1 h2=>hz a a ha h1 ha h2,fun a b hab hb=>hp.c a b b oq oq oq hab oq hab oq⟩
  | true =>
   obtain⟨S2,h4,h5⟩:=h3 rfl
   obtain⟨hm,hn,hnz⟩:=Qed hp.rc h1
   have p2:=W9 (Q7y t m n) (V8 t) hm hn h4 p1
   obtain⟨_,g2,g3,g4,g5⟩:=Q47 hm hn p1.rc hnz h4
   have g2':gE S2.d t t≠0:=g2
   have hrow:∀ b,t<b→b<n→gE S2.d t b=0:=fun b h1 h2=>by
    have:=g3 (b-t) oq oq
    unfold rest at this
    rw[show t+(b-t)=b by omega]at this;exact this
   have hcol:∀ a,t<a→a<m→gE S2.d a t=0:=fun a h1 h2=>by
    have:rest t S2.d (a-t) 0=0:=g4 (a-t) oq oq
    unfold rest at this
    rw[show t+(a-t)=a by omega]at this;exact this
   refine Qd9 h5 oq ?_
   have q:∀ S3:Sm,Dgt t m n S3.d→(∀ b,t<b→b<n→gE S3.d t b=0)→(∀ a,t<a→a<m→gE S3.d a t=0)→0<gE S3.d t t→(∀ i j,t<i→i<m→t<j→j<n→gE S3.d t t∣gE S3.d i j)→Dgt (t+1) m n S3.d:=fun S3 k0 k1 k2 k3 k4=>by
    refine⟨k0.rc,fun a b ha hb hab h1=>?_,fun a ha h1 h2=>?_,fun a i j ha l1 l2 l3 l4 l5 l6=>?_⟩
    ·by_cases h:a<t∨b<t
     ·exact k0.z a b ha hb hab h
     ·by_cases e:a=t
      ·subst e;exact k1 b oq hb
      ·obtain rfl:b=t:=by omega
       exact k2 a oq ha
    ·by_cases e:a=t
     ·subst e;exact k3
     ·exact k0.p a oq h1 h2
    ·by_cases e:a=t
     ·subst e
      by_cases e1:i=a
      ·subst e1
       by_cases e2:j=i
       ·subst e2;exact Int.dvd_refl _
       ·rw[k1 j oq l6];exact Int.dvd_zero _
      ·by_cases e2:j=a
       ·subst e2;rw[k2 i oq l4];exact Int.dvd_zero _
       ·exact k4 i j oq l4 oq l6
     ·exact k0.c a i j oq l1 l2 l3 l4 l5 l6
   split
   ·rename_i hneg
    have e:∀ a b,gE (S2.neg t).d a b=if a=t then -(gE S2.d t b) else gE S2.d a b:=fun a b=>Q7u p2.rc hm
    refine q _ ((Q7y t m n).n p2 (V8 t) hm) (fun b h1 h2=>by rw[e,if_pos rfl,hrow b h1 h2];rfl) (fun a h1 h2=>by rw[e,if_neg oq,hcol a h1 h2]) (by rw[e,if_pos rfl];omega) (fun i j h1 h2 h3 h4=>by rw[e,e,if_pos rfl,if_neg oq];exact Int.neg_dvd.2 (g5 i j h1 h2 h3 h4))
   ·exact q _ p2 hrow hcol oq g5
theorem Qht {K fc f m n:Nat} {a:List (List Int)} {S':Sm} (hR:Rec m n a) (h:ZF K fc f m n (min m n) 0 (QY m n a)=some S'):∃ r,DiaR m n r S'.d :=
 Qd9 h oq ⟨hR,fun _ _ _ _ _ h=>by omega,fun _ h=>by omega,fun _ _ _ h=>by omega⟩


def Q8j (m n:Nat) (E:Mi):Prop:=∃ X:Mi,∀ b b',b<n→b'<n→aN m (fun a=>X b a*E a b')=dO b b'
theorem Q75:∀ {d t:Nat} {f:Nat→Int},(∀ a,a<t→f a=0)→aN (t+d) f=aN d fun a=>f (t+a)
 | 0,t,f,h=>Xv h
 | d+1,t,f,h=>by
  show aN (t+d) f+f (t+d)=aN d _+f (t+d)
  rw[Q75 h]
theorem Qry {m n:Nat} {A:Mi} {S:Sm} (hc:Cor m n A S) (hl:Q8j m n A):Q8j m n (gE S.d):=by
 obtain⟨X,hX⟩:=hl
 refine⟨bM n (gE S.vi) (bM m X (gE S.ui)),fun b b' hb hb'=>?_⟩
 have e1:aN m (fun a=>bM n (gE S.vi) (bM m X (gE S.ui)) b a*gE S.d a b')=bM m (bM n (gE S.vi) (bM m X (gE S.ui))) (bM m (gE S.u) (bM n A (gE S.v))) b b' :=
  Qq fun a ha=>by rw[hc.dd a b' ha hb']
 rw[e1,YT]
 have e2:∀ c,c<n→bM m (bM m X (gE S.ui)) (bM m (gE S.u) (bM n A (gE S.v))) c b'=gE S.v c b':=fun c hc'=>by
  rw[YT]
  have e3:∀ k,k<m→bM m (gE S.ui) (bM m (gE S.u) (bM n A (gE S.v))) k b'=bM n A (gE S.v) k b':=fun k hk=>by
   rw[← YT,ZE (A':=dO) (B':=bM n A (gE S.v)) (fun c hcc=>hc.iu k c hk hcc) (fun c _=>rfl),Q6b hk]
  rw[ZE (A':=X) (B':=bM n A (gE S.v)) (fun _ _=>rfl) e3, ← YT]
  rw[ZE (A':=dO) (B':=gE S.v) (fun k hk=>hX c k hc' hk) (fun _ _=>rfl),Q6b hc']
 rw[ZE (A':=gE S.vi) (B':=gE S.v) (fun _ _=>rfl) e2]
 exact hc.iv b b' hb hb'
theorem Qow {t m n D:Nat} {A:Mi} {S:Sm} (ht:t≤m) (hc:Cor m n A S) (hb:Blk t m n D S.d) (hl:Q8j m n A):Q8j (m-t) (n-t) (rest t S.d):=by
 obtain⟨X,hX⟩:=Qry hc hl
 refine⟨fun b a=>X (t+b) (t+a),fun b b' h1 h2=>?_⟩
 have h3:=hX (t+b) (t+b') oq oq
 obtain⟨d,rfl⟩:∃ d,m=t+d:=⟨m-t,by omega⟩
 rw[Q75 fun a ha=>by rw[hb.z a (t+b') oq oq oq (.inl ha),Int.mul_zero]]at h3
 rw[show t+d-t=d by omega]
 refine Eq.trans h3 ?_
 unfold dO
 by_cases e:b=b'
 ·subst e;rw[if_pos rfl,if_pos rfl]
 ·rw[if_neg oq,if_neg e]
theorem Qbw {d:Int}:∀ {n:Nat} {f:Nat→Int},(∀ i,i<n→d∣f i)→d∣aN n f
 | 0,_,_=>Int.dvd_zero _
 | n+1,_,h=>Int.dvd_add (Qbw fun i hi=>h i oq) (h n oq)
theorem Qti {m n:Nat} {E:Mi} (h:Q8j m n E):Gm m n 1 E:=by
 obtain⟨X,hX⟩:=h
 refine⟨X,fun a ha b hb=>?_⟩
 rw[Int.one_mul]
 have:(aN n fun i=>E a i*dN m (X i) E b)=bM n E dO a b:=Qq fun i hi=>by
  unfold dN
  rw[hX i b hi hb]
 rw[this,Q2b hb]
theorem Qks {m n k:Nat} {E:Mi} (h:Q8j m n E) (hm:0<m) (hn:0<n) (h0:E 0 0≠0) (hk:k+1=m):(aJ k E 0 0).natAbs=1:=by
 obtain⟨X,hX⟩:=h
 have h1:=hX 0 0 hn hn
 have h2:aJ k E 0 0∣aN m fun a=>X 0 a*E a 0:=Qbw fun a ha=>Int.dvd_mul_of_dvd_right (by
  by_cases e:a=0
  ·subst e;exact Wg h0 k
  ·exact Q7j h0 oq oq)
 rw[h1]at h2
 have h3:dO 0 0=(1:Int):=if_pos rfl
 rw[h3]at h2
 exact Nat.dvd_one.1 (Int.natAbs_dvd_natAbs.2 h2)

theorem Qp7 {p x:Int} (h:p.natAbs=1):p∣x:=by
 rcases Int.natAbs_eq p with e|e<;>rw[h]at e
 ·rw[e];exact Int.one_dvd x
 ·rw[e];exact⟨-x,by omega⟩
theorem Qe4 {K t M N B ub nb F:Nat} {A:Mi} {S:Sm} (hM:t<M) (hN:t<N) (hm:M-t≤5) (h0:St0 t M N 1 B ub 1 S) (hc:Cor M N A S) (hl:Q8j M N A)
  (hnb:(M-t)*B+(M-t)≤nb) (hK:5*B+5<8*K) (hK2:nb<8*K) (hU:ub+(M-t-1)*(B+1)+(N-t-1)*(nb+1)<8*K) :
  ∀ f,1≤f→∃ S',Zz K (F+1) t M N f S=some S'∧iF t M N 1 nb (ub+(M-t-1)*(B+1)+(N-t-1)*(nb+1)) 1 S':=fun f hf=>by
 have hD:1<256 ^ K:=by
  have:256 ^ 1≤256 ^ K:=V4 dq oq
  omega
 obtain⟨S1,g1,r1,bs1,ev1,cl1,z1,z2⟩:=Q54 (K:=K) (q:=M-t-1) hM hN hm (V8 _) h0 hK oq hD
 have hcn:=Xm (rest t S.d) (M-t-1)
 have hrx:eF (rest t S.d) 1 (M-t-1)≤M-t-1+1:=by unfold eF;split<;>omega
 have hBn:(M-t-1)*B+B+(M-t-1)+1≤nb:=by
  have:(M-t-1)*B+B=(M-t)*B:=by rw[← Nat.succ_mul];congr 1;omega
  omega
 have y1:∀ b,0<b→b<N-t→(rest t S1.d 0 b).natAbs≤2 ^ nb:=fun b hb0 hb=>V0 (z1 b hb0 hb) (V4 dq (by
  have:=V1 B hcn
  omega))
 have y2:∀ a b,0<a→a<M-t→0<b→b<N-t→(rest t S1.d a b).natAbs≤2 ^ (nb-1):=fun a b ha0 ha hb0 hb=>V0 (z2 a b ha0 ha hb0 hb) (V0 (Q3z (M-t-1) hrx) (V4 dq oq))
 have iK:tr (rest t S1.d) 0 0≠0:=ev1.nz
 have hli:=Qow oq hc h0.b.bk hl
 have hp1:(tr (rest t S1.d) 0 0).natAbs=1:=by
  show (rest t S1.d 0 0).natAbs=1
  rw[r1];exact Qks hli oq oq h0.nz oq
 have hA1:1≤2 ^ nb:=Nat.pow_pos dq
 have iM:PBd (N-t) (M-t) (2 ^ nb) 1 (2 ^ (nb-1)) (2 ^ (nb-1)) 0 (tr (rest t S1.d)):=⟨iK,hA1,V8 _,by rw[Nat.pow_zero,Nat.one_mul];exact V8 _,by omega,fun b hb0 hb=>y1 b hb0 hb,fun b a hb0 hb ha0 ha=>y2 a b ha0 ha hb0 hb,fun a ha0 ha=>by rw[cl1 a ha0 ha];exact V9 _⟩
 have hc0:dJ (tr (rest t S1.d)) (N-t-1)=0:=by
  have h1:=YJ iK (N-t-1)
  have h2:=Zw iK (N-t-1)
  rw[hp1]at h1
  refine Vg fun h=>?_
  have h3:2 ^ 1≤2 ^ dJ (tr (rest t S1.d)) (N-t-1):=V4 dq oq
  have h4:2 ^ dJ (tr (rest t S1.d)) (N-t-1)*1≤2 ^ dJ (tr (rest t S1.d)) (N-t-1)*(aJ (N-t-1) (tr (rest t S1.d)) 0 0).natAbs:=V3 _ oq
  omega
 have hmax:max (2 ^ nb) 1=2 ^ nb:=Nat.max_eq_left hA1
 have hub:∀ k,(2*max (2 ^ nb) 1) ^ k*2 ^ (ub+(M-t-1)*(B+1))=2 ^ (ub+(M-t-1)*(B+1)+k*(nb+1)):=fun k=>by
  rw[hmax,show 2*2 ^ nb=2 ^ (nb+1) by rw[Va];omega, ← Nat.pow_mul, ← Nat.pow_add,Vc (nb+1) k,Nat.add_comm (k*(nb+1))]
 have hw1:wB (2 ^ nb) (2 ^ (nb-1)) (eF (tr (rest t S1.d)) 0 (N-t-1))≤2 ^ (nb-1):=by
  have:eF (tr (rest t S1.d)) 0 (N-t-1)=0∨eF (tr (rest t S1.d)) 0 (N-t-1)=1:=by unfold eF;rw[hc0];split<;>omega
  rcases this with e|e<;>rw[e]<;>unfold wB<;>simp
 have hKB:KBd K (N-t) (2 ^ nb) 1 (2 ^ (nb-1)) (2 ^ (nb-1)) 0 (2 ^ (ub+(M-t-1)*(B+1))) 1 (tr (rest t S1.d)):=⟨QR hK2,hD,QR oq,V5 hw1 (QR oq),by rw[hub];exact QR hU,hD⟩
 obtain⟨S2,h2,d2,r2,u2,b2⟩:=Q82 bs1.dm hN iM bs1.su bs1.bk hKB false (N-t-1) oq
 rw[Bool.false_or,hc0]at h2
 have hnz2:rest t S2.d 0 0≠0:=by rw[r2];exact Zw iK _
 have hp2:(rest t S2.d 0 0).natAbs=1:=by
  rw[r2]
  show (aJ (N-t-1) (tr (rest t S1.d)) 0 0).natAbs=1
  rw[Yd iK hc0];exact hp1
 have hcr:ZG K t M N (F+1) S=some S2:=by
  rw[ZG,g1]
  dsimp only
  rw[show N-(t+1)=N-t-1 by omega,h2]
  rfl
 have hsp:Z0 S2 t M N=none:=by
  unfold Z0
  rw[List.find?_eq_none]
  intro i _
  rw[Q7x fun j h1 h2=>Qp7 (by have:=hp2;exact this)]
  decide
 obtain⟨f,rfl⟩:∃ g,f=g+1:=⟨f-1,by omega⟩
 refine⟨S2,by rw[Zz,hcr];dsimp only;rw[hsp],⟨d2,b2,?_⟩,?_,?_,?_,?_,hnz2⟩
 ·rw[hub]at u2;exact u2
 ·rw[r2];exact fun a ha0 ha=>Yy iK ha0 oq
 ·rw[r2]
  intro b hb0 hb
  show aJ (N-t-1) (tr (rest t S1.d)) 0 b=0
  rw[Yd iK hc0];exact cl1 b hb0 hb
 ·intro a b ha0 ha hb0 hb
  rw[r2]
  show (aJ (N-t-1) (tr (rest t S1.d)) b a).natAbs<_
  rw[Q1g iK cl1 hc0 hb0 oq ha0 ha]
  exact Q4u (y2 a b ha0 ha hb0 hb) oq
 ·rw[r2]
  exact Q4z (Q2e (Q4z ev1.g) iK oq)
theorem Qd8 {K fc f M N D:Nat} {u:Int} {P:Sm→Prop} (kp:Kept 0 M N P) (hu:u≠0) (hD:u.natAbs≤D) (hD2:D<256 ^ K) (Bq uq:Nat→Nat) (hB:∀ t,t<M→t<N→Bq t<8*K) (hU:∀ t,t<M→t<N→uq t+2<8*K)
  (hst:∀ t S,t<M→t<N→St0 t M N D (Bq t) (uq t+2) u S→P S→∃ S',Zz K fc t M N f S=some S'∧iF t M N D (Bq (t+1)) (uq (t+1)) u S'):∀ k t S,t+k=min M N→gI t M N D (Bq t) (uq t) u S→P S→∃ S',ZF K fc f M N k t S=some S'
 | 0,_,S,_,_,_=>⟨S,rfl⟩
 | k + 1, t, S, hk, hp, hP => by
  have hM:t<M:=by omega
  have hN:t<N:=by omega
  obtain⟨S1,fl,h1,h2⟩:=Qch hp hD2 (hB t hM hN) (hU t hM hN)
  have p1:=Q0n kp (V9 t) h1 hP
  rw[ZF,h1]
  dsimp only
  cases fl with
  | false=>exact⟨S1,rfl⟩
  | true =>
   obtain⟨S2,h3,h4⟩:=hst t S1 hM hN (h2 rfl) p1
   have p2:=W9 kp (V9 t) hM hN h3 p1
   rw[if_pos rfl,h3]
   dsimp only
   refine Qd8 kp hu hD hD2 Bq uq hB hU hst k (t+1) _ oq (Qcf h4 hM hN hu hD) ?_
   split
   ·exact kp.n p2 (V9 t) hM
   ·exact p2
def uB (M B:Nat):Nat→Nat
 | 0=>B
 | t+1=>(M-t)*uB M B t+(M-t)
def uU (M N B:Nat):Nat→Nat
 | 0=>0
 | t+1=>uU M N B t+2+(M-t-1)*(uB M B t+1)+(N-t-1)*(uB M B (t+1)+1)
theorem Qhq {K fc f M N B:Nat} {a:List (List Int)} (hM5:M≤5) (hf:1≤f) (hfc:1≤fc) (hR:Rec M N a) (hs:∀ i j,i<M→j<N→(gE a i j).natAbs<2 ^ B) (hl:Q8j M N (gE a)) (hdm:Dm M N (QY M N a)) (hsu:iY 1 M N (QY M N a)) (hK0:0<K)
  (hK:∀ t,t<M→t<N→5*uB M B t+5<8*K∧uB M B (t+1)<8*K∧uU M N B (t+1)+2<8*K∧uU M N B t+2<8*K):∃ S',ZF K fc f M N (min M N) 0 (QY M N a)=some S':=by
 have hr:rest 0 (QY M N a).d=gE a:=by
  funext i j
  show gE a (0+i) (0+j)=gE a i j
  rw[Vu,Vu]
 obtain⟨F,rfl⟩:∃ F,fc=F+1:=⟨fc-1,by omega⟩
 refine Qd8 (D:=1) (u:=1) (Qdf M N (gE a)) dq dq ?_ (uB M B) (uU M N B) (fun t h1 h2=>?_) (fun t h1 h2=>(hK t h1 h2).2.2.2) (fun t S h1 h2 h0 hc=>?_) (min M N) 0 _ oq ?_ (Q9o hdm)
 ·have:256 ^ 1≤256 ^ K:=V4 dq hK0
  omega
 ·have:=(hK t h1 h2).1
  omega
 ·obtain⟨k1,k2,k3,_⟩:=hK t h1 h2
  have:=Qe4 (F:=F) (nb:=uB M B (t+1)) h1 h2 oq h0 hc hl (V8 _) k1 k2 (by unfold uU at k3;omega) f hf
  obtain⟨S',g,p⟩:=this
  exact⟨S',g,p⟩
 ·exact {
   b:=⟨hdm,⟨fun a b _ _ _ h=>absurd h oq,fun a _ _ h=>absurd h oq⟩,hsu⟩
   sz:=fun i j hi hj=>by rw[hr];exact hs i j hi hj
   g:=by rw[hr];exact Qti hl }

theorem Ql6 {m n:Nat} {A:Mi} {S:Sm} (hc:Cor m n A S):∀ a b,a<m→b<n→A a b=bM m (gE S.ui) (bM n (gE S.d) (gE S.vi)) a b:=fun a b ha hb=>by
 have e1:∀ k,k<m→bM n (gE S.d) (gE S.vi) k b=bM m (gE S.u) A k b:=fun k hk=>by
  have:bM n (gE S.d) (gE S.vi) k b=bM n (bM m (gE S.u) (bM n A (gE S.v))) (gE S.vi) k b:=ZE (fun c hcn=>(hc.dd k c hk hcn).symm) fun _ _=>rfl
  rw[this,YT]
  refine ZE (fun _ _=>rfl) fun c hcm=>?_
  rw[YT,ZE (A':=A) (B':=dO) (fun _ _=>rfl) fun d hdn=>hc.vv d b hdn hb,Q2b hb]
 rw[ZE (A':=gE S.ui) (B':=bM m (gE S.u) A) (fun _ _=>rfl) e1, ← YT]
 rw[ZE (A':=dO) (B':=A) (fun k hk=>hc.iu a k ha hk) (fun _ _=>rfl),Q6b ha]
theorem Ql4 {k r:Nat} {A:Mi} (hr:r<k) (h:∀ i,i<k→A i r=0):aZ k A=0:=by
 rw[← Q31]
 have:=Q1r (n:=k) (r:=r) (A:=tr A) (f:=tr A r) hr fun j hj=>h j hj
 rw[ZC]at this
 exact this
theorem Qo3 {m n r k:Nat} {A:Mi} {S:Sm} (hc:Cor m n A S) (hd:DiaR m n r S.d) {p q:Nat→Nat} (hp:∀ a,a<k→p a<m) (hq:∀ a,a<k→q a<n) (h:aZ k (mn A p q)≠0):k≤r:=by
 refine Nat.le_of_not_lt fun hlt=>h ?_
 have hle:=hd.le
 have e:∀ i,i<k→∀ j,j<k→mn A p q i j=bM k (fun i t=>if t<r then gE S.ui (p i) t*gE S.d t t else 0) (fun t j=>gE S.vi t (q j)) i j:=fun i hi j hj=>by
  show A (p i) (q j)=_
  rw[Ql6 hc _ _ (hp i hi) (hq j hj)]
  have e1:∀ t,t<m→bM n (gE S.d) (gE S.vi) t (q j)=if t<r then gE S.d t t*gE S.vi t (q j) else 0:=fun t ht=>by
   unfold bM
   split
   ·rename_i htr
    exact ZA oq fun l hl hlt=>by rw[hd.z t l ht hl (fun e=>hlt e.symm),Int.zero_mul]
   ·rename_i htr
    refine Xv fun l hl=>?_
    by_cases e:t=l
    ·subst e;rw[hd.e t oq ht hl,Int.zero_mul]
    ·rw[hd.z t l ht hl e,Int.zero_mul]
  rw[ZE (A':=gE S.ui) (B':=fun t j=>if t<r then gE S.d t t*gE S.vi t j else 0) (fun _ _=>rfl) e1]
  unfold bM
  rw[Q76 (k:=r) oq (fun t h1 h2=>by dsimp only;rw[if_neg oq,Int.mul_zero]),Q76 (n:=k) (k:=r) oq (fun t h1 h2=>by dsimp only;rw[if_neg oq,Int.zero_mul])]
  refine Qq fun t ht=>?_
  dsimp only
  rw[if_pos ht,if_pos ht,Int.mul_assoc]
 rw[QS e,Q9m,Ql4 hlt fun i hi=>by rw[if_neg (Nat.lt_irrefl r)],Int.zero_mul]
def uRk (r:Nat):Nat:=if r=5 then 38631168 else if r=4 then 2600000 else if r=3 then 34992 else 648
theorem Qsb {M N:Nat} {E:Mi} (hM:M≤5) (hN:N≤5) (hE:∀ i j,i<M→j<N→(E i j).natAbs≤pat 18 6 i j):∃ (r:Nat) (u:Int) (p q:Nat→Nat),r≤5∧u≠0∧u.natAbs≤uRk r∧Gm M N u E∧(∀ a,a<r→p a<M)∧(∀ a,a<r→q a<N)∧aZ r (mn E p q)≠0:=by
 by_cases hd:M=5∧N=5∧aZ 5 E≠0
 ·obtain⟨rfl,rfl,hd⟩:=hd
  refine⟨5,aZ 5 E,id,id,V8 _,hd,V0 (Qi0 hE) dq,?_,fun a ha=>ha,fun a ha=>ha,hd⟩
  have:=Qsa (m:=5) (n:=5) (r:=5) (E:=E) (p:=id) (q:=id) (fun a ha=>ha) (fun a ha=>ha) fun i j hi hj=>Qcy (m:=5) (fun a ha=>by
   unfold ext
   by_cases h:a<5
   ·simp only[if_pos h];exact h
   ·simp only[if_neg h];exact hi) oq
  exact this
 ·obtain⟨r,p,q,_,hrM,hp,hq,hne,hz⟩:=Qn3 (m:=M) (n:=N) (E:=E) (M+1) 0 id id oq (fun a ha=>absurd ha oq) (fun a ha=>absurd ha oq) (by rw[aZ];decide)
  have hrN:r≤N:=by
   refine Nat.le_of_not_lt fun hlt=>hne ?_
   rw[← Q31]
   exact Qcy (E:=tr E) (p:=q) (q:=p) (m:=N) hq hlt
  have hr4:r≤4:=by
   refine Nat.le_of_not_lt fun hlt=>?_
   obtain rfl:r=5:=by omega
   obtain rfl:M=5:=by omega
   obtain rfl:N=5:=by omega
   refine hne (Qpc hp hq ?_)
   exact Vg fun h=>hd ⟨rfl,rfl,h⟩
  have hpm:∀ s,s≤4→pm s (fun _ _=>18)≤uRk s:=by decide
  refine⟨r,_,p,q,by omega,hne,V0 (Qi0 (B:=fun _ _=>18) fun i j hi hj=>?_) (hpm r hr4),Qsa hp hq hz,hp,hq,hne⟩
  refine V0 (hE _ _ (hp i hi) (hq j hj)) ?_
  unfold pat
  split<;>omega
def iO (r:Nat):Nat:=if r=5 then 10795719876522 else if r=4 then 1582850030757 else if r=3 then 73891903725 else 4335843500
theorem Qtb {K:Nat} (hK:10795719876522≤K):Nmb 38631168 26 5 4 256 14362 4016251665 502031459 8032521549 571411864170012 7618824855601 63509284343723 86365758912174 K :=
 ⟨by decide,by decide,by decide,by decide,by decide,by decide,by decide,by decide,by decide,by decide,by decide,by decide,by decide,by decide,by omega,by omega⟩
theorem Qtc {K:Nat} (hK:73891903725≤K):Nmb 34992 16 5 4 256 14362 177868569 22233572 355755357 3906332438153 52084432509 434881831568 591135129793 K :=
 ⟨by decide,by decide,by decide,by decide,by decide,by decide,by decide,by decide,by decide,by decide,by decide,by decide,by decide,by decide,by omega,by omega⟩
theorem Qtd {K:Nat} (hK:4335843500≤K):Nmb 648 10 5 4 256 14362 30155739 3769468 60329697 228595960815 3047946145 25542809237 34686647992 K :=
 ⟨by decide,by decide,by decide,by decide,by decide,by decide,by decide,by decide,by decide,by decide,by decide,by decide,by decide,by decide,by omega,by omega⟩
theorem Qp4 {M N:Nat} {a:List (List Int)} (hM5:M≤5) (jh:N≤5) (ha:Rec M N a) (hs:∀ i j,i<M→j<N→(gE a i j).natAbs≤pat 18 6 i j) (hdm:Dm M N (QY M N a)) (hsu:iY 1 M N (QY M N a)) :
  ∃ (r fc:Nat) (p q:Nat→Nat),r≤5∧(∀ a,a<r→p a<M)∧(∀ a,a<r→q a<N)∧aZ r (mn (gE a) p q)≠0∧∃ S',ZF (iO r) fc 5 M N (min M N) 0 (QY M N a)=some S':=by
 obtain⟨r,u,p,q,hr,hu,huU,hg,hp,hq,hne⟩:=Qsb (E:=gE a) hM5 jh hs
 have hs':∀ i j,i<M→j<N→(gE a i j).natAbs<2 ^ 5:=fun i j hi hj=>by
  have:=hs i j hi hj
  unfold pat at this
  split at this<;>omega
 have h:=show r=5∨r=4∨r=3∨r≤2 by omega
 rcases h with rfl|rfl|rfl|h
 ·exact⟨5,29,p,q,hr,hp,hq,hne,Q1o (Qtb dq) rfl hM5 jh hu huU ha hs' hg hdm hsu⟩
 ·exact⟨4,25,p,q,hr,hp,hq,hne,Q1o (Qte dq) rfl hM5 jh hu huU ha hs' hg hdm hsu⟩
 ·exact⟨3,19,p,q,hr,hp,hq,hne,Q1o (Qtc dq) rfl hM5 jh hu huU ha hs' hg hdm hsu⟩
 ·have e1:uRk r=648:=by unfold uRk;rw[if_neg oq,if_neg oq,if_neg oq]
  have e2:iO r=4335843500:=by unfold iO;rw[if_neg oq,if_neg oq,if_neg oq]
  rw[e1]at huU
  refine⟨r,13,p,q,hr,hp,hq,hne,?_⟩
  rw[e2]
  exact Q1o (Qtd (V8 _)) rfl hM5 jh hu huU ha hs' hg hdm hsu
theorem Qp6 {m n r:Nat} {g:List (List Int)} (h:DiaR m n r g):(dH g (min m n)).length=r:=by
 have hle:=h.le
 have:∀ k,k≤min m n→(dH g k).length=min k r:=by
  intro k
  induction k with
  | zero=>intro _;rw[Nat.zero_min];rfl
  | succ k ih =>
   intro hk
   by_cases hkr:k<r
   ·rw[Q56 (by have:=h.p k hkr;omega),Vk,ih oq,Vs];omega
   ·rw[Q55 (h.e k oq oq oq),ih oq];omega
 rw[this _ (V8 _)]
 omega
def kKr (r:Nat):Nat:=if r=5 then 1 else if r=4 then 7914250153800 else if r=3 then 1921189496900 else 2644864540000
theorem Ql0 {M N r rr:Nat} {A:Mi} {S':Sm} {g:List (List Int)} (jh:N≤5) (hc:Cor M N A S') (hd:DiaR M N rr S'.d) (hok:∀ i j,(gE S'.v i j).natAbs<256 ^ iO r) (hr:r≤rr) (hR:Rec N (N-rr) g) (he:∀ i j,i<N→j<N-rr→gE g i j=gE S'.v i (rr+j))
  (hdm:Dm N (N-rr) (QY N (N-rr) g)) (hsu:iY 1 N (N-rr) (QY N (N-rr) g)):∃ S2,ZF (kKr r) 1 1 N (N-rr) (min N (N-rr)) 0 (QY N (N-rr) g)=some S2:=by
 have hle:=hd.le
 have hli:Q8j N (N-rr) (gE g):=⟨fun b a=>gE S'.vi (rr+b) a,fun b b' h1 h2=>by
  have h3:=hc.iv (rr+b) (rr+b') oq oq
  rw[Qq (g:=fun a=>gE S'.vi (rr+b) a*gE S'.v a (rr+b')) fun a ha=>by rw[he a b' ha h2]]
  refine Eq.trans h3 ?_
  unfold dO
  by_cases e:b=b'
  ·subst e;rw[if_pos rfl,if_pos rfl]
  ·rw[if_neg oq,if_neg e]⟩
 have e256:256 ^ iO r=2 ^ (8*iO r):=by rw[show 256=2 ^ 8 from rfl, ← Nat.pow_mul]
 have hs:∀ i j,i<N→j<N-rr→(gE g i j).natAbs<2 ^ (8*iO r):=fun i j hi hj=>by rw[he i j hi hj, ← e256];exact hok _ _
 have hpos:0<kKr r:=by unfold kKr;split;decide;split;decide;split<;>decide
 refine Qhq (B:=8*iO r) jh (V8 _) (V8 _) hR hs hli hdm hsu hpos fun t h1 h2=>?_
 have h:=show r=5∨r=4∨r=3∨r≤2 by omega
 rcases h with rfl|rfl|rfl|h
 ·omega
 ·have e1:iO 4=1582850030757:=rfl
  have e2:kKr 4=7914250153800:=rfl
  rw[e1,e2]
  obtain rfl:t=0:=by omega
  have h3:N-rr=1:=by omega
  obtain rfl:N=5:=by omega
  rw[h3]
  simp only[uB,uU]
  omega
 ·have e1:iO 3=73891903725:=rfl
  have e2:kKr 3=1921189496900:=rfl
  rw[e1,e2]
  have hN:=show N=4∨N=5 by omega
  have ht:=show t=0∨t=1 by omega
  have hc:=show N-rr=1∨N-rr=2 by omega
  rcases hN with rfl|rfl<;>rcases ht with rfl|rfl<;>rcases hc with e|e<;>rw[e]<;>simp only[uB,uU]<;>omega
 ·have e1:iO r=4335843500:=by unfold iO;rw[if_neg oq,if_neg oq,if_neg oq]
  have e2:kKr r=2644864540000:=by unfold kKr;rw[if_neg oq,if_neg oq,if_neg oq]
  rw[e1,e2]
  have hN:=show N=1∨N=2∨N=3∨N=4∨N=5 by omega
  have ht:=show t=0∨t=1∨t=2∨t=3∨t=4 by omega
  have hc:=show N-rr=1∨N-rr=2∨N-rr=3∨N-rr=4∨N-rr=5 by omega
  rcases hN with rfl|rfl|rfl|rfl|rfl<;>rcases ht with rfl|rfl|rfl|rfl|rfl<;>rcases hc with e|e|e|e|e<;>first|omega|(rw[e];simp only[uB,uU];omega)

def mv (n:Nat) (A:Mi) (x:Nat→Int) (i:Nat):Int:=aN n fun k=>A i k*x k
theorem ZZ {n:Nat} {A A':Mi} {x x':Nat→Int} {i:Nat} (h:∀ k,k<n→A i k=A' i k) (h':∀ k,k<n→x k=x' k):mv n A x i=mv n A' x' i:=Qq fun k hk=>by rw[h k hk,h' k hk]
theorem mv_mm {m n:Nat} {A B:Mi} {x:Nat→Int} {i:Nat}:mv n (bM m A B) x i=mv m A (mv n B x) i:=by
 have:=YT (n:=n) (m:=m) (A:=A) (B:=B) (C:=fun k _=>x k) (i:=i) (j:=0)
 exact this
theorem Qrq {n:Nat} {x:Nat→Int} {i:Nat} (hi:i<n):mv n dO x i=x i:=by
 have:=Q6b (r:=n) (A:=fun k _=>x k) (i:=i) (j:=0) hi
 exact this
theorem Qoq {n:Nat} {A:Mi} {x:Nat→Int} {i:Nat} (h:∀ k,k<n→x k=0):mv n A x i=0:=Xv fun k hk=>by rw[h k hk,Int.mul_zero]
theorem Qrp {n:Nat} {A:Mi} {x y:Nat→Int} {i:Nat}:mv n A (fun k=>x k-y k) i=mv n A x i-mv n A y i:=by
 have h:=ZB (n:=n) (f:=fun k=>A i k*x k) (g:=fun k => -1*(A i k*y k))
 have h2:=QM (n:=n) (f:=fun k=>A i k*y k) (-1)
 unfold mv
 rw[Qq (g:=fun k=>A i k*x k + -1*(A i k*y k)) fun k _=>by grind,h,h2]
 omega
section
variable {m n r:Nat} {A:Mi} {S:Sm} (hc:Cor m n A S) (hd:DiaR m n r S.d)
include hc
theorem uA_v {y:Nat→Int} {i:Nat} (hi:i<m):mv m (gE S.u) (mv n A (mv n (gE S.v) y)) i=mv n (gE S.d) y i:=by
 rw[ZZ (A':=gE S.u) (x':=mv n (bM n A (gE S.v)) y) (fun _ _=>rfl) (fun k _=>mv_mm.symm), ← mv_mm]
 exact ZZ (fun k hk=>hc.dd i k hi hk) fun _ _=>rfl
theorem v_vi {x:Nat→Int} {i:Nat} (hi:i<n):mv n (gE S.v) (mv n (gE S.vi) x) i=x i:=by
 rw[← mv_mm,ZZ (A':=dO) (x':=x) (fun k hk=>hc.vv i k hi hk) (fun _ _=>rfl),Qrq hi]
theorem ui_u {x:Nat→Int} {i:Nat} (hi:i<m):mv m (gE S.ui) (mv m (gE S.u) x) i=x i:=by
 rw[← mv_mm,ZZ (A':=dO) (x':=x) (fun k hk=>hc.iu i k hi hk) (fun _ _=>rfl),Qrq hi]
theorem u_Ax {x:Nat→Int} {i:Nat} (hi:i<m):mv m (gE S.u) (mv n A x) i=mv n (gE S.d) (mv n (gE S.vi) x) i:=by
 rw[← uA_v hc hi]
 exact ZZ (fun _ _=>rfl) fun k hk=>ZZ (fun _ _=>rfl) fun j hj=>(v_vi hc hj).symm
include hd
omit hc in
theorem Qh8 {y:Nat→Int} {i:Nat} (hi:i<m):mv n (gE S.d) y i=if i<n then gE S.d i i*y i else 0:=by
 unfold mv
 split
 ·rename_i h
  exact ZA h fun k hk hki=>by rw[hd.z i k hi hk (fun e=>hki e.symm),Int.zero_mul]
 ·rename_i h
  exact Xv fun k hk=>by rw[hd.z i k hi hk oq,Int.zero_mul]
theorem Qnq {x b:Nat→Int} (hb:∀ i,i<m→b i=mv n A x i) {i:Nat} (hi:i<m):mv m (gE S.u) b i=if i<n then gE S.d i i*mv n (gE S.vi) x i else 0:=by
 rw[← Qh8 hd hi, ← u_Ax hc hi]
 exact ZZ (fun _ _=>rfl) hb
theorem Qqs {b c y:Nat→Int} (hcu:∀ i,i<m→c i=mv m (gE S.u) b i) (hy:∀ i,i<m→i<n→gE S.d i i*y i=c i) (hz:∀ i,i<m→¬i<n→c i=0) {i:Nat} (hi:i<m):mv n A (mv n (gE S.v) y) i=b i:=by
 rw[← ui_u hc (x:=mv n A (mv n (gE S.v) y)) hi, ← ui_u hc (x:=b) hi]
 refine ZZ (fun _ _=>rfl) fun k hk=>?_
 rw[uA_v hc hk,Qh8 hd hk, ← hcu k hk]
 split
 ·rename_i h;exact hy k hk h
 ·rename_i h;exact(hz k hk h).symm
theorem Qs2 {t:Nat→Int} (h0:∀ i,i<m→mv n A t i=0):∃ z:Nat→Int,∀ i,i<n→t i=mv (n-r) (fun i j=>gE S.v i (r+j)) z i:=by
 have hle:=hd.le
 refine⟨fun j=>mv n (gE S.vi) t (r+j),fun i hi=>?_⟩
 have hz:∀ k,k<r→mv n (gE S.vi) t k=0:=fun k hk=>by
  have h1:=u_Ax hc (x:=t) (i:=k) oq
  rw[Qoq h0,Qh8 hd oq,if_pos oq]at h1
  have h2:=hd.p k hk
  rcases Int.mul_eq_zero.1 h1.symm with h3|h3
  ·omega
  ·exact h3
 rw[← v_vi hc (x:=t) hi]
 unfold mv at hz ⊢
 obtain⟨d,rfl⟩:∃ d,n=r+d:=⟨n-r,by omega⟩
 rw[Q75 fun k hk=>by rw[hz k hk,Int.mul_zero],show r+d-r=d by omega]
end


theorem Qiz (K fc f L:Nat) (w:World) (v u:Value) (a:ZM) (bs:List Int) (S':Sm) (ha:cO a) (hv:fO w v a) (hu:WZ w u a.r bs) (hK:K+1+K+1+L+2≤26000000000000) (hb:cZ (K+1) a) (hL:fK L bs)
  (hf:ZF (K+1) fc f a.r a.c (min a.r a.c) 0 (QY a.r a.c (QZ a))=some S') (hw:YC (gM a.r a.c S'.d) (bI (gM a.r a.r S'.u) bs)=none) :
  Calls Tryz.prog 38 #[v,u] w (aP fun v w'=>Kp [] w w'∧v=.tuple #[.slice none 0 0,Wv 0,.bool false]):=by
 have hv0:=hv
 have hr:=ha.r
 have hac:=ha.c
 have hbS:=YL hf (Yi ha hb)
 obtain⟨E,rfl,hE⟩:=hv
 obtain⟨A0,c0,rfl⟩:=hE.form
 obtain⟨A1,c1,rfl⟩:=hu.form
 refine Q9 [⟨8,2,[0,1,2,3,4,5,6,7,8,9,10,11,13,12,14,15,16],[]⟩] [] au [] Tryz.func38 rfl mixed (by kernel_rfl) Tryz.ntmps38 Tryz.results38 rfl ⟨by simp,by simp⟩ au ?_
 simp only[toS,Qd,Qt,Qk,Ql,ay,Qg,QA,aC]
 repeat' first|apply jS|apply jO|apply jN|refine Q1 ?_|refine Q0 ?_|refine Q7 ?_|refine Qc fun _=>?_|refine QB fun _=>?_|apply jT
 rename_i b2 b5
 refine Qf (A:=[_,_]) (B:=[]) rfl aA rfl aH rfl (fun w hk hs=>Qit K fc f L w _ _ a bs S' ha (hv0.mono hk) (hu.mono hk) oq hb hL hf) fun w v w' _ _ _ hR=>?_
 obtain⟨N1,N2,N3,N4,N5,N6,E1,E2,E3,E4,E5,E6,rfl,hD,hN,bT,hO3,hO4,gY,⟨A2',c2',rfl⟩,⟨A5',c5',rfl⟩⟩:=hR
 obtain⟨A1',c1',rfl⟩:=bT.form
 obtain⟨A3',c3',rfl⟩:=hO3.form
 obtain⟨A4',c4',rfl⟩:=hO4.form
 obtain⟨A6',c6',rfl⟩:=gY.form
 refine⟨_,hN,?_⟩
 have hUr:cO (gM a.r a.r S'.u):=Wt hD.u hr hr
 have hDr:cO (gM a.r a.c S'.d):=Wt hD.d hr hac
 have hVr:cO (gM a.c a.c S'.v):=Wt hD.v hac hac
 have hUb:cZ (K+1) (gM a.r a.r S'.u):=Xz hD.u hbS.u hr hr
 have hDb:cZ (K+1) (gM a.r a.c S'.d):=Xz hD.d hbS.d hr hac
 have hVb:cZ (K+1) (gM a.c a.c S'.v):=Xz hD.v hbS.v hac hac
 have hcb:fK (K+1+L+1) (bI (gM a.r a.r S'.u) bs):=Q0w hUr hUb hL
 obtain⟨cs,hcs⟩:∃ cs,cs=bI (gM a.r a.r S'.u) bs:=⟨_,rfl⟩
 rw[← hcs]at hw gY hcb
 unfold eqC
 repeat' first|apply jS|apply jO|apply jN|apply jT|refine Q1 ?_|refine Q0 ?_|refine Q7 ?_|refine QV (h:=?_)|refine Qv (h:=?_)|refine Q2 ?_|refine Qc fun _=>?_|refine Q2 ?_|apply jK|refine Q4 rfl ?_
 rename_i b7
 refine Q5 aA rfl aH rfl (fun w hk hs=>Qb7 (K+1+L+1) w _ _ _ _ _ _ (gM a.r a.c S'.d) a.r a.c cs hDr rfl rfl (hO3.rd.at hk hs (by simp only[Vi,Vv,Vd,Vj,List.set_cons_zero];exact HSub.skip (HSub.skip (HSub.skip (Qr (Qr (Qr QI))))))) (gY.rd.at hk hs (by simp only[Vi,Vv,Vd,Vj,List.set_cons_zero];exact HSub.skip (HSub.skip (HSub.skip (QI))))) oq (fun i=>Y6 (hDb i) oq) hcb) fun w v w' _ _ _ hR=>?_
 unfold Q2o at hR
 rw[hw]at hR
 subst hR
 repeat' first|apply jS|apply jO|apply jN|apply jT|refine Q1 ?_|refine Q0 ?_|refine QV (h:=?_)|refine Qv (h:=?_)|refine Q2 ?_|refine Qc fun _=>?_|refine Q3j (h:=?_)|refine Q2 ?_|apply jV|apply jR|refine Q8 rfl ?_
 refine YI [.slice none 0 0,.agg #[.bool false,.string ⟨#[]⟩],.bool false] (JR.tmp rfl (ZU 2 rfl rfl rfl (JR.tmp rfl JR.nil))) (fun a' w' st=>⟨st.kp,?_⟩)
 rw[Wz0]
 rfl



theorem Q4e {m:ZM} (h:cO m):Rec m.r m.c (QZ m):=⟨by simp[QZ],fun x hx=>by
 obtain⟨i,hi,rfl⟩:=List.mem_map.1 hx
 exact WK h (List.mem_range.1 hi)⟩
theorem Q1n {m:ZM} {i j:Nat} (hi:i<m.r) (hj:j<m.c):gE (QZ m) i j=m.at i j:=by
 have h1:(QZ m).getD i []=dh m i:=Zq hi
 unfold gE
 rw[h1]
 exact Q19 hj

theorem Qfp (X:List (List Int)) (f:Int) (i j:Nat):(((gG X f).getD i []).getD j 0).natAbs≤pat 18 6 i j:=by
 by_cases h:i<min X.length 5
 ·rw[Q74 h]
  unfold Q37
  by_cases hj:j<smN X i
  ·rw[Zq hj]
   unfold smE pat
   generalize (X.getD i []).getD j 0=e
   split
   ·rw[Vq]
    have h1:(e % 13-6).natAbs≤6:=by omega
    have h2:(1+f % 3).natAbs≤3:=by omega
    exact Vr h1 h2
   ·omega
  ·rw[List.getD,List.getElem?_eq_none (by rw[W6];omega)];exact V9 _
 ·rw[Qah h];exact V9 _
theorem Qkz (X:List (List Int)) (f:Int):∃ (r fc:Nat) (p q:Nat→Nat),r≤5∧(∀ a,a<r→p a<(ofZ (gG X f)).r)∧(∀ a,a<r→q a<(ofZ (gG X f)).c)∧aZ r (mn (gE (QZ (ofZ (gG X f)))) p q)≠0∧∃ S',ZF (iO r) fc 5 (ofZ (gG X f)).r (ofZ (gG X f)).c (min (ofZ (gG X f)).r (ofZ (gG X f)).c) 0 (QY (ofZ (gG X f)).r (ofZ (gG X f)).c (QZ (ofZ (gG X f))))=some S':=by
 have hR:Rec (ofZ (gG X f)).r (ofZ (gG X f)).c (QZ (ofZ (gG X f))):=Q4e (Qqt X f)
 refine Qp4 (sm_r X f) (sm_c X f) hR (fun i j hi hj=>?_) (Q73 hR) (Q8s _ _ _)
 rw[Q1n hi hj]
 show ((zof (gG X f).length (jw (gG X f) (gG X f).length) (ofE (gG X f))).at i j).natAbs≤_
 rw[Qet (show i<(gG X f).length from hi) (show j<jw (gG X f) (gG X f).length from hj)]
 exact Qfp X f i j
theorem Qd6 {r c i j:Nat} {g:List (List Int)} (h:Rec r c g) (hi:i<r) (hj:j<c):(gM r c g).at i j=gE g i j:=by
 exact Q53 h.row i j (by rw[h.len];exact hi) hj
theorem Qjc {r c i:Nat} {g:List (List Int)} {xs:List Int} (h:Rec r c g) (hi:i<r):(bI (gM r c g) xs).getD i 0=mv c (gE g) (fun j=>xs.getD j 0) i:=by
 have:(bI (gM r c g) xs).getD i 0=mv c (gM r c g).at (fun j=>xs.getD j 0) i:=Zq hi
 rw[this]
 exact ZZ (fun k hk=>Qd6 h hi hk) fun _ _=>rfl
theorem Qn5 {m:ZM} {i:Nat} {xs:List Int} (hi:i<m.r):(bI m xs).getD i 0=mv m.c (gE (QZ m)) (fun j=>xs.getD j 0) i:=by
 have:(bI m xs).getD i 0=mv m.c m.at (fun j=>xs.getD j 0) i:=Zq hi
 rw[this]
 exact ZZ (fun k hk=>(Q1n hi hk).symm) fun _ _=>rfl

structure FormOf (m:ZM) (S:Sm) (r:Nat):Prop where
 rt:cO m
 c:Cor m.r m.c (gE (QZ m)) S
 d:DiaR m.r m.c r S.d
theorem Qhr {K fc f:Nat} {m:ZM} {S:Sm} (hm:cO m) (hf:ZF K fc f m.r m.c (min m.r m.c) 0 (QY m.r m.c (QZ m))=some S):∃ r,FormOf m S r:=by
 have hR:=Q4e hm
 obtain⟨r,hr⟩:=Qht hR hf
 exact⟨r,hm,Q6h (Qdf m.r m.c (gE (QZ m))) hf (V9 0) oq (Q9o (Q73 hR)),hr⟩
section
variable {m:ZM} {S:Sm} {r:Nat} (h:FormOf m S r)
include h
theorem Qmk {i:Nat} (hi:i<m.r):aK (gM m.r m.c S.d) i=if i<m.c then gE S.d i i else 0:=by
 unfold aK
 show (if i<m.c then _ else _)=_
 split
 ·exact Qd6 h.c.dm.d hi (by assumption)
 ·rfl
theorem c_eq {xs:List Int} {i:Nat} (hi:i<m.r):(bI (gM m.r m.r S.u) (bI m xs)).getD i 0=if i<m.c then gE S.d i i*mv m.c (gE S.vi) (fun j=>xs.getD j 0) i else 0:=by
 rw[Qjc h.c.dm.u hi]
 exact Qnq h.c h.d (fun k hk=>Qn5 hk) hi
theorem Q8l (xs:List Int):YC (gM m.r m.c S.d) (bI (gM m.r m.r S.u) (bI m xs))=none:=by
 unfold YC
 rw[List.find?_eq_none]
 intro i hi
 have hi:i<m.r:=List.mem_range.1 hi
 rw[Qmk h hi,c_eq h hi]
 simp only[decide_not,Bool.not_eq_true',decide_eq_false_iff_not,Decidable.not_not]
 split
 ·exact Int.dvd_mul_right _ _
 ·exact Int.dvd_zero _
theorem Qjq {xs:List Int}:SolP m (solV S m.r m.c (bI m xs)) (bI m xs):=by
 have hl:(solV S m.r m.c (bI m xs)).length=m.c:=by unfold solV;rw[Yk];rfl
 refine⟨hl,by rw[Yk],fun i hi=>?_⟩
 show mv m.c m.at (fun j=>(bI (gM m.c m.c S.v) (gW (gM m.r m.c S.d) (bI (gM m.r m.r S.u) (bI m xs)) m.c (List.range m.r))).getD j 0) i=_
 rw[ZZ (A':=gE (QZ m)) (x':=mv m.c (gE S.v) fun j=>(gW (gM m.r m.c S.d) (bI (gM m.r m.r S.u) (bI m xs)) m.c (List.range m.r)).getD j 0) (fun k hk=>(Q1n hi hk).symm) fun k hk=>Qjc h.c.dm.v hk]
 refine Qqs h.c h.d (c:=fun i=>(bI (gM m.r m.r S.u) (bI m xs)).getD i 0) (fun k hk=>Qjc h.c.dm.u hk) (fun k hk hkc=>?_) (fun k hk hkc=>?_) hi
 ·have e:(gW (gM m.r m.c S.d) (bI (gM m.r m.r S.u) (bI m xs)) m.c (List.range m.r)).getD k 0=solE (gM m.r m.c S.d) (bI (gM m.r m.r S.u) (bI m xs)) k:=by
   unfold gW
   rw[Zq hkc,if_pos (List.mem_range.2 hk)]
  rw[e]
  unfold solE
  rw[Qmk h hk,if_pos hkc,c_eq h hk,if_pos hkc]
  split
  ·rename_i e0;rw[e0,Int.zero_mul,Int.zero_mul]
  ·rename_i e0;rw[Int.mul_ediv_cancel_left _ e0]
 ·rw[c_eq h hk,if_neg hkc]
theorem Qmg {i j:Nat} (hi:i<m.c) (hj:j<m.c-r):(XS (gM m.c m.c S.v) 0 r m.c (m.c-r)).at i j=gE S.v i (r+j):=by
 show (zof m.c (m.c-r) fun a b=>(gM m.c m.c S.v).at (0+a) (r+b)).at i j=_
 rw[Qet hi hj,Vu]
 exact Qd6 h.c.dm.v hi oq
theorem Qoy {ds:List Int} (hl:ds.length=m.c) (h0:∀ i,i<m.r→mv m.c (gE (QZ m)) (fun j=>ds.getD j 0) i=0):∃ zs,ds=bI (XS (gM m.c m.c S.v) 0 r m.c (m.c-r)) zs:=by
 obtain⟨z,hz⟩:=Qs2 h.c h.d h0
 refine⟨tab (m.c-r) z,?_⟩
 refine Q9e (by rw[hl,Yk];rfl) fun i hi=>?_
 have hi':i<m.c:=by omega
 refine(hz i hi').trans ?_
 have:(bI (XS (gM m.c m.c S.v) 0 r m.c (m.c-r)) (tab (m.c-r) z)).getD i 0=mv (m.c-r) (XS (gM m.c m.c S.v) 0 r m.c (m.c-r)).at (fun j=>(tab (m.c-r) z).getD j 0) i:=Zq hi'
 rw[this]
 exact ZZ (fun k hk=>(Qmg h hi' hk).symm) fun k hk=>(Zq hk).symm
theorem Qkv {K fc f k:Nat} (hc5:m.c≤5) (hkr:k≤r) (hf:ZF (iO k) fc f m.r m.c (min m.r m.c) 0 (QY m.r m.c (QZ m))=some S) (hb:cZ (iO k) m) (hK:K=kKr k) :
  ∃ S2,ZF K 1 1 (XS (gM m.c m.c S.v) 0 r m.c (m.c-r)).r (XS (gM m.c m.c S.v) 0 r m.c (m.c-r)).c (min (XS (gM m.c m.c S.v) 0 r m.c (m.c-r)).r (XS (gM m.c m.c S.v) 0 r m.c (m.c-r)).c) 0 (QY (XS (gM m.c m.c S.v) 0 r m.c (m.c-r)).r (XS (gM m.c m.c S.v) 0 r m.c (m.c-r)).c (QZ (XS (gM m.c m.c S.v) 0 r m.c (m.c-r))))=some S2:=by
 subst hK
 have hok:Ok (iO k) S:=by
  obtain⟨K0,hK0⟩:∃ K0,iO k=K0+1:=⟨iO k-1,by unfold iO;split;decide;split;decide;split<;>decide⟩
  rw[hK0]at hf hb ⊢
  exact YL hf (Yi h.rt hb)
 have hP:cO (XS (gM m.c m.c S.v) 0 r m.c (m.c-r)):=Xg h.rt.c (by have:=h.rt.c;omega)
 have hR:=Q4e hP
 refine Ql0 (M:=m.r) (N:=m.c) (rr:=r) hc5 h.c h.d (fun i j=>Zp hok.v i j) hkr hR (fun i j hi hj=>?_) (Q73 hR) (Q8s _ _ _)
 rw[Q1n (m:=XS (gM m.c m.c S.v) 0 r m.c (m.c-r)) hi hj]
 exact Qmg h hi hj
end
theorem Qs5 (r:Nat):4335843500≤iO r∧iO r≤10795719876522∧1≤kKr r∧kKr r≤7914250153800∧iO r+kKr r≤10795719876523:=by
 unfold iO kKr
 split
 ·decide
 ·split
  ·decide
  ·split<;>decide

theorem Qs4 {r:Nat} (h:r≠5):iO r≤kKr r:=by
 unfold iO kKr
 rw[if_neg h,if_neg h]
 split
 ·decide
 ·split<;>decide
theorem Qs3 {m:ZM} {S:Sm} {r k K:Nat} (h:FormOf m S r) (hc5:m.c≤5) (hk5:k≤5) (hkr:k≤r) (hb:jk (iO k) S.v=true) (hK:K=kKr k):cZ K (XS (gM m.c m.c S.v) 0 r m.c (m.c-r)):=by
 subst hK
 have hle:=h.d.le
 refine cZ.of fun i j hi hj=>?_
 rw[Vu,Qd6 h.c.dm.v hi oq]
 exact V7 (Zp hb _ _) (V4 dq (Qs4 oq))
theorem Qsg {L:Nat} {x y:Int} (hx:x.natAbs<256 ^ L) (hy:y.natAbs<256 ^ L):(x-y).natAbs<256 ^ (L+1):=by
 rw[Va]
 omega
theorem Qp9 {m:ZM} {xs ss ds:List Int} (hs:SolP m ss (bI m xs)) (hd:∀ j,j<m.c→ds.getD j 0=xs.getD j 0-ss.getD j 0):∀ i,i<m.r→mv m.c (gE (QZ m)) (fun j=>ds.getD j 0) i=0:=fun i hi=>by
 rw[ZZ (A':=gE (QZ m)) (x':=fun j=>xs.getD j 0-ss.getD j 0) (fun _ _=>rfl) hd,Qrp, ← Qn5 hi, ← hs.2.2 i hi]
 have:jq m ss i m.c=mv m.c (gE (QZ m)) (fun j=>ss.getD j 0) i:=ZZ (A:=m.at) (x:=fun j=>ss.getD j 0) (fun k hk=>(Q1n hi hk).symm) fun _ _=>rfl
 rw[this]
 omega


section
variable {c:Cx} {Q:Exit→Act→World→Prop} {m:Mode} {F:ak} {H:aj} {r:List dA} {g:Option (Option Tmp × Bool)} {ns:Bool} {d:Tmp} {ty t t':TypeId} {x y:Operand}
end

end Go.Proofs.YtljmapfihjkafaaGreatDoor

