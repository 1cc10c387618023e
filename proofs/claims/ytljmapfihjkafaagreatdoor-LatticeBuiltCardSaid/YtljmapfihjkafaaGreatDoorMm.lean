import Derived.Test.YtljmapfihjkafaaGreatDoorMk
import Derived.Test.YtljmapfihjkafaaGreatDoorMl
import Derived.Test.YtljmapfihjkafaaGreatDoorMg
import Derived.Test.YtljmapfihjkafaaGreatDoorMh
import Derived.Test.YtljmapfihjkafaaGreatDoorMf
import Derived.Test.YtljmapfihjkafaaGreatDoorMj
import Derived.Test.YtljmapfihjkafaaGreatDoorRows
import Derived.WalkKit
import Derived.ProofKit
import Derived.OpenShut
import Derived.ShutString
import Derived.ChangeOld
import Derived.Below
import Derived.Lib.SmallJoins
import Derived.SizedLaws
set_option maxHeartbeats 16000000
namespace Go.Proofs.YtljmapfihjkafaaGreatDoor
open Go Go.RowKit
set_option linter.unusedSimpArgs false
set_option linter.unusedVariables false
set_option linter.unusedSectionVars false

theorem Qdr (K fc f:Nat) (w:World) (v:Value) (a:ZM) (S':Sm) (ha:cO a) (hv:fO w v a) (hK:K+1≤13000000000000) (hb:cZ (K+1) a)
  (hf:ZF (K+1) fc f a.r a.c (min a.r a.c) 0 (QY a.r a.c (QZ a))=some S') :
  Calls Tryz.prog 15 #[v] w (aP fun v w'=>Kp [] w w'∧Q36 (XS (gM a.c a.c S'.v) 0 (dH S'.d (min a.r a.c)).length a.c (a.c-(dH S'.d (min a.r a.c)).length)) w v w'):=by
 have hv0:=hv
 have hr:=ha.r
 have hac:=ha.c
 have hfl:=Q7v S'.d (min a.r a.c)
 obtain⟨E,rfl,hE⟩:=hv
 refine Q9 [⟨3,1,[0,3,1,2,4,5,6,7],[]⟩] [] au [] Tryz.func15 rfl mixed (by kernel_rfl) Tryz.ntmps15 Tryz.results15 rfl ⟨by simp,by simp⟩ au ?_
 simp only[toS,Qd,Qt,Qk,Ql,ay,Qg,QA,aC]
 repeat' first|apply jS|apply jO|apply jN|refine Q7 ?_|refine Qc fun _=>?_|refine QB fun _=>?_|apply jT
 refine Q5 trivial rfl rfl rfl (fun w hk _=>YY w _ a.xm (hv0.mono hk).x (by show (a.e.map wz).length<_;rw[List.length_map];have:=ha.le;omega)) fun w v w' _ _ _ hR=>?_
 obtain⟨b',rfl,hb'⟩:=hR
 obtain rfl:=hb'.2 ha.rx
 repeat' first|apply jS|apply jD|apply jN|apply jT|refine Q7 ?_|refine QV (h:=?_)|apply jK|refine Q4 rfl ?_
 refine Qf (A:=[_,_]) (B:=[]) rfl aA rfl aH rfl (fun w hk hs=>Qds K fc f w _ a S' ha (hv0.mono hk) oq hb hf) fun w v w' _ _ _ hR=>?_
 obtain⟨N1,N2,N3,N4,N5,E1,E2,E3,E4,E5,rfl,hD,hN,bT,hO2,hO3,hO4,iL⟩:=hR
 obtain⟨A1',c1',rfl⟩:=bT.form
 obtain⟨A2',c2',rfl⟩:=hO2.form
 obtain⟨A3',c3',rfl⟩:=hO3.form
 obtain⟨A4',c4',rfl⟩:=hO4.form
 obtain⟨A5',c5',rfl⟩:=iL.form
 refine⟨_,hN,?_⟩
 unfold smC
 refine Qcb Tryz.underlying74 rfl (show TN Tryz.prog 26 3 from inferInstance) rfl rfl rfl (us:=#[nv a.c,nv a.c,.slice A4' (a.c*a.c) c4']) (by show (9+3≤(15:Nat));decide) rfl ?_
 skip
 refine Q5 aA rfl aH rfl (fun w hk hs=>Qmz K fc f w _ a S' ha (hv0.mono hk) oq hb hf) fun w v w' _ _ _ hR=>?_
 subst hR
 have hVr:cO (gM a.c a.c S'.v):=Wt hD.v hac hac
 have hO4z:aG N4 (.slice A4' (a.c*a.c) c4') (gM a.c a.c S'.v).e.length (gM a.c a.c S'.v).e:=by rw[show (gM a.c a.c S'.v).e.length=a.c*a.c from XA hD.v];exact hO4
 generalize hrk:(dH S'.d (min a.r a.c)).length=rk at hfl ⊢
 clear bT hO2 hO3 hO4 iL hf
 repeat' first|apply jS|apply jO|apply jN|refine Q1 ?_|refine Q3 ?_|refine Q0 ?_|refine Qb ?_|refine Q7 ?_|refine Wq (h:=?_)|refine ZW (k:=_) (h:=?_)|refine Qc fun _=>?_|apply jT
 rename_i b3
 refine Qf (A:=[_,_,_]) (B:=N1++(N2++(N3++(N4++N5)))++[]) rfl aA rfl aH rfl (fun w hk hs=>Qsk w _ (gM a.c a.c S'.v) 0 rk a.c (a.c-rk) hVr (by show 0+a.c≤a.c;omega) (by show rk+(a.c-rk)≤a.c;omega) ⟨_,rfl,hO4z.rd.at hk hs (HSub.skip (HSub.skip (HSub.skip (by simp only[Vj];first|exact Qr (Qr (Qr QI))|exact Qr (Qr (Qr (Qr QI)))))))⟩) fun w v w' _ _ _ hR=>?_
 obtain⟨N6,V6,rfl,hN6,gY⟩:=hR
 obtain⟨E6,rfl,gY⟩:=gY
 obtain⟨A6,c6,rfl⟩:=gY.form
 refine⟨N6,hN6,?_⟩
 repeat' first|apply jS|apply jO|apply jN|apply jT|refine Q1 ?_|refine Q0 ?_|refine Q7 ?_|refine Qv (h:=?_)|refine Q2 ?_|refine Qc fun _=>?_|refine Q2 ?_|apply jR
 exact QQ 2 rfl rfl rfl (fun a' w' st=>⟨st.kp,N6,st.aS rfl (HSub.skip (HSub.skip (HSub.skip (HSub.skip QI)))),_,rfl,gY⟩)


theorem Qdo (K fc f L i:Nat) (w:World) (v u:Value) (a:ZM) (bs:List Int) (S':Sm) (ha:cO a) (hv:fO w v a) (hu:WZ w u a.r bs) (hK:K+1+K+1+L+2≤26000000000000) (hb:cZ (K+1) a) (hL:fK L bs)
  (hf:ZF (K+1) fc f a.r a.c (min a.r a.c) 0 (QY a.r a.c (QZ a))=some S') (hw:YC (gM a.r a.c S'.d) (bI (gM a.r a.r S'.u) bs)=some i) (hi:i<a.r) :
  Calls Tryz.prog 38 #[v,u] w (aP fun v w'=>Kp [] w w'∧∃ N E,New N w w'∧v=.tuple #[E,Wv (aK (gM a.r a.c S'.d) i),.bool true]∧aG N E a.r (dh (gM a.r a.r S'.u) i)):=by
 have hv0:=hv
 have hr:=ha.r
 have hac:=ha.c
 have hbS:=YL hf (Yi ha hb)
 obtain⟨E,rfl,hE⟩:=hv
 obtain⟨A0,c0,rfl⟩:=hE.form
 obtain⟨A1,c1,rfl⟩:=hu.form
 refine Q9 [⟨8,2,[0,1,2,3,4,5,6,7,8,9,10,11,13,12,14,15,16],[]⟩] [] au [] Tryz.func38 rfl mixed (by kernel_rfl) Tryz.ntmps38 Tryz.results38 rfl ⟨by simp,by simp⟩ au ?_
 simp only[toS,Qd,Qt,Qk,Ql,ay,Qg,QA,aC]
 repeat' first|apply jS|apply jO|apply jN|refine Q1 ?_|refine Q0 ?_|refine Q7 ?_|refine Qc fun _=>?_|refine QB fun _=>?_|apply jT
 rename_i b2 b5
 refine Qf (A:=[_,_]) (B:=[]) rfl aA rfl aH rfl (fun w hk hs=>Qit K fc f L w _ _ a bs S' ha (hv0.mono hk) (hu.mono hk) oq hb hL hf) fun w v w' _ _ _ hR=>?_
 obtain⟨N1,N2,N3,N4,N5,N6,E1,E2,E3,E4,E5,E6,rfl,hD,hN,bT,hO3,hO4,gY,⟨A2',c2',rfl⟩,⟨A5',c5',rfl⟩⟩:=hR
 obtain⟨A1',c1',rfl⟩:=bT.form
 obtain⟨A3',c3',rfl⟩:=hO3.form
 obtain⟨A4',c4',rfl⟩:=hO4.form
 obtain⟨A6',c6',rfl⟩:=gY.form
 refine⟨_,hN,?_⟩
 have hUr:cO (gM a.r a.r S'.u):=Wt hD.u hr hr
 have hDr:cO (gM a.r a.c S'.d):=Wt hD.d hr hac
 have hVr:cO (gM a.c a.c S'.v):=Wt hD.v hac hac
 have hUb:cZ (K+1) (gM a.r a.r S'.u):=Xz hD.u hbS.u hr hr
 have hDb:cZ (K+1) (gM a.r a.c S'.d):=Xz hD.d hbS.d hr hac
 have hVb:cZ (K+1) (gM a.c a.c S'.v):=Xz hD.v hbS.v hac hac
 have hcb:fK (K+1+L+1) (bI (gM a.r a.r S'.u) bs):=Q0w hUr hUb hL
 obtain⟨cs,hcs⟩:∃ cs,cs=bI (gM a.r a.r S'.u) bs:=⟨_,rfl⟩
 rw[← hcs]at hw gY hcb
 unfold eqC
 repeat' first|apply jS|apply jO|apply jN|apply jT|refine Q1 ?_|refine Q0 ?_|refine Q7 ?_|refine QV (h:=?_)|refine Qv (h:=?_)|refine Q2 ?_|refine Qc fun _=>?_|refine Q2 ?_|apply jK|refine Q4 rfl ?_
 rename_i b7
 refine Q5 aA rfl aH rfl (fun w hk hs=>Qb7 (K+1+L+1) w _ _ _ _ _ _ (gM a.r a.c S'.d) a.r a.c cs hDr rfl rfl (hO3.rd.at hk hs (by simp only[Vi,Vv,Vd,Vj,List.set_cons_zero];exact HSub.skip (HSub.skip (HSub.skip (Qr (Qr (Qr QI))))))) (gY.rd.at hk hs (by simp only[Vi,Vv,Vd,Vj,List.set_cons_zero];exact HSub.skip (HSub.skip (HSub.skip (QI))))) oq (fun i=>Y6 (hDb i) oq) hcb) fun w v w' _ _ _ hR=>?_
 unfold Q2o at hR
 rw[hw]at hR
 subst hR
 repeat' first|apply jS|apply jO|apply jN|apply jT|refine Q1 ?_|refine Q3 ?_|refine Q0 ?_|refine QV (h:=?_)|refine Qv (h:=?_)|refine Q2 ?_|refine Qc fun _=>?_|refine Q2 ?_|apply jK|refine Q4 rfl ?_
 rename_i b10
 refine Wz 1 rfl aH rfl rfl rfl rfl rfl rfl ?_
 have hi1:i*a.r≤40000:=Vr (show i≤200 by omega) hr
 have hi2:(i+1)*a.r≤40200:=by rw[Vo];omega
 repeat' first|apply jS|apply jN|refine Q2 ?_|refine Qc fun _=>?_|refine Q2 ?_|apply jT
 rename_i b12
 refine Z7 [(b12,.cells #[nv a.r,nv a.r,.slice A1' (a.r*a.r) c1'] 26 (0,0)),(b10,.cells #[.bool (wz (aK (gM a.r a.c S'.d) i)).1,sv (wz (aK (gM a.r a.c S'.d) i)).2] 35 (0,0))] Qy ?_
 repeat' first|refine Q1 ?_|refine Q3 ?_|refine Qb ?_|refine Qj ?_|refine ZK (h:=?_)|fail
 have hz:=Q3u (c:=a.r) hi
 refine Qgh rfl rfl rfl bT.rd rfl rfl hz (fun v3 hv3 _=>?_)
 repeat' first|refine Q7 ?_|fail
 refine Qf (A:=[_,_,_,_,_]) (B:=N6++(N1++(N2++(N3++(N4++N5))))++[]) rfl aA rfl aH rfl (fun w hk hs=>Qdt w _ a.r _ (hv3.at hk hs (by simp only[Vi,Vv,Vd,Vj,List.set_cons_zero,List.set_cons_succ];exact HSub.skip (HSub.skip (HSub.skip (HSub.skip (HSub.skip (Qr QI))))))) oq) fun w v w' _ _ _ hR=>?_
 obtain⟨N7,hN7,hO7⟩:=hR
 obtain⟨A7,c7,rfl⟩:=hO7.form
 refine⟨N7,hN7,?_⟩
 repeat' first|apply jN|apply jT|refine Q0 ?_|refine Q2 ?_|refine Q2 ?_|apply jR
 refine YI [.slice A7 a.r c7,.agg #[.bool (wz (aK (gM a.r a.c S'.d) i)).1,sv (wz (aK (gM a.r a.c S'.d) i)).2],.bool true] (JR.tmp rfl (ZU 3 rfl rfl rfl (JR.tmp rfl JR.nil))) (fun a' w' st=>⟨st.kp,N7,_,st.aS rfl (HSub.skip (HSub.skip (HSub.skip (HSub.skip (HSub.skip QI))))),rfl,hO7⟩)

set_option linter.unusedSimpArgs false
set_option linter.unusedVariables false
set_option linter.unusedSectionVars false

def jv (n:Nat) (A M:Mi):Prop:=∀ i,i<n→∀ j,j<n→M i j=aN n fun t=>M i (n+t)*A t j
theorem jv.addr {n:Nat} {A M:Mi} {r s:Nat} {t:Int} (h:jv n A M) (hr:r<n) (hs:s<n):jv n A (QJ M r fun j=>M r j+t*M s j):=fun i hi j hj=>by
 by_cases he:i=r
 ·subst he
  rw[setRow_self,Qq (g:=fun u=>M i (n+u)*A u j+t*(M s (n+u)*A u j)) (fun u _=>by rw[setRow_self];grind),ZB,QM, ← h i hi j hj, ← h s hs j hj]
 ·rw[QH he,Qq (g:=fun u=>M i (n+u)*A u j) (fun u _=>by rw[QH he]), ← h i hi j hj]
theorem jv.mulr {n:Nat} {A M:Mi} {r:Nat} {t:Int} (h:jv n A M) (hr:r<n):jv n A (QJ M r fun j=>t*M r j):=fun i hi j hj=>by
 by_cases he:i=r
 ·subst he
  rw[setRow_self,Qq (g:=fun u=>t*(M i (n+u)*A u j)) (fun u _=>by rw[setRow_self];grind),QM, ← h i hi j hj]
 ·rw[QH he,Qq (g:=fun u=>M i (n+u)*A u j) (fun u _=>by rw[QH he]), ← h i hi j hj]
theorem jv.swp {n:Nat} {A M:Mi} {r s:Nat} (h:jv n A M) (hr:r<n) (hs:s<n):jv n A (swp M r s):=fun i hi j hj=>by
 by_cases h1:i=r
 ·subst h1
  rw[Qq (g:=fun u=>M s (n+u)*A u j) (fun u _=>by rw[Proofs.YtljmapfihjkafaaGreatDoor.swp,if_pos rfl]), ← h s hs j hj,Proofs.YtljmapfihjkafaaGreatDoor.swp,if_pos rfl]
 ·by_cases h2:i=s
  ·subst h2
   rw[Qq (g:=fun u=>M r (n+u)*A u j) (fun u _=>by rw[Proofs.YtljmapfihjkafaaGreatDoor.swp,if_neg h1,if_pos rfl]), ← h r hr j hj,Proofs.YtljmapfihjkafaaGreatDoor.swp,if_neg h1,if_pos rfl]
  ·rw[Qq (g:=fun u=>M i (n+u)*A u j) (fun u _=>by rw[Proofs.YtljmapfihjkafaaGreatDoor.swp,if_neg h1,if_neg h2]), ← h i hi j hj,Proofs.YtljmapfihjkafaaGreatDoor.swp,if_neg h1,if_neg h2]
theorem jv.red {n:Nat} {A M M':Mi} (hr:Red n M M') (h:jv n A M):jv n A M':=by
 induction hr with
 | refl=>exact h
 | add r s t hr hs hn _ ih=>exact ih (h.addr hr hs)
 | swap r s hr hs hn _ ih=>exact ih (h.swp hr hs)
theorem Red.detA {n:Nat} {M M':Mi} (hr:Red n M M'):(aZ n M').natAbs=(aZ n M).natAbs:=by
 induction hr with
 | refl=>rfl
 | add r s t hr hs hn _ ih=>rw[ih,WW t hr hs hn]
 | swap r s hr hs hn _ ih=>rw[ih,WS hr hs hn,Int.natAbs_neg]
theorem Ql5 {n:Nat} {M:Mi} {r:Nat} (t:Int) (hr:r<n):aZ n (QJ M r fun j=>t*M r j)=t*aZ n M:=by
 have h:=YF (A:=M) (f:=fun _=>0) (g:=M r) t hr
 rw[ZC,Q1r hr (fun _ _=>rfl)]at h
 rw[show (fun j=>t*M r j)=fun j=>0+t*M r j by funext j;omega,h,Int.zero_add]
theorem Qpd {n k:Nat} {M:Mi} (hk:k<n) (hu:∀ j,j<k→∀ i,i<n→M i j=if i=j then 1 else 0) (hz:∀ i,k<i→i<n→M i k=0):∃ x,aZ n M=M k k*x:=by
 refine⟨aZ n (QJ (tr M) k (unit k)),?_⟩
 rw[← Q31 (A:=M)]
 conv=>lhs;rw[← ZC (tr M) k]
 rw[Q1s hk,ZA (k:=k) hk (fun i hi hne=>?_)]
 ·rfl
 ·rcases Nat.lt_or_ge i k with h|h
  ·rw[QS (B:=QJ (QJ (tr M) i (unit i)) k (unit i)) (fun a ha b hb=>?_),X6 (r:=i) (s:=k) hi hk oq (fun j=>by rw[setRow_self,QH hne,setRow_self]),Int.mul_zero]
   by_cases h1:a=k
   ·subst h1;rw[setRow_self,setRow_self]
   ·rw[QH h1,QH h1]
    by_cases h2:a=i
    ·subst h2
     rw[setRow_self]
     show M b a=unit a b
     rw[hu a h b hb]
     unfold unit
     by_cases h3:b=a
     ·rw[if_pos h3,if_pos h3.symm]
     ·rw[if_neg h3,if_neg (Ne.symm h3)]
    ·rw[QH h2]
  ·show M i k*_=0
   rw[hz i oq hi,Int.zero_mul]

structure Stg (n:Nat) (A:Mi) (k:Nat) (M:Mi):Prop where
 sol:jv n A M
 dt:(aZ n M).natAbs=1
 un:∀ j,j<k→∀ i,i<n→M i j=if i=j then 1 else 0
structure Mid (n:Nat) (A:Mi) (k:Nat) (M:Mi) (i:Nat):Prop where
 stg:Stg n A k M
 low:∀ a,k<a→a<n→M a k=0
 top:∀ a,a<i→a<k→M a k=0
 piv:M k k=1
theorem Qt1 {n:Nat} {A M:Mi} (h:Stg n A n M) {i j:Nat} (hi:i<n) (hj:j<n):(aN n fun t=>M i (n+t)*A t j)=if i=j then 1 else 0:=by rw[← h.sol i hi j hj,h.un j hj i hi]
theorem Stg.red {n k:Nat} {A M M':Mi} (h:Stg n A k M) (hk:k<n) (hr:Red n M M') (ht:∀ a,a<k→∀ b,M' a b=M a b) (hz:∀ b,(∀ a,k≤a→a<n→M a b=0)→∀ a,k≤a→a<n→M' a b=0) (hl:∀ a,k<a→a<n→M' a k=0) :
  Stg n A k M'∧(M' k k).natAbs=1:=by
 have hs:Stg n A k M':=⟨h.sol.red hr,by rw[hr.detA];exact h.dt,fun j hj i hi=>by
  rcases Nat.lt_or_ge i k with hik|hik
  ·rw[ht i hik,h.un j hj i hi]
  ·rw[if_neg oq]
   exact hz j (fun a h1 h2=>by rw[h.un j hj a h2,if_neg oq]) i hik hi⟩
 obtain⟨x,hx⟩:=Qpd hk hs.un hl
 have h1:=hs.dt
 rw[hx,Vq]at h1
 exact⟨hs,Nat.dvd_one.1 ⟨_,h1.symm⟩⟩
theorem Stg.neg {n k:Nat} {A M:Mi} (h:Stg n A k M) (hk:k<n):Stg n A k (QJ M k fun j => -1*M k j):=⟨h.sol.mulr hk,by rw[Ql5 _ hk,Vq];simpa using h.dt,fun j hj i hi=>by
 by_cases he:i=k
 ·subst he
  rw[setRow_self,h.un j hj i hi,if_neg oq];rfl
 ·rw[QH he,h.un j hj i hi]⟩
theorem Mid.step {n k i:Nat} {A M M':Mi} (h:Mid n A k M i) (hk:k<n) (hi:i<k) (hM:M'=QJ M i fun j=>M i j+(-(M i k))*M k j):Mid n A k M' (i+1):=by
 subst hM
 refine⟨⟨h.stg.sol.addr oq hk,by rw[WW _ oq hk oq];exact h.stg.dt,fun j hj a ha=>?_⟩,fun a h1 h2=>?_,fun a h1 h2=>?_,?_⟩
 ·by_cases he:a=i
  ·subst he
   rw[setRow_self,h.stg.un j hj k hk,if_neg (show k≠j by omega),Int.mul_zero,Int.add_zero,h.stg.un j hj a ha]
  ·rw[QH he,h.stg.un j hj a ha]
 ·rw[QH oq];exact h.low a h1 h2
 ·by_cases he:a=i
  ·subst he
   rw[setRow_self,h.piv];omega
  ·rw[QH he];exact h.top a oq h2
 ·rw[QH oq];exact h.piv
theorem Qt2 {n k:Nat} {A M:Mi} (h:Mid n A k M k):Stg n A (k+1) M:=⟨h.stg.sol,h.stg.dt,fun j hj i hi=>by
 by_cases he:j=k
 ·subst he
  split
  ·rename_i h1;subst h1;exact h.piv
  ·rcases Nat.lt_or_ge i j with h2|h2
   ·exact h.top i h2 h2
   ·exact h.low i oq hi
 ·exact h.stg.un j oq i hi⟩

set_option linter.unusedSimpArgs false
set_option linter.unusedVariables false
set_option linter.unusedSectionVars false

structure InvP (n:Nat) (A:Mi) (e u:Nat→Nat) (k:Nat) (M:Mi):Prop where
 stg:Stg n A k M
 lo:∀ a b,k≤a→a<n→(M a b).natAbs≤e k
 up:∀ a b,a<k→(M a b).natAbs≤u k
structure MidP (n:Nat) (A:Mi) (e u:Nat→Nat) (k i:Nat) (M:Mi):Prop where
 mid:Mid n A k M i
 lo:∀ a b,k≤a→a<n→(M a b).natAbs≤e (k+1)
 up:∀ a b,i≤a→a<k→(M a b).natAbs≤u k
 up1:∀ a b,a<i→a<k→(M a b).natAbs≤u k*(1+e (k+1))
section
variable {c:Cx} {Q:Exit→Act→World→Prop} {m:Mode} {F:ak} {H:aj} {r:List dA} {g:Option (Option Tmp × Bool)} {ns:Bool} {d:Tmp} {ty t t':TypeId} {x y:Operand}
end


theorem Qir (w:World) (v u:Value) (m n:ZM) (hm:cO m) (hn:cO n) (hr:m.r=n.r) (hcc:m.c+n.c≤200) (hv:fO w v m) (hu:fO w u n) :
  Calls Tryz.prog 27 #[v,u] w (aP fun v w'=>Kp [] w w'∧Q5m (Qax m n) true w v w'):=by
 have jI:=hv.x
 have huX:=hu.x
 obtain⟨E,rfl,hE⟩:=hv
 obtain⟨E',rfl,hE'⟩:=hu
 have hle:=hm.le
 have hle':=hn.le
 have hmr:=hm.r
 have hmc:=hm.c
 have hnc:=hn.c
 rw[hm.len]at hE
 rw[hn.len]at hE'
 refine Q9 [⟨9,2,[],[]⟩,⟨10,2,[],[]⟩] [] au [] Tryz.func27 rfl mixed (by kernel_rfl) Tryz.ntmps27 Tryz.results27 rfl ⟨by simp,by simp⟩ au ?_
 simp only[toS,Qd,Qt,Qk,Ql,ay,Qg,QA,aC]
 have hR:=WZ.rd (c:=⟨Tryz.prog,83,w,[],by simp⟩) hE rfl []
 have hR':=WZ.rd (c:=⟨Tryz.prog,83,w,[],by simp⟩) hE' rfl []
 repeat' first|apply jS|apply jO|apply jN|refine Q0 ?_|refine Q7 ?_|refine Qc fun _=>?_|refine QB fun _=>?_|apply jT
 rename_i b2 b3 b4
 refine Q5 trivial rfl rfl rfl (fun w hk _=>ZY w _ m.xm (jI.mono hk) (by simp[ZM.xm];omega)) fun w v w' _ _ _ hc0=>?_
 obtain⟨b',rfl,hb⟩:=hc0
 obtain rfl:=hb.2 hm.rx
 repeat' first|apply jS|apply jO|apply jN|refine Q0 ?_|refine Q7 ?_|apply jT
 refine Q5 trivial rfl rfl rfl (fun w hk _=>ZY w _ n.xm (huX.mono hk) (by simp[ZM.xm];omega)) fun w v w' _ _ _ hc0=>?_
 obtain⟨b',rfl,hb'⟩:=hc0
 obtain rfl:=hb'.2 hn.rx
 repeat' first|apply jS|apply jO|apply jN|apply jT|refine Q1 ?_|refine Q3 ?_|refine Q0 ?_|refine Qb ?_|refine Q7h (h:=?_)|refine Zf (h:=?_)|refine QC (h:=?_)|refine QV (h:=?_)|refine Q2 ?_|(refine Zg (h1:=?_) (h2:=?_)<;>intro hc<;>try omega)|(refine Ze (h1:=?_) (h2:=?_)<;>intro hc<;>try omega)|refine Qc fun _=>?_|refine Q2 ?_|apply jK|refine Q4 rfl ?_|apply jB
 all_goals first
  | (exfalso;omega)
  | skip
 rename_i b8
 refine Qp (ι:=Nat × Nat × aj × Value) ⟨fun z=>[(9,nv z.1),(2,.pointer (some ⟨b2,0,none⟩)),(3,.pointer (some ⟨b3,0,none⟩)),(4,.pointer (some ⟨b4,0,none⟩)),(8,.pointer (some ⟨b8,0,none⟩))],
  fun z=>[(b8,.cells #[nv m.r,nv (m.c+n.c),z.2.2.2] 26),(b4,.cells #[iv 0,iv 0,.slice none 0 0] 26),(b3,.cells #[nv n.r,nv n.c,E'] 26),(b2,.cells #[nv m.r,nv m.c,E] 26)]++(z.2.2.1++[]),
  fun z=>z.1≤m.r∧z.2.1=z.1*(m.c+n.c)∧aG z.2.2.1 z.2.2.2 z.2.1 (Q9g m n (List.range z.1)),fun z=>m.r-z.1⟩ (0,0,[],.slice none 0 0) ⟨by omega,by simp,aG.nil⟩ aF QK (fun z hz=>?_)
 obtain⟨i,k,N,v8⟩:=z
 obtain⟨hi,hk,hO⟩:=hz
 dsimp only at hi hk hO ⊢
 obtain⟨A8,c8,rfl⟩:=hO.form
 by_cases hlt:i<m.r
 ·have hrow1:=Q3u (c:=m.c) hlt
  have hrow2:=Q3u (c:=n.c) (show i<n.r by omega)
  have hk2:k≤40000:=by rw[hk];exact Vr (show i≤200 by omega) hcc
  have e1:(i+1)*m.c-i*m.c=m.c:=by rw[Vo,Nat.one_mul];omega
  have e2:(i+1)*n.c-i*n.c=n.c:=by rw[Vo,Nat.one_mul];omega
  have q1:i*m.c≤40000:=Vr (show i≤200 by omega) hmc
  have q2:(i+1)*m.c≤40000:=Vr (show i+1≤200 by omega) hmc
  have q3:i*n.c≤40000:=Vr (show i≤200 by omega) hnc
  have q4:(i+1)*n.c≤40000:=Vr (show i+1≤200 by omega) hnc
  repeat' first|apply jS|apply jO|apply jN|apply jT|refine Q1 ?_|refine Q3 ?_|refine Qb ?_|(refine Qs (h1:=?_) (h2:=?_)<;>intro hc<;>try omega)|apply jK|refine Q8 rfl ?_|apply jB
  refine Z7 [(b8,.cells #[nv m.r,nv (m.c+n.c),.slice A8 k c8] 26),(b2,.cells #[nv m.r,nv m.c,E] 26)] Qy ?_
  repeat' first|refine Q1 ?_|refine Q3 ?_|refine Qb ?_|refine Qj ?_|refine ZK (h:=?_)|fail
  refine Q7b (l:=i*m.c) (h':=(i+1)*m.c) rfl rfl rfl hR rfl rfl (.inl rfl) rfl rfl (.inl rfl) (V1 _ (Nat.le_succ i)) hrow1 (fun v3 hv3 _=>?_)
  rw[e1]at hv3
  skip
  refine WM (A:=[_,_,_,_]) (B:=[]) hO hv3 (HSub.nil _) rfl Qy rfl rfl rfl rfl oq (fun v4 N4 hO4=>?_)
  obtain⟨A4,c4,rfl⟩:=hO4.form
  repeat' first|apply jN|refine Q3 ?_|refine ZO (k:=_) (h:=?_)|apply jT
  refine Z7 [(b8,.cells #[nv m.r,nv (m.c+n.c),.slice A4 (k+m.c) c4] 26),(b3,.cells #[nv n.r,nv n.c,E'] 26)] Qy ?_
  repeat' first|refine Q1 ?_|refine Q3 ?_|refine Qb ?_|refine Qj ?_|refine ZK (h:=?_)|fail
  refine Q7b (l:=i*n.c) (h':=(i+1)*n.c) rfl rfl rfl hR' rfl rfl (.inl rfl) rfl rfl (.inl rfl) (V1 _ (Nat.le_succ i)) (by rw[← hr]at hrow2 ⊢;exact hrow2) (fun v5 hv5 _=>?_)
  rw[e2]at hv5
  skip
  refine WM (A:=[_,_,_,_]) (B:=[]) hO4 hv5 (HSub.nil _) rfl Qy rfl rfl rfl rfl oq (fun v6 N6 gY=>?_)
  obtain⟨A6,c6,rfl⟩:=gY.form
  repeat' first|apply jO|apply jN|apply jT|refine Q1 ?_|refine Q3 ?_|refine Q0 ?_|refine Qj ?_|refine ZO (k:=_) (h:=?_)|apply jW
  have hO7:aG N6 (.slice A6 (k+m.c+n.c) c6) (k+m.c+n.c) (Q9g m n (List.range (i+1))):=by
   rw[List.range_succ,Qeh]
   exact gY
  exact Qa (i+1,k+m.c+n.c,N6,_) ⟨by dsimp only;omega,by dsimp only;rw[hk,Vo,Nat.one_mul,Nat.add_assoc],hO7⟩ aY aF (HSub.refl _)
 ·repeat' first|apply jS|apply jO|apply jN|apply jT|refine Q1 ?_|refine Q3 ?_|refine Q0 ?_|refine Qb ?_|refine Q7 ?_|refine Q2 ?_|(refine Qs (h1:=?_) (h2:=?_)<;>intro hc<;>try omega)|refine Q2 ?_|apply jU|apply jE|apply jR|refine Q4 rfl ?_|apply Qe
  obtain rfl:i=m.r:=by omega
  rw[Qhi hm hn hr]at hO
  exact X8 1 rfl rfl rfl rfl (fun a w' st=>⟨st.kp,N,_,rfl,st.aS rfl Q6,fZ.mk' hO⟩)


theorem Qiy (K f1 f2:Nat) (w:World) (v u:Value) (a:ZM) (bs:List Int) (S1 S2:Sm) (ha:cO a) (hac:a.c+1≤200) (hv:fO w v a) (hu:WZ w u a.r bs) (hK:K+1≤8000000) (hb:cZ (K+1) a) (hL:fK (K+1) bs) (hj:cO (Qax a (iV bs))) (hjb:cZ (K+1) (Qax a (iV bs))) (hF:fK (K+1) (dH S1.d (min a.r a.c))) (hF2:fK (K+1) (dH S2.d (min a.r (a.c+1))))
  (h1:Q1p (K+1) f1 a.r a.c (min a.r a.c) 0 (QY a.r a.c (QZ a))=some S1)
  (h2:Q1p (K+1) f2 a.r (a.c+1) (min a.r (a.c+1)) 0 (QY a.r (a.c+1) (QZ (Qax a (iV bs))))=some S2) (hn1:(dH S1.d (min a.r a.c)).length≤200) (hn2:(dH S2.d (min a.r (a.c+1))).length≤200) :
  Calls Tryz.prog 28 #[v,u] w (aP fun v w'=>Kp [] w w'∧eX (dH S1.d (min a.r a.c)=dH S2.d (min a.r (a.c+1))) v):=by
 have hv0:=hv
 have hr:=ha.r
 have hbl:bs.length=a.r:=by simpa using hu.len
 obtain⟨E,rfl,hE⟩:=hv
 obtain⟨A1,c1,rfl⟩:=hu.form
 refine Q9 [⟨1,2,[],[]⟩,⟨2,1,[0,2,1,3,4,5],[]⟩] [] au [] Tryz.func28 rfl mixed (by kernel_rfl) Tryz.ntmps28 Tryz.results28 rfl ⟨by simp,by simp⟩ au ?_
 simp only[toS,Qd,Qt,Qk,Ql,ay,Qg,QA,aC]
 repeat' first|apply jS|apply jO|apply jD|apply jN|refine Q1 ?_|refine Q0 ?_|refine Q7 ?_|refine QB fun _=>?_|apply jT
 rename_i b2
 refine Qf (A:=[_]) (B:=[]) rfl aA rfl aH rfl (fun w hk hs=>Qj1 (K+1) w _ a.r bs (hu.mono hk) hr oq hL) fun w v w' _ _ _ hR=>?_
 obtain⟨N1,hN1,E1,rfl,bT⟩:=hR
 refine⟨N1,hN1,?_⟩
 skip
 refine Qf (A:=[_]) (B:=N1++[]) rfl aA rfl aH rfl (fun w hk hs=>Qir w _ _ a (iV bs) ha (Qb3 oq) hbl.symm hac (hv0.mono hk) ⟨_,rfl,bT.rd.at hk hs Q6⟩) fun w v w' _ _ _ hR=>?_
 obtain⟨N2,V2,rfl,fA,hO2⟩:=hR
 obtain⟨E2,rfl,hO2⟩:=hO2
 obtain⟨A2,c2,rfl⟩:=hO2.form
 refine⟨N2,fA,?_⟩
 repeat' first|apply jS|apply jD|apply jN|refine Q1 ?_|refine Q0 ?_|refine Q7 ?_|refine Qv (h:=?_)|refine Q2 ?_|refine Qc fun _=>?_|refine Q2 ?_|apply jT
 refine Qf (A:=[_,_]) (B:=N2++(N1++[])) rfl aA rfl aH rfl (fun w hk hs=>Q6q K f1 w _ a S1 ha (hv0.mono hk) oq hb h1) fun w v w' _ _ _ hR=>?_
 obtain⟨N3,hN3,hO3⟩:=hR
 obtain⟨A3,c3,rfl⟩:=hO3.form
 refine⟨N3,hN3,?_⟩
 skip
 refine Qf (A:=[_,_]) (B:=N3++(N2++(N1++[]))) rfl aA rfl aH rfl (fun w hk hs=>Q6q K f2 w _ (Qax a (iV bs)) S2 hj ⟨_,rfl,hO2.rd.at hk hs Q6⟩ oq hjb h2) fun w v w' _ _ _ hR=>?_
 obtain⟨N4,hN4,hO4⟩:=hR
 obtain⟨A4,c4,rfl⟩:=hO4.form
 refine⟨N4,hN4,?_⟩
 skip
 refine Q5 aA rfl aH rfl (fun w hk hs=>Qdq (K+1) w _ _ _ _ (hO3.rd.at hk hs Q6) (hO4.rd.at hk hs Q6) oq (V0 hn2 dq) oq hF hF2) fun w v w' _ _ _ hR=>?_
 obtain⟨b',rfl,hb'⟩:=hR
 repeat' first|apply jN|apply jT|refine Q0 ?_|apply jR
 exact Qn rfl (fun a w' st=>⟨st.kp,b',rfl,hb'⟩)


theorem Q1x {w:World} {b n:Nat} {vs:List Value} (xs:List Int) (hb:w.heap[b]?=some (.cells ⟨vs⟩ 3)) (hv:vs=xs.map iv) (hn:xs.length=n):WI w (.slice (some ⟨b,0,none⟩) n n) n xs:=by
 subst hv
 refine⟨by simp[hn],_,_,rfl,V8 _,fun _=>⟨⟨b,0,rfl⟩,fun j u hu=>?_⟩⟩
 simp only[dU,Vu]
 exact QP hb (by simpa using hu)
theorem Q6t {w:World} {b n:Nat} {ss:List Value} (xss:List (List Int)) (hb:w.heap[b]?=some (.cells ⟨ss⟩ 48)) (hl:ss.length=n) (hx:xss.length=n) (h:∀ i,i<n→WI w (ss.getD i (iv 0)) (xss.getD i []).length (xss.getD i [])):fC w (.slice (some ⟨b,0,none⟩) n n) xss:=by
 subst hx
 refine⟨ss,⟨by omega,_,_,rfl,V8 _,fun _=>⟨⟨b,0,rfl⟩,fun j u hu=>?_⟩⟩,h⟩
 simp only[dU,Vu]
 exact QP hb (by simpa using hu)
theorem Q5k {w:World} {b:Nat} {s:Value} (xs:List Int) (hb:w.heap[b]?=some (.cells ⟨[s]⟩ 48)) (h:WI w s xs.length xs):fC w (.slice (some ⟨b,0,none⟩) 1 1) [xs] :=
 Q6t [xs] hb rfl rfl fun i hi=>by
  obtain rfl:i=0:=by omega
  exact h
theorem Q0y {w:World} {b:Nat} {s s':Value} (xs xs':List Int) (hb:w.heap[b]?=some (.cells ⟨[s,s']⟩ 48)) (h:WI w s xs.length xs) (h':WI w s' xs'.length xs'):fC w (.slice (some ⟨b,0,none⟩) 2 2) [xs,xs'] :=
 Q6t [xs,xs'] hb rfl rfl fun i hi=>by
  rcases(show i=0∨i=1 by omega)with rfl|rfl
  ·exact h
  ·exact h'
theorem Q4y {xss:List (List Int)} (h:∀ l∈xss,∀ x∈l,I64 x):∀ i j,I64 ((xss.getD i []).getD j 0):=fun i j=>by
 have h0:I64 0:=⟨by decide,by decide⟩
 rw[List.getD]
 cases hj:(xss.getD i [])[j]? with
 | none=>exact h0
 | some x =>
  have hx:=List.mem_of_getElem? hj
  rw[List.getD]at hx
  cases hi:xss[i]? with
  | none=>rw[hi]at hx;cases hx
  | some l=>rw[hi]at hx;exact h l (List.mem_of_getElem? hi) x hx
instance (n:Int):Decidable (I64 n):=by unfold I64;infer_instance
theorem Zc {K:Nat} {l:List Int} (h:∀ x∈l,x.natAbs<256 ^ K):fK K l:=fun i=>by
 rw[List.getD]
 cases hi:l[i]? with
 | none=>exact Nat.pow_pos dq
 | some x=>exact h x (List.mem_of_getElem? hi)
theorem Qs8 {xs:List Int} (h:∀ x∈xs,I64 x) (i:Nat):I64 (xs.getD i 0):=by
 rw[List.getD]
 cases hi:xs[i]? with
 | none=>exact⟨by decide,by decide⟩
 | some x=>exact h x (List.mem_of_getElem? hi)

theorem s_Of {X:List (List Int)} {r c:Nat} {e:List Int} (he:ofZ X=⟨r,c,e⟩) (hl:e.length=r*c) (w:World) (v:Value) (hv:fC w v X) (hr:X.length≤200) (hcc:jw X X.length≤200) (hI:∀ i j,I64 ((X.getD i []).getD j 0)) :
  Calls Tryz.prog 45 #[v] w (aP fun v w'=>Kp [] w w'∧∃ N A k,New N w w'∧v=.agg #[nv r,nv c,.slice A (r*c) k]∧aG N (.slice A (r*c) k) (r*c) e):=by
 refine(Qiq w v X hv hr hcc hI).mono fun x w' h=>?_
 cases x with
 | panicked _=>exact h.elim
 | outgrown=>exact h.elim
 | returned v =>
  obtain⟨hk,N,hN,E,rfl,hO⟩:=h
  rw[he]at hO ⊢
  have hO:aG N E e.length e:=hO
  rw[hl]at hO
  obtain⟨A,k,rfl⟩:=hO.form
  exact⟨hk,N,A,k,hN,rfl,hO⟩
theorem s_M {w:World} {A:Option Addr} {r c k:Nat} {e:List Int} (hl:e.length=r*c) (h:WZ w (.slice A (r*c) k) (r*c) e):fO w (.agg #[nv r,nv c,.slice A (r*c) k]) ⟨r,c,e⟩:=⟨_,rfl,by show WZ w _ e.length e;rw[hl];exact h⟩
theorem iW {r c:Nat} {e:List Int} (h:r≤200∧c≤200∧e.length=r*c):cO ⟨r,c,e⟩:=⟨h.1,h.2.1,h.2.2⟩

def k0S:Sm:=⟨[[1]],[[1]],[[1,0,0]],[[1,-2,-3],[0,1,0],[0,0,1]],[[1,2,3],[0,1,0],[0,0,1]]⟩
theorem Qjv (w:World) (A:Option Addr) (k:Nat) (h:WZ w (.slice A (1*3) k) (1*3) [1,2,3]) :
  Calls Tryz.prog 15 #[.agg #[nv 1,nv 3,.slice A (1*3) k]] w (aP fun v w'=>Kp [] w w'∧∃ N A k,New N w w'∧v=.agg #[nv 3,nv 2,.slice A (3*2) k]∧aG N (.slice A (3*2) k) (3*2) [-2,-3,1,0,0,1]):=by
 refine(Qdr 0 9 9 w _ ⟨1,3,[1,2,3]⟩ k0S (iW dq) (s_M rfl h) dq (Zc dq) (by kernel_rfl)).mono fun x w' h=>?_
 cases x with
 | panicked _=>exact h.elim
 | outgrown=>exact h.elim
 | returned v =>
  rw[show XS (gM 3 3 k0S.v) 0 (dH k0S.d (min 1 3)).length 3 (3-(dH k0S.d (min 1 3)).length)=⟨3,2,[-2,-3,1,0,0,1]⟩ from by kernel_rfl]at h
  obtain⟨hk,N,hN,E,rfl,hO⟩:=h
  have hO:aG N E 6 [-2,-3,1,0,0,1]:=hO
  obtain⟨A,k,rfl⟩:=hO.form
  exact⟨hk,N,A,k,hN,rfl,hO⟩

def kzS:Sm:=⟨[[0,1,0],[0,0,1],[1,2,3]],[[-2,-3,1],[1,0,0],[0,1,0]],[[1,0],[0,1],[0,0]],[[1,0],[0,1]],[[1,0],[0,1]]⟩
theorem Q9h {P:Prop} {v:Value} (h:eX P v) (hp:P):v=.bool true:=by
 obtain⟨b,rfl,hb⟩:=h
 rw[hb.2 hp]
theorem Q9f {a b:ZM} (h1:a.r≤200) (h2:a.c+b.c≤200):cO (Qax a b):=Xg h1 h2
def kS1:Sm:=⟨[[0,1,0],[0,0,1],[1,2,3]],[[-2,-3,1],[1,0,0],[0,1,0]],[[1,0,0],[0,1,0],[0,0,0]],[[1,0,1],[0,1,0],[0,0,1]],[[1,0,-1],[0,1,0],[0,0,1]]⟩
theorem Qnx (w:World) (A:Option Addr) (k:Nat) (u:Value) (h:WZ w (.slice A (3*2) k) (3*2) [-2,-3,1,0,0,1]) (hu:WZ w u 3 [2,-1,0]) :
  Calls Tryz.prog 28 #[.agg #[nv 3,nv 2,.slice A (3*2) k],u] w (aP fun v w'=>Kp [] w w'∧v=.bool true):=by
 refine(Qiy 0 9 9 w _ u ⟨3,2,[-2,-3,1,0,0,1]⟩ [2,-1,0] kzS kS1 (iW dq) dq (s_M rfl h) hu dq (Zc dq) (Zc dq) (Q9f dq dq) (Zc dq) (Zc dq) (Zc dq) (by kernel_rfl) (by kernel_rfl) dq dq).mono fun x w' h=>?_
 cases x with
 | panicked _=>exact h.elim
 | outgrown=>exact h.elim
 | returned v =>
  exact⟨h.1,Q9h h.2 (by kernel_rfl)⟩
def kS2:Sm:=⟨[[0,1,0],[0,0,1],[1,2,3]],[[-2,-3,1],[1,0,0],[0,1,0]],[[1,0,0],[0,1,0],[0,0,0]],[[1,0,0],[0,1,1],[0,0,1]],[[1,0,0],[0,1,-1],[0,0,1]]⟩
theorem Qnw (w:World) (A:Option Addr) (k:Nat) (u:Value) (h:WZ w (.slice A (3*2) k) (3*2) [-2,-3,1,0,0,1]) (hu:WZ w u 3 [3,0,-1]) :
  Calls Tryz.prog 28 #[.agg #[nv 3,nv 2,.slice A (3*2) k],u] w (aP fun v w'=>Kp [] w w'∧v=.bool true):=by
 refine(Qiy 0 9 9 w _ u ⟨3,2,[-2,-3,1,0,0,1]⟩ [3,0,-1] kzS kS2 (iW dq) dq (s_M rfl h) hu dq (Zc dq) (Zc dq) (Q9f dq dq) (Zc dq) (Zc dq) (Zc dq) (by kernel_rfl) (by kernel_rfl) dq dq).mono fun x w' h=>?_
 cases x with
 | panicked _=>exact h.elim
 | outgrown=>exact h.elim
 | returned v =>
  exact⟨h.1,Q9h h.2 (by kernel_rfl)⟩
def a2S:Sm:=⟨[[1]],[[1]],[[2,0]],[[1,-2],[0,1]],[[1,2],[0,1]]⟩
def a3S:Sm:=⟨[[1,0],[-1,1]],[[1,0],[1,1]],[[1,0],[0,0]],[[1,0],[0,1]],[[1,0],[0,1]]⟩
def i2S:Sm:=⟨[[1,0],[0,1]],[[1,0],[0,1]],[[1,0],[0,1]],[[1,0],[0,1]],[[1,0],[0,1]]⟩
def q1S:Sm:=⟨[[1,1],[3,4]],[[4,-1],[-3,1]],[[1,0],[0,6]],[[2,-3],[-1,2]],[[2,3],[1,2]]⟩
def q2S:Sm:=⟨[[1,0],[-2,1]],[[1,0],[2,1]],[[2],[0]],[[1]],[[1]]⟩
theorem Qnv (w:World) (A:Option Addr) (k:Nat) (u:Value) (h:WZ w (.slice A (1*2) k) (1*2) [2,4]) (hu:WZ w u 1 [6]) :
  Calls Tryz.prog 37 #[.agg #[nv 1,nv 2,.slice A (1*2) k],u] w (aP fun v w'=>Kp [] w w'∧∃ N A c,New N w w'∧v=.tuple #[.slice A 2 c,.bool true]∧aG N (.slice A 2 c) 2 [3,0]):=by
 refine(Q8b 0 9 9 1 w _ u ⟨1,2,[2,4]⟩ [6] a2S (iW dq) (s_M rfl h) hu dq (Zc dq) (Zc dq) (by kernel_rfl) (by kernel_rfl)).mono fun x w' h=>?_
 cases x with
 | panicked _=>exact h.elim
 | outgrown=>exact h.elim
 | returned v =>
  obtain⟨hk,N,E,hN,rfl,hO⟩:=h
  rw[show solV a2S 1 2 [6]=[3,0] from by kernel_rfl]at hO
  obtain⟨A,c,rfl⟩:=hO.form
  exact⟨hk,N,A,c,hN,rfl,hO⟩
theorem Qr0 (w:World) (A:Option Addr) (k:Nat) (u:Value) (h:WZ w (.slice A (1*2) k) (1*2) [2,4]) (hu:WZ w u 1 [5]) :
  Calls Tryz.prog 38 #[.agg #[nv 1,nv 2,.slice A (1*2) k],u] w (aP fun v w'=>Kp [] w w'∧∃ N A c,New N w w'∧v=.tuple #[.slice A 1 c,Wv 2,.bool true]∧aG N (.slice A 1 c) 1 [1]):=by
 refine(Qdo 0 9 9 1 0 w _ u ⟨1,2,[2,4]⟩ [5] a2S (iW dq) (s_M rfl h) hu dq (Zc dq) (Zc dq) (by kernel_rfl) (by kernel_rfl) dq).mono fun x w' h=>?_
 cases x with
 | panicked _=>exact h.elim
 | outgrown=>exact h.elim
 | returned v =>
  obtain⟨hk,N,E,hN,rfl,hO⟩:=h
  have hO:aG N E 1 (dh (gM 1 1 a2S.u) 0):=hO
  rw[show dh (gM 1 1 a2S.u) 0=[1] from by kernel_rfl]at hO
  obtain⟨A,c,rfl⟩:=hO.form
  refine⟨hk,N,A,c,hN,?_,hO⟩
  rw[show aK (gM 1 2 a2S.d) 0=2 from by kernel_rfl]
theorem Qqz (w:World) (A:Option Addr) (k:Nat) (u:Value) (h:WZ w (.slice A (2*2) k) (2*2) [1,0,1,0]) (hu:WZ w u 2 [1,2]) :
  Calls Tryz.prog 38 #[.agg #[nv 2,nv 2,.slice A (2*2) k],u] w (aP fun v w'=>Kp [] w w'∧∃ N A c,New N w w'∧v=.tuple #[.slice A 2 c,Wv 0,.bool true]∧aG N (.slice A 2 c) 2 [-1,1]):=by
 refine(Qdo 0 9 9 1 1 w _ u ⟨2,2,[1,0,1,0]⟩ [1,2] a3S (iW dq) (s_M rfl h) hu dq (Zc dq) (Zc dq) (by kernel_rfl) (by kernel_rfl) dq).mono fun x w' h=>?_
 cases x with
 | panicked _=>exact h.elim
 | outgrown=>exact h.elim
 | returned v =>
  obtain⟨hk,N,E,hN,rfl,hO⟩:=h
  have hO:aG N E 2 (dh (gM 2 2 a3S.u) 1):=hO
  rw[show dh (gM 2 2 a3S.u) 1=[-1,1] from by kernel_rfl]at hO
  obtain⟨A,c,rfl⟩:=hO.form
  refine⟨hk,N,A,c,hN,?_,hO⟩
  rw[show aK (gM 2 2 a3S.d) 1=0 from by kernel_rfl]
theorem Qo0 (w:World) (A A':Option Addr) (k k':Nat) (h:WZ w (.slice A (2*2) k) (2*2) [1,0,0,1]) (h':WZ w (.slice A' (2*2) k') (2*2) [2,0,0,3]) :
  Calls Tryz.prog 23 #[.agg #[nv 2,nv 2,.slice A (2*2) k],.agg #[nv 2,nv 2,.slice A' (2*2) k']] w (aP fun v w'=>Kp [] w w'∧∃ N A c Ag cg,New N w w'∧aG N (.slice A 1 c) 1 [6]∧v=.tuple #[.slice A 1 c,nv 0,.agg #[nv 2,nv 1,.slice Ag (2*1) cg],.bool true]):=by
 refine(Qn0 0 9 9 1 0 9 9 w _ _ ⟨2,2,[1,0,0,1]⟩ ⟨2,2,[2,0,0,3]⟩ i2S q1S (iW dq) (iW dq) rfl (s_M rfl h) (s_M rfl h') dq dq (Zc dq) (Zc dq) (by kernel_rfl) (by kernel_rfl) (fun j hj=>by
  have hj:j<2:=hj
  rcases(show j=0∨j=1 by omega)with rfl|rfl
  ·exact(show YC (gM 2 2 i2S.d) (bI (gM 2 2 i2S.u) (jr ⟨2,2,[2,0,0,3]⟩ 0))=none from by kernel_rfl)
  ·exact(show YC (gM 2 2 i2S.d) (bI (gM 2 2 i2S.u) (jr ⟨2,2,[2,0,0,3]⟩ 1))=none from by kernel_rfl)) (Zc dq) (by kernel_rfl)).mono fun x w' h=>?_
 cases x with
 | panicked _=>exact h.elim
 | outgrown=>exact h.elim
 | returned v =>
  obtain⟨hk,N,A,c,Ag,cg,hN,hO,rfl⟩:=h
  have e1:dL (gM 2 2 q1S.d) (List.range 2)=[6]:=by kernel_rfl
  have e2:iy (gM 2 2 q1S.d) (List.range 2)=0:=by kernel_rfl
  have e3:(dM (gM 2 2 q1S.d) (List.range 2)).length=1:=by kernel_rfl
  have hO:aG N (.slice A (dL (gM 2 2 q1S.d) (List.range 2)).length c) (dL (gM 2 2 q1S.d) (List.range 2)).length (dL (gM 2 2 q1S.d) (List.range 2)):=hO
  rw[e1]at hO
  refine⟨hk,N,A,c,Ag,cg,hN,hO,?_⟩
  show Value.tuple #[.slice A (dL (gM 2 2 q1S.d) (List.range 2)).length c,nv (iy (gM 2 2 q1S.d) (List.range 2)),.agg #[nv 2,nv (dM (gM 2 2 q1S.d) (List.range 2)).length,.slice Ag (2*(dM (gM 2 2 q1S.d) (List.range 2)).length) cg],.bool true]=_
  rw[e1,e2,e3]
  rfl
theorem Qnz (w:World) (A A':Option Addr) (k k':Nat) (h:WZ w (.slice A (2*2) k) (2*2) [1,0,0,1]) (h':WZ w (.slice A' (2*1) k') (2*1) [2,4]) :
  Calls Tryz.prog 23 #[.agg #[nv 2,nv 2,.slice A (2*2) k],.agg #[nv 2,nv 1,.slice A' (2*1) k']] w (aP fun v w'=>Kp [] w w'∧∃ N A c Ag cg,New N w w'∧aG N (.slice A 1 c) 1 [2]∧v=.tuple #[.slice A 1 c,nv 1,.agg #[nv 2,nv 2,.slice Ag (2*2) cg],.bool true]):=by
 refine(Qn0 0 9 9 1 0 9 9 w _ _ ⟨2,2,[1,0,0,1]⟩ ⟨2,1,[2,4]⟩ i2S q2S (iW dq) (iW dq) rfl (s_M rfl h) (s_M rfl h') dq dq (Zc dq) (Zc dq) (by kernel_rfl) (by kernel_rfl) (fun j hj=>by
  have hj:j<1:=hj
  obtain rfl:j=0:=by omega
  exact(show YC (gM 2 2 i2S.d) (bI (gM 2 2 i2S.u) (jr ⟨2,1,[2,4]⟩ 0))=none from by kernel_rfl)) (Zc dq) (by kernel_rfl)).mono fun x w' h=>?_
 cases x with
 | panicked _=>exact h.elim
 | outgrown=>exact h.elim
 | returned v =>
  obtain⟨hk,N,A,c,Ag,cg,hN,hO,rfl⟩:=h
  have e1:dL (gM 2 1 q2S.d) (List.range 2)=[2]:=by kernel_rfl
  have e2:iy (gM 2 1 q2S.d) (List.range 2)=1:=by kernel_rfl
  have e3:(dM (gM 2 1 q2S.d) (List.range 2)).length=2:=by kernel_rfl
  have hO:aG N (.slice A (dL (gM 2 1 q2S.d) (List.range 2)).length c) (dL (gM 2 1 q2S.d) (List.range 2)).length (dL (gM 2 1 q2S.d) (List.range 2)):=hO
  rw[e1]at hO
  refine⟨hk,N,A,c,Ag,cg,hN,hO,?_⟩
  show Value.tuple #[.slice A (dL (gM 2 1 q2S.d) (List.range 2)).length c,nv (iy (gM 2 1 q2S.d) (List.range 2)),.agg #[nv 2,nv (dM (gM 2 1 q2S.d) (List.range 2)).length,.slice Ag (2*(dM (gM 2 1 q2S.d) (List.range 2)).length) cg],.bool true]=_
  rw[e1,e2,e3]
  rfl


theorem Qqy (w:World) (A:Option Addr) (k:Nat) (u z:Value) (h:WZ w (.slice A (1*2) k) (1*2) [2,4]) (hu:WZ w u 2 [3,0]) (hz:WZ w z 1 [6]) :
  Calls Tryz.prog 41 #[.agg #[nv 1,nv 2,.slice A (1*2) k],u,z] w (aP fun v w'=>Kp [] w w'∧v=.bool true):=by
 refine(Qsh 1 1 w _ u z ⟨1,2,[2,4]⟩ [3,0] [6] (iW dq) (s_M rfl h) hu hz dq dq dq (Zc dq) (Zc dq) (Zc dq)).mono fun x w' h=>?_
 cases x with
 | panicked _=>exact h.elim
 | outgrown=>exact h.elim
 | returned v=>exact⟨h.1,Q9h h.2 ((Qfj rfl).2 (by kernel_rfl))⟩
theorem Qnu (w:World) (A:Option Addr) (k:Nat) (u z:Value) (h:WZ w (.slice A (1*2) k) (1*2) [2,4]) (hu:WZ w u 1 [5]) (hz:WZ w z 1 [1]) :
  Calls Tryz.prog 42 #[.agg #[nv 1,nv 2,.slice A (1*2) k],u,z,Wv 2] w (aP fun v w'=>Kp [] w w'∧v=.bool true):=by
 refine(Qms 1 1 w _ u z _ ⟨1,2,[2,4]⟩ [5] [1] 2 (iW dq) (s_M rfl h) hu hz (Qi dq) dq dq dq (Zc dq) (Zc dq) (Zc dq)).mono fun x w' h=>?_
 cases x with
 | panicked _=>exact h.elim
 | outgrown=>exact h.elim
 | returned v =>
  refine⟨h.1,Q9h h.2 ⟨rfl,rfl,by decide,fun j hj=>?_,by decide⟩⟩
  have hj:j<2:=hj
  rcases(show j=0∨j=1 by omega)with rfl|rfl<;>decide
theorem Qnt (w:World) (A:Option Addr) (k:Nat) (u z:Value) (h:WZ w (.slice A (2*2) k) (2*2) [1,0,1,0]) (hu:WZ w u 2 [1,2]) (hz:WZ w z 2 [-1,1]) :
  Calls Tryz.prog 42 #[.agg #[nv 2,nv 2,.slice A (2*2) k],u,z,Wv 0] w (aP fun v w'=>Kp [] w w'∧v=.bool true):=by
 refine(Qms 1 1 w _ u z _ ⟨2,2,[1,0,1,0]⟩ [1,2] [-1,1] 0 (iW dq) (s_M rfl h) hu hz (Qi dq) dq dq dq (Zc dq) (Zc dq) (Zc dq)).mono fun x w' h=>?_
 cases x with
 | panicked _=>exact h.elim
 | outgrown=>exact h.elim
 | returned v =>
  refine⟨h.1,Q9h h.2 ⟨rfl,rfl,by decide,fun j hj=>?_,by decide⟩⟩
  have hj:j<2:=hj
  rcases(show j=0∨j=1 by omega)with rfl|rfl<;>decide
theorem Qg6 (w:World) (v u:Value) (t:Int) (ht:t.natAbs<256) (h:WZ w v 1 [t]) (hu:WZ w u 1 [t]) :
  Calls Tryz.prog 25 #[v,u] w (aP fun v w'=>Kp [] w w'∧v=.bool true):=by
 refine(Qdq 1 w v u [t] [t] h hu (Nat.le_of_ble_eq_true rfl) (Nat.le_of_ble_eq_true rfl) dq (Zc (by simpa using ht)) (Zc (by simpa using ht))).mono fun x w' h=>?_
 cases x with
 | panicked _=>exact h.elim
 | outgrown=>exact h.elim
 | returned v=>exact⟨h.1,Q9h h.2 rfl⟩

theorem Qny (w:World) (A:Option Addr) (k:Nat) (h:WZ w (.slice A (3*2) k) (3*2) [-2,-3,1,0,0,1]) :
  Calls Tryz.prog 26 #[.agg #[nv 3,nv 2,.slice A (3*2) k]] w (aP fun v w'=>Kp [] w w'∧v=.bool true):=by
 refine(ZY w _ (ZM.xm ⟨3,2,[-2,-3,1,0,0,1]⟩) (s_M (e:=[-2,-3,1,0,0,1]) rfl h).x (by show (List.map wz [-2,-3,1,0,0,1]).length<_;rw[List.length_map];exact of_decide_eq_true rfl)).mono fun x w' h=>?_
 cases x with
 | panicked _=>exact h.elim
 | outgrown=>exact h.elim
 | returned v=>exact⟨h.1,Q9h h.2 (iW (r:=3) (c:=2) (e:=[-2,-3,1,0,0,1]) dq).rx⟩
theorem Q0a {w:World} {b n:Nat} {vs:List Value} (xs:List Int) (hb:w.heap[b]?=some (.cells ⟨vs⟩ 3)) (hv:vs=xs.map iv) (hn:xs.length=n) (hl:n≤2000000) (hI:∀ x∈xs,I64 x):Calls Tryz.prog 44 #[.slice (some ⟨b,0,none⟩) n n] w (aP fun v w'=>Kp [] w w'∧∃ N,New N w w'∧aG N v n xs) :=
 Qpt w _ n xs (Q1x xs hb hv hn) hl (Qs8 hI)

theorem Qr1 (w:World):Calls Tryz.prog 35 #[iv 2] w (aP fun v w'=>Kp [] w w'∧∃ N A k,New N w w'∧v=.agg #[nv 2,nv 2,.slice A (2*2) k]∧aG N (.slice A (2*2) k) (2*2) [1,0,0,1]):=by
 refine(Q88 2 dq w).mono fun x w' h=>?_
 cases x with
 | panicked _=>exact h.elim
 | outgrown=>exact h.elim
 | returned v =>
  obtain⟨hk,N,hN,E,rfl,hO⟩:=h
  have hO:aG N E 4 [1,0,0,1]:=hO
  obtain⟨A,k,rfl⟩:=hO.form
  exact⟨hk,N,A,k,hN,rfl,hO⟩

theorem Qio (w:World):Calls Tryz.prog 13 #[] w (aP fun v w'=>Kp [] w w'∧v=.bool true):=by
 refine Q9 [⟨5,2,[],[]⟩,⟨6,3,[],[]⟩,⟨8,3,[],[]⟩,⟨9,0,[0,1,2,3,4,5,6,7,8,9,10,11,12,13,14,15,18,19,16,17,20,21,22,23,24,25,26,27,28,31,32,29,30,33,34,35],[]⟩] [] au [] Tryz.func13 rfl mixed (by kernel_rfl) Tryz.ntmps13 Tryz.results13 rfl ⟨by simp,by simp⟩ au ?_
 simp only[toS,Qd,Qt,Qk,Ql,ay,Qg,QA,aC]
 repeat' first|apply jS|apply jO|apply jN|refine Q0 ?_|refine QG (h:=fun _=>?_)|apply jT
 refine Qf (A:=[_,_]) (B:=[]) rfl aA rfl aH rfl (fun w hk hs=>s_Of (X:=[[1,2,3]]) (r:=1) (c:=3) (e:=[1,2,3]) (by kernel_rfl) rfl w _ (Q5k _ (Yo hs 0 rfl) (Q1x [1,2,3] (Yo hs 1 rfl) rfl rfl)) dq dq (Q4y dq)) fun w v w' _ _ _ hR=>?_
 obtain⟨N1,A1,k1,hN1,rfl,bT⟩:=hR
 refine⟨N1,hN1,?_⟩
 skip
 refine Qf (A:=[_,_]) (B:=N1++[]) rfl aA rfl aH rfl (fun w hk hs=>Qjv w _ _ (bT.rd.at hk hs Q6)) fun w v w' _ _ _ hR=>?_
 obtain⟨N2,A2,k2,fA,rfl,hO2⟩:=hR
 refine⟨N2,fA,?_⟩
 repeat' first|refine Q2 ?_|refine Qc fun _=>?_|refine Q2 ?_|apply jN
 rename_i b1
 refine JX.part (F':=[(1,.pointer (some ⟨b1,0,none⟩))]) (H':=[(b1,.cells #[nv 3,nv 2,.slice A2 (3*2) k2] 26)]++(N2++[])) aF QK ?_
 apply QE
 repeat' first|apply jS|refine Q1 ?_|refine Q3 ?_|refine Qb ?_|refine Q7 ?_|refine QC (h:=?_)|(refine Ze (h1:=?_) (h2:=?_)<;>intro hc<;>try omega)|apply jD
 refine Q5 aA rfl aH rfl (fun w hk hs=>Qny w _ _ (hO2.rd.at hk hs Q6)) fun w v w' _ _ _ hR=>?_
 subst hR
 repeat' first|refine Q1 ?_|refine Q7 ?_|refine QC (h:=?_)|refine QV (h:=?_)|refine QG (h:=fun _=>?_)|fail
 refine Qf (A:=[_,_]) (B:=N2++[]) rfl aA rfl aH rfl (fun w hk hs=>Q0a [2,-1,0] (Yo hs 0 rfl) rfl rfl dq dq) fun w v w' _ _ _ hR=>?_
 obtain⟨N3,hN3,hO3⟩:=hR
 obtain⟨A3,k3,rfl⟩:=hO3.form
 refine⟨N3,hN3,?_⟩
 skip
 refine Q5 aA rfl aH rfl (fun w hk hs=>Qnx w _ _ _ (hO2.rd.at hk hs Q6) (hO3.rd.at hk hs Q6)) fun w v w' _ _ _ hR=>?_
 subst hR
 repeat' first|refine Q1 ?_|refine Q7 ?_|refine QC (h:=?_)|refine QV (h:=?_)|refine QG (h:=fun _=>?_)|fail
 refine Qf (A:=[_,_,_]) (B:=N3++(N2++[])) rfl aA rfl aH rfl (fun w hk hs=>Q0a [3,0,-1] (Yo hs 0 rfl) rfl rfl dq dq) fun w v w' _ _ _ hR=>?_
 obtain⟨N4,hN4,hO4⟩:=hR
 obtain⟨A4,k4,rfl⟩:=hO4.form
 refine⟨N4,hN4,?_⟩
 skip
 refine Q5 aA rfl aH rfl (fun w hk hs=>Qnw w _ _ _ (hO2.rd.at hk hs Q6) (hO4.rd.at hk hs Q6)) fun w v w' _ _ _ hR=>?_
 subst hR
 repeat' first|refine QC (h:=?_)|refine QV (h:=?_)|apply jN
 refine JX.part (F':=[(50,.bool false)]) (H':=[]) aF (HSub.nil _) ?_
 apply QE
 repeat' first|apply jS|apply jO|apply jT|refine QG (h:=fun _=>?_)|apply jK|refine Q4 rfl ?_
 refine Qf (A:=[_,_]) (B:=[]) rfl aA rfl aH rfl (fun w hk hs=>s_Of (X:=[[2,4]]) (r:=1) (c:=2) (e:=[2,4]) (by kernel_rfl) rfl w _ (Q5k _ (Yo hs 0 rfl) (Q1x [2,4] (Yo hs 1 rfl) rfl rfl)) dq dq (Q4y dq)) fun w v w' _ _ _ hR=>?_
 obtain⟨Na,Aa,ka,hNa,rfl,hOa⟩:=hR
 refine⟨Na,hNa,?_⟩
 repeat' first|refine Q2 ?_|refine Qc fun _=>?_|refine Q2 ?_|apply jN
 rename_i ba
 refine JX.part (F':=[(2,.pointer (some ⟨ba,0,none⟩))]) (H':=[(ba,.cells #[nv 1,nv 2,.slice Aa (1*2) ka] 26)]++(Na++[])) aF QK ?_
 apply QE
 repeat' first|apply jS|refine Q7 ?_|refine QG (h:=fun _=>?_)|apply jD
 refine Qf (A:=[_,_]) (B:=Na++[]) rfl aA rfl aH rfl (fun w hk hs=>Q0a [6] (Yo hs 0 rfl) rfl rfl dq dq) fun w v w' _ _ _ hR=>?_
 obtain⟨N3,hN3,hO3⟩:=hR
 obtain⟨A3,k3,rfl⟩:=hO3.form
 refine⟨N3,hN3,?_⟩
 skip
 refine Qf (A:=[_,_]) (B:=N3++(Na++[])) rfl aA rfl aH rfl (fun w hk hs=>Qnv w _ _ _ (hOa.rd.at hk hs Q6) (hO3.rd.at hk hs Q6)) fun w v w' _ _ _ hR=>?_
 obtain⟨Nx,Ax,kx,hNx,rfl,hOx⟩:=hR
 refine⟨Nx,hNx,?_⟩
 repeat' first|refine Q1 ?_|refine Q0 ?_|refine Qv (h:=?_)|apply jN
 refine JX.part (F':=[(4,.bool true),(3,.slice Ax 2 kx),(2,.pointer (some ⟨ba,0,none⟩))]) (H':=[(ba,.cells #[nv 1,nv 2,.slice Aa (1*2) ka] 26)]++(Nx++(Na++[]))) aF (HSub.skip (HSub.at 0 rfl (by
  show HSub (Nx++(Na++[])) (Nx++(N3++(Na++[])))
  exact ZX (Qr (HSub.refl _))))) ?_
 apply QE
 repeat' first|apply jS|refine Q7 ?_|refine QG (h:=fun _=>?_)|apply jD
 refine Qf (A:=[_,_]) (B:=Nx++(Na++[])) rfl aA rfl aH rfl (fun w hk hs=>Q0a [5] (Yo hs 0 rfl) rfl rfl dq dq) fun w v w' _ _ _ hR=>?_
 obtain⟨N3,hN3,hO3⟩:=hR
 obtain⟨A3,k3,rfl⟩:=hO3.form
 refine⟨N3,hN3,?_⟩
 skip
 refine Qf (A:=[_,_]) (B:=N3++(Nx++(Na++[]))) rfl aA rfl aH rfl (fun w hk hs=>Qr0 w _ _ _ (hOa.rd.at hk hs Q6) (hO3.rd.at hk hs Q6)) fun w v w' _ _ _ hR=>?_
 obtain⟨Ny,Ay,ky,hNy,rfl,hOy⟩:=hR
 refine⟨Ny,hNy,?_⟩
 repeat' first|refine Q1 ?_|refine Q0 ?_|refine Qv (h:=?_)|refine Q2 ?_|refine Qc fun _=>?_|refine Q2 ?_|apply jN
 rename_i bm
 refine JX.part (F':=[(7,.bool true),(6,.pointer (some ⟨bm,0,none⟩)),(5,.slice Ay 1 ky),(4,.bool true),(3,.slice Ax 2 kx),(2,.pointer (some ⟨ba,0,none⟩))]) (H':=[(bm,.cells #[.bool (decide ((2:Int)<0)),sv (bD (Int.natAbs 2))] 35),(ba,.cells #[nv 1,nv 2,.slice Aa (1*2) ka] 26)]++(Ny++(Nx++(Na++[])))) aF (HSub.at 0 rfl (HSub.skip (HSub.at 0 rfl (by
  show HSub (Ny++(Nx++(Na++[]))) (Ny++(N3++(Nx++(Na++[]))))
  exact ZX (Qr (HSub.refl _)))))) ?_
 apply QE
 repeat' first|apply jS|refine QG (h:=fun _=>?_)|apply jO
 refine Qf (A:=[_,_,_,_,_]) (B:=Ny++(Nx++(Na++[]))) rfl aA rfl aH rfl (fun w hk hs=>s_Of (X:=[[1,0],[1,0]]) (r:=2) (c:=2) (e:=[1,0,1,0]) (by kernel_rfl) rfl w _ (Q0y _ _ (Yo hs 0 rfl) (Q1x [1,0] (Yo hs 2 rfl) rfl rfl) (Q1x [1,0] (Yo hs 1 rfl) rfl rfl)) dq dq (Q4y dq)) fun w v w' _ _ _ hR=>?_
 obtain⟨Nb,Ab,kb,hNb,rfl,hOb⟩:=hR
 refine⟨Nb,hNb,?_⟩
 repeat' first|refine Q2 ?_|refine Qc fun _=>?_|refine Q2 ?_|apply jN
 rename_i bb
 refine JX.part (F':=[(8,.pointer (some ⟨bb,0,none⟩)),(7,.bool true),(6,.pointer (some ⟨bm,0,none⟩)),(5,.slice Ay 1 ky),(4,.bool true),(3,.slice Ax 2 kx),(2,.pointer (some ⟨ba,0,none⟩))]) (H':=[(bb,.cells #[nv 2,nv 2,.slice Ab (2*2) kb] 26),(bm,.cells #[.bool (decide ((2:Int)<0)),sv (bD (Int.natAbs 2))] 35),(ba,.cells #[nv 1,nv 2,.slice Aa (1*2) ka] 26)]++(Nb++(Ny++(Nx++(Na++[]))))) aF (HSub.at 0 rfl (HSub.skip (HSub.skip (HSub.skip (HSub.refl _))))) ?_
 apply QE
 repeat' first|apply jS|refine Q7 ?_|refine QG (h:=fun _=>?_)|apply jD
 refine Qf (A:=[_,_,_,_]) (B:=Nb++(Ny++(Nx++(Na++[])))) rfl aA rfl aH rfl (fun w hk hs=>Q0a [1,2] (Yo hs 0 rfl) rfl rfl dq dq) fun w v w' _ _ _ hR=>?_
 obtain⟨N3,hN3,hO3⟩:=hR
 obtain⟨A3,k3,rfl⟩:=hO3.form
 refine⟨N3,hN3,?_⟩
 skip
 refine Qf (A:=[_,_,_,_]) (B:=N3++(Nb++(Ny++(Nx++(Na++[]))))) rfl aA rfl aH rfl (fun w hk hs=>Qqz w _ _ _ (hOb.rd.at hk hs Q6) (hO3.rd.at hk hs Q6)) fun w v w' _ _ _ hR=>?_
 obtain⟨Nz,Az,kz,hNz,rfl,hOz⟩:=hR
 refine⟨Nz,hNz,?_⟩
 repeat' first|refine Q1 ?_|refine Q0 ?_|refine Qv (h:=?_)|refine Q2 ?_|refine Qc fun _=>?_|refine Q2 ?_|apply jN
 rename_i bn
 refine JX.part (F':=[(11,.bool true),(10,.pointer (some ⟨bn,0,none⟩)),(9,.slice Az 2 kz),(8,.pointer (some ⟨bb,0,none⟩)),(7,.bool true),(6,.pointer (some ⟨bm,0,none⟩)),(5,.slice Ay 1 ky),(4,.bool true),(3,.slice Ax 2 kx),(2,.pointer (some ⟨ba,0,none⟩))]) (H':=[(bn,.cells #[.bool (decide ((0:Int)<0)),sv (bD (Int.natAbs 0))] 35),(bb,.cells #[nv 2,nv 2,.slice Ab (2*2) kb] 26),(bm,.cells #[.bool (decide ((2:Int)<0)),sv (bD (Int.natAbs 2))] 35),(ba,.cells #[nv 1,nv 2,.slice Aa (1*2) ka] 26)]++(Nz++(Nb++(Ny++(Nx++(Na++[])))))) aF (HSub.at 0 rfl (HSub.skip (HSub.at 0 rfl (HSub.at 0 rfl (HSub.at 0 rfl (by
  show HSub (Nz++(Nb++(Ny++(Nx++(Na++[]))))) (Nz++(N3++(Nb++(Ny++(Nx++(Na++[]))))))
  exact ZX (Qr (HSub.refl _)))))))) ?_
 apply QE
 repeat' first|apply jS|refine Q1 ?_|refine Q7 ?_|refine QV (h:=?_)|refine QG (h:=fun _=>?_)|apply jD
 refine Qf (A:=[_,_,_,_,_]) (B:=Nz++(Nb++(Ny++(Nx++(Na++[]))))) rfl aA rfl aH rfl (fun w hk hs=>Q0a [6] (Yo hs 0 rfl) rfl rfl dq dq) fun w v w' _ _ _ hR=>?_
 obtain⟨M1,hM1,hOM1⟩:=hR
 obtain⟨AM1,kM1,rfl⟩:=hOM1.form
 refine⟨M1,hM1,?_⟩
 skip
 refine Q5 aA rfl aH rfl (fun w hk hs=>Qqy w _ _ _ _ (hOa.rd.at hk hs Q6) (hOx.rd.at hk hs Q6) (hOM1.rd.at hk hs Q6)) fun w v w' _ _ _ hR=>?_
 subst hR
 repeat' first|refine Q1 ?_|refine Q7 ?_|refine QC (h:=?_)|refine QV (h:=?_)|refine QG (h:=fun _=>?_)|fail
 refine Qf (A:=[_,_,_,_,_,_]) (B:=M1++(Nz++(Nb++(Ny++(Nx++(Na++[])))))) rfl aA rfl aH rfl (fun w hk hs=>Q0a [5] (Yo hs 0 rfl) rfl rfl dq dq) fun w v w' _ _ _ hR=>?_
 obtain⟨M2,hM2,hOM2⟩:=hR
 obtain⟨AM2,kM2,rfl⟩:=hOM2.form
 refine⟨M2,hM2,?_⟩
 skip
 refine Q5 aA rfl aH rfl (fun w hk hs=>Qnu w _ _ _ _ (hOa.rd.at hk hs Q6) (hOM2.rd.at hk hs Q6) (hOy.rd.at hk hs Q6)) fun w v w' _ _ _ hR=>?_
 subst hR
 repeat' first|refine Q1 ?_|refine Q7 ?_|refine QC (h:=?_)|refine QV (h:=?_)|refine QG (h:=fun _=>?_)|fail
 refine Qf (A:=[_,_,_,_,_,_,_]) (B:=M2++(M1++(Nz++(Nb++(Ny++(Nx++(Na++[]))))))) rfl aA rfl aH rfl (fun w hk hs=>Q0a [1,2] (Yo hs 0 rfl) rfl rfl dq dq) fun w v w' _ _ _ hR=>?_
 obtain⟨M3,hM3,hOM3⟩:=hR
 obtain⟨AM3,kM3,rfl⟩:=hOM3.form
 refine⟨M3,hM3,?_⟩
 skip
 refine Q5 aA rfl aH rfl (fun w hk hs=>Qnt w _ _ _ _ (hOb.rd.at hk hs Q6) (hOM3.rd.at hk hs Q6) (hOz.rd.at hk hs Q6)) fun w v w' _ _ _ hR=>?_
 subst hR
 repeat' first|refine QC (h:=?_)|refine QV (h:=?_)|apply jN
 refine JX.part (F':=[(116,.bool false)]) (H':=[]) aF (HSub.nil _) ?_
 apply QE
 repeat' first|apply jS|apply jO|apply jT|apply jK|refine Q4 rfl ?_
 refine Qf (A:=[]) (B:=[]) rfl aA rfl aH rfl (fun w hk hs=>Qr1 w) fun w v w' _ _ _ hR=>?_
 obtain⟨No,Ao,ko,hNo,rfl,hOo⟩:=hR
 refine⟨No,hNo,?_⟩
 repeat' first|refine QG (h:=fun _=>?_)|fail
 refine Qf (A:=[_,_,_]) (B:=No++[]) rfl aA rfl aH rfl (fun w hk hs=>s_Of (X:=[[2,0],[0,3]]) (r:=2) (c:=2) (e:=[2,0,0,3]) (by kernel_rfl) rfl w _ (Q0y _ _ (Yo hs 0 rfl) (Q1x [2,0] (Yo hs 2 rfl) rfl rfl) (Q1x [0,3] (Yo hs 1 rfl) rfl rfl)) dq dq (Q4y dq)) fun w v w' _ _ _ hR=>?_
 obtain⟨Np,Ap,kp,hNp,rfl,hOp⟩:=hR
 refine⟨Np,hNp,?_⟩
 skip
 refine Qf (A:=[_,_,_]) (B:=Np++(No++[])) rfl aA rfl aH rfl (fun w hk hs=>Qo0 w _ _ _ _ (hOo.rd.at hk hs Q6) (hOp.rd.at hk hs Q6)) fun w v w' _ _ _ hR=>?_
 obtain⟨Nt,At,kt,Ag,kg,hNt,jP,rfl⟩:=hR
 refine⟨Nt,hNt,?_⟩
 repeat' first|refine Q1 ?_|refine Q0 ?_|refine Qv (h:=?_)|refine Q2 ?_|refine Qc fun _=>?_|refine Q2 ?_|apply jN
 rename_i bg
 refine JX.part (F':=[(15,.bool true),(13,nv 0),(12,.slice At 1 kt),(14,.pointer (some ⟨bg,0,none⟩)),(116,.bool false)]) (H':=[(bg,.cells #[nv 2,nv 1,.slice Ag (2*1) kg] 26)]++(Nt++[])) aF QK ?_
 apply QE
 repeat' first|apply jS|apply jO
 refine Qf (A:=[_]) (B:=Nt++[]) rfl aA rfl aH rfl (fun w hk hs=>Qr1 w) fun w v w' _ _ _ hR=>?_
 obtain⟨No,Ao,ko,hNo,rfl,hOo⟩:=hR
 refine⟨No,hNo,?_⟩
 repeat' first|refine QG (h:=fun _=>?_)|fail
 refine Qf (A:=[_,_,_,_]) (B:=No++(Nt++[])) rfl aA rfl aH rfl (fun w hk hs=>s_Of (X:=[[2],[4]]) (r:=2) (c:=1) (e:=[2,4]) (by kernel_rfl) rfl w _ (Q0y _ _ (Yo hs 0 rfl) (Q1x [2] (Yo hs 2 rfl) rfl rfl) (Q1x [4] (Yo hs 1 rfl) rfl rfl)) dq dq (Q4y dq)) fun w v w' _ _ _ hR=>?_
 obtain⟨Np,Ap,kp,hNp,rfl,hOp⟩:=hR
 refine⟨Np,hNp,?_⟩
 skip
 refine Qf (A:=[_,_,_,_]) (B:=Np++(No++(Nt++[]))) rfl aA rfl aH rfl (fun w hk hs=>Qnz w _ _ _ _ (hOo.rd.at hk hs Q6) (hOp.rd.at hk hs Q6)) fun w v w' _ _ _ hR=>?_
 obtain⟨Nu,Au,ku,Ah,kh,hNu,hOu,rfl⟩:=hR
 refine⟨Nu,hNu,?_⟩
 repeat' first|refine Q1 ?_|refine Q0 ?_|refine Qv (h:=?_)|refine Q2 ?_|refine Qc fun _=>?_|refine Q2 ?_|apply jN
 rename_i bh
 refine JX.part (F':=[(17,nv 1),(16,.slice Au 1 ku),(15,.bool true),(13,nv 0),(12,.slice At 1 kt),(14,.pointer (some ⟨bg,0,none⟩)),(116,.bool false)]) (H':=[(bg,.cells #[nv 2,nv 1,.slice Ag (2*1) kg] 26)]++(Nu++(Nt++[]))) aF (HSub.at 4 rfl (by
  show HSub (Nu++(Nt++[])) _
  simp only[Vi,Vv]
  exact HSub.skip (HSub.skip (HSub.skip (HSub.skip (ZX (Qr (Qr (HSub.refl _))))))))) ?_
 apply QE
 repeat' first|apply jS|refine Q1 ?_|refine QG (h:=fun _=>?_)|apply jO
 refine Qf (A:=[_,_]) (B:=Nu++(Nt++[])) rfl aA rfl aH rfl (fun w hk hs=>Q0a [6] (Yo hs 0 rfl) rfl rfl dq dq) fun w v w' _ _ _ hR=>?_
 obtain⟨M1,hM1,hOM1⟩:=hR
 obtain⟨AM1,kM1,rfl⟩:=hOM1.form
 refine⟨M1,hM1,?_⟩
 skip
 refine Q5 aA rfl aH rfl (fun w hk hs=>Qg6 w _ _ 6 dq (jP.rd.at hk hs Q6) (hOM1.rd.at hk hs Q6)) fun w v w' _ _ _ hR=>?_
 subst hR
 repeat' first|refine Q1 ?_|refine Q3 ?_|refine Qb ?_|refine QD (h:=?_)|(refine Z9 (h1:=?_) (h2:=?_)<;>intro hc<;>try omega)|refine QG (h:=fun _=>?_)|fail
 refine Qf (A:=[_,_,_]) (B:=M1++(Nu++(Nt++[]))) rfl aA rfl aH rfl (fun w hk hs=>Q0a [2] (Yo hs 0 rfl) rfl rfl dq dq) fun w v w' _ _ _ hR=>?_
 obtain⟨M2,hM2,hOM2⟩:=hR
 obtain⟨AM2,kM2,rfl⟩:=hOM2.form
 refine⟨M2,hM2,?_⟩
 skip
 refine Q5 aA rfl aH rfl (fun w hk hs=>Qg6 w _ _ 2 dq (hOu.rd.at hk hs Q6) (hOM2.rd.at hk hs Q6)) fun w v w' _ _ _ hR=>?_
 subst hR
 repeat' first|refine Q1 ?_|refine Q0 ?_|refine QD (h:=?_)|(refine Z9 (h1:=?_) (h2:=?_)<;>intro hc<;>try omega)|apply jN
 apply QE
 repeat' first|apply jR
 exact Qn rfl (fun a w' st=>⟨st.kp,rfl⟩)


end Go.Proofs.YtljmapfihjkafaaGreatDoor

namespace Go.Proofs.YtljmapfihjkafaaGreatDoor
open Go Go.RowKit Go.ChangeShapes Go.WideShapes Go.ChangeAt
set_option linter.unusedSimpArgs false
set_option linter.unusedVariables false
set_option linter.unusedSectionVars false

theorem own:ownKnob Tryz.prog.godebug=none:=by kernel_rfl
theorem Qav:laidOutB Tryz.prog=true:=by kernel_rfl

theorem Qmi {n:Int} (h:(Lit.int .i64 n).wf=true):I64 n:=by
 have hmin:IntKind.i64.min = -9223372036854775808:=by decide
 have hmax:IntKind.i64.max=9223372036854775807:=by decide
 simp only[Lit.wf,Bool.and_eq_true,decide_eq_true_eq,hmin,hmax]at h
 unfold I64
 omega
theorem Qkx {l:List Int} (h:∀ n∈l,I64 n) (i:Nat):I64 (l.getD i 0):=by
 rw[List.getD]
 cases hi:l[i]? with
 | none=>exact⟨by decide,by decide⟩
 | some x=>exact h x (List.mem_of_getElem? hi)


def IsL (w:World) (v:Value) (L:List Int):Prop:=(∀ i,I64 (L.getD i 0))∧WI w v L.length L∧L.length<9223372036854775808
theorem IsL.mono {w w':World} {v:Value} {L:List Int} (h:IsL w v L) (hk:Kp [] w w'):IsL w' v L:=⟨h.1,h.2.1.mono hk,h.2.2⟩

theorem Q5l {H:Type} {enc:TypeId × Value→H} {w:World} {held:Bool} {v:Value} {n base:Nat} {sp:Nat→Bool} {y:DataW H × List MemPlace}
  (hf:DataW.trod enc Tryz.prog w base sp held n 48 [v]=some y):∃ L,IsL w v L:=by
 rcases open_ints Tryz.underlying48 Tryz.underlying3 (by kernel_rfl) hf with ⟨hcs,_⟩|⟨x,l,c,zs,hcs,_,hl,hm,hz,_,hcell,hwz⟩
 ·simp only[List.cons.injEq,and_true]at hcs
  subst hcs
  exact⟨[],fun i=>⟨by simp,by simp⟩,⟨rfl,none,0,rfl,V8 _,fun h=>absurd h (Nat.lt_irrefl _)⟩,by simp⟩
 ·simp only[List.cons.injEq,and_true]at hcs
  subst hcs
  unfold maxLen at hm
  have hlz:l≤zs.length:=by rw[hz];split<;>omega
  have hz2:zs.length≤c:=by rw[hz];split<;>omega
  have hlen:(zs.take l).length=l:=by simp;omega
  refine⟨zs.take l,Qkx fun n hn=>Qmi (hwz n (List.mem_of_mem_take hn)),?_,by omega⟩
  rw[hlen]
  refine⟨by simp;omega,some x,c,rfl,hl,fun h0=>?_⟩
  obtain⟨b,o,sp⟩:=x
  have hsp:sp=none:=by
   have:=hcell 0 oq
   cases sp with
   | none=>rfl
   | some s =>
    simp only[Addr.add,if_true,World.cell?]at this
    split at this<;>simp at this
  subst hsp
  refine⟨⟨b,o,rfl⟩,fun j u hu=>?_⟩
  simp only[dU]
  rw[List.getElem?_map,List.getElem?_take]at hu
  split at hu
  ·rename_i hj
   have hjz:j<zs.length:=by omega
   rw[Xj (d:=0) hjz]at hu
   cases hu
   rw[← Zr]
   exact hcell j hjz
  ·cases hu

set_option maxRecDepth 100000 in
theorem Qh3 {H:Type} {enc:TypeId × Value→H} {w:World} {r:Reach} {b0:Nat} {held:Bool} {v:Value} {d:DataW H} {ps:List MemPlace} (hv:Value.okWide Tryz.prog w r b0 48 v)
  (h:DataW.Trod enc Tryz.prog w 0 (fun _=>true) held 48 v d ps):∃ L,IsL w v L:=by
 obtain⟨a1,len,cap,rfl⟩:=okWide_slice Tryz.underlying48 hv
 obtain⟨fuel,hf⟩:=h
 exact Q5l (show DataW.trod enc Tryz.prog w 0 (fun _=>true) held fuel 48 [.slice a1 len cap]=some _ from hf)

theorem Qai {H:Type} {enc:TypeId × Value→H} {P:Program} {w:World} {base:Nat} {sp:Nat→Bool} {held:Bool} {fuel sz:Nat} {t e:TypeId} {cs:List Value} {y:DataW H × List MemPlace} (ht:P.underlying t=some (.slice e)) (hc:P.cellsOf e=sz) (h0:0<sz)
  (h : DataW.trod enc P w base sp held fuel t cs = some y) : cs = [.slice none 0 0] ∨ ∃ (A : Option Addr) (len cap : Nat) (f : Nat → List Value), cs = [.slice A len cap] ∧ len < 9223372036854775808 ∧ (∀ i, i < len → (f i).length = sz ∧ ∃ n z, DataW.trod enc P w base sp held n e (f i) = some z) ∧
   je w sz (.slice A len cap) len ((List.range len).flatMap f):=by
 rcases DataW.trod_slice ht h with ⟨h1,_⟩|⟨a,len,cap,elems,rest,n,_,rfl,_,hb,hl,hm,hlen,hel,_,_⟩
 ·exact .inl h1
 right
 have hs0:0<len→a.spot=none:=fun hp=>by
  have h1:=hel 0 hp
  rw[List.getElem?_eq_getElem oq,Option.bind_eq_some_iff,hc]at h1
  obtain⟨l,hl1,hl2⟩:=h1
  obtain⟨_,h3,h4⟩:=World.cells?_some hl1
  have h5:=h4 0 oq
  rw[List.getElem?_eq_getElem oq]at h5
  obtain⟨b,o,s⟩:=a
  cases s with
  | none=>rfl
  | some s =>
   simp only[Addr.add,World.cell?,Nat.zero_mul,if_true]at h5
   split at h5<;>simp at h5
 have each:∀ i,i<len→∃ l:List Value,l.length=sz∧(∃ z,DataW.trod enc P w base sp held n e l=some z)∧∀ j,j<sz→w.cell? (a.add (i*sz+j))=l[j]?:=fun i hi=>by
  have h1:=hel i hi
  rw[List.getElem?_eq_getElem oq,Option.bind_eq_some_iff,hc]at h1
  obtain⟨l,hl1,hl2⟩:=h1
  obtain⟨_,h3,h4⟩:=World.cells?_some hl1
  refine⟨l,h3,⟨_,hl2⟩,fun j hj=>?_⟩
  rw[← h4 j hj]
  congr 1
  obtain⟨b,o,s⟩:=a
  obtain rfl:s=none:=hs0 oq
  rw[Zr,Zr,Zr,Nat.add_assoc]
 have:∃ f:Nat→List Value,∀ i,i<len→(f i).length=sz∧(∃ z,DataW.trod enc P w base sp held n e (f i)=some z)∧∀ j,j<sz→w.cell? (a.add (i*sz+j))=(f i)[j]?:=by
  refine⟨fun i=>if hi:i<len then (each i hi).choose else [],fun i hi=>?_⟩
  simp only[dif_pos hi]
  exact(each i hi).choose_spec
 obtain⟨f,hf⟩:=this
 unfold maxLen at hm
 have hfl:∀ k,k≤len→((List.range k).flatMap f).length=k*sz∧∀ i,i<k→∀ j,j<sz→((List.range k).flatMap f)[i*sz+j]?=(f i)[j]?:=fun k=>by
  induction k with
  | zero=>intro _;exact⟨by simp,fun i hi=>absurd hi (Nat.not_lt_zero _)⟩
  | succ k ih =>
   intro hk
   obtain⟨h1,h2⟩:=ih oq
   have h3:=(hf k oq).1
   rw[List.range_succ,List.flatMap_append]
   refine⟨by simp[h1,h3,Vo],fun i hi j hj=>?_⟩
   by_cases hik:i<k
   ·have:i*sz+j<k*sz:=by
     have:=V1 sz (show i+1≤k by omega)
     rw[Vo,Nat.one_mul]at this
     omega
    rw[List.getElem?_append_left oq]
    exact h2 i hik j hj
   ·obtain rfl:i=k:=by omega
    rw[List.getElem?_append_right oq,h1,Nat.add_sub_cancel_left]
    simp
 refine⟨some a,len,cap,f,rfl,by omega,fun i hi=>⟨(hf i hi).1,_,(hf i hi).2.1⟩,(hfl len (V8 _)).1,some a,cap,rfl,hl,fun hp=>?_⟩
 obtain⟨b,o,s⟩:=a
 have hs:s=none:=hs0 hp
 subst hs
 refine⟨⟨b,o,rfl⟩,fun j u hu=>?_⟩
 have hj:j<len*sz:=by
  have:=(List.getElem?_eq_some_iff.1 hu).1
  rw[(hfl len (V8 _)).1]at this
  exact this
 have hi2:j / sz<len:=(Nat.div_lt_iff_lt_mul h0).2 hj
 have hm2:=Nat.mod_lt j h0
 have hdm:j / sz*sz+j % sz=j:=by rw[Vc];exact Nat.div_add_mod j sz
 have h3:=(hf _ hi2).2.2 _ hm2
 rw[← (hfl len (V8 _)).2 _ hi2 _ hm2,hdm,Zr]at h3
 simp only[dU]
 rw[h3,hu]

def IsLL (w:World) (v:Value) (X:List (List Int)):Prop:=X.length<9223372036854775808∧∃ ss:List Value,je w 1 v X.length ss∧∀ i,i<X.length→IsL w (ss.getD i (iv 0)) (X.getD i [])
theorem IsLL.mono {w w':World} {v:Value} {X:List (List Int)} (h:IsLL w v X) (hk:Kp [] w w'):IsLL w' v X:=by
 obtain⟨h0,ss,h1,h2⟩:=h
 exact⟨h0,ss,h1.mono hk,fun i hi=>(h2 i hi).mono hk⟩
theorem Q95 {f:Nat→List Value}:∀ {n:Nat},(∀ i,i<n→(f i).length=1)→(List.range n).flatMap f=(List.range n).map fun i=>(f i).getD 0 (iv 0)
 | 0,_=>rfl
 | n+1,h=>by
  rw[List.range_succ,List.flatMap_append,Vl,Q95 fun i hi=>h i oq]
  have:=h n oq
  congr 1
  simp only[List.flatMap_singleton,List.map_singleton]
  match hf:f n,this with
  | [a],_=>rfl

set_option maxRecDepth 100000 in
theorem Qef {H:Type} {enc:TypeId × Value→H} {w:World} {r:Reach} {b0:Nat} {held:Bool} {v:Value} {d:DataW H} {ps:List MemPlace} (hv:Value.okWide Tryz.prog w r b0 22 v)
  (h:DataW.Trod enc Tryz.prog w 0 (fun _=>true) held 22 v d ps):∃ X,IsLL w v X:=by
 obtain⟨a1,len,cap,rfl⟩:=okWide_slice Tryz.underlying22 hv
 obtain⟨fuel,hf⟩:=h
 have hc:Tryz.prog.cellsOf 48=1:=by kernel_rfl
 rcases Qai (cs:=[.slice a1 len cap]) Tryz.underlying22 hc oq (show DataW.trod enc Tryz.prog w 0 (fun _=>true) held fuel 22 [.slice a1 len cap]=some _ from hf)with hcs|⟨A,l,c,f,hcs,hl,hall,hR⟩
 ·simp only[List.cons.injEq,and_true,Value.slice.injEq]at hcs
  obtain⟨rfl,rfl,rfl⟩:=hcs
  exact⟨[],by simp,[],⟨rfl,none,0,rfl,V8 _,fun h=>absurd h (Nat.lt_irrefl _)⟩,fun i hi=>absurd hi (Nat.not_lt_zero _)⟩
 ·simp only[List.cons.injEq,and_true,Value.slice.injEq]at hcs
  obtain⟨rfl,rfl,rfl⟩:=hcs
  rw[Q95 fun i hi=>(hall i hi).1]at hR
  have each:∀ i,i<len→∃ L,IsL w ((f i).getD 0 (iv 0)) L:=fun i hi=>by
   obtain⟨h1,n,z,h2⟩:=hall i hi
   match hfi:f i,h1 with
   | [a],_ =>
    rw[hfi]at h2
    exact Q5l h2
  have:∃ g:Nat→List Int,∀ i,i<len→IsL w ((f i).getD 0 (iv 0)) (g i):=⟨fun i=>if hi:i<len then (each i hi).choose else [],fun i hi=>by simp only[dif_pos hi];exact(each i hi).choose_spec⟩
  obtain⟨g,hg⟩:=this
  refine⟨(List.range len).map g,by simpa using hl,_,by simpa using hR,fun i hi=>?_⟩
  have hi:i<len:=by simpa using hi
  have:=hg i hi
  simpa [List.getD,List.getElem?_map,List.getElem?_range hi] using this



set_option linter.unusedSimpArgs false
set_option linter.unusedVariables false
set_option linter.unusedSectionVars false

theorem IsLL.rows {w:World} {v:Value} {X:List (List Int)} (h:IsLL w v X):fC w v X:=by
 obtain⟨_,ss,h1,h2⟩:=h
 exact⟨ss,h1,fun i hi=>(h2 i hi).2.1⟩
theorem IsLL.lens {w:World} {v:Value} {X:List (List Int)} (h:IsLL w v X):X.length<9223372036854775808∧∀ i,i<X.length→(X.getD i []).length<9223372036854775808:=by
 obtain⟨h0,ss,h1,h2⟩:=h
 exact⟨h0,fun i hi=>(h2 i hi).2.2⟩
theorem Qqt (X:List (List Int)) (f:Int):cO (ofZ (gG X f)):=Xg (by rw[Q24];omega) (V0 (Qcs _ (Qfq X f) _) oq)
theorem Qt9 (X:List (List Int)) (f:Int):cZ 1 (ofZ (gG X f)):=cZ.of fun i j _ _=>V5 (Qm4 X f i j) dq
theorem sm_r (X:List (List Int)) (f:Int):(ofZ (gG X f)).r≤5:=by show (gG X f).length≤5;rw[Q24];omega
theorem sm_c (X:List (List Int)) (f:Int):(ofZ (gG X f)).c≤5:=Qcs _ (Qfq X f) _
theorem Qkr (L:List Int) (n s k:Nat) {K:Nat} (h:s<256 ^ K):fK K (Q4w L n s k):=fun i=>by
 unfold Q4w
 rw[List.getD,List.getElem?_map]
 by_cases hi:i<k
 ·rw[List.getElem?_range hi]
  exact V5 (Qd1 L n s i) h
 ·rw[List.getElem?_eq_none (by simpa using hi)]
  exact Nat.pow_pos dq
theorem Qs6 {x:Int} (h:(Lit.int .i64 x).wf=true) : -9223372036854775808≤x∧x<9223372036854775808:=Qmi h

def Sz (B r c:Nat) (g:List (List Int)):Prop:=∀ i j,i<r→j<c→(gE g i j).natAbs≤B
structure CB (C:Nat) (t:Tn):Prop where
 a:t.a.natAbs≤C
 b:t.b.natAbs≤C
 c:t.c.natAbs≤C
 d:t.d.natAbs≤C
theorem CB.flip {C:Nat} {t:Tn} (h:CB C t):CB C t.flip:=⟨h.d,by show (-t.c).natAbs≤C;rw[Int.natAbs_neg];exact h.c,by show (-t.b).natAbs≤C;rw[Int.natAbs_neg];exact h.b,h.a⟩
theorem Q6d {C B:Nat} {a b x y:Int} (ha:a.natAbs≤C) (hb:b.natAbs≤C) (hx:x.natAbs≤B) (hy:y.natAbs≤B):(a*x+b*y).natAbs≤2*C*B:=by
 have h1:(a*x).natAbs≤C*B:=by rw[Vq];exact Vr ha hx
 have h2:(b*y).natAbs≤C*B:=by rw[Vq];exact Vr hb hy
 have h3:=Int.natAbs_add_le (a*x) (b*y)
 rw[Vn,Nat.two_mul]
 omega
theorem Sz.mono {B B' r c:Nat} {g:List (List Int)} (h:Sz B r c g) (hB:B≤B'):Sz B' r c g:=fun i j hi hj=>V0 (h i j hi hj) hB
theorem Q0p {C B:Nat} (hC:1≤C):B≤2*C*B:=Nat.le_mul_of_pos_left B oq
theorem Sz.rows {C B r c i k:Nat} {t:Tn} {g:List (List Int)} (h:Sz B r c g) (hR:Rec r c g) (hi:i<r) (hk:k<r) (ht:CB C t) (hC:1≤C):Sz (2*C*B) r c (XJ i k t g):=fun a b ha hb=>by
 rw[Wj hR hi hk hb]
 split
 ·exact Q6d ht.c ht.d (h _ _ hi hb) (h _ _ hk hb)
 ·split
  ·exact Q6d ht.a ht.b (h _ _ hi hb) (h _ _ hk hb)
  ·exact V0 (h _ _ ha hb) (Q0p hC)
theorem Sz.cols {C B r c i k:Nat} {t:Tn} {g:List (List Int)} (h:Sz B r c g) (hR:Rec r c g) (hi:i<c) (hk:k<c) (ht:CB C t) (hC:1≤C):Sz (2*C*B) r c (Xq i k t g):=fun a b ha hb=>by
 rw[Wk hR hi hk ha]
 split
 ·exact Q6d ht.c ht.d (h _ _ ha hi) (h _ _ ha hk)
 ·split
  ·exact Q6d ht.a ht.b (h _ _ ha hi) (h _ _ ha hk)
  ·exact V0 (h _ _ ha hb) (Q0p hC)
structure iY (B m n:Nat) (S:Sm):Prop where
 u:Sz B m m S.u
 ui:Sz B m m S.ui
 v:Sz B n n S.v
 vi:Sz B n n S.vi
theorem iY.mono {B B' m n:Nat} {S:Sm} (h:iY B m n S) (hB:B≤B'):iY B' m n S:=⟨h.u.mono hB,h.ui.mono hB,h.v.mono hB,h.vi.mono hB⟩
theorem iY.rows {C B m n i k:Nat} {t:Tn} {S:Sm} (h:iY B m n S) (hD:Dm m n S) (hi:i<m) (hk:k<m) (ht:CB C t) (hC:1≤C):iY (2*C*B) m n (S.rows i k t) :=
 ⟨h.u.rows hD.u hi hk ht hC,h.ui.cols hD.ui hi hk ht.flip hC,h.v.mono (Q0p hC),h.vi.mono (Q0p hC)⟩
theorem iY.cols {C B m n i k:Nat} {t:Tn} {S:Sm} (h:iY B m n S) (hD:Dm m n S) (hi:i<n) (hk:k<n) (ht:CB C t) (hC:1≤C):iY (2*C*B) m n (S.cols i k t) :=
 ⟨h.u.mono (Q0p hC),h.ui.mono (Q0p hC),h.v.cols hD.v hi hk ht hC,h.vi.rows hD.vi hi hk ht.flip hC⟩
theorem Q98 {K r c B:Nat} {g:List (List Int)} (hR:Rec r c g) (h:Sz B r c g) (hB:B<256 ^ K):jk K g=true:=by
 refine List.all_eq_true.2 fun x hx=>List.all_eq_true.2 fun y hy=>decide_eq_true ?_
 obtain⟨i,hi,rfl⟩:=List.getElem_of_mem hx
 obtain⟨j,hj,rfl⟩:=List.getElem_of_mem hy
 have h1:=hR.row _ hx
 have h2:=h i j (by have:=hR.len;omega) oq
 unfold gE at h2
 rw[show g.getD i []=g[i] by rw[List.getD,List.getElem?_eq_getElem hi];rfl,show g[i].getD j 0=g[i][j] by rw[List.getD,List.getElem?_eq_getElem hj];rfl]at h2
 omega
theorem Qif {K m n B B':Nat} {S:Sm} (hD:Dm m n S) (h:iY B m n S) (h':Sz B' m n S.d) (hB:B<256 ^ K) (hB':B'<256 ^ K):ck K S=some S:=by
 unfold ck
 rw[if_pos (Ok.ok ⟨Q98 hD.u h.u hB,Q98 hD.ui h.ui hB,Q98 hD.d h' hB',Q98 hD.v h.v hB,Q98 hD.vi h.vi hB⟩)]

theorem Q8u {K t:Nat}:∀ {k i:Nat} {S:Sm},(∀ a,i≤a→a<i+k→gE S.d a t=0)→rowP K t k i S=some S
 | 0,_,_,_=>rfl
 | k + 1, i, S, h => by
  rw[rowP]
  have h0:gQ K t i S=some (S,false):=by
   unfold gQ Z5
   rw[h i (V8 _) oq,if_pos rfl]
  rw[h0]
  exact Q8u fun a h1 h2=>h a oq oq
theorem Q9p {K t:Nat}:∀ {k j:Nat} {ch:Bool} {S:Sm},(∀ a,j≤a→a<j+k→gE S.d t a=0)→dP K t k j ch S=some (S,ch)
 | 0,_,_,_,_=>rfl
 | k + 1, j, ch, S, h => by
  rw[dP]
  have h0:gU K t j S=some (S,false):=by
   unfold gU Z5
   rw[h j (V8 _) oq,if_pos rfl]
  rw[h0]
  dsimp only
  rw[Bool.or_false]
  exact Q9p fun a h1 h2=>h a oq oq
theorem Qc1 {K t:Nat}:∀ (a b:Nat) {i:Nat} {S:Sm},rowP K t (a+b) i S=match rowP K t a i S with|none=>none|some S'=>rowP K t b (i+a) S'
 | 0,b,i,S=>by rw[Vu];rfl
 | a+1,b,i,S=>by
  rw[show a+1+b=a+b+1 by omega,rowP,rowP]
  cases gQ K t i S with
  | none=>rfl
  | some r=>dsimp only;rw[Qc1 a b,show i+1+a=i+(a+1) by omega]
theorem Qdj {K t:Nat}:∀ (a b:Nat) {j:Nat} {ch:Bool} {S:Sm},dP K t (a+b) j ch S=match dP K t a j ch S with|none=>none|some r=>dP K t b (j+a) r.2 r.1
 | 0,b,j,ch,S=>by rw[Vu];rfl
 | a+1,b,j,ch,S=>by
  rw[show a+1+b=a+b+1 by omega,dP,dP]
  cases gU K t j S with
  | none=>rfl
  | some r=>dsimp only;rw[Qdj a b,show j+1+a=j+(a+1) by omega]
theorem Qjy {K t i:Nat} {S:Sm} {r:Sm × Bool} (h:gQ K t i S=some r):rowP K t 1 i S=some r.1:=by
 rw[rowP,h];rfl
theorem Ql9 {K t j:Nat} {ch:Bool} {S:Sm} {r:Sm × Bool} (h:gU K t j S=some r):dP K t 1 j ch S=some (r.1,ch || r.2):=by
 rw[dP,h];rfl

structure GcdN (x y g s t:Int):Prop where
 e:g=Int.gcd x y
 p:0<g
 dx:g∣x
 dy:g∣y
 hs:s.natAbs*g.natAbs≤y.natAbs
 ht:t.natAbs*g.natAbs≤x.natAbs
 b:s*x+t*y=g
theorem gcdN {x y:Int} (hx:x≠0) (hy:y≠0):GcdN x y (dB x y).1 (dB x y).2.1 (dB x y).2.2:=by
 have h:=Q50 x y
 generalize (dB x y).1=g at *
 generalize (dB x y).2.1=s at *
 generalize (dB x y).2.2=t at *
 obtain⟨h0,h1,h2⟩:=h.n hy
 have he:=h.e
 have hp:0<g:=by
  have:0<Int.gcd x y:=Int.gcd_pos_of_ne_zero_right _ hy
  omega
 have dx:g∣x:=by rw[he];exact Int.gcd_dvd_left ..
 have dy:g∣y:=by rw[he];exact Int.gcd_dvd_right ..
 have hsg:s.natAbs*g.natAbs<y.natAbs:=by
  rw[← Vq]
  have:=Int.mul_nonneg h0 (by omega:0≤g)
  omega
 refine⟨he,hp,dx,dy,by omega,?_,h2⟩
 obtain⟨x',rfl⟩:=dx
 obtain⟨y',rfl⟩:=dy
 have hg0:g≠0:=by omega
 have e1:s*x'+t*y'=1:=by
  have:g*(s*x'+t*y')=g*1:=by rw[Int.mul_one];rw[Int.mul_add];have e:=h2;grind
  exact Int.eq_of_mul_eq_mul_left hg0 this
 have hgn:0<g.natAbs:=by omega
 rw[Vq]at hsg
 have hs':s.natAbs<y'.natAbs:=by
  rw[Vc]at hsg
  exact Nat.lt_of_mul_lt_mul_left hsg
 rw[Vq,Vc]
 refine V3 _ ?_
 refine Vg fun hn=>?_
 have hn:x'.natAbs+1≤t.natAbs:=by omega
 have h3:(t*y').natAbs≤1+(s*x').natAbs:=by
  have:t*y'=1-s*x':=by omega
  rw[this];omega
 rw[Vq,Vq]at h3
 have h4:=V1 y'.natAbs hn
 have h5:s.natAbs*x'.natAbs≤(y'.natAbs-1)*x'.natAbs:=V1 _ oq
 have h6:(y'.natAbs-1)*x'.natAbs+x'.natAbs=x'.natAbs*y'.natAbs:=by
  rw[← Nat.succ_mul,Vc];congr 1;omega
 rw[Vo]at h4
 have:x'.natAbs=0:=by omega
 have hx0:x'=0:=by omega
 exact hx (by rw[hx0,Int.mul_zero])

structure Dg (n:Nat) (S:Sm) (d:Nat→Int):Prop where
 dm:Dm n n S
 eq:∀ i j,i<n→j<n→gE S.d i j=if i=j then d i else 0
def cnt:Nat→(Nat→Int)→Nat
 | 0,_=>0
 | n+1,d=>cnt n d+if d n=0 then 0 else 1
def upd (d:Nat→Int) (k:Nat) (v:Int):Nat→Int:=fun i=>if i=k then v else d i
theorem Q59:∀ {n:Nat} {d d':Nat→Int},(∀ i,i<n→(d i=0↔d' i=0))→cnt n d=cnt n d'
 | 0,_,_,_=>rfl
 | n+1,d,d',h=>by
  rw[cnt,cnt,Q59 (n:=n) (fun i hi=>h i oq)]
  have h1:=h n oq
  by_cases h0:d n=0
  ·rw[if_pos h0,if_pos (h1.1 h0)]
  ·rw[if_neg h0,if_neg (fun e=>h0 (h1.2 e))]
theorem Qb4:∀ {n k:Nat} {d:Nat→Int} {v:Int},k<n→cnt n (upd d k v)+(if d k=0 then 0 else 1)=cnt n d+(if v=0 then 0 else 1)
 | 0,_,_,_,h=>by omega
 | n + 1, k, d, v, h => by
  rw[cnt,cnt]
  by_cases hk:k=n
  ·subst hk
   have e:cnt k (upd d k v)=cnt k d:=Q59 fun i hi=>by unfold upd;rw[if_neg oq]
   have e2:upd d k v k=v:=if_pos rfl
   rw[e,e2];omega
  ·have ih:=Qb4 (n:=n) (k:=k) (d:=d) (v:=v) oq
   have e2:upd d k v n=d n:=if_neg oq
   rw[e2];omega

structure Eqv (t n:Nat) (d d':Nat→Int):Prop where
 lo:∀ i,i<t→d' i=d i
 g:∀ c:Int,(∀ i,t≤i→i<n→c∣d i)↔(∀ i,t≤i→i<n→c∣d' i)
 l:∀ c:Int,(∀ i,t≤i→i<n→d i≠0→d i∣c)↔(∀ i,t≤i→i<n→d' i≠0→d' i∣c)
 k:cnt n d'=cnt n d
theorem Eqv.refl (t n:Nat) (d:Nat→Int):Eqv t n d d:=⟨fun _ _=>rfl,fun _=>Iff.rfl,fun _=>Iff.rfl,rfl⟩
theorem Eqv.trans {t n:Nat} {d d' d'':Nat→Int} (h:Eqv t n d d') (h':Eqv t n d' d''):Eqv t n d d'' :=
 ⟨fun i hi=>(h'.lo i hi).trans (h.lo i hi),fun c=>(h.g c).trans (h'.g c),fun c=>(h.l c).trans (h'.l c),h'.k.trans h.k⟩
theorem Eqv.swap {t j n:Nat} {d:Nat→Int} (htj:t<j) (hj:j<n):Eqv t n d (upd (upd d t (d j)) j (d t)):=by
 have et:upd (upd d t (d j)) j (d t) t=d j:=by unfold upd;rw[if_neg oq,if_pos rfl]
 have ej:upd (upd d t (d j)) j (d t) j=d t:=by unfold upd;rw[if_pos rfl]
 have eo:∀ i,i≠t→i≠j→upd (upd d t (d j)) j (d t) i=d i:=fun i h1 h2=>by unfold upd;rw[if_neg h2,if_neg h1]
 have key:∀ p:Int→Prop,(∀ i,t≤i→i<n→p (d i))↔(∀ i,t≤i→i<n→p (upd (upd d t (d j)) j (d t) i)):=fun p=>⟨fun H i h1 h2=>by
  by_cases h3:i=t
  ·subst h3;rw[et];exact H j oq hj
  ·by_cases h4:i=j
   ·subst h4;rw[ej];exact H t oq oq
   ·rw[eo i h3 h4];exact H i h1 h2,fun H i h1 h2=>by
  by_cases h3:i=t
  ·subst h3;have:=H j oq hj;rw[ej]at this;exact this
  ·by_cases h4:i=j
   ·subst h4;have:=H t oq oq;rw[et]at this;exact this
   ·have:=H i h1 h2;rw[eo i h3 h4]at this;exact this⟩
 refine⟨fun i hi=>eo i oq oq,fun c=>key (fun x=>c∣x),fun c=>key (fun x=>x≠0→x∣c),?_⟩
 have h1:=Qb4 (n:=n) (k:=j) (d:=upd d t (d j)) (v:=d t) hj
 have h2:=Qb4 (n:=n) (k:=t) (d:=d) (v:=d j) oq
 have e:upd d t (d j) j=d j:=by unfold upd;rw[if_neg oq]
 rw[e]at h1
 omega
theorem Eqv.neg {t n:Nat} {d:Nat→Int}:Eqv t n d (upd d t (-(d t))):=by
 have et:upd d t (-(d t)) t = -(d t):=if_pos rfl
 have eo:∀ i,i≠t→upd d t (-(d t)) i=d i:=fun i h=>if_neg h
 refine⟨fun i hi=>eo i oq,fun c=>⟨fun H i h1 h2=>?_,fun H i h1 h2=>?_⟩,fun c=>⟨fun H i h1 h2 h3=>?_,fun H i h1 h2 h3=>?_⟩,?_⟩
 ·by_cases e:i=t
  ·subst e;rw[et];exact Int.dvd_neg.2 (H i h1 h2)
  ·rw[eo i e];exact H i h1 h2
 ·have:=H i h1 h2
  by_cases e:i=t
  ·subst e;rw[et]at this;exact Int.dvd_neg.1 this
  ·rw[eo i e]at this;exact this
 ·by_cases e:i=t
  ·subst e;rw[et]at h3 ⊢;exact Int.neg_dvd.2 (H i h1 h2 oq)
  ·rw[eo i e]at h3 ⊢;exact H i h1 h2 h3
 ·by_cases e:i=t
  ·subst e;have:=H i h1 h2 (by rw[et];omega);rw[et]at this;exact Int.neg_dvd.1 this
  ·have:=H i h1 h2 (by rw[eo i e];exact h3);rw[eo i e]at this;exact this
 ·refine Q59 fun i _=>?_
  by_cases e:i=t
  ·subst e;rw[et];omega
  ·rw[eo i e]

theorem Q5a (x:Int):Z5 x 0=none:=by unfold Z5;rw[if_pos rfl]
theorem Q6k {x y:Int} (hy:y≠0) (hx:x≠0) (h:x∣y):Z5 x y=some (⟨1,0,-(y / x),1⟩,false):=by
 unfold Z5;rw[if_neg hy,if_pos ⟨hx,Int.emod_eq_zero_of_dvd h⟩]
theorem Q6j {x y:Int} (hy:y≠0) (h:¬x∣y):Z5 x y=some (⟨(dB x y).2.1,(dB x y).2.2,-(y / (dB x y).1),x / (dB x y).1⟩,true):=by
 unfold Z5;rw[if_neg hy,if_neg (fun h'=>h (Int.dvd_of_emod_eq_zero h'.2))]

def DivM (n:Nat) (d:Nat→Int) (M:Int):Prop:=∀ i,i<n→d i≠0→d i∣M
theorem DivM.le {n:Nat} {d:Nat→Int} {M:Int} (h:DivM n d M) (hM:M≠0) {i:Nat} (hi:i<n):(d i).natAbs≤M.natAbs:=by
 by_cases h0:d i=0
 ·rw[h0];simp
 ·exact Nat.le_of_dvd oq (Int.natAbs_dvd_natAbs.2 (h i hi h0))
theorem Dg.sz {n:Nat} {S:Sm} {d:Nat→Int} {M:Int} (h:Dg n S d) (hd:DivM n d M) (hM:M≠0):Sz M.natAbs n n S.d:=fun i j hi hj=>by
 rw[h.eq i j hi hj]
 split
 ·exact hd.le hM hi
 ·simp

theorem Qkn {l:List Int} {b:Nat}:(l.map fun x => -x).getD b 0 = -(l.getD b 0):=by
 rw[List.getD,List.getElem?_map,List.getD]
 cases l[b]?<;>rfl
theorem Q78 {r c t:Nat} {g:List (List Int)} (h:Rec r c g) (ht:t<r):Rec r c (negR t g):=h.set (by rw[List.length_map,h.at ht])
theorem Qk0 {r c t:Nat} {g:List (List Int)} (h:Rec r c g):Rec r c (negC t g) :=
 ⟨by unfold negC; rw [List.length_map, h.len], fun x hx => by
  unfold negC at hx
  obtain⟨y,hy,rfl⟩:=List.mem_map.1 hx
  rw[List.length_set];exact h.row y hy⟩
theorem Dm.neg' {m n t:Nat} {S:Sm} (h:Dm m n S) (ht:t<m):Dm m n (S.neg t):=⟨Q78 h.u ht,Qk0 h.ui,Q78 h.d ht,h.v,h.vi⟩
theorem Q7u {r c t a b:Nat} {g:List (List Int)} (h:Rec r c g) (ht:t<r):gE (negR t g) a b=if a=t then -(gE g t b) else gE g a b:=by
 have hl:=h.len
 unfold gE negR
 rw[WC oq]
 by_cases e:a=t
 ·rw[if_pos e,if_pos e,Qkn]
 ·rw[if_neg e,if_neg e]
theorem Qsc {r c t a b:Nat} {g:List (List Int)} (h:Rec r c g) (ht:t<c) (ha:a<r):gE (negC t g) a b=if b=t then -(gE g a t) else gE g a b:=by
 have h1:=h.at ha
 have hl:=h.len
 have e:(negC t g).getD a []=(g.getD a []).set t (-((g.getD a []).getD t 0)):=by
  unfold negC
  rw[List.getD,List.getElem?_map,List.getD,List.getElem?_eq_getElem (show a<g.length by omega)]
  rfl
 unfold gE
 rw[e,WC oq]
theorem Qnj {B r c t:Nat} {g:List (List Int)} (h:Sz B r c g) (hR:Rec r c g) (ht:t<r):Sz B r c (negR t g):=fun a b ha hb=>by
 rw[Q7u hR ht]
 split
 ·rw[Int.natAbs_neg];exact h t b ht hb
 ·exact h a b ha hb
theorem Qnk {B r c t:Nat} {g:List (List Int)} (h:Sz B r c g) (hR:Rec r c g) (ht:t<c):Sz B r c (negC t g):=fun a b ha hb=>by
 rw[Qsc hR ht ha]
 split
 ·rw[Int.natAbs_neg];exact h a t ha ht
 ·exact h a b ha hb
theorem iY.neg {B m n t:Nat} {S:Sm} (h:iY B m n S) (hD:Dm m n S) (ht:t<m):iY B m n (S.neg t):=⟨Qnj h.u hD.u ht,Qnk h.ui hD.ui ht,h.v,h.vi⟩
theorem Dg.neg {n t:Nat} {S:Sm} {d:Nat→Int} (h:Dg n S d) (ht:t<n):Dg n (S.neg t) (upd d t (-(d t))) :=
 ⟨h.dm.neg' ht, fun i j hi hj => by
  show gE (negR t S.d) i j=_
  rw[Q7u h.dm.d ht,h.eq t j ht hj,h.eq i j hi hj]
  unfold upd
  grind⟩

structure Shown (n:Nat) (d':Nat→Int) (r:Nat):Prop where
 le:r≤n
 p:∀ i,i<r→0<d' i
 z:∀ i,r≤i→i<n→d' i=0
 dv:∀ i j,i<j→j<r→d' i∣d' j
end Go.Proofs.YtljmapfihjkafaaGreatDoor

