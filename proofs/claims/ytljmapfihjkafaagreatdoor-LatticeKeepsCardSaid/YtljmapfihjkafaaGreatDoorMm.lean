import Derived.Test.YtljmapfihjkafaaGreatDoorMk
import Derived.Test.YtljmapfihjkafaaGreatDoorMl
import Derived.Test.YtljmapfihjkafaaGreatDoorMg
import Derived.Test.YtljmapfihjkafaaGreatDoorMh
import Derived.Test.YtljmapfihjkafaaGreatDoorMf
import Derived.Test.YtljmapfihjkafaaGreatDoorMj
import Derived.Test.YtljmapfihjkafaaGreatDoorRows
import Derived.WalkKit
import Derived.ProofKit
import Derived.OpenShut
import Derived.ShutString
import Derived.ChangeOld
import Derived.Below
import Derived.Lib.SmallJoins
import Derived.SizedLaws
set_option maxHeartbeats 16000000
namespace Go.Proofs.YtljmapfihjkafaaGreatDoor
open Go Go.RowKit
set_option linter.unusedSimpArgs false
set_option linter.unusedVariables false
set_option linter.unusedSectionVars false

theorem Q1q (K fc f:Nat) (w:World) (v:Value) (a:ZM) (S':Sm) (ha:RtZ a) (hv:IsM w v a) (hK:K+1≤1750000000000) (hb:BdZ (K+1) a)
  (hf:formF (K+1) fc f a.r a.c (min a.r a.c) 0 (startS a.r a.c (rowsOf a))=some S') :
  Calls Tryz.prog 15 #[v] w (Ret fun v w'=>Kp [] w w'∧GivesM (partZ (gM a.c a.c S'.v) 0 (facP S'.d (min a.r a.c)).length a.c (a.c-(facP S'.d (min a.r a.c)).length)) w v w'):=by
 have hv0:=hv
 have hr:=ha.r
 have hac:=ha.c
 have hfl:=Q5i S'.d (min a.r a.c)
 obtain⟨E,rfl,hE⟩:=hv
 refine Q9 [⟨3,1,[0,3,1,2,4,5,6,7],[]⟩] [] spq [] Tryz.func15 rfl mixed (by kernel_rfl) Tryz.ntmps15 Tryz.results15 rfl ⟨by simp,by simp⟩ spq ?_
 simp only[toS,textOps,toSOp,kindAt,kindOf,odAt,sopsAt,ordOf,zipF]
 repeat' first|apply jS|apply jO|apply jN|refine Q7 ?_|refine Qc fun _=>?_|refine Qt fun _=>?_|apply jT
 refine Q6 trivial rfl rfl rfl (fun w hk _=>X1 w _ a.xm (hv0.mono hk).x (by show (a.e.map wz).length<_;rw[List.length_map];have:=ha.le;omega)) fun w v w' _ _ _ hR=>?_
 obtain⟨b',rfl,hb'⟩:=hR
 obtain rfl:=hb'.2 ha.rx
 repeat' first|apply jS|apply jD|apply jN|apply jT|refine Q7 ?_|refine QP (h:=?_)|apply jK|refine Q4 rfl ?_
 refine Qd (A:=[_,_]) (B:=[]) rfl pqq rfl eqq rfl (fun w hk hs=>Qay K fc f w _ a S' ha (hv0.mono hk) oq hb hf) fun w v w' _ _ _ hR=>?_
 obtain⟨N1,N2,N3,N4,N5,E1,E2,E3,E4,E5,rfl,hD,hN,hO1,hO2,hO3,hO4,hO5⟩:=hR
 obtain⟨A1',c1',rfl⟩:=hO1.form
 obtain⟨A2',c2',rfl⟩:=hO2.form
 obtain⟨A3',c3',rfl⟩:=hO3.form
 obtain⟨A4',c4',rfl⟩:=hO4.form
 obtain⟨A5',c5',rfl⟩:=hO5.form
 refine⟨_,hN,?_⟩
 unfold smC
 refine Q9r Tryz.underlying74 rfl (show TN Tryz.prog 26 3 from inferInstance) rfl rfl rfl (us:=#[nv a.c,nv a.c,.slice A4' (a.c*a.c) c4']) (by show (9+3≤(15:Nat));decide) rfl ?_
 skip
 refine Q6 pqq rfl eqq rfl (fun w hk hs=>Qjo K fc f w _ a S' ha (hv0.mono hk) oq hb hf) fun w v w' _ _ _ hR=>?_
 subst hR
 have hVr:RtZ (gM a.c a.c S'.v):=Xs hD.v hac hac
 have hO4z:OwnZ N4 (.slice A4' (a.c*a.c) c4') (gM a.c a.c S'.v).e.length (gM a.c a.c S'.v).e:=by rw[show (gM a.c a.c S'.v).e.length=a.c*a.c from YW hD.v];exact hO4
 generalize hrk:(facP S'.d (min a.r a.c)).length=rk at hfl ⊢
 clear hO1 hO2 hO3 hO4 hO5 hf
 repeat' first|apply jS|apply jO|apply jN|refine Q1 ?_|refine Q3 ?_|refine Q0 ?_|refine Qb ?_|refine Q7 ?_|refine Xw (h:=?_)|refine Zq (k:=_) (h:=?_)|refine Qc fun _=>?_|apply jT
 rename_i b3
 refine Qd (A:=[_,_,_]) (B:=N1++(N2++(N3++(N4++N5)))++[]) rfl pqq rfl eqq rfl (fun w hk hs=>Qot w _ (gM a.c a.c S'.v) 0 rk a.c (a.c-rk) hVr (by show 0+a.c≤a.c;omega) (by show rk+(a.c-rk)≤a.c;omega) ⟨_,rfl,hO4z.rd.at hk hs (HSub.skip (HSub.skip (HSub.skip (by simp only[List.append_nil];first|exact Qj (Qj (Qj Qv))|exact Qj (Qj (Qj (Qj Qv)))))))⟩) fun w v w' _ _ _ hR=>?_
 obtain⟨N6,V6,rfl,hN6,hO6⟩:=hR
 obtain⟨E6,rfl,hO6⟩:=hO6
 obtain⟨A6,c6,rfl⟩:=hO6.form
 refine⟨N6,hN6,?_⟩
 repeat' first|apply jS|apply jO|apply jN|apply jT|refine Q1 ?_|refine Q0 ?_|refine Q7 ?_|refine Qn (h:=?_)|refine Q2 ?_|refine Qc fun _=>?_|refine Q2 ?_|apply jR
 exact QG 2 rfl rfl rfl (fun a' w' st=>⟨st.kp,N6,st.newOf rfl (HSub.skip (HSub.skip (HSub.skip (HSub.skip Qv)))),_,rfl,hO6⟩)


theorem Q5w (K fc f L i:Nat) (w:World) (v u:Value) (a:ZM) (bs:List Int) (S':Sm) (ha:RtZ a) (hv:IsM w v a) (hu:WZ w u a.r bs) (hK:K+1+K+1+L+2≤3500000000000) (hb:BdZ (K+1) a) (hL:BdL L bs)
  (hf:formF (K+1) fc f a.r a.c (min a.r a.c) 0 (startS a.r a.c (rowsOf a))=some S') (hw:wrongF (gM a.r a.c S'.d) (appL (gM a.r a.r S'.u) bs)=some i) (hi:i<a.r) :
  Calls Tryz.prog 38 #[v,u] w (Ret fun v w'=>Kp [] w w'∧∃ N E,New N w w'∧v=.tuple #[E,Wv (diaR (gM a.r a.c S'.d) i),.bool true]∧OwnZ N E a.r (rowI (gM a.r a.r S'.u) i)):=by
 have hv0:=hv
 have hr:=ha.r
 have hac:=ha.c
 have hbS:=YV hf (Yd ha hb)
 obtain⟨E,rfl,hE⟩:=hv
 obtain⟨A0,c0,rfl⟩:=hE.form
 obtain⟨A1,c1,rfl⟩:=hu.form
 refine Q9 [⟨8,2,[0,1,2,3,4,5,6,7,8,9,10,11,13,12,14,15,16],[]⟩] [] spq [] Tryz.func38 rfl mixed (by kernel_rfl) Tryz.ntmps38 Tryz.results38 rfl ⟨by simp,by simp⟩ spq ?_
 simp only[toS,textOps,toSOp,kindAt,kindOf,odAt,sopsAt,ordOf,zipF]
 repeat' first|apply jS|apply jO|apply jN|refine Q1 ?_|refine Q0 ?_|refine Q7 ?_|refine Qc fun _=>?_|refine Qt fun _=>?_|apply jT
 rename_i b2 b5
 refine Qd (A:=[_,_]) (B:=[]) rfl pqq rfl eqq rfl (fun w hk hs=>Qas K fc f L w _ _ a bs S' ha (hv0.mono hk) (hu.mono hk) oq hb hL hf) fun w v w' _ _ _ hR=>?_
 obtain⟨N1,N2,N3,N4,N5,N6,E1,E2,E3,E4,E5,E6,rfl,hD,hN,hO1,hO3,hO4,hO6,⟨A2',c2',rfl⟩,⟨A5',c5',rfl⟩⟩:=hR
 obtain⟨A1',c1',rfl⟩:=hO1.form
 obtain⟨A3',c3',rfl⟩:=hO3.form
 obtain⟨A4',c4',rfl⟩:=hO4.form
 obtain⟨A6',c6',rfl⟩:=hO6.form
 refine⟨_,hN,?_⟩
 have hUr:RtZ (gM a.r a.r S'.u):=Xs hD.u hr hr
 have hDr:RtZ (gM a.r a.c S'.d):=Xs hD.d hr hac
 have hVr:RtZ (gM a.c a.c S'.v):=Xs hD.v hac hac
 have hUb:BdZ (K+1) (gM a.r a.r S'.u):=YG hD.u hbS.u hr hr
 have hDb:BdZ (K+1) (gM a.r a.c S'.d):=YG hD.d hbS.d hr hac
 have hVb:BdZ (K+1) (gM a.c a.c S'.v):=YG hD.v hbS.v hac hac
 have hcb:BdL (K+1+L+1) (appL (gM a.r a.r S'.u) bs):=Q61 hUr hUb hL
 obtain⟨cs,hcs⟩:∃ cs,cs=appL (gM a.r a.r S'.u) bs:=⟨_,rfl⟩
 rw[← hcs]at hw hO6 hcb
 unfold eqC
 repeat' first|apply jS|apply jO|apply jN|apply jT|refine Q1 ?_|refine Q0 ?_|refine Q7 ?_|refine QP (h:=?_)|refine Qn (h:=?_)|refine Q2 ?_|refine Qc fun _=>?_|refine Q2 ?_|apply jK|refine Q4 rfl ?_
 rename_i b7
 refine Q6 pqq rfl eqq rfl (fun w hk hs=>Q5s (K+1+L+1) w _ _ _ _ _ _ (gM a.r a.c S'.d) a.r a.c cs hDr rfl rfl (hO3.rd.at hk hs (by simp only[List.cons_append,List.nil_append,List.append_assoc,List.append_nil,List.set_cons_zero];exact HSub.skip (HSub.skip (HSub.skip (Qj (Qj (Qj Qv))))))) (hO6.rd.at hk hs (by simp only[List.cons_append,List.nil_append,List.append_assoc,List.append_nil,List.set_cons_zero];exact HSub.skip (HSub.skip (HSub.skip (Qv))))) oq (fun i=>Y6 (hDb i) oq) hcb) fun w v w' _ _ _ hR=>?_
 unfold wrongV at hR
 rw[hw]at hR
 subst hR
 repeat' first|apply jS|apply jO|apply jN|apply jT|refine Q1 ?_|refine Q3 ?_|refine Q0 ?_|refine QP (h:=?_)|refine Qn (h:=?_)|refine Q2 ?_|refine Qc fun _=>?_|refine Q2 ?_|apply jK|refine Q4 rfl ?_
 rename_i b10
 refine XD 1 rfl eqq rfl rfl rfl rfl rfl rfl ?_
 have hi1:i*a.r≤40000:=Nat.mul_le_mul (show i≤200 by omega) hr
 have hi2:(i+1)*a.r≤40200:=by rw[Nat.add_mul];omega
 repeat' first|apply jS|apply jN|refine Q2 ?_|refine Qc fun _=>?_|refine Q2 ?_|apply jT
 rename_i b12
 refine QX [(b12,.cells #[nv a.r,nv a.r,.slice A1' (a.r*a.r) c1'] 26 (0,0)),(b10,.cells #[.bool (wz (diaR (gM a.r a.c S'.d) i)).1,sv (wz (diaR (gM a.r a.c S'.d) i)).2] 35 (0,0))] Qr ?_
 repeat' first|refine Q1 ?_|refine Q3 ?_|refine Qb ?_|refine Qg ?_|refine Zy (h:=?_)|fail
 have hz:=Q1s (c:=a.r) hi
 refine Qde rfl rfl rfl hO1.rd rfl rfl hz (fun v3 hv3 _=>?_)
 repeat' first|refine Q7 ?_|fail
 refine Qd (A:=[_,_,_,_,_]) (B:=N6++(N1++(N2++(N3++(N4++N5))))++[]) rfl pqq rfl eqq rfl (fun w hk hs=>Qaz w _ a.r _ (hv3.at hk hs (by simp only[List.cons_append,List.nil_append,List.append_assoc,List.append_nil,List.set_cons_zero,List.set_cons_succ];exact HSub.skip (HSub.skip (HSub.skip (HSub.skip (HSub.skip (Qj Qv))))))) oq) fun w v w' _ _ _ hR=>?_
 obtain⟨N7,hN7,hO7⟩:=hR
 obtain⟨A7,c7,rfl⟩:=hO7.form
 refine⟨N7,hN7,?_⟩
 repeat' first|apply jN|apply jT|refine Q0 ?_|refine Q2 ?_|refine Q2 ?_|apply jR
 refine Yc [.slice A7 a.r c7,.agg #[.bool (wz (diaR (gM a.r a.c S'.d) i)).1,sv (wz (diaR (gM a.r a.c S'.d) i)).2],.bool true] (JR.tmp rfl (Zn 3 rfl rfl rfl (JR.tmp rfl JR.nil))) (fun a' w' st=>⟨st.kp,N7,_,st.newOf rfl (HSub.skip (HSub.skip (HSub.skip (HSub.skip (HSub.skip Qv))))),rfl,hO7⟩)

end Go.Proofs.YtljmapfihjkafaaGreatDoor

namespace Go.Proofs.YtljmapfihjkafaaGreatDoor
open Go
set_option linter.unusedSimpArgs false
set_option linter.unusedVariables false
set_option linter.unusedSectionVars false

def SolL (n:Nat) (A M:Mi):Prop:=∀ i,i<n→∀ j,j<n→M i j=smI n fun t=>M i (n+t)*A t j
theorem SolL.addr {n:Nat} {A M:Mi} {r s:Nat} {t:Int} (h:SolL n A M) (hr:r<n) (hs:s<n):SolL n A (setRow M r fun j=>M r j+t*M s j):=fun i hi j hj=>by
 by_cases he:i=r
 ·subst he
  rw[setRow_self,Qq (g:=fun u=>M i (n+u)*A u j+t*(M s (n+u)*A u j)) (fun u _=>by rw[setRow_self];grind),ZS,QI, ← h i hi j hj, ← h s hs j hj]
 ·rw[QB he,Qq (g:=fun u=>M i (n+u)*A u j) (fun u _=>by rw[QB he]), ← h i hi j hj]
theorem SolL.swp {n:Nat} {A M:Mi} {r s:Nat} (h:SolL n A M) (hr:r<n) (hs:s<n):SolL n A (swp M r s):=fun i hi j hj=>by
 by_cases h1:i=r
 ·subst h1
  rw[Qq (g:=fun u=>M s (n+u)*A u j) (fun u _=>by rw[Proofs.YtljmapfihjkafaaGreatDoor.swp,if_pos rfl]), ← h s hs j hj,Proofs.YtljmapfihjkafaaGreatDoor.swp,if_pos rfl]
 ·by_cases h2:i=s
  ·subst h2
   rw[Qq (g:=fun u=>M r (n+u)*A u j) (fun u _=>by rw[Proofs.YtljmapfihjkafaaGreatDoor.swp,if_neg h1,if_pos rfl]), ← h r hr j hj,Proofs.YtljmapfihjkafaaGreatDoor.swp,if_neg h1,if_pos rfl]
  ·rw[Qq (g:=fun u=>M i (n+u)*A u j) (fun u _=>by rw[Proofs.YtljmapfihjkafaaGreatDoor.swp,if_neg h1,if_neg h2]), ← h i hi j hj,Proofs.YtljmapfihjkafaaGreatDoor.swp,if_neg h1,if_neg h2]
theorem SolL.red {n:Nat} {A M M':Mi} (hr:Red n M M') (h:SolL n A M):SolL n A M':=by
 induction hr with
 | refl=>exact h
 | add r s t hr hs hn _ ih=>exact ih (h.addr hr hs)
 | swap r s hr hs hn _ ih=>exact ih (h.swp hr hs)
theorem Red.detA {n:Nat} {M M':Mi} (hr:Red n M M'):(det n M').natAbs=(det n M).natAbs:=by
 induction hr with
 | refl=>rfl
 | add r s t hr hs hn _ ih=>rw[ih,XX t hr hs hn]
 | swap r s hr hs hn _ ih=>rw[ih,XW hr hs hn,Int.natAbs_neg]
theorem Qm2 {n k:Nat} {M:Mi} (hk:k<n) (hu:∀ j,j<k→∀ i,i<n→M i j=if i=j then 1 else 0) (hz:∀ i,k<i→i<n→M i k=0):∃ x,det n M=M k k*x:=by
 refine⟨det n (setRow (tr M) k (unit k)),?_⟩
 rw[← Q31 (A:=M)]
 conv=>lhs;rw[← Zx (tr M) k]
 rw[WP hk,Zt (k:=k) hk (fun i hi hne=>?_)]
 ·rfl
 ·rcases Nat.lt_or_ge i k with h|h
  ·rw[QL (B:=setRow (setRow (tr M) i (unit i)) k (unit i)) (fun a ha b hb=>?_),Yt (r:=i) (s:=k) hi hk oq (fun j=>by rw[setRow_self,QB hne,setRow_self]),Int.mul_zero]
   by_cases h1:a=k
   ·subst h1;rw[setRow_self,setRow_self]
   ·rw[QB h1,QB h1]
    by_cases h2:a=i
    ·subst h2
     rw[setRow_self]
     show M b a=unit a b
     rw[hu a h b hb]
     unfold unit
     by_cases h3:b=a
     ·rw[if_pos h3,if_pos h3.symm]
     ·rw[if_neg h3,if_neg (Ne.symm h3)]
    ·rw[QB h2]
  ·show M i k*_=0
   rw[hz i oq hi,Int.zero_mul]

structure Stg (n:Nat) (A:Mi) (k:Nat) (M:Mi):Prop where
 sol:SolL n A M
 dt:(det n M).natAbs=1
 un:∀ j,j<k→∀ i,i<n→M i j=if i=j then 1 else 0
structure Mid (n:Nat) (A:Mi) (k:Nat) (M:Mi) (i:Nat):Prop where
 stg:Stg n A k M
 low:∀ a,k<a→a<n→M a k=0
 top:∀ a,a<i→a<k→M a k=0
 piv:M k k=1
theorem Qp7 {n:Nat} {A M:Mi} (h:Stg n A n M) {i j:Nat} (hi:i<n) (hj:j<n):(smI n fun t=>M i (n+t)*A t j)=if i=j then 1 else 0:=by rw[← h.sol i hi j hj,h.un j hj i hi]
theorem Stg.red {n k:Nat} {A M M':Mi} (h:Stg n A k M) (hk:k<n) (hr:Red n M M') (ht:∀ a,a<k→∀ b,M' a b=M a b) (hz:∀ b,(∀ a,k≤a→a<n→M a b=0)→∀ a,k≤a→a<n→M' a b=0) (hl:∀ a,k<a→a<n→M' a k=0) :
  Stg n A k M'∧(M' k k).natAbs=1:=by
 have hs:Stg n A k M':=⟨h.sol.red hr,by rw[hr.detA];exact h.dt,fun j hj i hi=>by
  rcases Nat.lt_or_ge i k with hik|hik
  ·rw[ht i hik,h.un j hj i hi]
  ·rw[if_neg oq]
   exact hz j (fun a h1 h2=>by rw[h.un j hj a h2,if_neg oq]) i hik hi⟩
 obtain⟨x,hx⟩:=Qm2 hk hs.un hl
 have h1:=hs.dt
 rw[hx,Int.natAbs_mul]at h1
 exact⟨hs,Nat.dvd_one.1 ⟨_,h1.symm⟩⟩
theorem Mid.step {n k i:Nat} {A M M':Mi} (h:Mid n A k M i) (hk:k<n) (hi:i<k) (hM:M'=setRow M i fun j=>M i j+(-(M i k))*M k j):Mid n A k M' (i+1):=by
 subst hM
 refine⟨⟨h.stg.sol.addr oq hk,by rw[XX _ oq hk oq];exact h.stg.dt,fun j hj a ha=>?_⟩,fun a h1 h2=>?_,fun a h1 h2=>?_,?_⟩
 ·by_cases he:a=i
  ·subst he
   rw[setRow_self,h.stg.un j hj k hk,if_neg (show k≠j by omega),Int.mul_zero,Int.add_zero,h.stg.un j hj a ha]
  ·rw[QB he,h.stg.un j hj a ha]
 ·rw[QB oq];exact h.low a h1 h2
 ·by_cases he:a=i
  ·subst he
   rw[setRow_self,h.piv];omega
  ·rw[QB he];exact h.top a oq h2
 ·rw[QB oq];exact h.piv
theorem Qp8 {n k:Nat} {A M:Mi} (h:Mid n A k M k):Stg n A (k+1) M:=⟨h.stg.sol,h.stg.dt,fun j hj i hi=>by
 by_cases he:j=k
 ·subst he
  split
  ·rename_i h1;subst h1;exact h.piv
  ·rcases Nat.lt_or_ge i j with h2|h2
   ·exact h.top i h2 h2
   ·exact h.low i oq hi
 ·exact h.stg.un j oq i hi⟩

end Go.Proofs.YtljmapfihjkafaaGreatDoor

namespace Go.Proofs.YtljmapfihjkafaaGreatDoor
open Go Go.RowKit
set_option linter.unusedSimpArgs false
set_option linter.unusedVariables false
set_option linter.unusedSectionVars false

structure InvP (n:Nat) (A:Mi) (e u:Nat→Nat) (k:Nat) (M:Mi):Prop where
 stg:Stg n A k M
 lo:∀ a b,k≤a→a<n→(M a b).natAbs≤e k
 up:∀ a b,a<k→(M a b).natAbs≤u k
structure MidP (n:Nat) (A:Mi) (e u:Nat→Nat) (k i:Nat) (M:Mi):Prop where
 mid:Mid n A k M i
 lo:∀ a b,k≤a→a<n→(M a b).natAbs≤e (k+1)
 up:∀ a b,i≤a→a<k→(M a b).natAbs≤u k
 up1:∀ a b,a<i→a<k→(M a b).natAbs≤u k*(1+e (k+1))
section
variable {c:Cx} {Q:Exit→Act→World→Prop} {m:Mode} {F:SFrame} {H:SHeap} {r:List SOp} {g:Option (Option Tmp × Bool)} {ns:Bool} {d:Tmp} {ty t t':TypeId} {x y:Operand}
end


theorem Qfl (w:World) (v u:Value) (m n:ZM) (hm:RtZ m) (hn:RtZ n) (hr:m.r=n.r) (hcc:m.c+n.c≤200) (hv:IsM w v m) (hu:IsM w u n) :
  Calls Tryz.prog 27 #[v,u] w (Ret fun v w'=>Kp [] w w'∧GivesMB (joinZ m n) true w v w'):=by
 have hvX:=hv.x
 have huX:=hu.x
 obtain⟨E,rfl,hE⟩:=hv
 obtain⟨E',rfl,hE'⟩:=hu
 have hle:=hm.le
 have hle':=hn.le
 have hmr:=hm.r
 have hmc:=hm.c
 have hnc:=hn.c
 rw[hm.len]at hE
 rw[hn.len]at hE'
 refine Q9 [⟨9,2,[],[]⟩,⟨10,2,[],[]⟩] [] spq [] Tryz.func27 rfl mixed (by kernel_rfl) Tryz.ntmps27 Tryz.results27 rfl ⟨by simp,by simp⟩ spq ?_
 simp only[toS,textOps,toSOp,kindAt,kindOf,odAt,sopsAt,ordOf,zipF]
 have hR:=WZ.rd (c:=⟨Tryz.prog,83,w,[],by simp⟩) hE rfl []
 have hR':=WZ.rd (c:=⟨Tryz.prog,83,w,[],by simp⟩) hE' rfl []
 repeat' first|apply jS|apply jO|apply jN|refine Q0 ?_|refine Q7 ?_|refine Qc fun _=>?_|refine Qt fun _=>?_|apply jT
 rename_i b2 b3 b4
 refine Q6 trivial rfl rfl rfl (fun w hk _=>Zs w _ m.xm (hvX.mono hk) (by simp[ZM.xm];omega)) fun w v w' _ _ _ hc0=>?_
 obtain⟨b',rfl,hb⟩:=hc0
 obtain rfl:=hb.2 hm.rx
 repeat' first|apply jS|apply jO|apply jN|refine Q0 ?_|refine Q7 ?_|apply jT
 refine Q6 trivial rfl rfl rfl (fun w hk _=>Zs w _ n.xm (huX.mono hk) (by simp[ZM.xm];omega)) fun w v w' _ _ _ hc0=>?_
 obtain⟨b',rfl,hb'⟩:=hc0
 obtain rfl:=hb'.2 hn.rx
 repeat' first|apply jS|apply jO|apply jN|apply jT|refine Q1 ?_|refine Q3 ?_|refine Q0 ?_|refine Qb ?_|refine Q54 (h:=?_)|refine Z6 (h:=?_)|refine Qx (h:=?_)|refine QP (h:=?_)|refine Q2 ?_|(refine Z3 (h1:=?_) (h2:=?_)<;>intro hc<;>try (exfalso;omega))|(refine Z5 (h1:=?_) (h2:=?_)<;>intro hc<;>try (exfalso;omega))|refine Qc fun _=>?_|refine Q2 ?_|apply jK|refine Q4 rfl ?_|apply jB
 all_goals first
  | (exfalso;omega)
  | skip
 rename_i b8
 refine Qi (ι:=Nat × Nat × SHeap × Value) ⟨fun z=>[(9,nv z.1),(2,.pointer (some ⟨b2,0,none⟩)),(3,.pointer (some ⟨b3,0,none⟩)),(4,.pointer (some ⟨b4,0,none⟩)),(8,.pointer (some ⟨b8,0,none⟩))],
  fun z=>[(b8,.cells #[nv m.r,nv (m.c+n.c),z.2.2.2] 26),(b4,.cells #[iv 0,iv 0,.slice none 0 0] 26),(b3,.cells #[nv n.r,nv n.c,E'] 26),(b2,.cells #[nv m.r,nv m.c,E] 26)]++(z.2.2.1++[]),
  fun z=>z.1≤m.r∧z.2.1=z.1*(m.c+n.c)∧OwnZ z.2.2.1 z.2.2.2 z.2.1 (joinS m n (List.range z.1)),fun z=>m.r-z.1⟩ (0,0,[],.slice none 0 0) ⟨by omega,by simp,OwnZ.nil⟩ cqq Qz (fun z hz=>?_)
 obtain⟨i,k,N,v8⟩:=z
 obtain⟨hi,hk,hO⟩:=hz
 dsimp only at hi hk hO ⊢
 obtain⟨A8,c8,rfl⟩:=hO.form
 by_cases hlt:i<m.r
 ·have hrow1:=Q1s (c:=m.c) hlt
  have hrow2:=Q1s (c:=n.c) (show i<n.r by omega)
  have hk2:k≤40000:=by rw[hk];exact Nat.mul_le_mul (show i≤200 by omega) hcc
  have e1:(i+1)*m.c-i*m.c=m.c:=by rw[Nat.add_mul,Nat.one_mul];omega
  have e2:(i+1)*n.c-i*n.c=n.c:=by rw[Nat.add_mul,Nat.one_mul];omega
  have q1:i*m.c≤40000:=Nat.mul_le_mul (show i≤200 by omega) hmc
  have q2:(i+1)*m.c≤40000:=Nat.mul_le_mul (show i+1≤200 by omega) hmc
  have q3:i*n.c≤40000:=Nat.mul_le_mul (show i≤200 by omega) hnc
  have q4:(i+1)*n.c≤40000:=Nat.mul_le_mul (show i+1≤200 by omega) hnc
  repeat' first|apply jS|apply jO|apply jN|apply jT|refine Q1 ?_|refine Q3 ?_|refine Qb ?_|(refine Qk (h1:=?_) (h2:=?_)<;>intro hc<;>try (exfalso;omega))|apply jK|refine Q8 rfl ?_|apply jB
  refine QX [(b8,.cells #[nv m.r,nv (m.c+n.c),.slice A8 k c8] 26),(b2,.cells #[nv m.r,nv m.c,E] 26)] Qr ?_
  repeat' first|refine Q1 ?_|refine Q3 ?_|refine Qb ?_|refine Qg ?_|refine Zy (h:=?_)|fail
  refine Q4y (l:=i*m.c) (h':=(i+1)*m.c) rfl rfl rfl hR rfl rfl (.inl rfl) rfl rfl (.inl rfl) (Nat.mul_le_mul_right _ (Nat.le_succ i)) hrow1 (fun v3 hv3 _=>?_)
  rw[e1]at hv3
  skip
  refine XS (A:=[_,_,_,_]) (B:=[]) hO hv3 (HSub.nil _) rfl Qr rfl rfl rfl rfl oq (fun v4 N4 hO4=>?_)
  obtain⟨A4,c4,rfl⟩:=hO4.form
  repeat' first|apply jN|refine Q3 ?_|refine Zg (k:=_) (h:=?_)|apply jT
  refine QX [(b8,.cells #[nv m.r,nv (m.c+n.c),.slice A4 (k+m.c) c4] 26),(b3,.cells #[nv n.r,nv n.c,E'] 26)] Qr ?_
  repeat' first|refine Q1 ?_|refine Q3 ?_|refine Qb ?_|refine Qg ?_|refine Zy (h:=?_)|fail
  refine Q4y (l:=i*n.c) (h':=(i+1)*n.c) rfl rfl rfl hR' rfl rfl (.inl rfl) rfl rfl (.inl rfl) (Nat.mul_le_mul_right _ (Nat.le_succ i)) (by rw[← hr]at hrow2 ⊢;exact hrow2) (fun v5 hv5 _=>?_)
  rw[e2]at hv5
  skip
  refine XS (A:=[_,_,_,_]) (B:=[]) hO4 hv5 (HSub.nil _) rfl Qr rfl rfl rfl rfl oq (fun v6 N6 hO6=>?_)
  obtain⟨A6,c6,rfl⟩:=hO6.form
  repeat' first|apply jO|apply jN|apply jT|refine Q1 ?_|refine Q3 ?_|refine Q0 ?_|refine Qg ?_|refine Zg (k:=_) (h:=?_)|apply jW
  have hO7:OwnZ N6 (.slice A6 (k+m.c+n.c) c6) (k+m.c+n.c) (joinS m n (List.range (i+1))):=by
   rw[List.range_succ,Qbh]
   exact hO6
  exact Qa (i+1,k+m.c+n.c,N6,_) ⟨by dsimp only;omega,by dsimp only;rw[hk,Nat.add_mul,Nat.one_mul,Nat.add_assoc],hO7⟩ dgq cqq (HSub.refl _)
 ·repeat' first|apply jS|apply jO|apply jN|apply jT|refine Q1 ?_|refine Q3 ?_|refine Q0 ?_|refine Qb ?_|refine Q7 ?_|refine Q2 ?_|(refine Qk (h1:=?_) (h2:=?_)<;>intro hc<;>try (exfalso;omega))|refine Q2 ?_|apply jU|apply jE|apply jR|refine Q4 rfl ?_|refine Qe ?_
  obtain rfl:i=m.r:=by omega
  rw[Qef hm hn hr]at hO
  exact Q00 1 rfl rfl rfl rfl (fun a w' st=>⟨st.kp,N,_,rfl,st.newOf rfl Q5,OwnM.mk' hO⟩)


theorem Qfq (K f1 f2:Nat) (w:World) (v u:Value) (a:ZM) (bs:List Int) (S1 S2:Sm) (ha:RtZ a) (hac:a.c+1≤200) (hv:IsM w v a) (hu:WZ w u a.r bs) (hK:K+1≤8000000) (hb:BdZ (K+1) a) (hL:BdL (K+1) bs) (hj:RtZ (joinZ a (colZ bs))) (hjb:BdZ (K+1) (joinZ a (colZ bs))) (hF:BdL (K+1) (facP S1.d (min a.r a.c))) (hF2:BdL (K+1) (facP S2.d (min a.r (a.c+1))))
  (h1:formR (K+1) f1 a.r a.c (min a.r a.c) 0 (startS a.r a.c (rowsOf a))=some S1)
  (h2:formR (K+1) f2 a.r (a.c+1) (min a.r (a.c+1)) 0 (startS a.r (a.c+1) (rowsOf (joinZ a (colZ bs))))=some S2) (hn1:(facP S1.d (min a.r a.c)).length≤200) (hn2:(facP S2.d (min a.r (a.c+1))).length≤200) :
  Calls Tryz.prog 28 #[v,u] w (Ret fun v w'=>Kp [] w w'∧IsB (facP S1.d (min a.r a.c)=facP S2.d (min a.r (a.c+1))) v):=by
 have hv0:=hv
 have hr:=ha.r
 have hbl:bs.length=a.r:=by simpa using hu.len
 obtain⟨E,rfl,hE⟩:=hv
 obtain⟨A1,c1,rfl⟩:=hu.form
 refine Q9 [⟨1,2,[],[]⟩,⟨2,1,[0,2,1,3,4,5],[]⟩] [] spq [] Tryz.func28 rfl mixed (by kernel_rfl) Tryz.ntmps28 Tryz.results28 rfl ⟨by simp,by simp⟩ spq ?_
 simp only[toS,textOps,toSOp,kindAt,kindOf,odAt,sopsAt,ordOf,zipF]
 repeat' first|apply jS|apply jO|apply jD|apply jN|refine Q1 ?_|refine Q0 ?_|refine Q7 ?_|refine Qt fun _=>?_|apply jT
 rename_i b2
 refine Qd (A:=[_]) (B:=[]) rfl pqq rfl eqq rfl (fun w hk hs=>Qfw (K+1) w _ a.r bs (hu.mono hk) hr oq hL) fun w v w' _ _ _ hR=>?_
 obtain⟨N1,hN1,E1,rfl,hO1⟩:=hR
 refine⟨N1,hN1,?_⟩
 skip
 refine Qd (A:=[_]) (B:=N1++[]) rfl pqq rfl eqq rfl (fun w hk hs=>Qfl w _ _ a (colZ bs) ha (Q8k oq) hbl.symm hac (hv0.mono hk) ⟨_,rfl,hO1.rd.at hk hs Q5⟩) fun w v w' _ _ _ hR=>?_
 obtain⟨N2,V2,rfl,hN2,hO2⟩:=hR
 obtain⟨E2,rfl,hO2⟩:=hO2
 obtain⟨A2,c2,rfl⟩:=hO2.form
 refine⟨N2,hN2,?_⟩
 repeat' first|apply jS|apply jD|apply jN|refine Q1 ?_|refine Q0 ?_|refine Q7 ?_|refine Qn (h:=?_)|refine Q2 ?_|refine Qc fun _=>?_|refine Q2 ?_|apply jT
 refine Qd (A:=[_,_]) (B:=N2++(N1++[])) rfl pqq rfl eqq rfl (fun w hk hs=>Q4h K f1 w _ a S1 ha (hv0.mono hk) oq hb h1) fun w v w' _ _ _ hR=>?_
 obtain⟨N3,hN3,hO3⟩:=hR
 obtain⟨A3,c3,rfl⟩:=hO3.form
 refine⟨N3,hN3,?_⟩
 skip
 refine Qd (A:=[_,_]) (B:=N3++(N2++(N1++[]))) rfl pqq rfl eqq rfl (fun w hk hs=>Q4h K f2 w _ (joinZ a (colZ bs)) S2 hj ⟨_,rfl,hO2.rd.at hk hs Q5⟩ oq hjb h2) fun w v w' _ _ _ hR=>?_
 obtain⟨N4,hN4,hO4⟩:=hR
 obtain⟨A4,c4,rfl⟩:=hO4.form
 refine⟨N4,hN4,?_⟩
 skip
 refine Q6 pqq rfl eqq rfl (fun w hk hs=>Q1p (K+1) w _ _ _ _ (hO3.rd.at hk hs Q5) (hO4.rd.at hk hs Q5) oq (Nat.le_trans hn2 dq) oq hF hF2) fun w v w' _ _ _ hR=>?_
 obtain⟨b',rfl,hb'⟩:=hR
 repeat' first|apply jN|apply jT|refine Q0 ?_|apply jR
 exact Qh rfl (fun a w' st=>⟨st.kp,b',rfl,hb'⟩)


theorem WW {w:World} {b n:Nat} {vs:List Value} (xs:List Int) (hb:w.heap[b]?=some (.cells ⟨vs⟩ 3)) (hv:vs=xs.map iv) (hn:xs.length=n):WI w (.slice (some ⟨b,0,none⟩) n n) n xs:=by
 subst hv
 refine⟨by simp[hn],_,_,rfl,Nat.le_refl _,fun _=>⟨⟨b,0,rfl⟩,fun j u hu=>?_⟩⟩
 simp only[vAt,Nat.zero_add]
 exact QF hb (by simpa using hu)
theorem Q4k {w:World} {b n:Nat} {ss:List Value} (xss:List (List Int)) (hb:w.heap[b]?=some (.cells ⟨ss⟩ 48)) (hl:ss.length=n) (hx:xss.length=n) (h:∀ i,i<n→WI w (ss.getD i (iv 0)) (xss.getD i []).length (xss.getD i [])):IsRows w (.slice (some ⟨b,0,none⟩) n n) xss:=by
 subst hx
 refine⟨ss,⟨by omega,_,_,rfl,Nat.le_refl _,fun _=>⟨⟨b,0,rfl⟩,fun j u hu=>?_⟩⟩,h⟩
 simp only[vAt,Nat.zero_add]
 exact QF hb (by simpa using hu)
theorem Q3g {w:World} {b:Nat} {s:Value} (xs:List Int) (hb:w.heap[b]?=some (.cells ⟨[s]⟩ 48)) (h:WI w s xs.length xs):IsRows w (.slice (some ⟨b,0,none⟩) 1 1) [xs] :=
 Q4k [xs] hb rfl rfl fun i hi=>by
  obtain rfl:i=0:=by omega
  exact h
theorem Wp {w:World} {b:Nat} {s s':Value} (xs xs':List Int) (hb:w.heap[b]?=some (.cells ⟨[s,s']⟩ 48)) (h:WI w s xs.length xs) (h':WI w s' xs'.length xs'):IsRows w (.slice (some ⟨b,0,none⟩) 2 2) [xs,xs'] :=
 Q4k [xs,xs'] hb rfl rfl fun i hi=>by
  rcases(show i=0∨i=1 by omega)with rfl|rfl
  ·exact h
  ·exact h'
theorem Q2x {xss:List (List Int)} (h:∀ l∈xss,∀ x∈l,I64 x):∀ i j,I64 ((xss.getD i []).getD j 0):=fun i j=>by
 have h0:I64 0:=⟨by decide,by decide⟩
 rw[List.getD]
 cases hj:(xss.getD i [])[j]? with
 | none=>exact h0
 | some x =>
  have hx:=List.mem_of_getElem? hj
  rw[List.getD]at hx
  cases hi:xss[i]? with
  | none=>rw[hi]at hx;cases hx
  | some l=>rw[hi]at hx;exact h l (List.mem_of_getElem? hi) x hx
instance (n:Int):Decidable (I64 n):=by unfold I64;infer_instance
theorem QZ {K:Nat} {l:List Int} (h:∀ x∈l,x.natAbs<256 ^ K):BdL K l:=fun i=>by
 rw[List.getD]
 cases hi:l[i]? with
 | none=>exact Nat.pow_pos dq
 | some x=>exact h x (List.mem_of_getElem? hi)
theorem Qol {xs:List Int} (h:∀ x∈xs,I64 x) (i:Nat):I64 (xs.getD i 0):=by
 rw[List.getD]
 cases hi:xs[i]? with
 | none=>exact⟨by decide,by decide⟩
 | some x=>exact h x (List.mem_of_getElem? hi)

theorem s_Of {X:List (List Int)} {r c:Nat} {e:List Int} (he:ofZ X=⟨r,c,e⟩) (hl:e.length=r*c) (w:World) (v:Value) (hv:IsRows w v X) (hr:X.length≤200) (hcc:ofC X X.length≤200) (hI:∀ i j,I64 ((X.getD i []).getD j 0)) :
  Calls Tryz.prog 45 #[v] w (Ret fun v w'=>Kp [] w w'∧∃ N A k,New N w w'∧v=.agg #[nv r,nv c,.slice A (r*c) k]∧OwnZ N (.slice A (r*c) k) (r*c) e):=by
 refine(Qfk w v X hv hr hcc hI).mono fun x w' h=>?_
 cases x with
 | panicked _=>exact h.elim
 | outgrown=>exact h.elim
 | returned v =>
  obtain⟨hk,N,hN,E,rfl,hO⟩:=h
  rw[he]at hO ⊢
  have hO:OwnZ N E e.length e:=hO
  rw[hl]at hO
  obtain⟨A,k,rfl⟩:=hO.form
  exact⟨hk,N,A,k,hN,rfl,hO⟩
theorem s_M {w:World} {A:Option Addr} {r c k:Nat} {e:List Int} (hl:e.length=r*c) (h:WZ w (.slice A (r*c) k) (r*c) e):IsM w (.agg #[nv r,nv c,.slice A (r*c) k]) ⟨r,c,e⟩:=⟨_,rfl,by show WZ w _ e.length e;rw[hl];exact h⟩
theorem s_rt {r c:Nat} {e:List Int} (h:r≤200∧c≤200∧e.length=r*c):RtZ ⟨r,c,e⟩:=⟨h.1,h.2.1,h.2.2⟩

def k0S:Sm:=⟨[[1]],[[1]],[[1,0,0]],[[1,-2,-3],[0,1,0],[0,0,1]],[[1,2,3],[0,1,0],[0,0,1]]⟩
theorem Qgq (w:World) (A:Option Addr) (k:Nat) (h:WZ w (.slice A (1*3) k) (1*3) [1,2,3]) :
  Calls Tryz.prog 15 #[.agg #[nv 1,nv 3,.slice A (1*3) k]] w (Ret fun v w'=>Kp [] w w'∧∃ N A k,New N w w'∧v=.agg #[nv 3,nv 2,.slice A (3*2) k]∧OwnZ N (.slice A (3*2) k) (3*2) [-2,-3,1,0,0,1]):=by
 refine(Q1q 0 9 9 w _ ⟨1,3,[1,2,3]⟩ k0S (s_rt dq) (s_M rfl h) dq (QZ dq) (by kernel_rfl)).mono fun x w' h=>?_
 cases x with
 | panicked _=>exact h.elim
 | outgrown=>exact h.elim
 | returned v =>
  rw[show partZ (gM 3 3 k0S.v) 0 (facP k0S.d (min 1 3)).length 3 (3-(facP k0S.d (min 1 3)).length)=⟨3,2,[-2,-3,1,0,0,1]⟩ from by kernel_rfl]at h
  obtain⟨hk,N,hN,E,rfl,hO⟩:=h
  have hO:OwnZ N E 6 [-2,-3,1,0,0,1]:=hO
  obtain⟨A,k,rfl⟩:=hO.form
  exact⟨hk,N,A,k,hN,rfl,hO⟩

def kzS:Sm:=⟨[[0,1,0],[0,0,1],[1,2,3]],[[-2,-3,1],[1,0,0],[0,1,0]],[[1,0],[0,1],[0,0]],[[1,0],[0,1]],[[1,0],[0,1]]⟩
theorem Q2w {P:Prop} {v:Value} (h:IsB P v) (hp:P):v=.bool true:=by
 obtain⟨b,rfl,hb⟩:=h
 rw[hb.2 hp]
theorem Q6w {a b:ZM} (h1:a.r≤200) (h2:a.c+b.c≤200):RtZ (joinZ a b):=YN h1 h2
def kS1:Sm:=⟨[[0,1,0],[0,0,1],[1,2,3]],[[-2,-3,1],[1,0,0],[0,1,0]],[[1,0,0],[0,1,0],[0,0,0]],[[1,0,1],[0,1,0],[0,0,1]],[[1,0,-1],[0,1,0],[0,0,1]]⟩
theorem Qkn (w:World) (A:Option Addr) (k:Nat) (u:Value) (h:WZ w (.slice A (3*2) k) (3*2) [-2,-3,1,0,0,1]) (hu:WZ w u 3 [2,-1,0]) :
  Calls Tryz.prog 28 #[.agg #[nv 3,nv 2,.slice A (3*2) k],u] w (Ret fun v w'=>Kp [] w w'∧v=.bool true):=by
 refine(Qfq 0 9 9 w _ u ⟨3,2,[-2,-3,1,0,0,1]⟩ [2,-1,0] kzS kS1 (s_rt dq) dq (s_M rfl h) hu dq (QZ dq) (QZ dq) (Q6w dq dq) (QZ dq) (QZ dq) (QZ dq) (by kernel_rfl) (by kernel_rfl) dq dq).mono fun x w' h=>?_
 cases x with
 | panicked _=>exact h.elim
 | outgrown=>exact h.elim
 | returned v =>
  exact⟨h.1,Q2w h.2 (by kernel_rfl)⟩
def kS2:Sm:=⟨[[0,1,0],[0,0,1],[1,2,3]],[[-2,-3,1],[1,0,0],[0,1,0]],[[1,0,0],[0,1,0],[0,0,0]],[[1,0,0],[0,1,1],[0,0,1]],[[1,0,0],[0,1,-1],[0,0,1]]⟩
theorem Qkm (w:World) (A:Option Addr) (k:Nat) (u:Value) (h:WZ w (.slice A (3*2) k) (3*2) [-2,-3,1,0,0,1]) (hu:WZ w u 3 [3,0,-1]) :
  Calls Tryz.prog 28 #[.agg #[nv 3,nv 2,.slice A (3*2) k],u] w (Ret fun v w'=>Kp [] w w'∧v=.bool true):=by
 refine(Qfq 0 9 9 w _ u ⟨3,2,[-2,-3,1,0,0,1]⟩ [3,0,-1] kzS kS2 (s_rt dq) dq (s_M rfl h) hu dq (QZ dq) (QZ dq) (Q6w dq dq) (QZ dq) (QZ dq) (QZ dq) (by kernel_rfl) (by kernel_rfl) dq dq).mono fun x w' h=>?_
 cases x with
 | panicked _=>exact h.elim
 | outgrown=>exact h.elim
 | returned v =>
  exact⟨h.1,Q2w h.2 (by kernel_rfl)⟩
def a2S:Sm:=⟨[[1]],[[1]],[[2,0]],[[1,-2],[0,1]],[[1,2],[0,1]]⟩
def a3S:Sm:=⟨[[1,0],[-1,1]],[[1,0],[1,1]],[[1,0],[0,0]],[[1,0],[0,1]],[[1,0],[0,1]]⟩
def i2S:Sm:=⟨[[1,0],[0,1]],[[1,0],[0,1]],[[1,0],[0,1]],[[1,0],[0,1]],[[1,0],[0,1]]⟩
def q1S:Sm:=⟨[[1,1],[3,4]],[[4,-1],[-3,1]],[[1,0],[0,6]],[[2,-3],[-1,2]],[[2,3],[1,2]]⟩
def q2S:Sm:=⟨[[1,0],[-2,1]],[[1,0],[2,1]],[[2],[0]],[[1]],[[1]]⟩
theorem Qkl (w:World) (A:Option Addr) (k:Nat) (u:Value) (h:WZ w (.slice A (1*2) k) (1*2) [2,4]) (hu:WZ w u 1 [6]) :
  Calls Tryz.prog 37 #[.agg #[nv 1,nv 2,.slice A (1*2) k],u] w (Ret fun v w'=>Kp [] w w'∧∃ N A c,New N w w'∧v=.tuple #[.slice A 2 c,.bool true]∧OwnZ N (.slice A 2 c) 2 [3,0]):=by
 refine(Q8u 0 9 9 1 w _ u ⟨1,2,[2,4]⟩ [6] a2S (s_rt dq) (s_M rfl h) hu dq (QZ dq) (QZ dq) (by kernel_rfl) (by kernel_rfl)).mono fun x w' h=>?_
 cases x with
 | panicked _=>exact h.elim
 | outgrown=>exact h.elim
 | returned v =>
  obtain⟨hk,N,E,hN,rfl,hO⟩:=h
  rw[show solV a2S 1 2 [6]=[3,0] from by kernel_rfl]at hO
  obtain⟨A,c,rfl⟩:=hO.form
  exact⟨hk,N,A,c,hN,rfl,hO⟩
theorem Qnj (w:World) (A:Option Addr) (k:Nat) (u:Value) (h:WZ w (.slice A (1*2) k) (1*2) [2,4]) (hu:WZ w u 1 [5]) :
  Calls Tryz.prog 38 #[.agg #[nv 1,nv 2,.slice A (1*2) k],u] w (Ret fun v w'=>Kp [] w w'∧∃ N A c,New N w w'∧v=.tuple #[.slice A 1 c,Wv 2,.bool true]∧OwnZ N (.slice A 1 c) 1 [1]):=by
 refine(Q5w 0 9 9 1 0 w _ u ⟨1,2,[2,4]⟩ [5] a2S (s_rt dq) (s_M rfl h) hu dq (QZ dq) (QZ dq) (by kernel_rfl) (by kernel_rfl) dq).mono fun x w' h=>?_
 cases x with
 | panicked _=>exact h.elim
 | outgrown=>exact h.elim
 | returned v =>
  obtain⟨hk,N,E,hN,rfl,hO⟩:=h
  have hO:OwnZ N E 1 (rowI (gM 1 1 a2S.u) 0):=hO
  rw[show rowI (gM 1 1 a2S.u) 0=[1] from by kernel_rfl]at hO
  obtain⟨A,c,rfl⟩:=hO.form
  refine⟨hk,N,A,c,hN,?_,hO⟩
  rw[show diaR (gM 1 2 a2S.d) 0=2 from by kernel_rfl]
theorem Qni (w:World) (A:Option Addr) (k:Nat) (u:Value) (h:WZ w (.slice A (2*2) k) (2*2) [1,0,1,0]) (hu:WZ w u 2 [1,2]) :
  Calls Tryz.prog 38 #[.agg #[nv 2,nv 2,.slice A (2*2) k],u] w (Ret fun v w'=>Kp [] w w'∧∃ N A c,New N w w'∧v=.tuple #[.slice A 2 c,Wv 0,.bool true]∧OwnZ N (.slice A 2 c) 2 [-1,1]):=by
 refine(Q5w 0 9 9 1 1 w _ u ⟨2,2,[1,0,1,0]⟩ [1,2] a3S (s_rt dq) (s_M rfl h) hu dq (QZ dq) (QZ dq) (by kernel_rfl) (by kernel_rfl) dq).mono fun x w' h=>?_
 cases x with
 | panicked _=>exact h.elim
 | outgrown=>exact h.elim
 | returned v =>
  obtain⟨hk,N,E,hN,rfl,hO⟩:=h
  have hO:OwnZ N E 2 (rowI (gM 2 2 a3S.u) 1):=hO
  rw[show rowI (gM 2 2 a3S.u) 1=[-1,1] from by kernel_rfl]at hO
  obtain⟨A,c,rfl⟩:=hO.form
  refine⟨hk,N,A,c,hN,?_,hO⟩
  rw[show diaR (gM 2 2 a3S.d) 1=0 from by kernel_rfl]
theorem Qkq (w:World) (A A':Option Addr) (k k':Nat) (h:WZ w (.slice A (2*2) k) (2*2) [1,0,0,1]) (h':WZ w (.slice A' (2*2) k') (2*2) [2,0,0,3]) :
  Calls Tryz.prog 23 #[.agg #[nv 2,nv 2,.slice A (2*2) k],.agg #[nv 2,nv 2,.slice A' (2*2) k']] w (Ret fun v w'=>Kp [] w w'∧∃ N A c Ag cg,New N w w'∧OwnZ N (.slice A 1 c) 1 [6]∧v=.tuple #[.slice A 1 c,nv 0,.agg #[nv 2,nv 1,.slice Ag (2*1) cg],.bool true]):=by
 refine(Qjp 0 9 9 1 0 9 9 w _ _ ⟨2,2,[1,0,0,1]⟩ ⟨2,2,[2,0,0,3]⟩ i2S q1S (s_rt dq) (s_rt dq) rfl (s_M rfl h) (s_M rfl h') dq dq (QZ dq) (QZ dq) (by kernel_rfl) (by kernel_rfl) (fun j hj=>by
  have hj:j<2:=hj
  rcases(show j=0∨j=1 by omega)with rfl|rfl
  ·exact(show wrongF (gM 2 2 i2S.d) (appL (gM 2 2 i2S.u) (colL ⟨2,2,[2,0,0,3]⟩ 0))=none from by kernel_rfl)
  ·exact(show wrongF (gM 2 2 i2S.d) (appL (gM 2 2 i2S.u) (colL ⟨2,2,[2,0,0,3]⟩ 1))=none from by kernel_rfl)) (QZ dq) (by kernel_rfl)).mono fun x w' h=>?_
 cases x with
 | panicked _=>exact h.elim
 | outgrown=>exact h.elim
 | returned v =>
  obtain⟨hk,N,A,c,Ag,cg,hN,hO,rfl⟩:=h
  have e1:torL (gM 2 2 q1S.d) (List.range 2)=[6]:=by kernel_rfl
  have e2:freN (gM 2 2 q1S.d) (List.range 2)=0:=by kernel_rfl
  have e3:(colQ (gM 2 2 q1S.d) (List.range 2)).length=1:=by kernel_rfl
  have hO:OwnZ N (.slice A (torL (gM 2 2 q1S.d) (List.range 2)).length c) (torL (gM 2 2 q1S.d) (List.range 2)).length (torL (gM 2 2 q1S.d) (List.range 2)):=hO
  rw[e1]at hO
  refine⟨hk,N,A,c,Ag,cg,hN,hO,?_⟩
  show Value.tuple #[.slice A (torL (gM 2 2 q1S.d) (List.range 2)).length c,nv (freN (gM 2 2 q1S.d) (List.range 2)),.agg #[nv 2,nv (colQ (gM 2 2 q1S.d) (List.range 2)).length,.slice Ag (2*(colQ (gM 2 2 q1S.d) (List.range 2)).length) cg],.bool true]=_
  rw[e1,e2,e3]
  rfl
theorem Qkp (w:World) (A A':Option Addr) (k k':Nat) (h:WZ w (.slice A (2*2) k) (2*2) [1,0,0,1]) (h':WZ w (.slice A' (2*1) k') (2*1) [2,4]) :
  Calls Tryz.prog 23 #[.agg #[nv 2,nv 2,.slice A (2*2) k],.agg #[nv 2,nv 1,.slice A' (2*1) k']] w (Ret fun v w'=>Kp [] w w'∧∃ N A c Ag cg,New N w w'∧OwnZ N (.slice A 1 c) 1 [2]∧v=.tuple #[.slice A 1 c,nv 1,.agg #[nv 2,nv 2,.slice Ag (2*2) cg],.bool true]):=by
 refine(Qjp 0 9 9 1 0 9 9 w _ _ ⟨2,2,[1,0,0,1]⟩ ⟨2,1,[2,4]⟩ i2S q2S (s_rt dq) (s_rt dq) rfl (s_M rfl h) (s_M rfl h') dq dq (QZ dq) (QZ dq) (by kernel_rfl) (by kernel_rfl) (fun j hj=>by
  have hj:j<1:=hj
  obtain rfl:j=0:=by omega
  exact(show wrongF (gM 2 2 i2S.d) (appL (gM 2 2 i2S.u) (colL ⟨2,1,[2,4]⟩ 0))=none from by kernel_rfl)) (QZ dq) (by kernel_rfl)).mono fun x w' h=>?_
 cases x with
 | panicked _=>exact h.elim
 | outgrown=>exact h.elim
 | returned v =>
  obtain⟨hk,N,A,c,Ag,cg,hN,hO,rfl⟩:=h
  have e1:torL (gM 2 1 q2S.d) (List.range 2)=[2]:=by kernel_rfl
  have e2:freN (gM 2 1 q2S.d) (List.range 2)=1:=by kernel_rfl
  have e3:(colQ (gM 2 1 q2S.d) (List.range 2)).length=2:=by kernel_rfl
  have hO:OwnZ N (.slice A (torL (gM 2 1 q2S.d) (List.range 2)).length c) (torL (gM 2 1 q2S.d) (List.range 2)).length (torL (gM 2 1 q2S.d) (List.range 2)):=hO
  rw[e1]at hO
  refine⟨hk,N,A,c,Ag,cg,hN,hO,?_⟩
  show Value.tuple #[.slice A (torL (gM 2 1 q2S.d) (List.range 2)).length c,nv (freN (gM 2 1 q2S.d) (List.range 2)),.agg #[nv 2,nv (colQ (gM 2 1 q2S.d) (List.range 2)).length,.slice Ag (2*(colQ (gM 2 1 q2S.d) (List.range 2)).length) cg],.bool true]=_
  rw[e1,e2,e3]
  rfl


theorem Qnh (w:World) (A:Option Addr) (k:Nat) (u z:Value) (h:WZ w (.slice A (1*2) k) (1*2) [2,4]) (hu:WZ w u 2 [3,0]) (hz:WZ w z 1 [6]) :
  Calls Tryz.prog 41 #[.agg #[nv 1,nv 2,.slice A (1*2) k],u,z] w (Ret fun v w'=>Kp [] w w'∧v=.bool true):=by
 refine(Qoq 1 1 w _ u z ⟨1,2,[2,4]⟩ [3,0] [6] (s_rt dq) (s_M rfl h) hu hz dq dq dq (QZ dq) (QZ dq) (QZ dq)).mono fun x w' h=>?_
 cases x with
 | panicked _=>exact h.elim
 | outgrown=>exact h.elim
 | returned v=>exact⟨h.1,Q2w h.2 ((Qkd rfl).2 (by kernel_rfl))⟩
theorem Qkk (w:World) (A:Option Addr) (k:Nat) (u z:Value) (h:WZ w (.slice A (1*2) k) (1*2) [2,4]) (hu:WZ w u 1 [5]) (hz:WZ w z 1 [1]) :
  Calls Tryz.prog 42 #[.agg #[nv 1,nv 2,.slice A (1*2) k],u,z,Wv 2] w (Ret fun v w'=>Kp [] w w'∧v=.bool true):=by
 refine(Qji 1 1 w _ u z _ ⟨1,2,[2,4]⟩ [5] [1] 2 (s_rt dq) (s_M rfl h) hu hz (Qf dq) dq dq dq (QZ dq) (QZ dq) (QZ dq)).mono fun x w' h=>?_
 cases x with
 | panicked _=>exact h.elim
 | outgrown=>exact h.elim
 | returned v =>
  refine⟨h.1,Q2w h.2 ⟨rfl,rfl,by decide,fun j hj=>?_,by decide⟩⟩
  have hj:j<2:=hj
  rcases(show j=0∨j=1 by omega)with rfl|rfl<;>decide
theorem Qkj (w:World) (A:Option Addr) (k:Nat) (u z:Value) (h:WZ w (.slice A (2*2) k) (2*2) [1,0,1,0]) (hu:WZ w u 2 [1,2]) (hz:WZ w z 2 [-1,1]) :
  Calls Tryz.prog 42 #[.agg #[nv 2,nv 2,.slice A (2*2) k],u,z,Wv 0] w (Ret fun v w'=>Kp [] w w'∧v=.bool true):=by
 refine(Qji 1 1 w _ u z _ ⟨2,2,[1,0,1,0]⟩ [1,2] [-1,1] 0 (s_rt dq) (s_M rfl h) hu hz (Qf dq) dq dq dq (QZ dq) (QZ dq) (QZ dq)).mono fun x w' h=>?_
 cases x with
 | panicked _=>exact h.elim
 | outgrown=>exact h.elim
 | returned v =>
  refine⟨h.1,Q2w h.2 ⟨rfl,rfl,by decide,fun j hj=>?_,by decide⟩⟩
  have hj:j<2:=hj
  rcases(show j=0∨j=1 by omega)with rfl|rfl<;>decide
theorem Qd3 (w:World) (v u:Value) (t:Int) (ht:t.natAbs<256) (h:WZ w v 1 [t]) (hu:WZ w u 1 [t]) :
  Calls Tryz.prog 25 #[v,u] w (Ret fun v w'=>Kp [] w w'∧v=.bool true):=by
 refine(Q1p 1 w v u [t] [t] h hu (Nat.le_of_ble_eq_true rfl) (Nat.le_of_ble_eq_true rfl) dq (QZ (by simpa using ht)) (QZ (by simpa using ht))).mono fun x w' h=>?_
 cases x with
 | panicked _=>exact h.elim
 | outgrown=>exact h.elim
 | returned v=>exact⟨h.1,Q2w h.2 rfl⟩

theorem Qko (w:World) (A:Option Addr) (k:Nat) (h:WZ w (.slice A (3*2) k) (3*2) [-2,-3,1,0,0,1]) :
  Calls Tryz.prog 26 #[.agg #[nv 3,nv 2,.slice A (3*2) k]] w (Ret fun v w'=>Kp [] w w'∧v=.bool true):=by
 refine(Zs w _ (ZM.xm ⟨3,2,[-2,-3,1,0,0,1]⟩) (s_M (e:=[-2,-3,1,0,0,1]) rfl h).x (by show (List.map wz [-2,-3,1,0,0,1]).length<_;rw[List.length_map];exact of_decide_eq_true rfl)).mono fun x w' h=>?_
 cases x with
 | panicked _=>exact h.elim
 | outgrown=>exact h.elim
 | returned v=>exact⟨h.1,Q2w h.2 (s_rt (r:=3) (c:=2) (e:=[-2,-3,1,0,0,1]) dq).rx⟩
theorem W9 {w:World} {b n:Nat} {vs:List Value} (xs:List Int) (hb:w.heap[b]?=some (.cells ⟨vs⟩ 3)) (hv:vs=xs.map iv) (hn:xs.length=n) (hl:n≤2000000) (hI:∀ x∈xs,I64 x):Calls Tryz.prog 44 #[.slice (some ⟨b,0,none⟩) n n] w (Ret fun v w'=>Kp [] w w'∧∃ N,New N w w'∧OwnZ N v n xs) :=
 Qmj w _ n xs (WW xs hb hv hn) hl (Qol hI)

theorem Qnk (w:World):Calls Tryz.prog 35 #[iv 2] w (Ret fun v w'=>Kp [] w w'∧∃ N A k,New N w w'∧v=.agg #[nv 2,nv 2,.slice A (2*2) k]∧OwnZ N (.slice A (2*2) k) (2*2) [1,0,0,1]):=by
 refine(Q1o 2 dq w).mono fun x w' h=>?_
 cases x with
 | panicked _=>exact h.elim
 | outgrown=>exact h.elim
 | returned v =>
  obtain⟨hk,N,hN,E,rfl,hO⟩:=h
  have hO:OwnZ N E 4 [1,0,0,1]:=hO
  obtain⟨A,k,rfl⟩:=hO.form
  exact⟨hk,N,A,k,hN,rfl,hO⟩

theorem Qfi (w:World):Calls Tryz.prog 13 #[] w (Ret fun v w'=>Kp [] w w'∧v=.bool true):=by
 refine Q9 [⟨5,2,[],[]⟩,⟨6,3,[],[]⟩,⟨8,3,[],[]⟩,⟨9,0,[0,1,2,3,4,5,6,7,8,9,10,11,12,13,14,15,18,19,16,17,20,21,22,23,24,25,26,27,28,31,32,29,30,33,34,35],[]⟩] [] spq [] Tryz.func13 rfl mixed (by kernel_rfl) Tryz.ntmps13 Tryz.results13 rfl ⟨by simp,by simp⟩ spq ?_
 simp only[toS,textOps,toSOp,kindAt,kindOf,odAt,sopsAt,ordOf,zipF]
 repeat' first|apply jS|apply jO|apply jN|refine Q0 ?_|refine QA (h:=fun _=>?_)|apply jT
 refine Qd (A:=[_,_]) (B:=[]) rfl pqq rfl eqq rfl (fun w hk hs=>s_Of (X:=[[1,2,3]]) (r:=1) (c:=3) (e:=[1,2,3]) (by kernel_rfl) rfl w _ (Q3g _ (ZV hs 0 rfl) (WW [1,2,3] (ZV hs 1 rfl) rfl rfl)) dq dq (Q2x dq)) fun w v w' _ _ _ hR=>?_
 obtain⟨N1,A1,k1,hN1,rfl,hO1⟩:=hR
 refine⟨N1,hN1,?_⟩
 skip
 refine Qd (A:=[_,_]) (B:=N1++[]) rfl pqq rfl eqq rfl (fun w hk hs=>Qgq w _ _ (hO1.rd.at hk hs Q5)) fun w v w' _ _ _ hR=>?_
 obtain⟨N2,A2,k2,hN2,rfl,hO2⟩:=hR
 refine⟨N2,hN2,?_⟩
 repeat' first|refine Q2 ?_|refine Qc fun _=>?_|refine Q2 ?_|apply jN
 rename_i b1
 refine JX.part (F':=[(1,.pointer (some ⟨b1,0,none⟩))]) (H':=[(b1,.cells #[nv 3,nv 2,.slice A2 (3*2) k2] 26)]++(N2++[])) cqq Qz ?_
 refine Qs ?_
 repeat' first|apply jS|refine Q1 ?_|refine Q3 ?_|refine Qb ?_|refine Q7 ?_|refine Qx (h:=?_)|(refine Z5 (h1:=?_) (h2:=?_)<;>intro hc<;>try (exfalso;omega))|apply jD
 refine Q6 pqq rfl eqq rfl (fun w hk hs=>Qko w _ _ (hO2.rd.at hk hs Q5)) fun w v w' _ _ _ hR=>?_
 subst hR
 repeat' first|refine Q1 ?_|refine Q7 ?_|refine Qx (h:=?_)|refine QP (h:=?_)|refine QA (h:=fun _=>?_)|fail
 refine Qd (A:=[_,_]) (B:=N2++[]) rfl pqq rfl eqq rfl (fun w hk hs=>W9 [2,-1,0] (ZV hs 0 rfl) rfl rfl dq dq) fun w v w' _ _ _ hR=>?_
 obtain⟨N3,hN3,hO3⟩:=hR
 obtain⟨A3,k3,rfl⟩:=hO3.form
 refine⟨N3,hN3,?_⟩
 skip
 refine Q6 pqq rfl eqq rfl (fun w hk hs=>Qkn w _ _ _ (hO2.rd.at hk hs Q5) (hO3.rd.at hk hs Q5)) fun w v w' _ _ _ hR=>?_
 subst hR
 repeat' first|refine Q1 ?_|refine Q7 ?_|refine Qx (h:=?_)|refine QP (h:=?_)|refine QA (h:=fun _=>?_)|fail
 refine Qd (A:=[_,_,_]) (B:=N3++(N2++[])) rfl pqq rfl eqq rfl (fun w hk hs=>W9 [3,0,-1] (ZV hs 0 rfl) rfl rfl dq dq) fun w v w' _ _ _ hR=>?_
 obtain⟨N4,hN4,hO4⟩:=hR
 obtain⟨A4,k4,rfl⟩:=hO4.form
 refine⟨N4,hN4,?_⟩
 skip
 refine Q6 pqq rfl eqq rfl (fun w hk hs=>Qkm w _ _ _ (hO2.rd.at hk hs Q5) (hO4.rd.at hk hs Q5)) fun w v w' _ _ _ hR=>?_
 subst hR
 repeat' first|refine Qx (h:=?_)|refine QP (h:=?_)|apply jN
 refine JX.part (F':=[(50,.bool false)]) (H':=[]) cqq (HSub.nil _) ?_
 refine Qs ?_
 repeat' first|apply jS|apply jO|apply jT|refine QA (h:=fun _=>?_)|apply jK|refine Q4 rfl ?_
 refine Qd (A:=[_,_]) (B:=[]) rfl pqq rfl eqq rfl (fun w hk hs=>s_Of (X:=[[2,4]]) (r:=1) (c:=2) (e:=[2,4]) (by kernel_rfl) rfl w _ (Q3g _ (ZV hs 0 rfl) (WW [2,4] (ZV hs 1 rfl) rfl rfl)) dq dq (Q2x dq)) fun w v w' _ _ _ hR=>?_
 obtain⟨Na,Aa,ka,hNa,rfl,hOa⟩:=hR
 refine⟨Na,hNa,?_⟩
 repeat' first|refine Q2 ?_|refine Qc fun _=>?_|refine Q2 ?_|apply jN
 rename_i ba
 refine JX.part (F':=[(2,.pointer (some ⟨ba,0,none⟩))]) (H':=[(ba,.cells #[nv 1,nv 2,.slice Aa (1*2) ka] 26)]++(Na++[])) cqq Qz ?_
 refine Qs ?_
 repeat' first|apply jS|refine Q7 ?_|refine QA (h:=fun _=>?_)|apply jD
 refine Qd (A:=[_,_]) (B:=Na++[]) rfl pqq rfl eqq rfl (fun w hk hs=>W9 [6] (ZV hs 0 rfl) rfl rfl dq dq) fun w v w' _ _ _ hR=>?_
 obtain⟨N3,hN3,hO3⟩:=hR
 obtain⟨A3,k3,rfl⟩:=hO3.form
 refine⟨N3,hN3,?_⟩
 skip
 refine Qd (A:=[_,_]) (B:=N3++(Na++[])) rfl pqq rfl eqq rfl (fun w hk hs=>Qkl w _ _ _ (hOa.rd.at hk hs Q5) (hO3.rd.at hk hs Q5)) fun w v w' _ _ _ hR=>?_
 obtain⟨Nx,Ax,kx,hNx,rfl,hOx⟩:=hR
 refine⟨Nx,hNx,?_⟩
 repeat' first|refine Q1 ?_|refine Q0 ?_|refine Qn (h:=?_)|apply jN
 refine JX.part (F':=[(4,.bool true),(3,.slice Ax 2 kx),(2,.pointer (some ⟨ba,0,none⟩))]) (H':=[(ba,.cells #[nv 1,nv 2,.slice Aa (1*2) ka] 26)]++(Nx++(Na++[]))) cqq (HSub.skip (HSub.at 0 rfl (by
  show HSub (Nx++(Na++[])) (Nx++(N3++(Na++[])))
  exact ZO (Qj (HSub.refl _))))) ?_
 refine Qs ?_
 repeat' first|apply jS|refine Q7 ?_|refine QA (h:=fun _=>?_)|apply jD
 refine Qd (A:=[_,_]) (B:=Nx++(Na++[])) rfl pqq rfl eqq rfl (fun w hk hs=>W9 [5] (ZV hs 0 rfl) rfl rfl dq dq) fun w v w' _ _ _ hR=>?_
 obtain⟨N3,hN3,hO3⟩:=hR
 obtain⟨A3,k3,rfl⟩:=hO3.form
 refine⟨N3,hN3,?_⟩
 skip
 refine Qd (A:=[_,_]) (B:=N3++(Nx++(Na++[]))) rfl pqq rfl eqq rfl (fun w hk hs=>Qnj w _ _ _ (hOa.rd.at hk hs Q5) (hO3.rd.at hk hs Q5)) fun w v w' _ _ _ hR=>?_
 obtain⟨Ny,Ay,ky,hNy,rfl,hOy⟩:=hR
 refine⟨Ny,hNy,?_⟩
 repeat' first|refine Q1 ?_|refine Q0 ?_|refine Qn (h:=?_)|refine Q2 ?_|refine Qc fun _=>?_|refine Q2 ?_|apply jN
 rename_i bm
 refine JX.part (F':=[(7,.bool true),(6,.pointer (some ⟨bm,0,none⟩)),(5,.slice Ay 1 ky),(4,.bool true),(3,.slice Ax 2 kx),(2,.pointer (some ⟨ba,0,none⟩))]) (H':=[(bm,.cells #[.bool (decide ((2:Int)<0)),sv (magU (Int.natAbs 2))] 35),(ba,.cells #[nv 1,nv 2,.slice Aa (1*2) ka] 26)]++(Ny++(Nx++(Na++[])))) cqq (HSub.at 0 rfl (HSub.skip (HSub.at 0 rfl (by
  show HSub (Ny++(Nx++(Na++[]))) (Ny++(N3++(Nx++(Na++[]))))
  exact ZO (Qj (HSub.refl _)))))) ?_
 refine Qs ?_
 repeat' first|apply jS|refine QA (h:=fun _=>?_)|apply jO
 refine Qd (A:=[_,_,_,_,_]) (B:=Ny++(Nx++(Na++[]))) rfl pqq rfl eqq rfl (fun w hk hs=>s_Of (X:=[[1,0],[1,0]]) (r:=2) (c:=2) (e:=[1,0,1,0]) (by kernel_rfl) rfl w _ (Wp _ _ (ZV hs 0 rfl) (WW [1,0] (ZV hs 2 rfl) rfl rfl) (WW [1,0] (ZV hs 1 rfl) rfl rfl)) dq dq (Q2x dq)) fun w v w' _ _ _ hR=>?_
 obtain⟨Nb,Ab,kb,hNb,rfl,hOb⟩:=hR
 refine⟨Nb,hNb,?_⟩
 repeat' first|refine Q2 ?_|refine Qc fun _=>?_|refine Q2 ?_|apply jN
 rename_i bb
 refine JX.part (F':=[(8,.pointer (some ⟨bb,0,none⟩)),(7,.bool true),(6,.pointer (some ⟨bm,0,none⟩)),(5,.slice Ay 1 ky),(4,.bool true),(3,.slice Ax 2 kx),(2,.pointer (some ⟨ba,0,none⟩))]) (H':=[(bb,.cells #[nv 2,nv 2,.slice Ab (2*2) kb] 26),(bm,.cells #[.bool (decide ((2:Int)<0)),sv (magU (Int.natAbs 2))] 35),(ba,.cells #[nv 1,nv 2,.slice Aa (1*2) ka] 26)]++(Nb++(Ny++(Nx++(Na++[]))))) cqq (HSub.at 0 rfl (HSub.skip (HSub.skip (HSub.skip (HSub.refl _))))) ?_
 refine Qs ?_
 repeat' first|apply jS|refine Q7 ?_|refine QA (h:=fun _=>?_)|apply jD
 refine Qd (A:=[_,_,_,_]) (B:=Nb++(Ny++(Nx++(Na++[])))) rfl pqq rfl eqq rfl (fun w hk hs=>W9 [1,2] (ZV hs 0 rfl) rfl rfl dq dq) fun w v w' _ _ _ hR=>?_
 obtain⟨N3,hN3,hO3⟩:=hR
 obtain⟨A3,k3,rfl⟩:=hO3.form
 refine⟨N3,hN3,?_⟩
 skip
 refine Qd (A:=[_,_,_,_]) (B:=N3++(Nb++(Ny++(Nx++(Na++[]))))) rfl pqq rfl eqq rfl (fun w hk hs=>Qni w _ _ _ (hOb.rd.at hk hs Q5) (hO3.rd.at hk hs Q5)) fun w v w' _ _ _ hR=>?_
 obtain⟨Nz,Az,kz,hNz,rfl,hOz⟩:=hR
 refine⟨Nz,hNz,?_⟩
 repeat' first|refine Q1 ?_|refine Q0 ?_|refine Qn (h:=?_)|refine Q2 ?_|refine Qc fun _=>?_|refine Q2 ?_|apply jN
 rename_i bn
 refine JX.part (F':=[(11,.bool true),(10,.pointer (some ⟨bn,0,none⟩)),(9,.slice Az 2 kz),(8,.pointer (some ⟨bb,0,none⟩)),(7,.bool true),(6,.pointer (some ⟨bm,0,none⟩)),(5,.slice Ay 1 ky),(4,.bool true),(3,.slice Ax 2 kx),(2,.pointer (some ⟨ba,0,none⟩))]) (H':=[(bn,.cells #[.bool (decide ((0:Int)<0)),sv (magU (Int.natAbs 0))] 35),(bb,.cells #[nv 2,nv 2,.slice Ab (2*2) kb] 26),(bm,.cells #[.bool (decide ((2:Int)<0)),sv (magU (Int.natAbs 2))] 35),(ba,.cells #[nv 1,nv 2,.slice Aa (1*2) ka] 26)]++(Nz++(Nb++(Ny++(Nx++(Na++[])))))) cqq (HSub.at 0 rfl (HSub.skip (HSub.at 0 rfl (HSub.at 0 rfl (HSub.at 0 rfl (by
  show HSub (Nz++(Nb++(Ny++(Nx++(Na++[]))))) (Nz++(N3++(Nb++(Ny++(Nx++(Na++[]))))))
  exact ZO (Qj (HSub.refl _)))))))) ?_
 refine Qs ?_
 repeat' first|apply jS|refine Q1 ?_|refine Q7 ?_|refine QP (h:=?_)|refine QA (h:=fun _=>?_)|apply jD
 refine Qd (A:=[_,_,_,_,_]) (B:=Nz++(Nb++(Ny++(Nx++(Na++[]))))) rfl pqq rfl eqq rfl (fun w hk hs=>W9 [6] (ZV hs 0 rfl) rfl rfl dq dq) fun w v w' _ _ _ hR=>?_
 obtain⟨M1,hM1,hOM1⟩:=hR
 obtain⟨AM1,kM1,rfl⟩:=hOM1.form
 refine⟨M1,hM1,?_⟩
 skip
 refine Q6 pqq rfl eqq rfl (fun w hk hs=>Qnh w _ _ _ _ (hOa.rd.at hk hs Q5) (hOx.rd.at hk hs Q5) (hOM1.rd.at hk hs Q5)) fun w v w' _ _ _ hR=>?_
 subst hR
 repeat' first|refine Q1 ?_|refine Q7 ?_|refine Qx (h:=?_)|refine QP (h:=?_)|refine QA (h:=fun _=>?_)|fail
 refine Qd (A:=[_,_,_,_,_,_]) (B:=M1++(Nz++(Nb++(Ny++(Nx++(Na++[])))))) rfl pqq rfl eqq rfl (fun w hk hs=>W9 [5] (ZV hs 0 rfl) rfl rfl dq dq) fun w v w' _ _ _ hR=>?_
 obtain⟨M2,hM2,hOM2⟩:=hR
 obtain⟨AM2,kM2,rfl⟩:=hOM2.form
 refine⟨M2,hM2,?_⟩
 skip
 refine Q6 pqq rfl eqq rfl (fun w hk hs=>Qkk w _ _ _ _ (hOa.rd.at hk hs Q5) (hOM2.rd.at hk hs Q5) (hOy.rd.at hk hs Q5)) fun w v w' _ _ _ hR=>?_
 subst hR
 repeat' first|refine Q1 ?_|refine Q7 ?_|refine Qx (h:=?_)|refine QP (h:=?_)|refine QA (h:=fun _=>?_)|fail
 refine Qd (A:=[_,_,_,_,_,_,_]) (B:=M2++(M1++(Nz++(Nb++(Ny++(Nx++(Na++[]))))))) rfl pqq rfl eqq rfl (fun w hk hs=>W9 [1,2] (ZV hs 0 rfl) rfl rfl dq dq) fun w v w' _ _ _ hR=>?_
 obtain⟨M3,hM3,hOM3⟩:=hR
 obtain⟨AM3,kM3,rfl⟩:=hOM3.form
 refine⟨M3,hM3,?_⟩
 skip
 refine Q6 pqq rfl eqq rfl (fun w hk hs=>Qkj w _ _ _ _ (hOb.rd.at hk hs Q5) (hOM3.rd.at hk hs Q5) (hOz.rd.at hk hs Q5)) fun w v w' _ _ _ hR=>?_
 subst hR
 repeat' first|refine Qx (h:=?_)|refine QP (h:=?_)|apply jN
 refine JX.part (F':=[(116,.bool false)]) (H':=[]) cqq (HSub.nil _) ?_
 refine Qs ?_
 repeat' first|apply jS|apply jO|apply jT|apply jK|refine Q4 rfl ?_
 refine Qd (A:=[]) (B:=[]) rfl pqq rfl eqq rfl (fun w hk hs=>Qnk w) fun w v w' _ _ _ hR=>?_
 obtain⟨No,Ao,ko,hNo,rfl,hOo⟩:=hR
 refine⟨No,hNo,?_⟩
 repeat' first|refine QA (h:=fun _=>?_)|fail
 refine Qd (A:=[_,_,_]) (B:=No++[]) rfl pqq rfl eqq rfl (fun w hk hs=>s_Of (X:=[[2,0],[0,3]]) (r:=2) (c:=2) (e:=[2,0,0,3]) (by kernel_rfl) rfl w _ (Wp _ _ (ZV hs 0 rfl) (WW [2,0] (ZV hs 2 rfl) rfl rfl) (WW [0,3] (ZV hs 1 rfl) rfl rfl)) dq dq (Q2x dq)) fun w v w' _ _ _ hR=>?_
 obtain⟨Np,Ap,kp,hNp,rfl,hOp⟩:=hR
 refine⟨Np,hNp,?_⟩
 skip
 refine Qd (A:=[_,_,_]) (B:=Np++(No++[])) rfl pqq rfl eqq rfl (fun w hk hs=>Qkq w _ _ _ _ (hOo.rd.at hk hs Q5) (hOp.rd.at hk hs Q5)) fun w v w' _ _ _ hR=>?_
 obtain⟨Nt,At,kt,Ag,kg,hNt,hOt,rfl⟩:=hR
 refine⟨Nt,hNt,?_⟩
 repeat' first|refine Q1 ?_|refine Q0 ?_|refine Qn (h:=?_)|refine Q2 ?_|refine Qc fun _=>?_|refine Q2 ?_|apply jN
 rename_i bg
 refine JX.part (F':=[(15,.bool true),(13,nv 0),(12,.slice At 1 kt),(14,.pointer (some ⟨bg,0,none⟩)),(116,.bool false)]) (H':=[(bg,.cells #[nv 2,nv 1,.slice Ag (2*1) kg] 26)]++(Nt++[])) cqq Qz ?_
 refine Qs ?_
 repeat' first|apply jS|apply jO
 refine Qd (A:=[_]) (B:=Nt++[]) rfl pqq rfl eqq rfl (fun w hk hs=>Qnk w) fun w v w' _ _ _ hR=>?_
 obtain⟨No,Ao,ko,hNo,rfl,hOo⟩:=hR
 refine⟨No,hNo,?_⟩
 repeat' first|refine QA (h:=fun _=>?_)|fail
 refine Qd (A:=[_,_,_,_]) (B:=No++(Nt++[])) rfl pqq rfl eqq rfl (fun w hk hs=>s_Of (X:=[[2],[4]]) (r:=2) (c:=1) (e:=[2,4]) (by kernel_rfl) rfl w _ (Wp _ _ (ZV hs 0 rfl) (WW [2] (ZV hs 2 rfl) rfl rfl) (WW [4] (ZV hs 1 rfl) rfl rfl)) dq dq (Q2x dq)) fun w v w' _ _ _ hR=>?_
 obtain⟨Np,Ap,kp,hNp,rfl,hOp⟩:=hR
 refine⟨Np,hNp,?_⟩
 skip
 refine Qd (A:=[_,_,_,_]) (B:=Np++(No++(Nt++[]))) rfl pqq rfl eqq rfl (fun w hk hs=>Qkp w _ _ _ _ (hOo.rd.at hk hs Q5) (hOp.rd.at hk hs Q5)) fun w v w' _ _ _ hR=>?_
 obtain⟨Nu,Au,ku,Ah,kh,hNu,hOu,rfl⟩:=hR
 refine⟨Nu,hNu,?_⟩
 repeat' first|refine Q1 ?_|refine Q0 ?_|refine Qn (h:=?_)|refine Q2 ?_|refine Qc fun _=>?_|refine Q2 ?_|apply jN
 rename_i bh
 refine JX.part (F':=[(17,nv 1),(16,.slice Au 1 ku),(15,.bool true),(13,nv 0),(12,.slice At 1 kt),(14,.pointer (some ⟨bg,0,none⟩)),(116,.bool false)]) (H':=[(bg,.cells #[nv 2,nv 1,.slice Ag (2*1) kg] 26)]++(Nu++(Nt++[]))) cqq (HSub.at 4 rfl (by
  show HSub (Nu++(Nt++[])) _
  simp only[List.cons_append,List.nil_append]
  exact HSub.skip (HSub.skip (HSub.skip (HSub.skip (ZO (Qj (Qj (HSub.refl _))))))))) ?_
 refine Qs ?_
 repeat' first|apply jS|refine Q1 ?_|refine QA (h:=fun _=>?_)|apply jO
 refine Qd (A:=[_,_]) (B:=Nu++(Nt++[])) rfl pqq rfl eqq rfl (fun w hk hs=>W9 [6] (ZV hs 0 rfl) rfl rfl dq dq) fun w v w' _ _ _ hR=>?_
 obtain⟨M1,hM1,hOM1⟩:=hR
 obtain⟨AM1,kM1,rfl⟩:=hOM1.form
 refine⟨M1,hM1,?_⟩
 skip
 refine Q6 pqq rfl eqq rfl (fun w hk hs=>Qd3 w _ _ 6 dq (hOt.rd.at hk hs Q5) (hOM1.rd.at hk hs Q5)) fun w v w' _ _ _ hR=>?_
 subst hR
 repeat' first|refine Q1 ?_|refine Q3 ?_|refine Qb ?_|refine Ql ?_|(refine QU (h1:=?_) (h2:=?_)<;>intro hc<;>try (exfalso;omega))|refine QA (h:=fun _=>?_)|fail
 refine Qd (A:=[_,_,_]) (B:=M1++(Nu++(Nt++[]))) rfl pqq rfl eqq rfl (fun w hk hs=>W9 [2] (ZV hs 0 rfl) rfl rfl dq dq) fun w v w' _ _ _ hR=>?_
 obtain⟨M2,hM2,hOM2⟩:=hR
 obtain⟨AM2,kM2,rfl⟩:=hOM2.form
 refine⟨M2,hM2,?_⟩
 skip
 refine Q6 pqq rfl eqq rfl (fun w hk hs=>Qd3 w _ _ 2 dq (hOu.rd.at hk hs Q5) (hOM2.rd.at hk hs Q5)) fun w v w' _ _ _ hR=>?_
 subst hR
 repeat' first|refine Q1 ?_|refine Q0 ?_|refine Ql ?_|(refine QU (h1:=?_) (h2:=?_)<;>intro hc<;>try (exfalso;omega))|apply jN
 refine Qs ?_
 repeat' first|apply jR
 exact Qh rfl (fun a w' st=>⟨st.kp,rfl⟩)


end Go.Proofs.YtljmapfihjkafaaGreatDoor

namespace Go.Proofs.YtljmapfihjkafaaGreatDoor
open Go Go.RowKit Go.ChangeShapes Go.WideShapes Go.ChangeAt
set_option linter.unusedSimpArgs false
set_option linter.unusedVariables false
set_option linter.unusedSectionVars false

theorem own:ownKnob Tryz.prog.godebug=none:=by kernel_rfl
theorem laidOut:laidOutB Tryz.prog=true:=by kernel_rfl

theorem Qok {n:Int} (h:(Lit.int .i64 n).wf=true):I64 n:=by
 have hmin:IntKind.i64.min = -9223372036854775808:=by decide
 have hmax:IntKind.i64.max=9223372036854775807:=by decide
 simp only[Lit.wf,Bool.and_eq_true,decide_eq_true_eq,hmin,hmax]at h
 unfold I64
 omega
theorem Qi0 {l:List Int} (h:∀ n∈l,I64 n) (i:Nat):I64 (l.getD i 0):=by
 rw[List.getD]
 cases hi:l[i]? with
 | none=>exact⟨by decide,by decide⟩
 | some x=>exact h x (List.mem_of_getElem? hi)


def IsL (w:World) (v:Value) (L:List Int):Prop:=(∀ i,I64 (L.getD i 0))∧WI w v L.length L∧L.length<9223372036854775808
theorem IsL.mono {w w':World} {v:Value} {L:List Int} (h:IsL w v L) (hk:Kp [] w w'):IsL w' v L:=⟨h.1,h.2.1.mono hk,h.2.2⟩

theorem Q3h {H:Type} {enc:TypeId × Value→H} {w:World} {held:Bool} {v:Value} {n base:Nat} {sp:Nat→Bool} {y:DataW H × List MemPlace}
  (hf:DataW.trod enc Tryz.prog w base sp held n 48 [v]=some y):∃ L,IsL w v L:=by
 rcases open_ints Tryz.underlying48 Tryz.underlying3 (by kernel_rfl) hf with ⟨hcs,_⟩|⟨x,l,c,zs,hcs,_,hl,hm,hz,_,hcell,hwz⟩
 ·simp only[List.cons.injEq,and_true]at hcs
  subst hcs
  exact⟨[],fun i=>⟨by simp,by simp⟩,⟨rfl,none,0,rfl,Nat.le_refl _,fun h=>absurd h (Nat.lt_irrefl _)⟩,by simp⟩
 ·simp only[List.cons.injEq,and_true]at hcs
  subst hcs
  unfold maxLen at hm
  have hlz:l≤zs.length:=by rw[hz];split<;>omega
  have hz2:zs.length≤c:=by rw[hz];split<;>omega
  have hlen:(zs.take l).length=l:=by simp;omega
  refine⟨zs.take l,Qi0 fun n hn=>Qok (hwz n (List.mem_of_mem_take hn)),?_,by omega⟩
  rw[hlen]
  refine⟨by simp;omega,some x,c,rfl,hl,fun h0=>?_⟩
  obtain⟨b,o,sp⟩:=x
  have hsp:sp=none:=by
   have:=hcell 0 oq
   cases sp with
   | none=>rfl
   | some s =>
    simp only[Addr.add,if_true,World.cell?]at this
    split at this<;>simp at this
  subst hsp
  refine⟨⟨b,o,rfl⟩,fun j u hu=>?_⟩
  simp only[vAt]
  rw[List.getElem?_map,List.getElem?_take]at hu
  split at hu
  ·rename_i hj
   have hjz:j<zs.length:=by omega
   rw[YH (d:=0) hjz]at hu
   cases hu
   rw[← Z4]
   exact hcell j hjz
  ·cases hu

set_option maxRecDepth 100000 in
theorem Qe2 {H:Type} {enc:TypeId × Value→H} {w:World} {r:Reach} {b0:Nat} {held:Bool} {v:Value} {d:DataW H} {ps:List MemPlace} (hv:Value.okWide Tryz.prog w r b0 48 v)
  (h:DataW.Trod enc Tryz.prog w 0 (fun _=>true) held 48 v d ps):∃ L,IsL w v L:=by
 obtain⟨a1,len,cap,rfl⟩:=okWide_slice Tryz.underlying48 hv
 obtain⟨fuel,hf⟩:=h
 exact Q3h (show DataW.trod enc Tryz.prog w 0 (fun _=>true) held fuel 48 [.slice a1 len cap]=some _ from hf)

theorem Q80 {H:Type} {enc:TypeId × Value→H} {P:Program} {w:World} {base:Nat} {sp:Nat→Bool} {held:Bool} {fuel sz:Nat} {t e:TypeId} {cs:List Value} {y:DataW H × List MemPlace} (ht:P.underlying t=some (.slice e)) (hc:P.cellsOf e=sz) (h0:0<sz)
  (h : DataW.trod enc P w base sp held fuel t cs = some y) : cs = [.slice none 0 0] ∨ ∃ (A : Option Addr) (len cap : Nat) (f : Nat → List Value), cs = [.slice A len cap] ∧ len < 9223372036854775808 ∧ (∀ i, i < len → (f i).length = sz ∧ ∃ n z, DataW.trod enc P w base sp held n e (f i) = some z) ∧
   RdW w sz (.slice A len cap) len ((List.range len).flatMap f):=by
 rcases DataW.trod_slice ht h with ⟨h1,_⟩|⟨a,len,cap,elems,rest,n,_,rfl,_,hb,hl,hm,hlen,hel,_,_⟩
 ·exact .inl h1
 right
 have hs0:0<len→a.spot=none:=fun hp=>by
  have h1:=hel 0 hp
  rw[List.getElem?_eq_getElem oq,Option.bind_eq_some_iff,hc]at h1
  obtain⟨l,hl1,hl2⟩:=h1
  obtain⟨_,h3,h4⟩:=World.cells?_some hl1
  have h5:=h4 0 oq
  rw[List.getElem?_eq_getElem oq]at h5
  obtain⟨b,o,s⟩:=a
  cases s with
  | none=>rfl
  | some s =>
   simp only[Addr.add,World.cell?,Nat.zero_mul,if_true]at h5
   split at h5<;>simp at h5
 have each:∀ i,i<len→∃ l:List Value,l.length=sz∧(∃ z,DataW.trod enc P w base sp held n e l=some z)∧∀ j,j<sz→w.cell? (a.add (i*sz+j))=l[j]?:=fun i hi=>by
  have h1:=hel i hi
  rw[List.getElem?_eq_getElem oq,Option.bind_eq_some_iff,hc]at h1
  obtain⟨l,hl1,hl2⟩:=h1
  obtain⟨_,h3,h4⟩:=World.cells?_some hl1
  refine⟨l,h3,⟨_,hl2⟩,fun j hj=>?_⟩
  rw[← h4 j hj]
  congr 1
  obtain⟨b,o,s⟩:=a
  obtain rfl:s=none:=hs0 oq
  rw[Z4,Z4,Z4,Nat.add_assoc]
 have:∃ f:Nat→List Value,∀ i,i<len→(f i).length=sz∧(∃ z,DataW.trod enc P w base sp held n e (f i)=some z)∧∀ j,j<sz→w.cell? (a.add (i*sz+j))=(f i)[j]?:=by
  refine⟨fun i=>if hi:i<len then (each i hi).choose else [],fun i hi=>?_⟩
  simp only[dif_pos hi]
  exact(each i hi).choose_spec
 obtain⟨f,hf⟩:=this
 unfold maxLen at hm
 have hfl:∀ k,k≤len→((List.range k).flatMap f).length=k*sz∧∀ i,i<k→∀ j,j<sz→((List.range k).flatMap f)[i*sz+j]?=(f i)[j]?:=fun k=>by
  induction k with
  | zero=>intro _;exact⟨by simp,fun i hi=>absurd hi (Nat.not_lt_zero _)⟩
  | succ k ih =>
   intro hk
   obtain⟨h1,h2⟩:=ih oq
   have h3:=(hf k oq).1
   rw[List.range_succ,List.flatMap_append]
   refine⟨by simp[h1,h3,Nat.add_mul],fun i hi j hj=>?_⟩
   by_cases hik:i<k
   ·have:i*sz+j<k*sz:=by
     have:=Nat.mul_le_mul_right sz (show i+1≤k by omega)
     rw[Nat.add_mul,Nat.one_mul]at this
     omega
    rw[List.getElem?_append_left oq]
    exact h2 i hik j hj
   ·obtain rfl:i=k:=by omega
    rw[List.getElem?_append_right oq,h1,Nat.add_sub_cancel_left]
    simp
 refine⟨some a,len,cap,f,rfl,by omega,fun i hi=>⟨(hf i hi).1,_,(hf i hi).2.1⟩,(hfl len (Nat.le_refl _)).1,some a,cap,rfl,hl,fun hp=>?_⟩
 obtain⟨b,o,s⟩:=a
 have hs:s=none:=hs0 hp
 subst hs
 refine⟨⟨b,o,rfl⟩,fun j u hu=>?_⟩
 have hj:j<len*sz:=by
  have:=(List.getElem?_eq_some_iff.1 hu).1
  rw[(hfl len (Nat.le_refl _)).1]at this
  exact this
 have hi2:j / sz<len:=(Nat.div_lt_iff_lt_mul h0).2 hj
 have hm2:=Nat.mod_lt j h0
 have hdm:j / sz*sz+j % sz=j:=by rw[Nat.mul_comm];exact Nat.div_add_mod j sz
 have h3:=(hf _ hi2).2.2 _ hm2
 rw[← (hfl len (Nat.le_refl _)).2 _ hi2 _ hm2,hdm,Z4]at h3
 simp only[vAt]
 rw[h3,hu]

def IsLL (w:World) (v:Value) (X:List (List Int)):Prop:=X.length<9223372036854775808∧∃ ss:List Value,RdW w 1 v X.length ss∧∀ i,i<X.length→IsL w (ss.getD i (iv 0)) (X.getD i [])
theorem IsLL.mono {w w':World} {v:Value} {X:List (List Int)} (h:IsLL w v X) (hk:Kp [] w w'):IsLL w' v X:=by
 obtain⟨h0,ss,h1,h2⟩:=h
 exact⟨h0,ss,h1.mono hk,fun i hi=>(h2 i hi).mono hk⟩
theorem Q6o {f:Nat→List Value}:∀ {n:Nat},(∀ i,i<n→(f i).length=1)→(List.range n).flatMap f=(List.range n).map fun i=>(f i).getD 0 (iv 0)
 | 0,_=>rfl
 | n+1,h=>by
  rw[List.range_succ,List.flatMap_append,List.map_append,Q6o fun i hi=>h i oq]
  have:=h n oq
  congr 1
  simp only[List.flatMap_singleton,List.map_singleton]
  match hf:f n,this with
  | [a],_=>rfl

set_option maxRecDepth 100000 in
theorem Qbg {H:Type} {enc:TypeId × Value→H} {w:World} {r:Reach} {b0:Nat} {held:Bool} {v:Value} {d:DataW H} {ps:List MemPlace} (hv:Value.okWide Tryz.prog w r b0 22 v)
  (h:DataW.Trod enc Tryz.prog w 0 (fun _=>true) held 22 v d ps):∃ X,IsLL w v X:=by
 obtain⟨a1,len,cap,rfl⟩:=okWide_slice Tryz.underlying22 hv
 obtain⟨fuel,hf⟩:=h
 have hc:Tryz.prog.cellsOf 48=1:=by kernel_rfl
 rcases Q80 (cs:=[.slice a1 len cap]) Tryz.underlying22 hc oq (show DataW.trod enc Tryz.prog w 0 (fun _=>true) held fuel 22 [.slice a1 len cap]=some _ from hf)with hcs|⟨A,l,c,f,hcs,hl,hall,hR⟩
 ·simp only[List.cons.injEq,and_true,Value.slice.injEq]at hcs
  obtain⟨rfl,rfl,rfl⟩:=hcs
  exact⟨[],by simp,[],⟨rfl,none,0,rfl,Nat.le_refl _,fun h=>absurd h (Nat.lt_irrefl _)⟩,fun i hi=>absurd hi (Nat.not_lt_zero _)⟩
 ·simp only[List.cons.injEq,and_true,Value.slice.injEq]at hcs
  obtain⟨rfl,rfl,rfl⟩:=hcs
  rw[Q6o fun i hi=>(hall i hi).1]at hR
  have each:∀ i,i<len→∃ L,IsL w ((f i).getD 0 (iv 0)) L:=fun i hi=>by
   obtain⟨h1,n,z,h2⟩:=hall i hi
   match hfi:f i,h1 with
   | [a],_ =>
    rw[hfi]at h2
    exact Q3h h2
  have:∃ g:Nat→List Int,∀ i,i<len→IsL w ((f i).getD 0 (iv 0)) (g i):=⟨fun i=>if hi:i<len then (each i hi).choose else [],fun i hi=>by simp only[dif_pos hi];exact(each i hi).choose_spec⟩
  obtain⟨g,hg⟩:=this
  refine⟨(List.range len).map g,by simpa using hl,_,by simpa using hR,fun i hi=>?_⟩
  have hi:i<len:=by simpa using hi
  have:=hg i hi
  simpa [List.getD,List.getElem?_map,List.getElem?_range hi] using this



end Go.Proofs.YtljmapfihjkafaaGreatDoor

namespace Go.Proofs.YtljmapfihjkafaaGreatDoor
open Go Go.RowKit
set_option linter.unusedSimpArgs false
set_option linter.unusedVariables false
set_option linter.unusedSectionVars false

theorem IsLL.rows {w:World} {v:Value} {X:List (List Int)} (h:IsLL w v X):IsRows w v X:=by
 obtain⟨_,ss,h1,h2⟩:=h
 exact⟨ss,h1,fun i hi=>(h2 i hi).2.1⟩
theorem IsLL.lens {w:World} {v:Value} {X:List (List Int)} (h:IsLL w v X):X.length<9223372036854775808∧∀ i,i<X.length→(X.getD i []).length<9223372036854775808:=by
 obtain⟨h0,ss,h1,h2⟩:=h
 exact⟨h0,fun i hi=>(h2 i hi).2.2⟩
theorem Qnc (X:List (List Int)) (f:Int):RtZ (ofZ (smX X f)):=YN (by rw[Q08];omega) (Nat.le_trans (Qa7 _ (Qcn X f) _) oq)
theorem Qpd (X:List (List Int)) (f:Int):BdZ 1 (ofZ (smX X f)):=BdZ.of fun i j _ _=>Nat.lt_of_le_of_lt (Qj1 X f i j) dq
theorem sm_r (X:List (List Int)) (f:Int):(ofZ (smX X f)).r≤5:=by show (smX X f).length≤5;rw[Q08];omega
theorem sm_c (X:List (List Int)) (f:Int):(ofZ (smX X f)).c≤5:=Qa7 _ (Qcn X f) _
theorem Qhw (L:List Int) (n s k:Nat) {K:Nat} (h:s<256 ^ K):BdL K (listL L n s k):=fun i=>by
 unfold listL
 rw[List.getD,List.getElem?_map]
 by_cases hi:i<k
 ·rw[List.getElem?_range hi]
  exact Nat.lt_of_le_of_lt (Qab L n s i) h
 ·rw[List.getElem?_eq_none (by simpa using hi)]
  exact Nat.pow_pos dq

theorem Qgc {D:ZM} {cs:List Int} {i:Nat} (h:wrongF D cs=some i):i<D.r:=by
 unfold wrongF at h
 exact List.mem_range.1 (List.mem_of_find?_eq_some h)

theorem Qig (K fc f L i:Nat) (w0:World) (v u:Value) (a:ZM) (bs:List Int) (S':Sm) (ha:RtZ a) (hv:IsM w0 v a) (hu:WZ w0 u a.r bs) (hK:K+1+K+1+L+2≤3500000000000) (hb:BdZ (K+1) a) (hL:BdL L bs)
  (hf:formF (K+1) fc f a.r a.c (min a.r a.c) 0 (startS a.r a.c (rowsOf a))=some S') (hw:wrongF (gM a.r a.c S'.d) (appL (gM a.r a.r S'.u) bs)=some i) :
  Calls Tryz.prog 37 #[v,u] w0 (Ret fun v w'=>Kp [] w0 w'∧v=.tuple #[.slice none 0 0,.bool false]):=by
 have hv0:=hv
 have hr:=ha.r
 have hac:=ha.c
 have hbS:=YV hf (Yd ha hb)
 obtain⟨E,rfl,hE⟩:=hv
 obtain⟨A0,c0,rfl⟩:=hE.form
 obtain⟨A1,c1,rfl⟩:=hu.form
 refine Q9 [⟨12,2,[],[]⟩] [] spq [] Tryz.func37 rfl mixed (by kernel_rfl) Tryz.ntmps37 Tryz.results37 rfl ⟨by simp,by simp⟩ spq ?_
 simp only[toS,textOps,toSOp,kindAt,kindOf,odAt,sopsAt,ordOf,zipF]
 repeat' first|apply jS|apply jO|apply jN|refine Q1 ?_|refine Q0 ?_|refine Q7 ?_|refine Qt fun _=>?_|apply jT
 rename_i b2
 refine Qd (A:=[_]) (B:=[]) rfl pqq rfl eqq rfl (fun w hk hs=>Qas K fc f L w _ _ a bs S' ha (hv0.mono hk) (hu.mono hk) oq hb hL hf) fun w v w' _ _ _ hR=>?_
 obtain⟨N1,N2,N3,N4,N5,N6,E1,E2,E3,E4,E5,E6,rfl,hD,hN,hO1,hO3,hO4,hO6,⟨A2',c2',rfl⟩,⟨A5',c5',rfl⟩⟩:=hR
 obtain⟨A1',c1',rfl⟩:=hO1.form
 obtain⟨A3',c3',rfl⟩:=hO3.form
 obtain⟨A4',c4',rfl⟩:=hO4.form
 obtain⟨A6',c6',rfl⟩:=hO6.form
 refine⟨_,hN,?_⟩
 have hUr:RtZ (gM a.r a.r S'.u):=Xs hD.u hr hr
 have hDr:RtZ (gM a.r a.c S'.d):=Xs hD.d hr hac
 have hVr:RtZ (gM a.c a.c S'.v):=Xs hD.v hac hac
 have hUb:BdZ (K+1) (gM a.r a.r S'.u):=YG hD.u hbS.u hr hr
 have hDb:BdZ (K+1) (gM a.r a.c S'.d):=YG hD.d hbS.d hr hac
 have hVb:BdZ (K+1) (gM a.c a.c S'.v):=YG hD.v hbS.v hac hac
 have hcb:BdL (K+1+L+1) (appL (gM a.r a.r S'.u) bs):=Q61 hUr hUb hL
 obtain⟨cs,hcs⟩:∃ cs,cs=appL (gM a.r a.r S'.u) bs:=⟨_,rfl⟩
 rw[← hcs]at hw hO6 hcb
 unfold eqC
 repeat' first|apply jS|apply jO|apply jN|apply jT|refine Q1 ?_|refine Q0 ?_|refine Q7 ?_|refine QP (h:=?_)|refine Qn (h:=?_)|refine Q2 ?_|refine Qc fun _=>?_|refine Q2 ?_|apply jK|refine Q4 rfl ?_
 rename_i b6
 refine Q6 pqq rfl eqq rfl (fun w hk hs=>Q5s (K+1+L+1) w _ _ _ _ _ _ (gM a.r a.c S'.d) a.r a.c cs hDr rfl rfl (hO3.rd.at hk hs (by simp only[List.cons_append,List.nil_append,List.append_assoc,List.append_nil,List.set_cons_zero];exact HSub.skip (HSub.skip (Qj (Qj (Qj Qv)))))) (hO6.rd.at hk hs (by simp only[List.cons_append,List.nil_append,List.append_assoc,List.append_nil,List.set_cons_zero];exact HSub.skip (HSub.skip (Qv)))) oq (fun i=>Y6 (hDb i) oq) hcb) fun w v w' _ _ _ hR=>?_
 unfold wrongV at hR
 rw[hw]at hR
 subst hR
 repeat' first|apply jS|apply jO|apply jN|apply jT|refine Q1 ?_|refine Q0 ?_|refine Qn (h:=?_)|refine Q2 ?_|refine Qc fun _=>?_|refine Q2 ?_|apply jV|apply jR|refine Q8 rfl ?_
 exact Yp rfl rfl (fun a' w' st=>⟨st.kp,rfl⟩)

theorem Q5v (K fc f L:Nat) (w0:World) (v u:Value) (a:ZM) (bs:List Int) (S':Sm) (ha:RtZ a) (hv:IsM w0 v a) (hu:WZ w0 u a.r bs) (hK:K+1+K+1+L+2≤3500000000000) (hb:BdZ (K+1) a) (hL:BdL L bs)
  (hf:formF (K+1) fc f a.r a.c (min a.r a.c) 0 (startS a.r a.c (rowsOf a))=some S') :
  Calls Tryz.prog 37 #[v,u] w0 (Ret fun v w'=>Kp [] w0 w'∧∃ N E n xs,New N w0 w'∧v=.tuple #[E,.bool (decide (wrongF (gM a.r a.c S'.d) (appL (gM a.r a.r S'.u) bs)=none))]∧OwnZ N E n xs∧n≤200):=by
 cases hw:wrongF (gM a.r a.c S'.d) (appL (gM a.r a.r S'.u) bs)with
 | none => exact QC (Q8u K fc f L w0 v u a bs S' ha hv hu hK hb hL hf hw) fun v w' h => ⟨h.1, by
   obtain⟨N,E,h1,h2,h3⟩:=h.2
   exact⟨N,E,_,_,h1,h2,h3,ha.c⟩⟩
 | some i=>exact QC (Qig K fc f L i w0 v u a bs S' ha hv hu hK hb hL hf hw) fun v w' h=>⟨h.1,[],_,0,[],New.nil _ _,h.2,OwnZ.nil,by decide⟩

theorem Qfr (K fc f L:Nat) (w:World) (v u:Value) (a:ZM) (bs:List Int) (S':Sm) (ha:RtZ a) (hv:IsM w v a) (hu:WZ w u a.r bs) (hK:K+1+K+1+L+2≤3500000000000) (hb:BdZ (K+1) a) (hL:BdL L bs)
  (hf:formF (K+1) fc f a.r a.c (min a.r a.c) 0 (startS a.r a.c (rowsOf a))=some S') (hw:wrongF (gM a.r a.c S'.d) (appL (gM a.r a.r S'.u) bs)=none) :
  Calls Tryz.prog 38 #[v,u] w (Ret fun v w'=>Kp [] w w'∧v=.tuple #[.slice none 0 0,Wv 0,.bool false]):=by
 have hv0:=hv
 have hr:=ha.r
 have hac:=ha.c
 have hbS:=YV hf (Yd ha hb)
 obtain⟨E,rfl,hE⟩:=hv
 obtain⟨A0,c0,rfl⟩:=hE.form
 obtain⟨A1,c1,rfl⟩:=hu.form
 refine Q9 [⟨8,2,[0,1,2,3,4,5,6,7,8,9,10,11,13,12,14,15,16],[]⟩] [] spq [] Tryz.func38 rfl mixed (by kernel_rfl) Tryz.ntmps38 Tryz.results38 rfl ⟨by simp,by simp⟩ spq ?_
 simp only[toS,textOps,toSOp,kindAt,kindOf,odAt,sopsAt,ordOf,zipF]
 repeat' first|apply jS|apply jO|apply jN|refine Q1 ?_|refine Q0 ?_|refine Q7 ?_|refine Qc fun _=>?_|refine Qt fun _=>?_|apply jT
 rename_i b2 b5
 refine Qd (A:=[_,_]) (B:=[]) rfl pqq rfl eqq rfl (fun w hk hs=>Qas K fc f L w _ _ a bs S' ha (hv0.mono hk) (hu.mono hk) oq hb hL hf) fun w v w' _ _ _ hR=>?_
 obtain⟨N1,N2,N3,N4,N5,N6,E1,E2,E3,E4,E5,E6,rfl,hD,hN,hO1,hO3,hO4,hO6,⟨A2',c2',rfl⟩,⟨A5',c5',rfl⟩⟩:=hR
 obtain⟨A1',c1',rfl⟩:=hO1.form
 obtain⟨A3',c3',rfl⟩:=hO3.form
 obtain⟨A4',c4',rfl⟩:=hO4.form
 obtain⟨A6',c6',rfl⟩:=hO6.form
 refine⟨_,hN,?_⟩
 have hUr:RtZ (gM a.r a.r S'.u):=Xs hD.u hr hr
 have hDr:RtZ (gM a.r a.c S'.d):=Xs hD.d hr hac
 have hVr:RtZ (gM a.c a.c S'.v):=Xs hD.v hac hac
 have hUb:BdZ (K+1) (gM a.r a.r S'.u):=YG hD.u hbS.u hr hr
 have hDb:BdZ (K+1) (gM a.r a.c S'.d):=YG hD.d hbS.d hr hac
 have hVb:BdZ (K+1) (gM a.c a.c S'.v):=YG hD.v hbS.v hac hac
 have hcb:BdL (K+1+L+1) (appL (gM a.r a.r S'.u) bs):=Q61 hUr hUb hL
 obtain⟨cs,hcs⟩:∃ cs,cs=appL (gM a.r a.r S'.u) bs:=⟨_,rfl⟩
 rw[← hcs]at hw hO6 hcb
 unfold eqC
 repeat' first|apply jS|apply jO|apply jN|apply jT|refine Q1 ?_|refine Q0 ?_|refine Q7 ?_|refine QP (h:=?_)|refine Qn (h:=?_)|refine Q2 ?_|refine Qc fun _=>?_|refine Q2 ?_|apply jK|refine Q4 rfl ?_
 rename_i b7
 refine Q6 pqq rfl eqq rfl (fun w hk hs=>Q5s (K+1+L+1) w _ _ _ _ _ _ (gM a.r a.c S'.d) a.r a.c cs hDr rfl rfl (hO3.rd.at hk hs (by simp only[List.cons_append,List.nil_append,List.append_assoc,List.append_nil,List.set_cons_zero];exact HSub.skip (HSub.skip (HSub.skip (Qj (Qj (Qj Qv))))))) (hO6.rd.at hk hs (by simp only[List.cons_append,List.nil_append,List.append_assoc,List.append_nil,List.set_cons_zero];exact HSub.skip (HSub.skip (HSub.skip (Qv))))) oq (fun i=>Y6 (hDb i) oq) hcb) fun w v w' _ _ _ hR=>?_
 unfold wrongV at hR
 rw[hw]at hR
 subst hR
 repeat' first|apply jS|apply jO|apply jN|apply jT|refine Q1 ?_|refine Q0 ?_|refine QP (h:=?_)|refine Qn (h:=?_)|refine Q2 ?_|refine Qc fun _=>?_|refine Q1f (h:=?_)|refine Q2 ?_|apply jV|apply jR|refine Q8 rfl ?_
 refine Yc [.slice none 0 0,.agg #[.bool false,.string ⟨#[]⟩],.bool false] (JR.tmp rfl (Zn 2 rfl rfl rfl (JR.tmp rfl JR.nil))) (fun a' w' st=>⟨st.kp,?_⟩)
 rw[Wz0]
 rfl

theorem Qfs (K fc f L:Nat) (w:World) (v u:Value) (a:ZM) (bs:List Int) (S':Sm) (ha:RtZ a) (hv:IsM w v a) (hu:WZ w u a.r bs) (hK:K+1+K+1+L+2≤3500000000000) (hb:BdZ (K+1) a) (hL:BdL L bs)
  (hf:formF (K+1) fc f a.r a.c (min a.r a.c) 0 (startS a.r a.c (rowsOf a))=some S') :
  Calls Tryz.prog 38 #[v,u] w (Ret fun v w'=>Kp [] w w'∧∃ N E n xs y b,New N w w'∧v=.tuple #[E,Wv y,.bool b]∧OwnZ N E n xs∧n≤200):=by
 cases hw:wrongF (gM a.r a.c S'.d) (appL (gM a.r a.r S'.u) bs)with
 | none=>exact QC (Qfr K fc f L w v u a bs S' ha hv hu hK hb hL hf hw) fun v w' h=>⟨h.1,[],_,0,[],0,_,New.nil _ _,h.2,OwnZ.nil,by decide⟩
 | some i => exact QC (Q5w K fc f L i w v u a bs S' ha hv hu hK hb hL hf hw (Qgc (D := gM a.r a.c S'.d) hw)) fun v w' h => ⟨h.1, by
   obtain⟨N,E,h1,h2,h3⟩:=h.2
   exact⟨N,E,_,_,_,_,h1,h2,h3,ha.r⟩⟩


theorem Qln {b:Nat} {o:Obj} {M:List Nat} {w w':World} (h:Kp (b::M) w w') (h0:w.heap[b]?=some o) (h1:w'.heap[b]?=some o):Kp M w w' :=
 ⟨h.os, h.tape, h.output, h.size, fun k hk hm => by
  by_cases hb:k=b
  ·subst hb;rw[h0,h1]
  ·exact h.block k hk (by simp[hb,hm])⟩

theorem Q1n (w:World) (bs:Nat) (z:Int) (v:Value) (n:Nat) (xs:List Int) (N:SHeap) (hO:OwnZ N v n xs) (hs:Hsat ((bs,.cells (wc z) 35)::N) w) (hn:n≤1000000) :
  Calls Tryz.prog 36 #[v,.pointer (some ⟨bs,0,none⟩)] w (Ret fun _ w'=>Kp (keys N) w w'∧∃ N',keys N'=keys N∧InW N' w'∧∃ ys,OwnZ N' v n ys):=by
 have hl:=hO.len
 have hM:=Z1 hs
 refine Q9 [] (keys ((bs,.cells (wc z) 35)::N)) hM ((bs,.cells (wc z) 35)::N) Tryz.func36 rfl mixed (by kernel_rfl) Tryz.ntmps36 Tryz.results36 rfl hs (fun p hp=>List.mem_map.2 ⟨p,hp,rfl⟩) ?_
 simp only[toS,textOps,toSOp,kindAt,kindOf,odAt,sopsAt,ordOf,zipF]
 repeat' first|apply jS|apply jO|apply jN|apply jT|refine Q1 ?_|refine ZA (h:=?_)|apply jB
 refine Qi (ι:=Nat × SHeap × List Int) ⟨fun x=>[(6,nv x.1),(5,nv n),(0,v),(1,.pointer (some ⟨bs,0,none⟩))],
   fun x=>[(bs,.cells (wc z) 35)]++(x.2.1++[]),
   fun x=>x.1≤n∧OwnZ x.2.1 v n x.2.2,fun x=>n-x.1⟩ (0,N,xs) ⟨by omega,hO⟩ cqq (by simp only[List.append_nil];exact HSub.refl _) (fun x hx=>?_)
 obtain⟨k,N1,zs⟩:=x
 obtain⟨hkn,hO1⟩:=hx
 dsimp only at hkn hO1 ⊢
 by_cases hlt:k<n
 ·repeat' first|apply jS|apply jO|apply jN|apply jT|refine Q1 ?_|refine Q0 ?_|refine Q7 ?_|refine Ze (h:=?_)|(refine Qk (h1:=?_) (h2:=?_)<;>intro hc<;>try (exfalso;omega))|apply jK|refine Q8 rfl ?_|apply jB
  refine Q13 (A:=[_]) hO1 rfl rfl pqq rfl rfl hlt (fun N2 hO2=>?_)
  repeat' first|apply jO|apply jN|apply jT|refine Q1 ?_|refine Qg ?_|apply jW
  exact Qa (k+1,N2,zs.set k z) ⟨by dsimp only;omega,hO2⟩ dgq cqq (HSub.refl _)
 ·repeat' first|apply jS|apply jO|apply jN|apply jT|(refine Qk (h1:=?_) (h2:=?_)<;>intro hc<;>try (exfalso;omega))|apply jU|apply jE|refine Q4 rfl ?_|refine Qe ?_
  refine ZK (fun a w' st=>⟨Qln st.kp (hs.blk _ List.mem_cons_self) (st.hs.blk (bs,.cells (wc z) 35) List.mem_cons_self),N1,X2 hO1 hO,fun p hp=>st.hs.blk p (List.mem_cons_of_mem _ (by simpa using hp)),_,hO1⟩)


theorem Qhj {a:ZM} (ha:RtZ a):mulZ (oneZ a.r) a=a:=by
 refine Eq.trans ?_ (Q8z ha)
 refine Qbq (r:=a.r) (c:=a.c) fun i j hi hj=>?_
 show mmI a.r (oneZ a.r).at a.at i j=_
 refine(Qe8 (n:=a.r) (A:=(oneZ a.r).at) (A':=idI) (B:=a.at) (B':=a.at) (fun k hk=>Q90 hi hk) (fun _ _=>rfl)).trans ?_
 exact Qoa hi

def Sz (B r c:Nat) (g:List (List Int)):Prop:=∀ i j,i<r→j<c→(gE g i j).natAbs≤B
structure CB (C:Nat) (t:Tn):Prop where
 a:t.a.natAbs≤C
 b:t.b.natAbs≤C
 c:t.c.natAbs≤C
 d:t.d.natAbs≤C
theorem CB.flip {C:Nat} {t:Tn} (h:CB C t):CB C t.flip:=⟨h.d,by show (-t.c).natAbs≤C;rw[Int.natAbs_neg];exact h.c,by show (-t.b).natAbs≤C;rw[Int.natAbs_neg];exact h.b,h.a⟩
theorem Q45 {C B:Nat} {a b x y:Int} (ha:a.natAbs≤C) (hb:b.natAbs≤C) (hx:x.natAbs≤B) (hy:y.natAbs≤B):(a*x+b*y).natAbs≤2*C*B:=by
 have h1:(a*x).natAbs≤C*B:=by rw[Int.natAbs_mul];exact Nat.mul_le_mul ha hx
 have h2:(b*y).natAbs≤C*B:=by rw[Int.natAbs_mul];exact Nat.mul_le_mul hb hy
 have h3:=Int.natAbs_add_le (a*x) (b*y)
 rw[Nat.mul_assoc,Nat.two_mul]
 omega
theorem Sz.mono {B B' r c:Nat} {g:List (List Int)} (h:Sz B r c g) (hB:B≤B'):Sz B' r c g:=fun i j hi hj=>Nat.le_trans (h i j hi hj) hB
theorem Wj {C B:Nat} (hC:1≤C):B≤2*C*B:=Nat.le_mul_of_pos_left B oq
theorem Sz.rows {C B r c i k:Nat} {t:Tn} {g:List (List Int)} (h:Sz B r c g) (hR:Rec r c g) (hi:i<r) (hk:k<r) (ht:CB C t) (hC:1≤C):Sz (2*C*B) r c (rowsL i k t g):=fun a b ha hb=>by
 rw[Wl hR hi hk hb]
 split
 ·exact Q45 ht.c ht.d (h _ _ hi hb) (h _ _ hk hb)
 ·split
  ·exact Q45 ht.a ht.b (h _ _ hi hb) (h _ _ hk hb)
  ·exact Nat.le_trans (h _ _ ha hb) (Wj hC)
theorem Sz.cols {C B r c i k:Nat} {t:Tn} {g:List (List Int)} (h:Sz B r c g) (hR:Rec r c g) (hi:i<c) (hk:k<c) (ht:CB C t) (hC:1≤C):Sz (2*C*B) r c (colsL i k t g):=fun a b ha hb=>by
 rw[Wn hR hi hk ha]
 split
 ·exact Q45 ht.c ht.d (h _ _ ha hi) (h _ _ ha hk)
 ·split
  ·exact Q45 ht.a ht.b (h _ _ ha hi) (h _ _ ha hk)
  ·exact Nat.le_trans (h _ _ ha hb) (Wj hC)
structure SzU (B m n:Nat) (S:Sm):Prop where
 u:Sz B m m S.u
 ui:Sz B m m S.ui
 v:Sz B n n S.v
 vi:Sz B n n S.vi
theorem SzU.mono {B B' m n:Nat} {S:Sm} (h:SzU B m n S) (hB:B≤B'):SzU B' m n S:=⟨h.u.mono hB,h.ui.mono hB,h.v.mono hB,h.vi.mono hB⟩
theorem SzU.rows {C B m n i k:Nat} {t:Tn} {S:Sm} (h:SzU B m n S) (hD:Dm m n S) (hi:i<m) (hk:k<m) (ht:CB C t) (hC:1≤C):SzU (2*C*B) m n (S.rows i k t) :=
 ⟨h.u.rows hD.u hi hk ht hC,h.ui.cols hD.ui hi hk ht.flip hC,h.v.mono (Wj hC),h.vi.mono (Wj hC)⟩
theorem SzU.cols {C B m n i k:Nat} {t:Tn} {S:Sm} (h:SzU B m n S) (hD:Dm m n S) (hi:i<n) (hk:k<n) (ht:CB C t) (hC:1≤C):SzU (2*C*B) m n (S.cols i k t) :=
 ⟨h.u.mono (Wj hC),h.ui.mono (Wj hC),h.v.cols hD.v hi hk ht hC,h.vi.rows hD.vi hi hk ht.flip hC⟩
theorem Q6r {K r c B:Nat} {g:List (List Int)} (hR:Rec r c g) (h:Sz B r c g) (hB:B<256 ^ K):okG K g=true:=by
 refine List.all_eq_true.2 fun x hx=>List.all_eq_true.2 fun y hy=>decide_eq_true ?_
 obtain⟨i,hi,rfl⟩:=List.getElem_of_mem hx
 obtain⟨j,hj,rfl⟩:=List.getElem_of_mem hy
 have h1:=hR.row _ hx
 have h2:=h i j (by have:=hR.len;omega) oq
 unfold gE at h2
 rw[show g.getD i []=g[i] by rw[List.getD,List.getElem?_eq_getElem hi];rfl,show g[i].getD j 0=g[i][j] by rw[List.getD,List.getElem?_eq_getElem hj];rfl]at h2
 omega
theorem Qf9 {K m n B B':Nat} {S:Sm} (hD:Dm m n S) (h:SzU B m n S) (h':Sz B' m n S.d) (hB:B<256 ^ K) (hB':B'<256 ^ K):ck K S=some S:=by
 unfold ck
 rw[if_pos (Ok.ok ⟨Q6r hD.u h.u hB,Q6r hD.ui h.ui hB,Q6r hD.d h' hB',Q6r hD.v h.v hB,Q6r hD.vi h.vi hB⟩)]

theorem Q6e {K t:Nat}:∀ {k i:Nat} {S:Sm},(∀ a,i≤a→a<i+k→gE S.d a t=0)→rowP K t k i S=some S
 | 0,_,_,_=>rfl
 | k + 1, i, S, h => by
  rw[rowP]
  have h0:clrR K t i S=some (S,false):=by
   unfold clrR clearT
   rw[h i (Nat.le_refl _) oq,if_pos rfl]
  rw[h0]
  exact Q6e fun a h1 h2=>h a oq oq
theorem Q78 {K t:Nat}:∀ {k j:Nat} {ch:Bool} {S:Sm},(∀ a,j≤a→a<j+k→gE S.d t a=0)→colP K t k j ch S=some (S,ch)
 | 0,_,_,_,_=>rfl
 | k + 1, j, ch, S, h => by
  rw[colP]
  have h0:clrC K t j S=some (S,false):=by
   unfold clrC clearT
   rw[h j (Nat.le_refl _) oq,if_pos rfl]
  rw[h0]
  dsimp only
  rw[Bool.or_false]
  exact Q78 fun a h1 h2=>h a oq oq
theorem Q9g {K t:Nat}:∀ (a b:Nat) {i:Nat} {S:Sm},rowP K t (a+b) i S=match rowP K t a i S with|none=>none|some S'=>rowP K t b (i+a) S'
 | 0,b,i,S=>by rw[Nat.zero_add];rfl
 | a+1,b,i,S=>by
  rw[show a+1+b=a+b+1 by omega,rowP,rowP]
  cases clrR K t i S with
  | none=>rfl
  | some r=>dsimp only;rw[Q9g a b,show i+1+a=i+(a+1) by omega]
theorem Qap {K t:Nat}:∀ (a b:Nat) {j:Nat} {ch:Bool} {S:Sm},colP K t (a+b) j ch S=match colP K t a j ch S with|none=>none|some r=>colP K t b (j+a) r.2 r.1
 | 0,b,j,ch,S=>by rw[Nat.zero_add];rfl
 | a+1,b,j,ch,S=>by
  rw[show a+1+b=a+b+1 by omega,colP,colP]
  cases clrC K t j S with
  | none=>rfl
  | some r=>dsimp only;rw[Qap a b,show j+1+a=j+(a+1) by omega]
theorem Qgt {K t i:Nat} {S:Sm} {r:Sm × Bool} (h:clrR K t i S=some r):rowP K t 1 i S=some r.1:=by
 rw[rowP,h];rfl
theorem Qia {K t j:Nat} {ch:Bool} {S:Sm} {r:Sm × Bool} (h:clrC K t j S=some r):colP K t 1 j ch S=some (r.1,ch || r.2):=by
 rw[colP,h];rfl

structure GcdN (x y g s t:Int):Prop where
 e:g=Int.gcd x y
 p:0<g
 dx:g∣x
 dy:g∣y
 hs:s.natAbs*g.natAbs≤y.natAbs
 ht:t.natAbs*g.natAbs≤x.natAbs
 b:s*x+t*y=g
theorem gcdN {x y:Int} (hx:x≠0) (hy:y≠0):GcdN x y (gcdF x y).1 (gcdF x y).2.1 (gcdF x y).2.2:=by
 have h:=Q5g x y
 generalize (gcdF x y).1=g at *
 generalize (gcdF x y).2.1=s at *
 generalize (gcdF x y).2.2=t at *
 obtain⟨h0,h1,h2⟩:=h.n hy
 have he:=h.e
 have hp:0<g:=by
  have:0<Int.gcd x y:=Int.gcd_pos_of_ne_zero_right _ hy
  omega
 have dx:g∣x:=by rw[he];exact Int.gcd_dvd_left ..
 have dy:g∣y:=by rw[he];exact Int.gcd_dvd_right ..
 have hsg:s.natAbs*g.natAbs<y.natAbs:=by
  rw[← Int.natAbs_mul]
  have:=Int.mul_nonneg h0 (by omega:0≤g)
  omega
 refine⟨he,hp,dx,dy,by omega,?_,h2⟩
 obtain⟨x',rfl⟩:=dx
 obtain⟨y',rfl⟩:=dy
 have hg0:g≠0:=by omega
 have e1:s*x'+t*y'=1:=by
  have:g*(s*x'+t*y')=g*1:=by rw[Int.mul_one];rw[Int.mul_add];have e:=h2;grind
  exact Int.eq_of_mul_eq_mul_left hg0 this
 have hgn:0<g.natAbs:=by omega
 rw[Int.natAbs_mul]at hsg
 have hs':s.natAbs<y'.natAbs:=by
  rw[Nat.mul_comm]at hsg
  exact Nat.lt_of_mul_lt_mul_left hsg
 rw[Int.natAbs_mul,Nat.mul_comm]
 refine Nat.mul_le_mul_left _ ?_
 refine Decidable.byContradiction fun hn=>?_
 have hn:x'.natAbs+1≤t.natAbs:=by omega
 have h3:(t*y').natAbs≤1+(s*x').natAbs:=by
  have:t*y'=1-s*x':=by omega
  rw[this];omega
 rw[Int.natAbs_mul,Int.natAbs_mul]at h3
 have h4:=Nat.mul_le_mul_right y'.natAbs hn
 have h5:s.natAbs*x'.natAbs≤(y'.natAbs-1)*x'.natAbs:=Nat.mul_le_mul_right _ oq
 have h6:(y'.natAbs-1)*x'.natAbs+x'.natAbs=x'.natAbs*y'.natAbs:=by
  rw[← Nat.succ_mul,Nat.mul_comm];congr 1;omega
 rw[Nat.add_mul]at h4
 have:x'.natAbs=0:=by omega
 have hx0:x'=0:=by omega
 exact hx (by rw[hx0,Int.mul_zero])
end Go.Proofs.YtljmapfihjkafaaGreatDoor

