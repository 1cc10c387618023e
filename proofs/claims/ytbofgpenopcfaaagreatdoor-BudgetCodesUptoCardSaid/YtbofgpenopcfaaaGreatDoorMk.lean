import Derived.Test.YtbofgpenopcfaaaGreatDoorMj
import Derived.Test.YtbofgpenopcfaaaGreatDoorMh
import Derived.Test.YtbofgpenopcfaaaGreatDoorMf
import Derived.Test.YtbofgpenopcfaaaGreatDoorMg
import Derived.Test.YtbofgpenopcfaaaGreatDoorMi
import Derived.Test.YtbofgpenopcfaaaGreatDoorMe
import Derived.Test.YtbofgpenopcfaaaGreatDoorMd
set_option maxHeartbeats 16000000
namespace Go.Proofs.YtbofgpenopcfaaaGreatDoor
open Go Go.RowKit
set_option linter.unusedSimpArgs false
set_option linter.unusedVariables false
set_option linter.unusedSectionVars false

theorem newJ {c:Cx} {F:ak} {H0 N H:aj} {a:Act} {w:World} (st:St c F H a w) (hM:c.M=keys H0) (hH:HSub (H0++N) H):New N c.w0 w:=by
 refine st.newM ((Qf (HSub.refl _)).trans hH) fun p hp h=>?_
 rw[hM]at h
 have nd:=hH.nodup st.hs.nd
 unfold keys at nd
 rw[Vj]at nd
 exact(List.nodup_append.1 nd).2.2 p.1 h p.1 (List.mem_map.2 ⟨p,hp,rfl⟩) rfl

theorem Q2t (b:Nat) (z:Int):aN [(b,.cells ⟨[.bool (wz z).1,sv (wz z).2]⟩ 75)] (.slice (some ⟨b,0,none⟩) 1 1) 1 [z]:=by
 have h:=aH.mk' (e:=75) (sz:=2) (n:=1) (b:=b) (cs:=⟨[.bool (wz z).1,sv (wz z).2]⟩) aA (by simp only[maxLen];omega)
 exact h


theorem Qg9 (w:World) (v u:Value) (n k:Nat) (xs ys:List WR) (hv:WX w v n xs) (hu:WX w u k ys) (hn:n<1000000000) (hk:k<1000000000):Calls Tryz.prog 19 #[v,u] w (aQ fun v w'=>Kp [] w w'∧iK (xs=ys) v):=by
 have hl:=hv.len
 have hl':=hu.len
 refine Qa [⟨6,1,[],[]⟩] [] aA [] Tryz.func19 rfl mixed (by kernel_rfl) Tryz.ntmps19 Tryz.results19 rfl ⟨by simp,by simp⟩ aA ?_
 simp only[toS,Qe,Qx,Qo,Qr,ay,Ql,Qy,aB]
 have hR:=WX.rd (c:=⟨Tryz.prog,26,w,[],by simp⟩) hv rfl []
 have hR':=WX.rd (c:=⟨Tryz.prog,26,w,[],by simp⟩) hu rfl []
 repeat' first|apply jS|apply jO|apply jN|apply jT|refine Q1 ?_|refine Q0 ?_|refine W7 (h:=?_)|(refine ZP (h1:=?_) (h2:=?_)<;>intro hc<;>try omega)|apply jV|apply jK|apply jR|refine Q5 rfl ?_|refine Q4 rfl ?_|apply jB
 ·exact Qj rfl (fun a w' st=>⟨st.kp,Xa (fun h=>hc (by rw[← hl, ← hl',h]))⟩)
 ·have hnk:n=k:=by omega
  subst hnk
  refine Qn (ι:=Nat) ⟨fun i=>[(5,nv i),(0,v),(1,u)],fun _=>[],fun i=>i≤n∧∀ j,j<i→xs.getD j eX=ys.getD j eX,fun i=>n-i⟩ 0 ⟨by omega,fun j h=>by omega⟩ aC (HSub.nil _) (fun i hi=>?_)
  obtain⟨hin,hpr⟩:=hi
  dsimp only
  by_cases hlt:i<n
  ·repeat' first|apply jS|apply jO|apply jD|apply jN|apply jT|refine Q1 ?_|refine Q0w (h:=?_)|refine Qe5 (h:=?_)|refine W7 (h:=?_)|(refine Qg (h1:=?_) (h2:=?_)<;>intro hc<;>try omega)|apply jK|refine Q5 rfl ?_|apply jB
   refine Qku rfl rfl rfl rfl ?_
   by_cases he:xs.getD i eX=ys.getD i eX
   ·rw[he]
    simp only[BEq.rfl,decide_true,Bool.and_self,Bool.not_true]
    repeat' first|apply jO|apply jN|apply jT|refine Q1 ?_|refine Q0 ?_|refine Qd ?_|apply jK|refine Q4 rfl ?_|apply jW
    refine Q8 (i+1) ⟨by omega,fun j h=>?_⟩ aW aC (HSub.nil _)
    rcases Nat.lt_or_ge j i with h'|h'
    ·exact hpr j h'
    ·have:j=i:=by omega
     subst this;exact he
   ·have hb:(!((xs.getD i eX).1 == (ys.getD i eX).1 && decide ((xs.getD i eX).2=(ys.getD i eX).2)))=true:=by
     simp only[Bool.not_eq_true',Bool.and_eq_false_iff]
     by_cases h1:(xs.getD i eX).1=(ys.getD i eX).1
     ·refine .inr ?_
      simp only[decide_eq_false_iff_not]
      exact fun h2=>he (Prod.ext h1 h2)
     ·exact .inl (by simpa using h1)
    rw[hb]
    repeat' first|apply jS|apply jO|apply jN|apply jT|refine Q0 ?_|apply jV|apply jR|refine Q5 rfl ?_|apply Qz
    exact Qj rfl (fun a w' st=>⟨st.kp,Xa (fun h=>he (by rw[h]))⟩)
  ·repeat' first|apply jS|apply jO|apply jN|apply jT|refine Q1 ?_|refine Q0 ?_|refine W7 (h:=?_)|(refine Qg (h1:=?_) (h2:=?_)<;>intro hc<;>try omega)|apply jU|apply jE|apply jR|refine Q4 rfl ?_|apply Qc
   refine Qj rfl (fun a w' st=>⟨st.kp,iK.t (Q6h (d:=eX) oq (fun j hj=>hpr j oq))⟩)

theorem Qfn {xs:List WR} {k:Nat} (hk:k<xs.length) (h:iC (xs.getD k eX)=true):¬Canon xs:=fun hc=>Q48.1 hc ⟨_,QV hk,h⟩

theorem Q4m (w:World) (E:Value) (n:Nat) (xs:List WR) (hE:WX w E n xs) (hn:n<1000000000) :
  Calls Tryz.prog 93 #[E] w (aQ fun v w'=>Kp [] w w'∧iK (Canon xs) v):=by
 have hl:=hE.len
 refine Qa [] [] aA [] Tryz.func93 rfl mixed (by kernel_rfl) Tryz.ntmps93 Tryz.results93 rfl ⟨by simp,by simp⟩ aA ?_
 simp only[toS,Qe,Qx,Qo,Qr,ay,Ql,Qy,aB]
 have hR:=WX.rd (c:=⟨Tryz.prog,40,w,[],by simp⟩) hE rfl []
 repeat' first|apply jS|apply jO|apply jN|apply jT|refine Q0 ?_|apply jB
 refine Qn (ι:=Nat) ⟨fun k=>[(3,nv k),(0,E)],fun _=>[],fun k=>k≤n∧∀ j,j<k→iC (xs.getD j eX)=false,fun k=>n-k⟩ 0 ⟨by omega,fun j h=>by omega⟩ aC (HSub.nil _) (fun k hk=>?_)
 obtain⟨hkn,hpr⟩:=hk
 dsimp only
 by_cases hlt:k<n
 ·repeat' first|apply jS|apply jO|apply jN|apply jT|refine Q1 ?_|refine Q0w (h:=?_)|refine Q7i (h:=?_)|refine Wx (h:=?_)|refine W7 (h:=?_)|refine Qea (h:=?_)|(refine Qg (h1:=?_) (h2:=?_)<;>intro hc<;>try omega)|apply jK|refine Q5 rfl ?_|apply jB
  have hxk:∀ x,xs.getD k eX=x→iC x=true→¬Canon xs:=fun x hx hb=>Qfn (k:=k) oq (by rw[hx];exact hb)
  have hnx:∀ x,xs.getD k eX=x→iC x=false→∀ j,j<k+1→iC (xs.getD j eX)=false:=fun x hx hb j hj=>by
   rcases Nat.lt_or_ge j k with h|h
   ·exact hpr j h
   ·obtain rfl:j=k:=by omega
    rw[hx];exact hb
  rcases hx:xs.getD k eX with ⟨p,l⟩
  cases l with
  | nil =>
   simp only[decide_true]
   repeat' first|refine Q1 ?_|refine Q0w (h:=?_)|refine Qnu (h:=?_)|refine Wx (h:=?_)|refine Qp ?_|fail
   rw[hx]
   cases p
   ·repeat' first|refine Q1 ?_|refine Q0w (h:=?_)|refine Q7i (h:=?_)|refine Wx (h:=?_)|refine Ya (h:=?_)|fail
    rw[hx,show decide ((false,([]:List UInt8)).snd≠[])=false from rfl]
    repeat' first|apply jO|apply jN|apply jT|refine Q1 ?_|refine Q0 ?_|refine Qd ?_|refine Qq ?_|apply jK|refine Q4 rfl ?_|refine QA ?_|apply jW
    exact Q8 (k+1) ⟨by omega,hnx _ hx rfl⟩ aW aC (HSub.nil _)
   ·repeat' first|apply jS|apply jO|apply jN|apply jT|refine Q0 ?_|refine Qp ?_|apply jV|refine Q5 rfl ?_|apply Qz|refine QA ?_|apply jR
    exact Qj rfl (fun a w' st=>⟨st.kp,Xa (hxk _ hx rfl)⟩)
  | cons x r =>
   rw[show decide ((p,x::r).snd=([]:List UInt8))=false from rfl]
   repeat' first|refine Q1 ?_|refine Q0w (h:=?_)|refine Q7i (h:=?_)|refine Wx (h:=?_)|refine Qq ?_|refine Ya (h:=?_)|refine QA ?_|fail
   rw[hx,show decide ((p,x::r).snd≠([]:List UInt8))=true from rfl]
   repeat' first|refine Q1 ?_|refine Q0w (h:=?_)|refine Q7i (h:=?_)|refine Wx (h:=?_)|fail
   rw[hx]
   repeat' first|apply jS|apply jO|apply jN|apply jT|refine Q1 ?_|refine Q0 ?_|refine Qd ?_|refine Qp ?_|refine Qq ?_|refine Q0c (h:=?_)|(refine Zm (h1:=?_) (h2:=?_)<;>intro hc<;>try omega)|apply jV|apply jK|apply jR|refine Q5 rfl ?_|refine Q4 rfl ?_|apply jW|apply Qz
   ·exact Qj rfl (fun _ w' st=>⟨st.kp,Xa (hxk _ hx (by have:x=0:=UInt8.toNat.inj (by simpa using hc);subst this;rfl))⟩)
   ·exact Q8 (k+1) ⟨by omega,hnx _ hx (by have:x≠0:=fun e=>hc (by subst e;rfl);simp[iC,this])⟩ aW aC (HSub.nil _)
 ·repeat' first|apply jS|apply jO|apply jN|apply jT|refine Q1 ?_|refine Q0 ?_|refine W7 (h:=?_)|(refine Qg (h1:=?_) (h2:=?_)<;>intro hc<;>try omega)|apply jU|apply jE|apply jR|refine Q4 rfl ?_|apply Qc
  refine Qj rfl (fun a w' st=>⟨st.kp,iK.t (Q48.2 ?_)⟩)
  rintro⟨x,hx,hb⟩
  obtain⟨j,hj,rfl⟩:=List.mem_iff_getElem.1 hx
  have:=hpr j oq
  rw[List.getD,List.getElem?_eq_getElem hj,Option.getD_some,hb]at this
  cases this

theorem XD (w:World) (v:Value) (a:XM) (ha:IsX w v a) (hl:a.E.length<1000000000):Calls Tryz.prog 39 #[v] w (aQ fun v w'=>Kp [] w w'∧iK (RX a) v):=by
 obtain⟨E,rfl,hE⟩:=ha
 by_cases hf:0≤a.R∧a.R≤200∧0≤a.C∧a.C≤200
 ·obtain⟨R,C,xs⟩:=a
  obtain⟨h1,h2,h3,h4⟩:=hf
  dsimp only at *
  obtain⟨r,rfl⟩:=Int.eq_ofNat_of_zero_le h1
  obtain⟨c,rfl⟩:=Int.eq_ofNat_of_zero_le h3
  have hr:r≤200:=by omega
  have hc:c≤200:=by omega
  have hrc:=rcZ hr hc
  have hiff:=Qk5 (E:=xs) hr hc
  refine Qa [] [] aA [] Tryz.func39 rfl mixed (by kernel_rfl) Tryz.ntmps39 Tryz.results39 rfl ⟨by simp,by simp⟩ aA ?_
  simp only[toS,Qe,Qx,Qo,Qr,ay,Ql,Qy,aB]
  have hR:=WX.rd (c:=⟨Tryz.prog,25,w,[],by simp⟩) hE rfl []
  repeat' first|apply jS|apply jO|apply jN|refine Q2 ?_|refine Q0 ?_|refine Q7 ?_|refine QM (h:=fun _=>?_)|apply jT
  refine Q9 trivial rfl rfl rfl (fun w _ _=>Q4a r c w) fun w v w' _ _ _ hv=>?_
  obtain⟨b',rfl,hb⟩:=hv
  obtain rfl:=hb.2 ⟨h1,h2,h3,h4⟩
  repeat' first|apply jS|apply jO|apply jN|apply jT|refine Q1 ?_|refine Q2 ?_|refine Q0 ?_|refine Q7 ?_|refine W7 (h:=?_)|refine Z1 (h:=?_)|refine Qq ?_|refine QG ?_|(refine ZP (h1:=?_) (h2:=?_)<;>intro hc<;>try omega)|apply jV|apply jK|apply jR|refine Q5 rfl ?_|refine Q4 rfl ?_
  ·exact Qj rfl (fun a w' st=>⟨st.kp,Xa (fun h=>by have:=(hiff.1 h).1;omega)⟩)
  ·refine Q9 trivial rfl rfl rfl (fun w' hk hs=>Q4m w' E _ _ (hE.mono hk) hl) fun w v w' _ _ _ hv=>?_
   obtain⟨b',rfl,hb⟩:=hv
   repeat' first|apply jN|apply jT|refine Q0 ?_|apply jR
   exact Qj rfl (fun a w' st=>⟨st.kp,b',rfl,hb.trans ⟨fun h=>hiff.2 ⟨by omega,h⟩,fun h=>(hiff.1 h).2⟩⟩)
 ·refine Qa [] [] aA [] Tryz.func39 rfl mixed (by kernel_rfl) Tryz.ntmps39 Tryz.results39 rfl ⟨by simp,by simp⟩ aA ?_
  simp only[toS,Qe,Qx,Qo,Qr,ay,Ql,Qy,aB]
  repeat' first|apply jS|apply jO|apply jN|refine Q2 ?_|refine Q0 ?_|refine Q7 ?_|refine QM (h:=fun _=>?_)|apply jT
  refine Q9 trivial rfl rfl rfl (fun w _ _=>Q4a a.R a.C w) fun w v w' _ _ _ hv=>?_
  obtain⟨b',rfl,hb⟩:=hv
  cases b' with
  | true=>exact absurd (hb.1 rfl) hf
  | false =>
   repeat' first|apply jS|apply jO|apply jN|apply jT|refine Q1 ?_|refine Q0 ?_|refine Qp ?_|refine QG ?_|apply jV|refine Q5 rfl ?_|refine QA ?_|apply jR
   exact Qj rfl (fun a w' st=>⟨st.kp,Xa (fun h=>hf h.fits)⟩)

set_option linter.unusedSimpArgs false
set_option linter.unusedVariables false
set_option linter.unusedSectionVars false

def SolL (n:Nat) (A M:Mi):Prop:=∀ i,i<n→∀ j,j<n→M i j=eF n fun t=>M i (n+t)*A t j
theorem SolL.addr {n:Nat} {A M:Mi} {r s:Nat} {t:Int} (h:SolL n A M) (hr:r<n) (hs:s<n):SolL n A (QL M r fun j=>M r j+t*M s j):=fun i hi j hj=>by
 by_cases he:i=r
 ·subst he
  rw[setRow_self,Zx (g:=fun u=>M i (n+u)*A u j+t*(M s (n+u)*A u j)) (fun u _=>by rw[setRow_self];grind),Q3d,Q2o, ← h i hi j hj, ← h s hs j hj]
 ·rw[QR he,Zx (g:=fun u=>M i (n+u)*A u j) (fun u _=>by rw[QR he]), ← h i hi j hj]
theorem SolL.swp {n:Nat} {A M:Mi} {r s:Nat} (h:SolL n A M) (hr:r<n) (hs:s<n):SolL n A (swp M r s):=fun i hi j hj=>by
 by_cases h1:i=r
 ·subst h1
  rw[Zx (g:=fun u=>M s (n+u)*A u j) (fun u _=>by rw[Proofs.YtbofgpenopcfaaaGreatDoor.swp,if_pos rfl]), ← h s hs j hj,Proofs.YtbofgpenopcfaaaGreatDoor.swp,if_pos rfl]
 ·by_cases h2:i=s
  ·subst h2
   rw[Zx (g:=fun u=>M r (n+u)*A u j) (fun u _=>by rw[Proofs.YtbofgpenopcfaaaGreatDoor.swp,if_neg h1,if_pos rfl]), ← h r hr j hj,Proofs.YtbofgpenopcfaaaGreatDoor.swp,if_neg h1,if_pos rfl]
  ·rw[Zx (g:=fun u=>M i (n+u)*A u j) (fun u _=>by rw[Proofs.YtbofgpenopcfaaaGreatDoor.swp,if_neg h1,if_neg h2]), ← h i hi j hj,Proofs.YtbofgpenopcfaaaGreatDoor.swp,if_neg h1,if_neg h2]
theorem SolL.red {n:Nat} {A M M':Mi} (hr:Red n M M') (h:SolL n A M):SolL n A M':=by
 induction hr with
 | refl=>exact h
 | add r s t hr hs hn _ ih=>exact ih (h.addr hr hs)
 | swap r s hr hs hn _ ih=>exact ih (h.swp hr hs)
theorem Red.detA {n:Nat} {M M':Mi} (hr:Red n M M'):(dn n M').natAbs=(dn n M).natAbs:=by
 induction hr with
 | refl=>rfl
 | add r s t hr hs hn _ ih=>rw[ih,Q1b t hr hs hn]
 | swap r s hr hs hn _ ih=>rw[ih,WA hr hs hn,Int.natAbs_neg]
theorem Qm1 {n k:Nat} {M:Mi} (hk:k<n) (hu:∀ j,j<k→∀ i,i<n→M i j=if i=j then 1 else 0) (hz:∀ i,k<i→i<n→M i k=0):∃ x,dn n M=M k k*x:=by
 refine⟨dn n (QL (tr M) k (unit k)),?_⟩
 rw[← Qju (A:=M)]
 conv=>lhs;rw[← ZX (tr M) k]
 rw[Q84 hk,Xm (k:=k) hk (fun i hi hne=>?_)]
 ·rfl
 ·rcases Nat.lt_or_ge i k with h|h
  ·rw[Zn (B:=QL (QL (tr M) i (unit i)) k (unit i)) (fun a ha b hb=>?_),XU (r:=i) (s:=k) hi hk oq (fun j=>by rw[setRow_self,QR hne,setRow_self]),Int.mul_zero]
   by_cases h1:a=k
   ·subst h1;rw[setRow_self,setRow_self]
   ·rw[QR h1,QR h1]
    by_cases h2:a=i
    ·subst h2
     rw[setRow_self]
     show M b a=unit a b
     rw[hu a h b hb]
     unfold unit
     by_cases h3:b=a
     ·rw[if_pos h3,if_pos h3.symm]
     ·rw[if_neg h3,if_neg (Ne.symm h3)]
    ·rw[QR h2]
  ·show M i k*_=0
   rw[hz i oq hi,Int.zero_mul]

structure Stg (n:Nat) (A:Mi) (k:Nat) (M:Mi):Prop where
 sol:SolL n A M
 dt:(dn n M).natAbs=1
 un:∀ j,j<k→∀ i,i<n→M i j=if i=j then 1 else 0
structure Mid (n:Nat) (A:Mi) (k:Nat) (M:Mi) (i:Nat):Prop where
 stg:Stg n A k M
 low:∀ a,k<a→a<n→M a k=0
 top:∀ a,a<i→a<k→M a k=0
 piv:M k k=1
theorem Qp5 {n:Nat} {A M:Mi} (h:Stg n A n M) {i j:Nat} (hi:i<n) (hj:j<n):(eF n fun t=>M i (n+t)*A t j)=if i=j then 1 else 0:=by rw[← h.sol i hi j hj,h.un j hj i hi]
theorem Stg.red {n k:Nat} {A M M':Mi} (h:Stg n A k M) (hk:k<n) (hr:Red n M M') (ht:∀ a,a<k→∀ b,M' a b=M a b) (hz:∀ b,(∀ a,k≤a→a<n→M a b=0)→∀ a,k≤a→a<n→M' a b=0) (hl:∀ a,k<a→a<n→M' a k=0) :
  Stg n A k M'∧(M' k k).natAbs=1:=by
 have hs:Stg n A k M':=⟨h.sol.red hr,by rw[hr.detA];exact h.dt,fun j hj i hi=>by
  rcases Nat.lt_or_ge i k with hik|hik
  ·rw[ht i hik,h.un j hj i hi]
  ·rw[if_neg oq]
   exact hz j (fun a h1 h2=>by rw[h.un j hj a h2,if_neg oq]) i hik hi⟩
 obtain⟨x,hx⟩:=Qm1 hk hs.un hl
 have h1:=hs.dt
 rw[hx,Int.natAbs_mul]at h1
 exact⟨hs,Nat.dvd_one.1 ⟨_,h1.symm⟩⟩
theorem Qp6 {n k:Nat} {A M:Mi} (h:Mid n A k M k):Stg n A (k+1) M:=⟨h.stg.sol,h.stg.dt,fun j hj i hi=>by
 by_cases he:j=k
 ·subst he
  split
  ·rename_i h1;subst h1;exact h.piv
  ·rcases Nat.lt_or_ge i j with h2|h2
   ·exact h.top i h2 h2
   ·exact h.low i oq hi
 ·exact h.stg.un j oq i hi⟩

set_option linter.unusedSimpArgs false
set_option linter.unusedVariables false
set_option linter.unusedSectionVars false

structure InvP (n:Nat) (A:Mi) (e u:Nat→Nat) (k:Nat) (M:Mi):Prop where
 stg:Stg n A k M
 lo:∀ a b,k≤a→a<n→(M a b).natAbs≤e k
 up:∀ a b,a<k→(M a b).natAbs≤u k
structure MidP (n:Nat) (A:Mi) (e u:Nat→Nat) (k i:Nat) (M:Mi):Prop where
 mid:Mid n A k M i
 lo:∀ a b,k≤a→a<n→(M a b).natAbs≤e (k+1)
 up:∀ a b,i≤a→a<k→(M a b).natAbs≤u k
 up1:∀ a b,a<i→a<k→(M a b).natAbs≤u k*(1+e (k+1))
section
variable {c:Cx} {Q:Exit→Act→World→Prop} {m:Mode} {F:ak} {H:aj} {r:List bT} {g:Option (Option Tmp × Bool)} {ns:Bool} {d:Tmp} {ty t t':TypeId} {x y:Operand}
end



theorem Qj4 {m:ZM} (h:gJ m):m.xm.E.length<1000000000:=by have:=h.le;simp[ZM.xm];omega

theorem Qij (K L:Nat) (w:World) (v u:Value) (m n:ZM) (hm:gJ m) (hn:gJ n) (hr:m.c=n.r) (hK:K+L≤400000000000) (hx:gu K m) (hy:gu L n) (hv:jw w v m) (hu:jw w u n) :
  Calls Tryz.prog 147 #[v,u] w (aQ fun v w'=>Kp [] w w'∧Qgl (mulZ m n) true w v w'):=by
 have hvX:=hv.x
 have huX:=hu.x
 obtain⟨E,rfl,hE⟩:=hv
 obtain⟨E',rfl,hE'⟩:=hu
 have hle:=hm.le
 have hle':=hn.le
 have hbr:=hm.r
 have hbc:=hm.c
 have hbc':=hn.c
 have hrc:=rcZ hbr hbc'
 rw[hm.len]at hE
 rw[hn.len]at hE'
 refine Qa [⟨19,2,[],[]⟩] [] aA [] Tryz.func147 rfl mixed (by kernel_rfl) Tryz.ntmps147 Tryz.results147 rfl ⟨by simp,by simp⟩ aA ?_
 simp only[toS,Qe,Qx,Qo,Qr,ay,Ql,Qy,aB]
 have hR:=WZ.rd (c:=⟨Tryz.prog,104,w,[],by simp⟩) hE rfl []
 have hR':=WZ.rd (c:=⟨Tryz.prog,104,w,[],by simp⟩) hE' rfl []
 repeat' first|apply jS|apply jO|apply jN|refine Q0 ?_|refine Qm ?_|refine Qh fun _=>?_|refine QM (h:=fun _=>?_)|apply jT
 rename_i b2 b3 b4
 refine Q9 trivial rfl rfl rfl (fun w hk _=>XD w _ m.xm (hvX.mono hk) (Qj4 hm)) fun w v w' _ _ _ hc0=>?_
 obtain⟨b',rfl,hb⟩:=hc0
 obtain rfl:=hb.2 hm.rx
 repeat' first|apply jS|apply jO|apply jN|refine Q0 ?_|refine Qm ?_|apply jT
 refine Q9 trivial rfl rfl rfl (fun w hk _=>XD w _ n.xm (huX.mono hk) (Qj4 hn)) fun w v w' _ _ _ hc0=>?_
 obtain⟨b',rfl,hb'⟩:=hc0
 obtain rfl:=hb'.2 hn.rx
 repeat' first|apply jS|apply jO|apply jN|apply jT|refine Q1 ?_|refine Q2 ?_|refine Q0 ?_|refine Q7 ?_|refine Qq ?_|refine QG ?_|(refine ZP (h1:=?_) (h2:=?_)<;>intro hc<;>try omega)|apply jK|refine Q4 rfl ?_
 all_goals first
  | (exfalso;omega)
  | skip
 refine Qt (A:=[_,_,_]) (B:=[]) rfl au rfl rfl rfl (fun w _ _=>Q49 m.r n.c hbr hbc' w) fun w v w' _ _ _ hR=>?_
 obtain⟨N,Eo,hN,rfl,hO⟩:=hR
 obtain⟨Ao,co,rfl⟩:=hO.form
 refine⟨N,hN,?_⟩
 repeat' first|apply jS|apply jO|apply jN|apply jT|refine Q0 ?_|refine Q6 ?_|refine Qh fun _=>?_|refine Q6 ?_|apply jB
 rename_i b8
 refine Qn (ι:=Nat × aj) ⟨fun z=>[(9,nv z.1),(2,.pointer (some ⟨b2,0,none⟩)),(3,.pointer (some ⟨b3,0,none⟩)),(4,.pointer (some ⟨b4,0,none⟩)),(8,.pointer (some ⟨b8,0,none⟩))],
  fun z=>[(b8,.cells #[nv m.r,nv n.c,.slice Ao (m.r*n.c) co] 28),(b4,.cells #[iv 0,iv 0,.slice none 0 0] 28),(b3,.cells #[nv n.r,nv n.c,E'] 28),(b2,.cells #[nv m.r,nv m.c,E] 28)]++(z.2++[]),
  fun z=>z.1≤m.r∧aN z.2 (.slice Ao (m.r*n.c) co) (m.r*n.c) (muE m n (List.range z.1)),fun z=>m.r-z.1⟩ (0,N) ⟨by omega,by rw[show List.range 0=[] from rfl,Qat];exact hO⟩ aC QE (fun z hz=>?_)
 clear hO
 obtain⟨i,N⟩:=z
 obtain⟨hi,hO⟩:=hz
 dsimp only at hi hO ⊢
 by_cases hii:i<m.r
 ·have q1:i*m.c≤40000:=Vn (show i≤200 by omega) hbc
  have q2:i*n.c≤40000:=Vn (show i≤200 by omega) hbc'
  repeat' first|apply jS|apply jO|apply jN|apply jT|refine Q1 ?_|refine Q2 ?_|refine Q0 ?_|refine Q7 ?_|(refine Qg (h1:=?_) (h2:=?_)<;>intro hc<;>try omega)|apply jK|refine Q5 rfl ?_|apply jB
  refine Qn (ι:=Nat × aj) ⟨fun z=>[(10,nv z.1),(9,nv i),(2,.pointer (some ⟨b2,0,none⟩)),(3,.pointer (some ⟨b3,0,none⟩)),(4,.pointer (some ⟨b4,0,none⟩)),(8,.pointer (some ⟨b8,0,none⟩))],
   fun z=>[(b8,.cells #[nv m.r,nv n.c,.slice Ao (m.r*n.c) co] 28),(b4,.cells #[iv 0,iv 0,.slice none 0 0] 28),(b3,.cells #[nv n.r,nv n.c,E'] 28),(b2,.cells #[nv m.r,nv m.c,E] 28)]++(z.2++[]),
   fun z=>z.1≤m.c∧aN z.2 (.slice Ao (m.r*n.c) co) (m.r*n.c) (jf m n (List.range i) i (List.range z.1) 0 0),fun z=>m.c-z.1⟩ (0,N) ⟨by omega,by rw[show List.range 0=[] from rfl,Q7u];exact hO⟩ aC (HSub.refl _) (fun z hz=>?_)
  clear hO
  obtain⟨k,N⟩:=z
  obtain⟨hk,hO⟩:=hz
  dsimp only at hk hO ⊢
  by_cases hkk:k<m.c
  ·have hik:=Yn hii hkk
   have q3:k*n.c≤40000:=Vn (show k≤200 by omega) hbc'
   repeat' first|apply jS|apply jO|apply jN|apply jT|refine Q1 ?_|refine Q2 ?_|refine Q0 ?_|refine Q7 ?_|refine QY (h:=?_)|refine Y4 (h:=?_)|refine Z8 (h:=?_)|refine Z1 (h:=?_)|refine Q6 ?_|(refine Qg (h1:=?_) (h2:=?_)<;>intro hc<;>try omega)|refine Qh fun _=>?_|refine Q6 ?_|apply jK|refine Q5 rfl ?_|apply jB
   rename_i b11
   refine Qn (ι:=Nat × aj) ⟨fun z=>[(12,nv z.1),(11,.pointer (some ⟨b11,0,none⟩)),(10,nv k),(9,nv i),(2,.pointer (some ⟨b2,0,none⟩)),(3,.pointer (some ⟨b3,0,none⟩)),(4,.pointer (some ⟨b4,0,none⟩)),(8,.pointer (some ⟨b8,0,none⟩))],
    fun z=>[(b11,.cells (wc (m.at i k)) 75),(b8,.cells #[nv m.r,nv n.c,.slice Ao (m.r*n.c) co] 28),(b4,.cells #[iv 0,iv 0,.slice none 0 0] 28),(b3,.cells #[nv n.r,nv n.c,E'] 28),(b2,.cells #[nv m.r,nv m.c,E] 28)]++(z.2++[]),
    fun z=>z.1≤n.c∧(m.at i k=0→z.1=0)∧aN z.2 (.slice Ao (m.r*n.c) co) (m.r*n.c) (jf m n (List.range i) i (List.range k) k z.1),fun z=>n.c-z.1⟩ (0,N) ⟨by omega,fun _=>rfl,by rw[Qlg m n (List.range i) i (List.range k) k 0];exact hO⟩ aC (HSub.refl _) (fun z hz=>?_)
   clear hO
   obtain⟨j,N⟩:=z
   obtain⟨hj,hjz,hO⟩:=hz
   dsimp only at hj hjz hO ⊢
   by_cases hjj:j<n.c
   ·have hkj:=Yn (show k<n.r by omega) hjj
    have hij:=Yn hii hjj
    repeat' first|apply jS|apply jO|apply jN|refine Q1 ?_|refine Q2 ?_|refine Q7 ?_|refine Qp ?_|refine Ya (h:=?_)|(refine Qg (h1:=?_) (h2:=?_)<;>intro hc<;>try omega)|apply jT
    by_cases hz:m.at i k=0
    ·rw[show decide (aS (m.at i k).natAbs≠[])=false from decide_eq_false (fun h=>h (bF.2 oq))]
     repeat' first|apply jO|apply jN|apply jT|refine Q1 ?_|refine Q0 ?_|refine Qd ?_|apply jU|apply jE|refine Q4 rfl ?_|apply jW|apply Qc
     have hj0:j=0:=hjz hz
     subst hj0
     rw[Qlg m n (List.range i) i (List.range k) k 0,Qas hz, ← List.range_succ]at hO
     exact Q8 (k+1,N) ⟨by dsimp only;omega,hO⟩ aW aC (HSub.skip (HSub.refl _))
    ·rw[show decide (aS (m.at i k).natAbs≠[])=true from decide_eq_true (fun h=>hz (by have:=bF.1 h;omega))]
     repeat' first|apply jS|apply jO|apply jN|apply jT|refine Q1 ?_|refine Q2 ?_|refine Q7 ?_|refine QY (h:=?_)|refine Y4 (h:=?_)|refine Z8 (h:=?_)|refine Z1 (h:=?_)|refine Q6 ?_|refine Ya (h:=?_)|refine Qh fun _=>?_|refine Q6 ?_|apply jK|refine Q5 rfl ?_|apply jB
     rename_i b13
     by_cases hz2:n.at k j=0
     ·rw[show decide (aS (n.e.getD (k*n.c+j) 0).natAbs≠[])=false from decide_eq_false (fun h=>h (bF.2 (by have:n.e.getD (k*n.c+j) 0=0:=hz2;omega)))]
      repeat' first|apply jO|apply jN|apply jT|refine Q1 ?_|refine Q0 ?_|refine Qd ?_|apply jK|refine Q4 rfl ?_|apply jW
      rw[Qaq (by rw[hz2,Int.mul_zero])]at hO
      exact Q8 (j+1,N) ⟨by dsimp only;omega,fun h=>absurd h hz,hO⟩ aW aC (HSub.skip (HSub.refl _))
     ·rw[show decide (aS (n.e.getD (k*n.c+j) 0).natAbs≠[])=true from decide_eq_true (fun h=>hz2 (by have:=bF.1 h;show n.e.getD (k*n.c+j) 0=0;omega))]
      repeat' first|apply jS|apply jO|apply jD|apply jN|apply jT|refine Q1 ?_|refine Q2 ?_|refine Q0 ?_|refine Q7 ?_|refine Qm ?_|refine QY (h:=?_)|refine Y4 (h:=?_)|refine Z8 (h:=?_)|refine Z1 (h:=?_)|refine Q5 rfl ?_
      refine Q9 au rfl rfl rfl (fun w _ _=>Q8g w _ _ (m.at i k) (n.at k j) (K+L) (QC (Z2 (hx.at i k) oq)) (QC (Z2 (hy.at k j) oq)) oq) fun w v w' _ _ _ hR=>?_
      subst hR
      skip
      have es:(jf m n (List.range i) i (List.range k) k j).getD (i*n.c+j) 0=muF m n (List.range i) i (List.range k) k j i j:=Q1y hii hjj
      refine Q9 au rfl rfl rfl (fun w _ _=>Q5f w _ _ ((jf m n (List.range i) i (List.range k) k j).getD (i*n.c+j) 0) (m.at i k*n.at k j) (K+L+2) (QC (by rw[es];exact Qjs hbc hx hy (by simp;omega) (by simp;omega))) (QC (Z2 (W9 (hx.at i k) (hy.at k j)) oq)) oq) fun w v w' _ _ _ hR=>?_
      subst hR
      repeat' first|refine QY (h:=?_)|fail
      refine Q0a (A:=[_,_,_,_,_,_]) hO rfl rfl au rfl rfl hij (fun N' aX=>?_)
      rw[show (jf m n (List.range i) i (List.range k) k j).getD (i*n.c+j) 0=enz n.c (jf m n (List.range i) i (List.range k) k j) i j from rfl,Qet hii hjj]at aX
      repeat' first|apply jO|apply jN|apply jT|refine Q1 ?_|refine Q0 ?_|refine Qd ?_|apply jW
      exact Q8 (j+1,N') ⟨by dsimp only;omega,fun h=>absurd h hz,aX⟩ aW aC (HSub.skip (HSub.refl _))
   ·repeat' first|apply jS|apply jO|apply jN|apply jT|refine Q1 ?_|refine Q2 ?_|refine Q0 ?_|refine Q7 ?_|refine Qd ?_|refine Qq ?_|(refine Qg (h1:=?_) (h2:=?_)<;>intro hc<;>try omega)|apply jU|apply jE|refine Q4 rfl ?_|apply Qc|refine QA ?_|apply jW
    obtain rfl:j=n.c:=by omega
    rw[Qar, ← List.range_succ]at hO
    exact Q8 (k+1,N) ⟨by dsimp only;omega,hO⟩ aW aC (HSub.skip (HSub.refl _))
  ·repeat' first|apply jS|apply jO|apply jN|apply jT|refine Q1 ?_|refine Q2 ?_|refine Q0 ?_|refine Q7 ?_|refine Qd ?_|(refine Qg (h1:=?_) (h2:=?_)<;>intro hc<;>try omega)|apply jU|apply jE|refine Q4 rfl ?_|apply jW|apply Qc
   obtain rfl:k=m.c:=by omega
   rw[Qeu, ← List.range_succ]at hO
   exact Q8 (i+1,N) ⟨by dsimp only;omega,hO⟩ aW aC (HSub.refl _)
 ·repeat' first|apply jS|apply jO|apply jN|apply jT|refine Q1 ?_|refine Q2 ?_|refine Q0 ?_|refine Q7 ?_|refine Qm ?_|refine Q6 ?_|(refine Qg (h1:=?_) (h2:=?_)<;>intro hc<;>try omega)|refine Q6 ?_|apply jU|apply jE|apply jR|refine Q4 rfl ?_|apply Qc
  obtain rfl:i=m.r:=by omega
  rw[Qev]at hO
  exact Zg 1 rfl rfl rfl rfl (fun a w' st=>⟨st.kp,N,_,rfl,st.bI rfl Qb,gB.mk' hO⟩)


theorem Q1c (n:Nat) (hn:n≤200) (w:World):Calls Tryz.prog 61 #[nv n] w (aQ fun v w'=>Kp [] w w'∧Q5h (fF n) w v w'):=by
 have hnn:=rcZ hn hn
 refine Qa [⟨5,2,[],[]⟩] [] aA [] Tryz.func61 rfl mixed (by kernel_rfl) Tryz.ntmps61 Tryz.results61 rfl ⟨by simp,by simp⟩ aA ?_
 simp only[toS,Qe,Qx,Qo,Qr,ay,Ql,Qy,aB]
 repeat' first|apply jS|apply jO|apply jN|refine Q1 ?_|refine Qh fun _=>?_|apply jT
 rename_i b2
 refine Qt (A:=[_]) (B:=[]) rfl trivial rfl rfl rfl (fun w _ _=>Q49 n n hn hn w) fun w v w' _ _ _ hR=>?_
 obtain⟨N,Eo,hN,rfl,hO⟩:=hR
 obtain⟨Ao,co,rfl⟩:=hO.form
 refine⟨N,hN,?_⟩
 repeat' first|apply jS|apply jO|apply jN|apply jT|refine Q0 ?_|refine Q6 ?_|refine Qh fun _=>?_|refine Q6 ?_|apply jB
 rename_i b3
 refine Qn (ι:=Nat × aj) ⟨fun z=>[(4,nv z.1),(0,nv n),(3,.pointer (some ⟨b3,0,none⟩)),(2,.pointer (some ⟨b2,0,none⟩))],
  fun z=>[(b3,.cells #[nv n,nv n,.slice Ao (n*n) co] 28),(b2,.cells #[iv 0,iv 0,.slice none 0 0] 28)]++(z.2++[]),
  fun z=>z.1≤n∧aN z.2 (.slice Ao (n*n) co) (n*n) (oneS n z.1),fun z=>n-z.1⟩ (0,N) ⟨by omega,by rw[Q7p];exact hO⟩ aC QE (fun k hk=>?_)
 obtain⟨k,N⟩:=k
 obtain⟨hkn,hO⟩:=hk
 dsimp only at hkn hO ⊢
 have hkk:k*n≤40000:=Vn (show k≤200 by omega) hn
 by_cases hlt:k<n
 ·have hi:=Yn hlt hlt
  repeat' first|apply jS|apply jO|apply jD|apply jN|apply jT|refine Q1 ?_|refine Q2 ?_|refine Q7 ?_|refine Z8 (h:=?_)|refine Z1 (h:=?_)|(refine Qg (h1:=?_) (h2:=?_)<;>intro hc<;>try omega)|apply jK|refine Q5 rfl ?_|apply jB
  refine Q9 au rfl rfl rfl (fun w _ _=>Yc w 1 oq oq) fun w v w' _ _ _ hR=>?_
  subst hR
  repeat' first|refine QY (h:=?_)|fail
  refine Q0a (A:=[_,_]) hO rfl rfl ⟨rfl,rfl⟩ rfl rfl hi (fun N' aX=>?_)
  rw[Qaj hlt]at aX
  repeat' first|apply jO|apply jN|apply jT|refine Q1 ?_|refine Q0 ?_|refine Qd ?_|apply jW
  exact Q8 (k+1,N') ⟨by dsimp only;omega,aX⟩ aW aC QE
 ·repeat' first|apply jS|apply jO|apply jN|apply jT|refine Q1 ?_|refine Q2 ?_|refine Q7 ?_|refine Qm ?_|refine Q6 ?_|(refine Qg (h1:=?_) (h2:=?_)<;>intro hc<;>try omega)|refine Q6 ?_|apply jU|apply jE|apply jR|refine Q4 rfl ?_|apply Qc
  obtain rfl:k=n:=by omega
  rw[Qak]at hO
  exact Z0 1 rfl rfl rfl (fun a w' st=>⟨st.kp,N,st.bI rfl Qb,gB.mk' hO⟩)


theorem Q9b (w:World) (v u:Value) (a b:XM) (ha:IsX w v a) (hb:IsX w u b) (hl:a.E.length<1000000000) (hl':b.E.length<1000000000) :
  Calls Tryz.prog 148 #[v,u] w (aQ fun v w'=>Kp [] w w'∧iK (RX a∧a=b) v):=by
 have ha0:=ha
 have hb0:=hb
 obtain⟨E,rfl,hE⟩:=ha
 obtain⟨E',rfl,hE'⟩:=hb
 refine Qa [] [] aA [] Tryz.func148 rfl mixed (by kernel_rfl) Tryz.ntmps148 Tryz.results148 rfl ⟨by simp,by simp⟩ aA ?_
 simp only[toS,Qe,Qx,Qo,Qr,ay,Ql,Qy,aB]
 have hR:=WX.rd (c:=⟨Tryz.prog,50,w,[],by simp⟩) hE rfl []
 have hR':=WX.rd (c:=⟨Tryz.prog,50,w,[],by simp⟩) hE' rfl []
 repeat' first|apply jS|apply jO|apply jN|refine Q0 ?_|refine Qm ?_|refine QM (h:=fun _=>?_)|apply jT
 rename_i b2 b3
 refine Q9 au rfl aF rfl (fun w hk _=>XD w _ a (ha0.mono hk) hl) fun w v w' _ _ _ hc0=>?_
 obtain⟨y1,rfl,hy1⟩:=hc0
 repeat' first|apply jS|apply jO|apply jN|refine Q0 ?_|refine Qm ?_|apply jT
 refine Q9 au rfl aF rfl (fun w hk _=>XD w _ b (hb0.mono hk) hl') fun w v w' _ _ _ hc0=>?_
 obtain⟨y2,rfl,hy2⟩:=hc0
 cases y1<;>cases y2
 ·repeat' first|apply jS|apply jO|apply jN|apply jT|refine Q1 ?_|refine Q0 ?_|refine Qp ?_|refine QG ?_|apply jV|refine Q5 rfl ?_|refine QA ?_|apply jR
  exact Qj rfl (fun a w' st=>⟨st.kp,Xa (fun h=>by cases hy1.2 h.1)⟩)
 ·repeat' first|apply jS|apply jO|apply jN|apply jT|refine Q1 ?_|refine Q0 ?_|refine Qp ?_|refine QG ?_|apply jV|refine Q5 rfl ?_|refine QA ?_|apply jR
  exact Qj rfl (fun a w' st=>⟨st.kp,Xa (fun h=>by cases hy1.2 h.1)⟩)
 ·repeat' first|apply jS|apply jO|apply jN|apply jT|refine Q1 ?_|refine Q0 ?_|refine Qp ?_|refine Qq ?_|refine QG ?_|apply jV|refine Q5 rfl ?_|refine QA ?_|apply jR
  exact Qj rfl (fun a w' st=>⟨st.kp,Xa (fun h=>by cases hy2.2 (h.2▸h.1))⟩)
 ·have g1:=(hy1.1 rfl)
  have g2:=(hy2.1 rfl)
  repeat' first|apply jS|apply jO|apply jN|apply jT|refine Q1 ?_|refine Q2 ?_|refine Q0 ?_|refine Q7 ?_|refine Qp ?_|refine Qq ?_|refine QG ?_|(refine ZP (h1:=?_) (h2:=?_)<;>intro hc<;>try omega)|apply jV|apply jK|apply jR|refine Q5 rfl ?_|refine Q4 rfl ?_|refine QA ?_|apply jB
  all_goals first
   | exact Qj rfl (fun a w' st=>⟨st.kp,Xa fun h=>by have h2:=h.2;subst h2;omega⟩)
   | skip
  have hRC:a.R=b.R∧a.C=b.C:=⟨by omega,by omega⟩
  have hn:a.E.length=b.E.length:=by
   obtain⟨m,hm,rfl⟩:=g1
   obtain⟨n,hn,rfl⟩:=g2
   have e1:m.r=n.r:=by have:(m.r:Int)=n.r:=hRC.1;omega
   have e2:m.c=n.c:=by have:(m.c:Int)=n.c:=hRC.2;omega
   show (m.e.map wz).length=(n.e.map wz).length
   rw[List.length_map,List.length_map,hm.len,hn.len,e1,e2]
  refine Qn (ι:=Nat) ⟨fun i=>[(7,nv i),(2,.pointer (some ⟨b2,0,none⟩)),(3,.pointer (some ⟨b3,0,none⟩))],fun _=>[(b3,.cells #[iv b.R,iv b.C,E'] 28),(b2,.cells #[iv a.R,iv a.C,E] 28)],
   fun i=>i≤a.E.length∧∀ j,j<i→a.E.getD j eX=b.E.getD j eX,fun i=>a.E.length-i⟩ 0 ⟨by omega,fun j h=>by omega⟩ aC (HSub.refl _) (fun i hi=>?_)
  obtain⟨hin,hpr⟩:=hi
  dsimp only at hin hpr ⊢
  by_cases hlt:i<a.E.length
  ·have hlt2:i<b.E.length:=by omega
   repeat' first|apply jS|apply jO|apply jD|apply jN|apply jT|refine Q1 ?_|refine Q2 ?_|refine Q7 ?_|refine Q0w (h:=?_)|refine Qe5 (h:=?_)|refine W7 (h:=?_)|(refine Qg (h1:=?_) (h2:=?_)<;>intro hc<;>try omega)|apply jK|refine Q5 rfl ?_|apply jB
   refine Qku rfl rfl rfl rfl ?_
   by_cases he:a.E.getD i eX=b.E.getD i eX
   ·rw[he]
    simp only[BEq.rfl,decide_true,Bool.and_self,Bool.not_true]
    repeat' first|apply jO|apply jN|apply jT|refine Q1 ?_|refine Q0 ?_|refine Qd ?_|apply jK|refine Q4 rfl ?_|apply jW
    refine Q8 (i+1) ⟨by omega,fun j h=>?_⟩ aW aC (HSub.refl _)
    rcases Nat.lt_or_ge j i with h'|h'
    ·exact hpr j h'
    ·have:j=i:=by omega
     subst this;exact he
   ·have hb:(!((a.E.getD i eX).1 == (b.E.getD i eX).1 && decide ((a.E.getD i eX).2=(b.E.getD i eX).2)))=true:=by
     simp only[Bool.not_eq_true',Bool.and_eq_false_iff]
     by_cases h1:(a.E.getD i eX).1=(b.E.getD i eX).1
     ·refine .inr ?_
      simp only[decide_eq_false_iff_not]
      exact fun h2=>he (Prod.ext h1 h2)
     ·exact .inl (by simpa using h1)
    rw[hb]
    repeat' first|apply jS|apply jO|apply jN|apply jT|refine Q0 ?_|apply jV|apply jR|refine Q5 rfl ?_|apply Qz
    exact Qj rfl (fun a w' st=>⟨st.kp,Xa (fun h=>he (by rw[h.2]))⟩)
  ·repeat' first|apply jS|apply jO|apply jN|apply jT|refine Q1 ?_|refine Q2 ?_|refine Q0 ?_|refine Q7 ?_|refine W7 (h:=?_)|(refine Qg (h1:=?_) (h2:=?_)<;>intro hc<;>try omega)|apply jU|apply jE|apply jR|refine Q4 rfl ?_|apply Qc
   exact Qj rfl (fun a' w' st=>⟨st.kp,iK.t ⟨g1,XM.ext' oq oq (Q6h (d:=eX) hn (fun j hj=>hpr j oq))⟩⟩)

theorem Qg1 (K L:Nat) (w:World) (v u:Value) (a b:ZM) (ha:gJ a) (hb:gJ b) (hK:K+L≤9000000000) (hx:gu K a) (hy:gu L b) (hv:jw w v a) (hu:jw w u b) (hr:a.c=b.r) :
  Calls Tryz.prog 88 #[v,u] w (aQ fun v w'=>Kp [] w w'∧iK (mulZ a b=fF a.r) v):=by
 have hmR:gJ (mulZ a b):=XZ ha.r hb.c
 have hoR:gJ (fF a.r):=XZ ha.r ha.r
 have hv0:=hv
 have hu0:=hu
 obtain⟨E,rfl,hE⟩:=hv
 obtain⟨E',rfl,hE'⟩:=hu
 refine Qa [⟨2,1,[],[]⟩] [] aA [] Tryz.func88 rfl mixed (by kernel_rfl) Tryz.ntmps88 Tryz.results88 rfl ⟨by simp,by simp⟩ aA ?_
 simp only[toS,Qe,Qx,Qo,Qr,ay,Ql,Qy,aB]
 repeat' first|apply jS|apply jO|apply jN|refine Q0 ?_|refine Qm ?_|refine QM (h:=fun _=>?_)|apply jT
 rename_i b2 b3
 refine Qt (A:=[_,_]) (B:=[]) rfl au rfl aF rfl (fun w hk _=>Qij K L w _ _ a b ha hb hr oq hx hy (hv0.mono hk) (hu0.mono hk)) fun w v w' _ _ _ hR=>?_
 obtain⟨N,u1,rfl,hN,E1,rfl,hO⟩:=hR
 obtain⟨A1,c1,rfl⟩:=hO.form
 refine⟨N,hN,?_⟩
 repeat' first|apply jS|apply jD|apply jN|refine Q1 ?_|refine Q2 ?_|refine Q0 ?_|refine Q7 ?_|refine Qm ?_|refine Qu (h:=?_)|refine Q6 ?_|refine Qh fun _=>?_|refine Q6 ?_|apply jT
 rename_i b4
 refine Qt (A:=[_,_,_]) (B:=N++[]) rfl au rfl aF rfl (fun w hk _=>Q1c a.r ha.r w) fun w v w' _ _ _ hR=>?_
 obtain⟨N2,eH,E2,rfl,hO2⟩:=hR
 obtain⟨A2,c2,rfl⟩:=hO2.form
 refine⟨N2,eH,?_⟩
 skip
 refine Q9 au rfl aF rfl (fun w hk hs=>Q9b w _ _ (mulZ a b).xm (fF a.r).xm (jw.x ⟨_,rfl,hO.rd.at hk hs Qb⟩) (jw.x ⟨_,rfl,hO2.rd.at hk hs Qb⟩) (by simp only[ZM.xm,List.length_map];have:=hmR.le;omega) (by simp only[ZM.xm,List.length_map];have:=hoR.le;omega)) fun w v w' _ _ _ hR=>?_
 obtain⟨y,rfl,hy⟩:=hR
 repeat' first|apply jN|apply jT|refine Q0 ?_|refine Qp ?_|apply jR
 exact Qj rfl (fun a' w' st=>⟨st.kp,y,rfl,hy.trans ⟨fun h=>Qj5 h.2,fun h=>⟨hmR.rx,by rw[h]⟩⟩⟩)


theorem Q6b {n i j:Nat} (hi:i<n) (hj:j<n):gE (fP n) i j=fO i j:=by
 unfold gE fP fO
 simp[List.getD_eq_getElem?_getD,List.getElem?_map,List.getElem?_range,hi,hj]
theorem perm5 (N1 N2 Nd N3 N4:aj):List.Perm (N4++(N3++(N2++(N1++Nd)))) ((N1++(N2++(Nd++(N3++(N4++[])))))++[]):=by
 have h:List.Perm (N4++(N3++(N2++(N1++Nd)))) (((N1++(N2++Nd))++N3)++N4) :=
  List.perm_append_comm.trans ((List.perm_append_comm.trans ((List.perm_append_comm_assoc N2 N1 Nd).append_right N3)).append_right N4)
 simpa only[Vb,Vh] using h
theorem Q5q {n:Nat}:bP n n (gE (fP n))=(fF n).e:=by
 refine Qk fun i j hi hj=>?_
 exact Q6b hi hj
theorem Qhz (b:Nat):aN [(b,.cells ⟨[]⟩ 75)] (.slice (some ⟨b,0,none⟩) 0 0) 0 []:=by
 have h:=aH.mk' (e:=75) (sz:=2) (n:=0) (b:=b) (cs:=⟨[]⟩) aA (by simp only[maxLen];omega)
 exact h

theorem Qmj (w:World) (v:Value) (a:ZM) (g:List (List Int)) (ha:gJ a) (hv:jw w v a) (hg:a.e=bP a.r a.c (gE g)) :
  Calls Tryz.prog 26 #[v] w (aQ fun v w'=>Kp [] w w'∧∃ b J,v=.pointer (some ⟨b,0,none⟩)∧New (bW b J a.r a.c 0 0) w w'∧IsJ J a.r a.c (WK a.r a.c g)):=by
 have hv0:=hv
 have hle:=ha.le
 obtain⟨E,rfl,hE⟩:=hv
 refine Qa [⟨4,1,[0,1,2,3,5,6,4,7,8,9,10],[]⟩,⟨5,1,[0,1,3,4,6,7,8,10,11,2,5,9,12,13,14,15],[]⟩] [] aA [] Tryz.func26 rfl mixed (by kernel_rfl) Tryz.ntmps26 Tryz.results26 rfl ⟨by simp,by simp⟩ aA ?_
 simp only[toS,Qe,Qx,Qo,Qr,ay,Ql,Qy,aB]
 have hR:=WZ.rd (c:=⟨Tryz.prog,33,w,[],by simp⟩) hE rfl []
 repeat' first|apply jS|apply jO|apply jN|refine Q0 ?_|refine Qm ?_|refine QM (h:=fun _=>?_)|apply jT
 rename_i b1
 refine Q9 au rfl aF rfl (fun w hk _=>XD w _ a.xm (hv0.mono hk).x (by simp only[ZM.xm,List.length_map];omega)) fun w v w' _ _ _ hc0=>?_
 obtain⟨y,rfl,hy⟩:=hc0
 obtain rfl:y=true:=hy.2 ha.rx
 repeat' first|apply jS|apply jO|apply jD|apply jN|apply jT|refine Q1 ?_|refine Q2 ?_|refine Q0 ?_|refine Q7 ?_|refine QG ?_|apply jK|refine Q4 rfl ?_
 refine XP rfl rfl rfl (fun b2=>?_)
 have h1:=Qhz b2
 skip
 refine Qca (A:=[]) (B:=[_]) h1 hR (HSub.nil _) rfl (by exact HSub.refl _) rfl aF rfl rfl oq (fun v' Nd hOd=>?_)
 rw[Vq,Vr]at hOd
 obtain⟨Ad,cd,rfl⟩:=hOd.form
 repeat' first|apply jS|apply jN|refine Q6 ?_|refine Qh fun _=>?_|refine ZU (h:=?_)|refine Q6 ?_|apply jT
 rename_i b4
 refine JC.part (F':=[(4,.pointer (some ⟨b4,0,none⟩)),(1,.pointer (some ⟨b1,0,none⟩)),(2,.pointer none)]) (H':=(b4,.cells #[nv a.r,nv a.c,.slice Ad a.e.length cd] 28)::(b1,.cells #[nv a.r,nv a.c,E] 28)::Nd) aC (HSub.at 0 rfl ?_) ?_
 ·show HSub ((b1,.cells #[nv a.r,nv a.c,E] 28)::Nd) (Nd++[(b1,.cells #[nv a.r,nv a.c,E] 28)])
  exact⟨[],by rw[Vh];exact List.perm_append_comm⟩
 repeat' first|refine Q2 ?_|refine Q7 ?_|refine Qm ?_|apply jD
 refine Qt (A:=[_,_]) (B:=Nd) rfl au rfl aF rfl (fun w _ _=>Q1c a.r ha.r w) fun w v w' _ _ _ hR=>?_
 obtain⟨N1,hNN1,EN1,rfl,hON1⟩:=hR
 obtain⟨AN1,cN1,rfl⟩:=hON1.form
 refine⟨N1,hNN1,?_⟩
 clear hNN1
 skip
 refine Qt (A:=[_,_]) (B:=N1++Nd) rfl au rfl aF rfl (fun w _ _=>Q1c a.r ha.r w) fun w v w' _ _ _ hR=>?_
 obtain⟨N2,hNN2,EN2,rfl,hON2⟩:=hR
 obtain⟨AN2,cN2,rfl⟩:=hON2.form
 refine⟨N2,hNN2,?_⟩
 clear hNN2
 skip
 refine Qt (A:=[_,_]) (B:=N2++(N1++Nd)) rfl au rfl aF rfl (fun w _ _=>Q1c a.c ha.c w) fun w v w' _ _ _ hR=>?_
 obtain⟨N3,hNN3,EN3,rfl,hON3⟩:=hR
 obtain⟨AN3,cN3,rfl⟩:=hON3.form
 refine⟨N3,hNN3,?_⟩
 clear hNN3
 skip
 refine Qt (A:=[_,_]) (B:=N3++(N2++(N1++Nd))) rfl au rfl aF rfl (fun w _ _=>Q1c a.c ha.c w) fun w v w' _ _ _ hR=>?_
 obtain⟨N4,hNN4,EN4,rfl,hON4⟩:=hR
 obtain⟨AN4,cN4,rfl⟩:=hON4.form
 refine⟨N4,hNN4,?_⟩
 clear hNN4
 obtain⟨J,hJ⟩:∃ J:JV,J=⟨⟨AN1,cN1,N1⟩,⟨AN2,cN2,N2⟩,⟨Ad,cd,Nd⟩,⟨AN3,cN3,N3⟩,⟨AN4,cN4,N4⟩⟩:=⟨_,rfl⟩
 have e1:(fF a.r).e.length=a.r*a.r:=Q5r _ _ _
 have e2:(fF a.c).e.length=a.c*a.c:=Q5r _ _ _
 have e3:a.e.length=a.r*a.c:=ha.len
 rw[e1]at hON1 hON2 ⊢
 rw[e2]at hON3 hON4 ⊢
 rw[e3]at hOd ⊢
 refine Zw (cs:=jbC ⟨⟨AN1,cN1,N1⟩,⟨AN2,cN2,N2⟩,⟨Ad,cd,Nd⟩,⟨AN3,cN3,N3⟩,⟨AN4,cN4,N4⟩⟩ a.r a.c 0 0) rfl rfl rfl (by kernel_rfl) ?_
 refine QM rfl rfl rfl rfl (fun b9=>?_)
 repeat' first|apply jN|apply jT|refine Q0 ?_|apply jR
 refine Qj rfl (fun a' w' st=>⟨st.kp,b9,⟨⟨AN1,cN1,N1⟩,⟨AN2,cN2,N2⟩,⟨Ad,cd,Nd⟩,⟨AN3,cN3,N3⟩,⟨AN4,cN4,N4⟩⟩,rfl,st.bI rfl (HSub.at 0 rfl ?_),⟨?_,?_,?_,?_,?_⟩⟩)
 ·exact Qf (M:=[_,_]) ⟨[],perm5 N1 N2 Nd N3 N4⟩
 ·rw[← Q5q]at hON1;exact hON1
 ·rw[← Q5q]at hON2;exact hON2
 ·rw[hg]at hOd;exact hOd
 ·rw[← Q5q]at hON3;exact hON3
 ·rw[← Q5q]at hON4;exact hON4


def jh:Nat→Nat→List Nat
 | 0,_=>[]
 | f+1,x=>if x=0 then [] else jh f (x / 10)++[48+x % 10]
def dec (x:Nat):List Nat:=jh x x
theorem Qfj:∀ f g x,x≤f→x≤g→jh f x=jh g x
 | 0,0,_,_,_=>rfl
 | 0,g+1,x,h,_=>by rw[jh,jh,if_pos oq]
 | f+1,0,x,_,h=>by rw[jh,jh,if_pos oq]
 | f+1,g+1,x,h1,h2=>by
  rw[jh,jh]
  by_cases h:x=0
  ·rw[if_pos h,if_pos h]
  ·rw[if_neg h,if_neg h,Qfj f g (x / 10) oq oq]
theorem XV {x:Nat} (h:0<x):dec x=dec (x / 10)++[48+x % 10]:=by
 unfold dec
 obtain⟨y,rfl⟩:∃ y,x=y+1:=⟨x-1,by omega⟩
 rw[jh,if_neg oq,Qfj y ((y+1) / 10) ((y+1) / 10) oq (V7 _)]
theorem Qb6:dec 0=[]:=rfl
def txt (a:Int):List Nat:=if a=0 then [48] else (if a<0 then [45] else [])++dec a.natAbs
def tx (a:Int):List UInt8:=(txt a).map UInt8.ofNat

theorem Qfi:∀ f x,∀ c∈jh f x,48≤c∧c≤57
 | 0,_,_,h=>absurd h List.not_mem_nil
 | f + 1, x, c, h => by
  rw[jh]at h
  by_cases h0:x=0
  ·rw[if_pos h0]at h;exact absurd h List.not_mem_nil
  ·rw[if_neg h0]at h
   rcases List.mem_append.1 h with h1|h1
   ·exact Qfi f _ c h1
   ·rw[List.mem_singleton.1 h1];omega
theorem Qn1 (a:Int):∀ c∈txt a,c<256:=fun c h=>by
 unfold txt at h
 by_cases h0:a=0
 ·rw[if_pos h0]at h;rw[List.mem_singleton.1 h];decide
 ·rw[if_neg h0]at h
  rcases List.mem_append.1 h with h1|h1
  ·by_cases hn:a<0
   ·rw[if_pos hn]at h1;rw[List.mem_singleton.1 h1];decide
   ·rw[if_neg hn]at h1;exact absurd h1 List.not_mem_nil
  ·have:=Qfi _ _ c h1;omega
theorem Qou (a:Int):bf (tx a)=txt a:=Qgc (Qn1 a)
theorem Qgy {l:List UInt8} {a:Int} (h:bf l=txt a):l=tx a:=Q9f (h.trans (Qou a).symm)

theorem Q7f {c:Cx} {Q:Exit→Act→World→Prop} {m:Mode} {F:ak} {H:aj} {r:List bT} {g:Option (Option Tmp × Bool)} {ns:Bool} {d:Tmp} {ty t e:TypeId} {x lo hi mx:Operand} {N:aj} {b o n l cap:Nat} {xs:List Nat} [dh c.P t e] [dS c.P e 1] (hd:Qw c.n (some d)=true) (hg:Qi F g=some true)
  (hx:ev F x=some (.slice (some ⟨b,o,none⟩) n cap)) (hv:RdY c N (.slice (some ⟨b,o,none⟩) n cap) n xs) (hlo:ev F lo=some (.int .i64 l)) (hhi:ev F hi=some (.int .i64 n)) (hmx:ev F mx=some (.int .i64 n)) (hln:l<n) (hnc:n≤cap)
  (h:∀ v',RdY c N v' (n-l) (xs.drop l)→JO c Q m r ((d,v')::F) H):JO c Q m (⟨some d,.slice t x (some lo) (some hi) (some mx),ty,g,.bg,ns⟩::r) F H:=by
 refine ZE (v:=.slice (some ⟨b,o+l,none⟩) (n-l) (n-l)) hd hg (fun a w fr=>?_) (h _ ?_)
 ·have e1:(0:Int)≤l∧(l:Int)≤n:=by omega
  have e2:(0:Int)≤n∧(n:Int)≤n:=by omega
  have e3:(0:Int)≤n∧(n:Int)≤cap:=by omega
  have e4:¬n=l:=by omega
  simp only[execOp,fr.ev hx,Option.map_some,fr.ev hlo,fr.ev hhi,fr.ev hmx,Instr.sliceAt,Sem.run_bind,run_underlying (dh.und (P:=c.P) (t:=t)),Result.andThen_ok,Instr.slice,Instr.sliceBounds,Instr.sliceBound,asIntOf,Sem.run_pure,e1,e2,e3,and_self,if_true,Int.toNat_natCast,dS.size (e:=e) (n:=1),if_false,e4]
  simp[ZD]
 ·obtain⟨hlen,A',cap',h2,h3,h4⟩:=hv
  simp only[Value.slice.injEq,true_and]at h2
  obtain⟨rfl,rfl⟩:=h2
  refine⟨by rw[List.map_drop,List.length_drop,hlen];omega,_,_,rfl,V7 _,fun h0=>⟨⟨_,_,rfl⟩,fun w hw j u hu=>?_⟩⟩
  rw[List.map_drop,List.getElem?_drop]at hu
  have:=(h4 oq).2 w hw (l+j) u hu
  simpa [dK,Addr.add,Nat.add_assoc] using this


theorem Q1a {l:List Nat} {i u:Nat} (h:i<l.length):(l.set i u).drop i=u::l.drop (i+1):=by
 rw[List.drop_eq_getElem_cons (show i<(l.set i u).length by simpa using h),List.getElem_set_self,Xj]
theorem Q5o {p:Bool} {V:Nat} (h:V≠0):txt (bC p V)=(if p=true then [45] else [])++dec V:=by
 unfold txt
 rw[if_neg (fun e=>h ((Q05 _ _).1 e)),YY]
 cases p
 ·rw[if_neg (show ¬bC false V<0 by simp[bC])];rfl
 ·rw[if_pos (show bC true V<0 by simp[bC];omega)];rfl
theorem Qkg (L:Nat):W32 ^ L≤10 ^ (10*L):=by
 rw[Nat.pow_mul]
 exact Nat.pow_le_pow_left dq L

theorem Qom (w:World) (p:Bool) (l:List UInt8) (hl:l.length≤10000000000) :
  Calls Tryz.prog 77 #[wv p l] w (aQ fun v w'=>Kp [] w w'∧v=sv (tx (bC p (bV (bf l))))):=by
 refine Qa [⟨14,0,[],[(7,.seq)]⟩] [] aA [] Tryz.func77 rfl mixed (by kernel_rfl) Tryz.ntmps77 Tryz.results77 rfl ⟨by simp,by simp⟩ aA ?_
 simp only[toS,Qe,Qx,Qo,Qr,ay,Ql,Qy,aB]
 repeat' first|apply jS|apply jO|apply jN|refine Q0 ?_|refine Qm ?_|refine QM (h:=fun _=>?_)|apply jT
 rename_i b1
 refine Qt (A:=[_]) rfl trivial rfl rfl rfl (fun w hk hs=>Q4n w p l oq) fun w v w' _ _ _ hR=>?_
 obtain⟨N1,zs0,hN1,bG,hz1,aP⟩:=hR
 refine⟨N1,hN1,?_⟩
 have jv:=Yz hz1 aP (V7 _)
 have he:=hz1.eq_nil dq
 rw[aP]at he
 by_cases h0:zs0.length=0
 ·have h1:=he.1 (List.eq_nil_of_length_eq_zero h0)
  rw[h1,YS]
  repeat' first|apply jS|apply jO|apply jN|apply jT|refine Q1 ?_|refine Q0 ?_|refine QW (h:=?_)|(refine Zm (h1:=?_) (h2:=?_)<;>intro hc<;>try omega)|apply jV|apply jR|refine Q5 rfl ?_
  exact Qj rfl (fun a w' st=>⟨st.kp,rfl⟩)
 have hV0:bV (bf l)≠0:=fun h=>h0 (by rw[he.2 h];rfl)
 repeat' first|apply jS|apply jO|apply jN|apply jT|refine Q1 ?_|refine Q0 ?_|refine Z1 (i:=10) (h:=?_)|refine Q61 (h:=?_)|refine QW (h:=?_)|(refine Zm (h1:=?_) (h2:=?_)<;>intro hc<;>try omega)|apply jK|refine Q4 rfl ?_
 refine Xf (n:=1+10*zs0.length) rfl rfl rfl rfl rfl oq oq (fun b5=>?_)
 have hOb0:=Qcc b5 (1+10*zs0.length) (by simp only[maxLen];omega)
 have hMb:1+10*zs0.length≤30000000001:=by omega
 have hV10:val W32 zs0<10 ^ (1+10*zs0.length-1):=by
  rw[Nat.add_sub_cancel_left]
  exact V6 (Yi hz1.lt) (Qkg _)
 generalize 1+10*zs0.length=M at hOb0 hMb hV10 ⊢
 have hM1:1≤M:=by
  refine Ve fun h=>?_
  obtain rfl:M=0:=by omega
  simp at hV10
  omega
 rw[← aP]at hV0 ⊢
 generalize hV:val W32 zs0=V at hV0 hV10 ⊢
 have hds:dec V++(tab M fun _=>0).drop M=dec V:=by rw[List.drop_eq_nil_of_le aA,Vh]
 repeat' first|apply jS|apply jO|apply jN|apply jT|refine Q1 ?_|refine Q0 ?_|refine ZC (h:=?_)|apply jB
 refine Qn (ι:=Nat × Value × aj × List Nat × aj × List Nat) ⟨fun z=>[(5,nv z.1),(4,.slice (some ⟨b5,0,none⟩) M M),(3,z.2.1),(1,.pointer (some ⟨b1,0,none⟩))],fun z=>(b1,.cells #[.bool p,sv l] 75)::(z.2.2.2.2.1++(z.2.2.1++[])),
  fun z=>z.1≤M∧1≤z.1∧aZ z.2.2.1 z.2.1 z.2.2.2.1.length z.2.2.2.1∧dA W32 z.2.2.2.1∧z.2.2.2.1.length≤10000000000∧dU z.2.2.2.2.1 (.slice (some ⟨b5,0,none⟩) M M) M z.2.2.2.2.2∧(∀ x∈z.2.2.2.2.2,x<256)∧val W32 z.2.2.2.1<10 ^ (z.1-1)∧dec (val W32 z.2.2.2.1)++z.2.2.2.2.2.drop z.1=dec V,fun z=>val W32 z.2.2.2.1⟩
  (M,_,N1,zs0,_,_) ⟨V7 _,hM1,bG,hz1,by dsimp only;omega,hOb0,fun x hx=>by obtain⟨a,_,rfl⟩:=List.mem_map.1 hx;decide,by dsimp only;rw[hV];exact hV10,by dsimp only;rw[hV];exact hds⟩ aC (by exact HSub.at 1 rfl (HSub.at 0 rfl (HSub.refl _))) (fun z hz=>?_)
 clear hOb0 bG hz1 hds hV10
 obtain⟨at',vz,Nz,zs,Nb,bs⟩:=z
 obtain⟨hat,hat1,hOz,hz,hzl,hOb,hbs,hpw,hdec⟩:=hz
 dsimp only at hat hat1 hOz hz hzl hOb hbs hpw hdec ⊢
 have hlb:=hOb.len
 have hez:=hz.eq_nil dq
 by_cases hgo:0<zs.length
 ·have hvp:0<val W32 zs:=Nat.pos_of_ne_zero fun h=>by rw[hez.2 h]at hgo;exact absurd hgo aA
  have hat2:2≤at':=by
   refine Ve fun h=>?_
   obtain rfl:at'=1:=by omega
   simp at hpw
   omega
  have hst:=XV hvp
  repeat' first|apply jS|apply jO|apply jN|apply jT|refine Q1 ?_|refine Q0 ?_|refine QW (h:=?_)|(refine QU (h1:=?_) (h2:=?_)<;>intro hc<;>try omega)|apply jK|refine Q5 rfl ?_|apply jB
  refine Qt (A:=[_]) rfl trivial rfl rfl rfl (fun w hk hs=>Qfu w _ _ 10 zs (hOz.rd.at hk hs Qb) hz.lt dq dq oq) fun w v w' _ _ _ hR=>?_
  obtain⟨v1,N3,dD,rfl,hN3,hO3,hz3,hval3⟩:=hR
  refine⟨N3,hN3,?_⟩
  have hr10:val W32 zs % 10<10:=Nat.mod_lt _ dq
  generalize hr:val W32 zs % 10=rr at hr10 hst ⊢
  repeat' first|apply jS|apply jO|apply jN|refine Q1 ?_|refine Q0 ?_|refine Yf (h:=?_)|refine Qu (h:=?_)|apply jT
  refine Q11 (i:=48) (j:=rr) rfl rfl rfl rfl oq ?_
  repeat' first|refine Q0v (h:=?_)|refine Q7j (h:=?_)|fail
  have hu:(48+rr) % 256=48+rr:=Nat.mod_eq_of_lt oq
  rw[hu]
  refine Qnm (A:=_::N3) hOb rfl rfl trivial rfl rfl oq (fun Nb' hOb'=>?_)
  repeat' first|apply jN|apply jW
  refine Q8 (at'-1,v1,N3,dD,Nb',bs.set (at'-1) (48+rr)) ⟨by dsimp only;omega,by dsimp only;omega,hO3,hz3,?_,hOb',Yj hbs oq,?_,?_⟩ (by dsimp only;rw[hval3];omega) aC ?_
  ·dsimp only
   have h1:=hz3.bM dq (k:=zs.length) (by
    rw[hval3]
    exact V5 (Nat.div_le_self _ _) (Yi hz.lt))
   omega
  ·dsimp only
   rw[hval3,show at'-1-1=at'-2 by omega]
   rw[show at'-1=at'-2+1 by omega,V9]at hpw
   omega
  ·dsimp only
   rw[hval3,Q1a oq,show at'-1+1=at' by omega, ← hdec,hst,Vb]
   rfl
  ·exact HSub.at 0 rfl (by
    show HSub (Nb'++(N3++[])) (N3++(Nb'++_))
    exact⟨Nz++[],by
     simp only[Vh]
     rw[← Vb N3]
     exact List.Perm.append_right Nz List.perm_append_comm⟩)
 ·have hv0:val W32 zs=0:=hez.1 (List.eq_nil_of_length_eq_zero oq)
  rw[hv0,Qb6,Vr]at hdec
  have hne:dec V≠[]:=by rw[XV (Nat.pos_of_ne_zero hV0)];simp
  have hatM:at'<M:=by
   refine Ve fun h=>hne ?_
   rw[← hdec]
   exact List.drop_eq_nil_of_le oq
  cases p with
  | true =>
   repeat' first|apply jS|apply jO|apply jN|apply jT|refine Q1 ?_|refine Q2 ?_|refine Q0 ?_|refine Q7 ?_|refine Yf (h:=?_)|refine Q7j (h:=?_)|refine QW (h:=?_)|(refine QU (h1:=?_) (h2:=?_)<;>intro hc<;>try omega)|apply jU|apply jE|refine Q5 rfl ?_|refine Q4 rfl ?_|apply Qc
   refine Qnm (A:=[_]) hOb rfl rfl trivial rfl rfl oq (fun Nb' hOb'=>?_)
   repeat' first|apply jS|apply jO|apply jN|refine Q1 ?_|refine ZC (h:=?_)|apply jT
   refine Q7f (l:=at'-1) rfl rfl rfl hOb'.rd rfl rfl rfl oq (V7 _) (fun v9 hR9=>?_)
   refine Q09 (fun u hu=>Yj hbs dq u (List.mem_of_mem_drop hu)) hR9 Qb trivial rfl rfl rfl (fun l9 hl9=>?_)
   repeat' first|apply jN|apply jT|refine Q0 ?_|apply jR
   have hfin:l9=tx (bC true V):=Qgy (by rw[hl9,Q1a oq,show at'-1+1=at' by omega,hdec,Q5o hV0];rfl)
   exact Qj rfl (fun a w' st=>⟨st.kp,by rw[hfin]⟩)
  | false =>
   repeat' first|apply jS|apply jO|apply jN|apply jT|refine Q1 ?_|refine Q2 ?_|refine Q7 ?_|refine ZC (h:=?_)|refine QW (h:=?_)|(refine QU (h1:=?_) (h2:=?_)<;>intro hc<;>try omega)|apply jU|apply jK|apply jE|refine Q4 rfl ?_|apply Qc
   refine Q7f (l:=at') rfl rfl rfl hOb.rd rfl rfl rfl oq (V7 _) (fun v9 hR9=>?_)
   refine Q09 (fun u hu=>hbs u (List.mem_of_mem_drop hu)) hR9 Qb trivial rfl rfl rfl (fun l9 hl9=>?_)
   repeat' first|apply jN|apply jT|refine Q0 ?_|apply jR
   have hfin:l9=tx (bC false V):=Qgy (by rw[hl9,hdec,Q5o hV0];rfl)
   exact Qj rfl (fun a w' st=>⟨st.kp,by rw[hfin]⟩)


theorem Q26 (a b:List UInt8):bf (a++b)=bf a++bf b:=Vj ..
theorem Qlx:dA aI [10]:=⟨fun x hx=>by rw[List.mem_singleton.1 hx];decide,rfl⟩
theorem Qk8:val aI [10]=10:=rfl
theorem Qgw {rs:List Nat} (h:val aI rs<10) (h0:0<rs.length):rs.getD 0 0=val aI rs:=by
 have e:=Z6 (b:=aI) (l:=rs) (k:=0) h0
 rw[List.drop_zero]at e
 change val aI rs=rs.getD 0 0+65536*_ at e
 omega

theorem Qmf (w:World) (p:Bool) (l:List UInt8) (hl:l.length≤10000000000) :
  Calls Tryz.prog 79 #[wv p l] w (aQ fun v w'=>Kp [] w w'∧v=sv (tx (bC p (bV (bf l))))):=by
 refine Qa [⟨10,0,[],[(4,.seq)]⟩] [] aA [] Tryz.func79 rfl mixed (by kernel_rfl) Tryz.ntmps79 Tryz.results79 rfl ⟨by simp,by simp⟩ aA ?_
 simp only[toS,Qe,Qx,Qo,Qr,ay,Ql,Qy,aB]
 repeat' first|apply jS|apply jO|apply jN|refine Q0 ?_|refine Qm ?_|refine QM (h:=fun _=>?_)|apply jT
 rename_i b1
 refine Qt (A:=[_]) rfl trivial rfl rfl rfl (fun w hk hs=>Yl w p l oq) fun w v w' _ _ _ hR=>?_
 obtain⟨N1,zs0,hN1,bG,hz1,aP⟩:=hR
 refine⟨N1,hN1,?_⟩
 have jv:=ZQ hz1 aP (V7 _)
 have he:=hz1.eq_nil dq
 rw[aP]at he
 by_cases h0:zs0.length=0
 ·have h1:=he.1 (List.eq_nil_of_length_eq_zero h0)
  rw[h1,YS]
  repeat' first|apply jS|apply jO|apply jN|apply jT|refine Q1 ?_|refine Q0 ?_|refine Z9 (h:=?_)|(refine Zm (h1:=?_) (h2:=?_)<;>intro hc<;>try omega)|apply jV|apply jR|refine Q5 rfl ?_
  exact Qj rfl (fun a w' st=>⟨st.kp,rfl⟩)
 have hV0:bV (bf l)≠0:=fun h=>h0 (by rw[he.2 h];rfl)
 rw[← aP]at hV0 ⊢
 generalize hV:val aI zs0=V at hV0 ⊢
 repeat' first|apply jS|apply jO|apply jN|apply jT|refine Q1 ?_|refine Q0 ?_|refine Z9 (h:=?_)|(refine Zm (h1:=?_) (h2:=?_)<;>intro hc<;>try omega)|apply jK|refine Q4 rfl ?_|apply jB
 refine Qn (ι:=Value × aj × List Nat × List UInt8 × Nat) ⟨fun z=>[(4,sv z.2.2.2.1),(3,z.1),(1,.pointer (some ⟨b1,0,none⟩))],fun z=>(b1,.cells #[.bool p,sv l] 75)::(z.2.1++[]),
  fun z=>bH z.2.1 z.1 z.2.2.1.length z.2.2.1∧dA aI z.2.2.1∧z.2.2.1.length≤10000000000∧val aI z.2.2.1<10 ^ z.2.2.2.2∧dec (val aI z.2.2.1)++bf z.2.2.2.1=dec V∧z.2.2.2.1.length+z.2.2.2.2≤50000000000,fun z=>val aI z.2.2.1⟩
  (_,N1,zs0,[],5*zs0.length) ⟨bG,hz1,by dsimp only;omega,V6 (Yi hz1.lt) (by rw[Nat.pow_mul];exact Nat.pow_le_pow_left dq _),by dsimp only;rw[hV];exact Vh _,by dsimp only;simp;omega⟩ aC QF (fun z hz=>?_)
 clear bG hz1
 obtain⟨vz,Nz,zs,s,dd⟩:=z
 obtain⟨hOz,hz,hzl,hle,hdec,hsl⟩:=hz
 dsimp only at hOz hz hzl hle hdec hsl ⊢
 have hez:=hz.eq_nil dq
 by_cases hgo:0<zs.length
 ·have hvp:0<val aI zs:=Nat.pos_of_ne_zero fun h=>by rw[hez.2 h]at hgo;exact absurd hgo aA
  have hst:=XV hvp
  have hdd:1≤dd:=by
   refine Ve fun h=>?_
   obtain rfl:dd=0:=by omega
   simp at hle
   omega
  repeat' first|apply jS|apply jO|apply jN|apply jT|refine Q1 ?_|refine Z9 (h:=?_)|(refine QU (h1:=?_) (h2:=?_)<;>intro hc<;>try omega)|refine QH (h:=fun _=>?_)|apply jK|refine Q5 rfl ?_|apply jB
  rename_i b10
  have hL:bH [(b10,.cells ⟨[nv 10]⟩ 3)] (.slice (some ⟨b10,0,none⟩) 1 1) 1 [10]:=ZH b10 1 [10] _ rfl rfl dq
  refine Qt (A:=[_,_]) rfl trivial rfl rfl rfl (fun w hk hs=>Qfx w _ _ _ _ zs [10] (hOz.rd.at hk hs Qb) (hL.rd.at hk hs Qb) hz.lt Qlx dq oq dq) fun w v w' _ _ _ hR=>?_
  obtain⟨N3,N4,v3,v4,dD,fE,rfl,hN34,hO3,hO4,hz3,je,hval3,hlt4⟩:=hR
  refine⟨_,hN34,?_⟩
  rw[Vb N3 N4]
  rw[Qk8]at hval3 hlt4
  have hq3:val aI dD=val aI zs / 10:=by omega
  have hr4:val aI fE=val aI zs % 10:=by omega
  rw[← hr4, ← hq3]at hst
  have h34:=hz3.bM dq (k:=zs.length) (by
   rw[hq3]
   exact V5 (Nat.div_le_self _ _) (Yi hz.lt))
  by_cases h4:0<fE.length
  ·have hd4:=Qgw hlt4 h4
   have hdl:fE.getD 0 0<10:=by rw[hd4];exact hlt4
   repeat' first|apply jS|apply jO|apply jN|apply jT|refine Q1 ?_|refine Q0 ?_|refine ZT (h:=?_)|refine Xp (h:=?_)|refine Z9 (h:=?_)|refine Qu (h:=?_)|(refine QU (h1:=?_) (h2:=?_)<;>intro hc<;>try omega)|refine Q5 rfl ?_
   refine Z8 (i:=48) (j:=fE.getD 0 0) rfl rfl rfl rfl oq ?_
   repeat' first|refine Q0v (h:=?_)|refine QH (h:=fun _=>?_)|fail
   rename_i c2
   have h256:(48+(fE.getD 0 0)) % 256=48+val aI fE:=by omega
   refine Q09 (xs:=[(48+(fE.getD 0 0)) % 256]) (fun u hu=>by rw[List.mem_singleton.1 hu];omega) (Xh c2 1 [(48+(fE.getD 0 0)) % 256] _ rfl rfl dq).rd Qb trivial rfl rfl rfl (fun l1 hl1=>?_)
   have hll:l1.length=1:=by rw[← Xt,hl1];rfl
   repeat' first|apply jO|apply jN|apply jT|refine Q1 ?_|refine Q0 ?_|refine WS (h:=?_)|apply jW
   refine Q8 (v3,N3,dD,l1++s,dd-1) ⟨hO3,hz3,by dsimp only;omega,?_,?_,by dsimp only;simp only[Vi];omega⟩ aW aC QF
   ·dsimp only
    rw[show dd=dd-1+1 by omega,V9]at hle
    omega
   ·dsimp only
    rw[Q26,hl1,h256, ← hdec,hst,Vb]
  ·have hv4:val aI fE=0:=by rw[List.eq_nil_of_length_eq_zero (show fE.length=0 by omega)];rfl
   repeat' first|apply jS|apply jO|apply jN|apply jT|refine Q1 ?_|refine Q0 ?_|refine Z9 (h:=?_)|refine Q61 (h:=?_)|refine Qu (h:=?_)|refine Q0v (h:=?_)|(refine QU (h1:=?_) (h2:=?_)<;>intro hc<;>try omega)|refine QH (h:=fun _=>?_)|apply jK|refine Q4 rfl ?_
   rename_i c2
   have h256:(48+0) % 256=48+val aI fE:=by omega
   refine Q09 (xs:=[(48+0) % 256]) (fun u hu=>by rw[List.mem_singleton.1 hu];omega) (Xh c2 1 [(48+0) % 256] _ rfl rfl dq).rd Qb trivial rfl rfl rfl (fun l1 hl1=>?_)
   have hll:l1.length=1:=by rw[← Xt,hl1];rfl
   repeat' first|apply jO|apply jN|apply jT|refine Q1 ?_|refine Q0 ?_|refine WS (h:=?_)|apply jW
   refine Q8 (v3,N3,dD,l1++s,dd-1) ⟨hO3,hz3,by dsimp only;omega,?_,?_,by dsimp only;simp only[Vi];omega⟩ aW aC QF
   ·dsimp only
    rw[show dd=dd-1+1 by omega,V9]at hle
    omega
   ·dsimp only
    rw[Q26,hl1,h256, ← hdec,hst,Vb]
 ·have hv0:val aI zs=0:=hez.1 (List.eq_nil_of_length_eq_zero oq)
  rw[hv0,Qb6,Vr]at hdec
  cases p with
  | true =>
   repeat' first|apply jS|apply jO|apply jN|apply jT|refine Q1 ?_|refine Q2 ?_|refine Q7 ?_|refine Z9 (h:=?_)|(refine QU (h1:=?_) (h2:=?_)<;>intro hc<;>try omega)|apply jU|apply jE|refine Q5 rfl ?_|refine Q4 rfl ?_|apply Qc
   refine WS (l:=[45]) rfl rfl rfl rfl (by simp;omega) ?_
   repeat' first|apply jN|apply jT|refine Q0 ?_|apply jV|apply jR
   have hfin:[45]++s=tx (bC true V):=Qgy (by rw[Q26,hdec,Q5o hV0];rfl)
   exact Qj rfl (fun a w' st=>⟨st.kp,by rw[hfin]⟩)
  | false =>
   repeat' first|apply jS|apply jO|apply jN|apply jT|refine Q1 ?_|refine Q2 ?_|refine Q0 ?_|refine Q7 ?_|refine Z9 (h:=?_)|(refine QU (h1:=?_) (h2:=?_)<;>intro hc<;>try omega)|apply jU|apply jK|apply jE|apply jR|refine Q4 rfl ?_|apply Qc
   have hfin:s=tx (bC false V):=Qgy (by rw[hdec,Q5o hV0];rfl)
   exact Qj rfl (fun a w' st=>⟨st.kp,by rw[hfin]⟩)


def encZ (m n t s:Int) (S:Sm):List Int:=[m,n,t,s]++(S.u.flatten++(S.ui.flatten++(S.d.flatten++(S.v.flatten++S.vi.flatten))))
def dW:List Int→List UInt8
 | []=>[]
 | x::l=>32::(tx x++dW l)
def bU:List Int→List UInt8
 | []=>[]
 | x::l=>tx x++dW l
theorem Q47:∀ (l l':List Int),dW (l++l')=dW l++dW l'
 | [],_=>rfl
 | x::l,l'=>by
  show 32::(tx x++dW (l++l'))=32::(tx x++dW l)++dW l'
  rw[Q47 l l',Vg,Vb]
theorem Q80 {l:List Int} {x:Int} (h:0<l.length):bU (l++[x])=bU l++(32::tx x):=by
 cases l with
 | nil=>exact absurd h aA
 | cons y l =>
  show tx y++dW (l++[x])=tx y++dW l++_
  rw[Q47,Vb]
  show tx y++(dW l++(32::(tx x++[])))=_
  rw[Vh]
theorem Q6o:∀ k V,V<10 ^ k→(dec V).length≤k
 | 0,V,h=>by
  obtain rfl:V=0:=by simpa using h
  exact V7 _
 | k + 1, V, h => by
  by_cases h0:V=0
  ·subst h0;exact V8 _
  ·rw[XV (Nat.pos_of_ne_zero h0),Vi,Vo]
   have:=Q6o k (V / 10) (by rw[V9]at h;omega)
   omega
theorem Q9p {a:Int} {K:Nat} (h:a.natAbs<256 ^ K):(tx a).length≤3*K+1:=by
 have h1:a.natAbs<10 ^ (3*K):=V6 h (by rw[Nat.pow_mul];exact Nat.pow_le_pow_left dq K)
 have h2:=Q6o _ _ h1
 unfold tx txt
 rw[List.length_map]
 by_cases h0:a=0
 ·rw[if_pos h0];simp
 ·rw[if_neg h0,Vi]
  by_cases hn:a<0
  ·rw[if_pos hn,Vo];omega
  ·rw[if_neg hn,List.length_nil];omega
theorem Qb9 {K:Nat}:∀ l:List Int,(∀ x∈l,x.natAbs<256 ^ K)→(dW l).length≤l.length*(3*K+2)
 | [],_=>by simp[dW]
 | x::l,h=>by
  have h1:=Q9p (h x aA)
  have h2:=Qb9 l fun y hy=>h y (by simp[hy])
  show (32::(tx x++dW l)).length≤_
  rw[List.length_cons,Vi,List.length_cons,Nat.succ_mul]
  omega
theorem Q31 {K:Nat} (l:List Int) (h:∀ x∈l,x.natAbs<256 ^ K):(bU l).length≤l.length*(3*K+2):=by
 cases l with
 | nil=>exact V8 _
 | cons x l =>
  have h1:=Q9p (h x aA)
  have h2:=Qb9 l fun y hy=>h y (by simp[hy])
  show (tx x++dW l).length≤_
  rw[Vi,List.length_cons,Nat.succ_mul]
  omega
theorem Zj {r c:Nat} {g:List (List Int)} (h:Rec r c g):bP r c (gE g)=g.flatten:=by
 have hl:=QQ h
 have key:∀ (g:List (List Int)) (r:Nat),Rec r c g→∀ i j,i<r→j<c→enz c g.flatten i j=gE g i j:=by
  intro g
  induction g with
  | nil=>intro r h i j hi _;have:=h.len;simp at this;omega
  | cons x g ih =>
   intro r h i j hi hj
   have hx:x.length=c:=h.row x aA
   have hr:=h.len
   rw[List.length_cons]at hr
   have h':Rec (r-1) c g:=⟨by omega,fun y hy=>h.row y (by simp[hy])⟩
   unfold enz gE
   rw[List.flatten_cons]
   cases i with
   | zero =>
    rw[Nat.zero_mul,Vq,List.getD_cons_zero]
    simp only[List.getD]
    rw[List.getElem?_append_left oq]
   | succ i =>
    have:=ih (r-1) h' i j oq hj
    unfold enz gE at this
    rw[List.getD_cons_succ, ← this]
    simp only[List.getD]
    rw[List.getElem?_append_right (by rw[Nat.succ_mul];omega),show (i+1)*c+j-x.length=i*c+j by rw[Nat.succ_mul];omega]
 rw[← Qj9 hl]
 exact Qk fun i j hi hj=>(key g r h i j hi hj).symm
theorem YV {m n:Nat} {S:Sm} (h:Dm m n S) (t s:Int):(encZ m n t s S).length=4+(m*m+(m*m+(m*n+(n*n+n*n)))):=by
 unfold encZ
 simp only[Vi,QQ h.u,QQ h.ui,QQ h.d,QQ h.v,QQ h.vi]
 rfl
theorem Q1v {K:Nat} {g:List (List Int)} (h:gZ K g=true) {x:Int} (hx:x∈g.flatten):x.natAbs<256 ^ K:=by
 obtain⟨l,hl,hx⟩:=List.mem_flatten.1 hx
 exact of_decide_eq_true (List.all_eq_true.1 (List.all_eq_true.1 h _ hl) _ hx)
theorem Q1z {K:Nat} {m n t s:Int} {S:Sm} (hK:8≤K) (hm:m.natAbs<256 ^ 8) (hn:n.natAbs<256 ^ 8) (ht:t.natAbs<256 ^ 8) (hs:s.natAbs<256 ^ 8) (h:Ok K S):∀ x∈encZ m n t s S,x.natAbs<256 ^ K:=by
 have up:∀ {x:Int},x.natAbs<256 ^ 8→x.natAbs<256 ^ K:=fun h=>Z2 h hK
 intro x hx
 unfold encZ at hx
 rcases List.mem_append.1 hx with h1|h1
 ·simp only[List.mem_cons,List.not_mem_nil,or_false]at h1
  rcases h1 with rfl|rfl|rfl|rfl
  ·exact up hm
  ·exact up hn
  ·exact up ht
  ·exact up hs
 ·rcases List.mem_append.1 h1 with h1|h1
  ·exact Q1v h.u h1
  ·rcases List.mem_append.1 h1 with h1|h1
   ·exact Q1v h.ui h1
   ·rcases List.mem_append.1 h1 with h1|h1
    ·exact Q1v h.d h1
    ·rcases List.mem_append.1 h1 with h1|h1
     ·exact Q1v h.v h1
     ·exact Q1v h.vi h1


theorem Q33 (w:World) (v:Value) (a:Int) (k:Nat) (hv:fD v a k) (hk:k≤10000000000) :
  Calls Tryz.prog 79 #[v] w (aQ fun v w'=>Kp [] w w'∧v=sv (tx a)):=by
 obtain⟨p,l,rfl,hl1,rfl⟩:=hv
 exact Qmf w p l oq
def hdC (a b c d:Int):Array Value:=#[.bool (decide (a<0)),sv (aS a.natAbs),.bool (decide (b<0)),sv (aS b.natAbs),.bool (decide (c<0)),sv (aS c.natAbs),.bool (decide (d<0)),sv (aS d.natAbs)]
theorem Qf2 (x a b c d:Int) (p:Nat):aN [(p,.cells (hdC a b c d) 75)] (.slice (some ⟨p,0,none⟩) 4 4) 4 [a,b,c,d]:=by
 have h:=aH.mk' (e:=75) (sz:=2) (n:=4) (b:=p) (cs:=hdC a b c d) (by rfl) (by simp only[maxLen];omega)
 exact h
def matC (J:JV) (m n:Nat):Array Value:=#[nv m,nv m,.slice J.u.A (m*m) J.u.c,nv m,nv m,.slice J.ui.A (m*m) J.ui.c,nv m,nv n,.slice J.d.A (m*n) J.d.c,nv n,nv n,.slice J.v.A (n*n) J.v.c,nv n,nv n,.slice J.vi.A (n*n) J.vi.c]
def fJ (S:Sm):List (List Int):=[S.u.flatten,S.ui.flatten,S.d.flatten,S.v.flatten,S.vi.flatten]
def bQ (m n k:Nat):Nat:=4+([m*m,m*m,m*n,n*n,n*n].take k).sum
def dw (m n t s:Int) (S:Sm) (k:Nat):List Int:=[m,n,t,s]++((fJ S).take k).flatten
theorem Xi (m n t s:Int) (S:Sm):dw m n t s S 5=encZ m n t s S:=by
 unfold dw encZ fJ
 simp
theorem YH (m n t s:Int) (S:Sm) (k:Nat) (hk:k<5):dw m n t s S k++(fJ S).getD k []=dw m n t s S (k+1):=by
 have hl:k<(fJ S).length:=hk
 unfold dw
 rw[Q7z hl,Vb]
theorem Q6c {l:List Int} {k:Nat} (hk:k<l.length):l.take (k+1)=l.take k++[l.getD k 0]:=by
 rw[List.take_add_one,List.getD,List.getElem?_eq_getElem hk]
 rfl

theorem Qcl (K:Nat) (w:World) (b:Nat) (J:JV) (m n:Nat) (t s:Int) (S:Sm) (hJ:IsJ J m n S) (hD:Dm m n S) (hs:aG (bW b J m n t s) w) (hm:m≤200) (hn:n≤200) (ht:t.natAbs<1099511627777) (hs0:s.natAbs<1099511627777)
  (hK:8≤K) (hK2:K≤9000000000) (hb:Ok K S) :
  Calls Tryz.prog 32 #[.pointer (some ⟨b,0,none⟩)] w (aQ fun v w'=>Kp [] w w'∧v=sv (bU (encZ m n t s S))):=by
 have hM:=QK hs
 have e8:(256:Nat) ^ 8=18446744073709551616:=by decide
 have hel:=YV hD t s
 have hbd:=Q1z (m:=m) (n:=n) (t:=t) (s:=s) (K:=K) hK (by rw[e8];omega) (by rw[e8];omega) (by rw[e8];omega) (by rw[e8];omega) hb
 have hmm:m*m≤40000:=Vn hm hm
 have hmn:m*n≤40000:=Vn hm hn
 have hnn:n*n≤40000:=Vn hn hn
 have hlu:bQ m n 0+m*m=bQ m n 1:=by unfold bQ;simp;try omega
 have hlui:bQ m n 1+m*m=bQ m n 2:=by unfold bQ;simp;try omega
 have hld:bQ m n 2+m*n=bQ m n 3:=by unfold bQ;simp;try omega
 have hlv:bQ m n 3+n*n=bQ m n 4:=by unfold bQ;simp;try omega
 have hlvi:bQ m n 4+n*n=bQ m n 5:=by unfold bQ;simp;try omega
 have hl0:bQ m n 0=4:=rfl
 have hJu:=hJ.u
 have hJui:=hJ.ui
 have hJd:=hJ.d
 have hJv:=hJ.v
 have hJvi:=hJ.vi
 rw[Zj hD.u]at hJu
 rw[Zj hD.ui]at hJui
 rw[Zj hD.d]at hJd
 rw[Zj hD.v]at hJv
 rw[Zj hD.vi]at hJvi
 have hres:∀ w',Kp (keys (bW b J m n t s)) w w'→(∀ p∈bW b J m n t s,w'.heap[p.1]?=some p.2)→Kp [] w w':=fun w' h1 h2=>Z3 hs h1 h2
 refine Qa [⟨1,1,[0,1,2,3,4,6,7,8,9,10,12,13,14,15,17,18,19,20,5,11,16,21,22,23],[]⟩,⟨2,2,[],[]⟩] (keys (bW b J m n t s)) hM (bW b J m n t s) Tryz.func32 rfl mixed (by kernel_rfl) Tryz.ntmps32 Tryz.results32 rfl hs (fun p hp=>List.mem_map.2 ⟨p,hp,rfl⟩) ?_
 simp only[toS,Qe,Qx,Qo,Qr,ay,Ql,Qy,aB]
 unfold bW jbC
 repeat' first|apply jS|apply jO|apply jD|apply jN|refine Q1 ?_|refine Q2 ?_|refine Q0 ?_|refine Q7 ?_|refine Q3 ?_|apply jT
 refine Q9 au rfl aF rfl (fun w _ _=>Yc w (m:Int) oq oq) fun w v w' _ _ _ hR=>?_
 subst hR
 skip
 refine Q9 au rfl aF rfl (fun w _ _=>Yc w (n:Int) oq oq) fun w v w' _ _ _ hR=>?_
 subst hR
 skip
 refine Q9 au rfl aF rfl (fun w _ _=>Yc w t oq oq) fun w v w' _ _ _ hR=>?_
 subst hR
 skip
 refine Q9 au rfl aF rfl (fun w _ _=>Yc w s oq oq) fun w v w' _ _ _ hR=>?_
 subst hR
 skip
 refine Zr (l:=[(0,Wv (m:Int)),(1,Wv (n:Int)),(2,Wv t),(3,Wv s)]) (cs:=hdC m n t s) rfl rfl rfl rfl dq dq (by kernel_rfl) (fun b30=>?_)
 have hO:=Qf2 0 (m:Int) n t s b30
 repeat' first|apply jS|apply jD|apply jN|refine Q1 ?_|refine Q2 ?_|refine Q0 ?_|refine Q3 ?_|apply jT
 refine QB 1 rfl rfl rfl rfl rfl rfl rfl rfl ?_
 repeat' first|refine Q1 ?_|refine Q2 ?_|refine Q3 ?_|fail
 refine QB 1 rfl rfl rfl rfl rfl rfl rfl rfl ?_
 repeat' first|refine Q1 ?_|refine Q2 ?_|refine Q3 ?_|fail
 refine QB 1 rfl rfl rfl rfl rfl rfl rfl rfl ?_
 repeat' first|refine Q1 ?_|refine Q2 ?_|refine Q3 ?_|fail
 refine QB 1 rfl rfl rfl rfl rfl rfl rfl rfl ?_
 repeat' first|refine Q1 ?_|refine Q2 ?_|refine Q3 ?_|fail
 refine QB 1 rfl rfl rfl rfl rfl rfl rfl rfl ?_
 skip
 refine Zr (l:=[(0,.agg #[nv m,nv m,.slice J.u.A (m*m) J.u.c]),(1,.agg #[nv m,nv m,.slice J.ui.A (m*m) J.ui.c]),(2,.agg #[nv m,nv n,.slice J.d.A (m*n) J.d.c]),(3,.agg #[nv n,nv n,.slice J.v.A (n*n) J.v.c]),(4,.agg #[nv n,nv n,.slice J.vi.A (n*n) J.vi.c])]) (cs:=matC J m n) rfl rfl rfl rfl dq dq (by kernel_rfl) (fun jA=>?_)
 repeat' first|apply jS|apply jO|apply jN|apply jT|refine Q0 ?_|apply jB
 refine Qn (ι:=Nat × aj × Value) ⟨fun z=>[(5,nv z.1),(4,.slice (some ⟨jA,0,none⟩) 5 5),(3,z.2.2),(0,.pointer (some ⟨b,0,none⟩))],fun z=>(jA,.cells (matC J m n) 28)::(z.2.1++bW b J m n t s),
  fun z=>z.1≤5∧aN z.2.1 z.2.2 (bQ m n z.1) (dw m n t s S z.1),fun z=>5-z.1⟩ (0,[(b30,.cells (hdC m n t s) 75)],.slice (some ⟨b30,0,none⟩) 4 4) ⟨by omega,hO⟩ aC (HSub.refl _) (fun z hz=>?_)
 clear hO
 obtain⟨k,N,v3⟩:=z
 obtain⟨hk,hO⟩:=hz
 dsimp only at hk hO ⊢
 by_cases hlt:k<5
 ·have hst:=YH m n t s S k hlt
  have h5:k=0∨k=1∨k=2∨k=3∨k=4:=by omega
  rcases h5 with rfl|rfl|rfl|rfl|rfl
  ·repeat' first|apply jS|apply jO|apply jN|apply jT|refine Q1 ?_|refine ZC (h:=?_)|(refine Qg (h1:=?_) (h2:=?_)<;>intro hc<;>try omega)|apply jK|refine Q5 rfl ?_|apply jB
   refine Zh (o:=0) (j:=0) rfl rfl rfl (fun _=>rfl) rfl oq ?_
   repeat' first|refine Q2 ?_|refine Q7 ?_|fail
   refine Zi (A:=[(jA,.cells (matC J m n) 28)]) (B:=bW b J m n t s) hO hJu.rd (HSub.skip (Qf (HSub.skip HSub.dJ))) rfl au rfl rfl rfl rfl oq (fun v' N' aX=>?_)
   rw[show dw m n t s S 0++S.u.flatten=dw m n t s S 1 from hst,hlu]at aX
   repeat' first|apply jO|apply jN|apply jT|refine Q1 ?_|refine Q0 ?_|refine Qd ?_|apply jW
   exact Q8 (1,N',v') ⟨by dsimp only;omega,aX⟩ aW aC (HSub.refl _)
  ·repeat' first|apply jS|apply jO|apply jN|apply jT|refine Q1 ?_|refine ZC (h:=?_)|(refine Qg (h1:=?_) (h2:=?_)<;>intro hc<;>try omega)|apply jK|refine Q5 rfl ?_|apply jB
   refine Zh (o:=0) (j:=1) rfl rfl rfl (fun _=>rfl) rfl oq ?_
   repeat' first|refine Q2 ?_|refine Q7 ?_|fail
   refine Zi (A:=[(jA,.cells (matC J m n) 28)]) (B:=bW b J m n t s) hO hJui.rd (HSub.skip (Qf (HSub.skip (Qf HSub.dJ)))) rfl au rfl rfl rfl rfl oq (fun v' N' aX=>?_)
   rw[show dw m n t s S 1++S.ui.flatten=dw m n t s S 2 from hst,hlui]at aX
   repeat' first|apply jO|apply jN|apply jT|refine Q1 ?_|refine Q0 ?_|refine Qd ?_|apply jW
   exact Q8 (2,N',v') ⟨by dsimp only;omega,aX⟩ aW aC (HSub.refl _)
  ·repeat' first|apply jS|apply jO|apply jN|apply jT|refine Q1 ?_|refine ZC (h:=?_)|(refine Qg (h1:=?_) (h2:=?_)<;>intro hc<;>try omega)|apply jK|refine Q5 rfl ?_|apply jB
   refine Zh (o:=0) (j:=2) rfl rfl rfl (fun _=>rfl) rfl oq ?_
   repeat' first|refine Q2 ?_|refine Q7 ?_|fail
   refine Zi (A:=[(jA,.cells (matC J m n) 28)]) (B:=bW b J m n t s) hO hJd.rd (HSub.skip (Qf (HSub.skip (Qf (Qf HSub.dJ))))) rfl au rfl rfl rfl rfl oq (fun v' N' aX=>?_)
   rw[show dw m n t s S 2++S.d.flatten=dw m n t s S 3 from hst,hld]at aX
   repeat' first|apply jO|apply jN|apply jT|refine Q1 ?_|refine Q0 ?_|refine Qd ?_|apply jW
   exact Q8 (3,N',v') ⟨by dsimp only;omega,aX⟩ aW aC (HSub.refl _)
  ·repeat' first|apply jS|apply jO|apply jN|apply jT|refine Q1 ?_|refine ZC (h:=?_)|(refine Qg (h1:=?_) (h2:=?_)<;>intro hc<;>try omega)|apply jK|refine Q5 rfl ?_|apply jB
   refine Zh (o:=0) (j:=3) rfl rfl rfl (fun _=>rfl) rfl oq ?_
   repeat' first|refine Q2 ?_|refine Q7 ?_|fail
   refine Zi (A:=[(jA,.cells (matC J m n) 28)]) (B:=bW b J m n t s) hO hJv.rd (HSub.skip (Qf (HSub.skip (Qf (Qf (Qf HSub.dJ)))))) rfl au rfl rfl rfl rfl oq (fun v' N' aX=>?_)
   rw[show dw m n t s S 3++S.v.flatten=dw m n t s S 4 from hst,hlv]at aX
   repeat' first|apply jO|apply jN|apply jT|refine Q1 ?_|refine Q0 ?_|refine Qd ?_|apply jW
   exact Q8 (4,N',v') ⟨by dsimp only;omega,aX⟩ aW aC (HSub.refl _)
  ·repeat' first|apply jS|apply jO|apply jN|apply jT|refine Q1 ?_|refine ZC (h:=?_)|(refine Qg (h1:=?_) (h2:=?_)<;>intro hc<;>try omega)|apply jK|refine Q5 rfl ?_|apply jB
   refine Zh (o:=0) (j:=4) rfl rfl rfl (fun _=>rfl) rfl oq ?_
   repeat' first|refine Q2 ?_|refine Q7 ?_|fail
   refine Zi (A:=[(jA,.cells (matC J m n) 28)]) (B:=bW b J m n t s) hO hJvi.rd (HSub.skip (Qf (HSub.skip (Qf (Qf (Qf (Qf HSub.dJ))))))) rfl au rfl rfl rfl rfl oq (fun v' N' aX=>?_)
   rw[show dw m n t s S 4++S.vi.flatten=dw m n t s S 5 from hst,hlvi]at aX
   repeat' first|apply jO|apply jN|apply jT|refine Q1 ?_|refine Q0 ?_|refine Qd ?_|apply jW
   exact Q8 (5,N',v') ⟨by dsimp only;omega,aX⟩ aW aC (HSub.refl _)
 ·obtain rfl:k=5:=by omega
  rw[Xi]at hO
  have hL5:bQ m n 5=(encZ m n t s S).length:=by rw[hel];unfold bQ;simp;try omega
  have hp0:0<bQ m n 5:=by unfold bQ;omega
  have hLb:bQ m n 5≤200004:=by rw[hL5,hel];omega
  have hget:∀ i,i<bQ m n 5→fD (Wv ((encZ m n t s S).getD i 0)) ((encZ m n t s S).getD i 0) K:=fun i hi=>QC (hbd _ (QV oq))
  have hO0:=hO
  have hlen1:∀ i,(bU ((encZ m n t s S).take i)).length≤200004*(3*K+2):=fun i =>
   V0 (Q31 (K:=K) _ fun x hx=>hbd x (List.mem_of_mem_take hx)) (V1 _ (by rw[List.length_take];omega))
  have htl:∀ i,i<bQ m n 5→(tx ((encZ m n t s S).getD i 0)).length≤3*K+1:=fun i hi=>Q9p (hbd _ (QV oq))
  have hcap:200004*(3*K+2)≤200004*27000000002:=V3 _ oq
  generalize hLL:encZ m n t s S=L at hO hget hL5 hlen1 htl ⊢
  generalize bQ m n 5=q at hO hget hL5 hp0 hLb htl
  repeat' first|apply jS|apply jO|apply jN|apply jT|refine Q1 ?_|refine QY (h:=?_)|refine Y4 (h:=?_)|refine ZC (h:=?_)|(refine Qg (h1:=?_) (h2:=?_)<;>intro hc<;>try omega)|apply jU|apply jE|refine Q4 rfl ?_|apply Qc
  refine Q9 au rfl aF rfl (fun w _ _=>Q33 w _ (L.getD 0 0) K (hget 0 hp0) oq) fun w v w' _ _ _ hR=>?_
  subst hR
  have h1:tx (L.getD 0 0)=bU (L.take 1):=by
   cases L with
   | nil=>exact absurd hL5 (by simp;omega)
   | cons x l=>show tx x=tx x++[];rw[Vh]
  rw[h1]
  repeat' first|apply jS|apply jO|apply jN|apply jT|refine Q0 ?_|apply jB
  refine Qn (ι:=Nat) ⟨fun z=>[(7,nv z),(6,sv (bU (L.take z))),(3,v3),(0,.pointer (some ⟨b,0,none⟩))],fun z=>N++bW b J m n t s,fun z=>1≤z∧z≤q,fun z=>q-z⟩ 1 ⟨V7 _,hp0⟩ aC (HSub.skip (HSub.refl _)) (fun z hz=>?_)
  obtain⟨hz1,hzq⟩:=hz
  dsimp only
  by_cases hlt:z<q
  ·have hl1:=hlen1 z
   have ht1:=htl z hlt
   repeat' first|apply jS|apply jO|apply jN|apply jT|refine Q1 ?_|refine Zt (h:=?_)|(refine Qg (h1:=?_) (h2:=?_)<;>intro hc<;>try omega)|apply jK|refine Q5 rfl ?_|apply jB
   refine WS (l:=bU (L.take z)) (l':=[32]) rfl rfl rfl rfl (by simp only[Vo];omega) ?_
   repeat' first|refine Q1 ?_|refine QY (h:=?_)|refine Y4 (h:=?_)|fail
   refine Q9 au rfl aF rfl (fun w _ _=>Q33 w _ (L.getD z 0) K (hget z hlt) oq) fun w v w' _ _ _ hR=>?_
   subst hR
   skip
   refine WS (l:=bU (L.take z)++[32]) (l':=tx (L.getD z 0)) rfl rfl rfl rfl (by simp only[Vi,Vo];omega) ?_
   have h2:bU (L.take z)++[32]++tx (L.getD z 0)=bU (L.take (z+1)):=by
    rw[Q6c oq,Q80 (by rw[List.length_take];omega),Vb]
    rfl
   rw[h2]
   repeat' first|apply jO|apply jN|apply jT|refine Q1 ?_|refine Q0 ?_|refine Qd ?_|apply jW
   exact Q8 (z+1) ⟨by first|omega|(dsimp only;omega),by first|omega|(dsimp only;omega)⟩ gY aC (HSub.refl _)
  ·obtain rfl:z=q:=by omega
   rw[Vd oq]
   repeat' first|apply jS|apply jO|apply jN|apply jT|refine Q1 ?_|refine Q0 ?_|refine Zt (h:=?_)|(refine Qg (h1:=?_) (h2:=?_)<;>intro hc<;>try omega)|apply jU|apply jE|apply jR|refine Q4 rfl ?_|apply Qc
   exact Qj rfl (fun a w' st=>⟨hres w' st.kp (fun p hp=>st.hs.blk p (List.mem_append_right _ hp)),rfl⟩)


theorem Qc1 {P:Program} {t e:TypeId} {n s:Nat} {zc cs:Array Value} {parts:Array (Nat × Value)} [hA:TAr P t n e] [hS:dS P e s] [hZ:TZ0 P t zc] (hc:Instr.fill (fun i=>some (i*s,s)) zc parts.toList=some cs) (w:World) :
  (Instr.build t parts).run P w=.ok (.agg cs) w:=by
 obtain⟨z,hz,rfl⟩:=hZ
 have h2:(zeroValue t).run P w=.ok z w:=by
  unfold zeroValue typeInfo
  cases hi:P.info? t with
  | none=>rw[hi]at hz;cases hz
  | some i=>rw[hi]at hz;simp only[Option.bind_some]at hz;simp[hi,hz]
 simp only[Instr.build,Sem.run_bind,h2,Result.andThen_ok,run_underlying hA.und,hS.size,hc,Sem.run_pure]

theorem Qaf {c:Cx} {Q:Exit→Act→World→Prop} {m:Mode} {F:ak} {H:aj} {r:List bT} {g:Option (Option Tmp × Bool)} {ns:Bool} {d:Tmp} {ty t e:TypeId} {n s:Nat} {zc cs:Array Value} {parts:Array (Nat × Operand)} {l:List (Nat × Value)} [TAr c.P t n e] [dS c.P e s] [TZ0 c.P t zc] (hd:Qw c.n (some d)=true) (hg:Qi F g=some true)
  (hp:Xs F parts.toList=some l) (hc:Instr.fill (fun i=>some (i*s,s)) zc l=some cs) (h:JO c Q m r ((d,(.agg cs))::F) H):JO c Q m (⟨some d,.build t parts,ty,g,.bg,ns⟩::r) F H :=
 ZE hd hg (fun a w fr=>by
  have h1:(parts.map fun(i,x)=>(i,a.eval x)).toList=l:=by rw[Array.toList_map];exact XT fr hp
  simp only[execOp,Sem.run_bind,Qc1 (P:=c.P) (t:=t) (cs:=cs) (parts:=parts.map fun(i,x)=>(i,a.eval x)) (by rw[h1];exact hc),Result.andThen_ok,Sem.run_pure]) h

end Go.Proofs.YtbofgpenopcfaaaGreatDoor

