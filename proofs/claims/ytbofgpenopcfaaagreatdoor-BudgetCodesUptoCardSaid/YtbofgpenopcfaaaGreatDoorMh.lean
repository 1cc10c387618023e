import Derived.Test.YtbofgpenopcfaaaGreatDoorMg
set_option maxHeartbeats 16000000
namespace Go.Proofs.YtbofgpenopcfaaaGreatDoor
open Go Go.RowKit
set_option linter.unusedSimpArgs false
set_option linter.unusedVariables false
set_option linter.unusedSectionVars false

def Zeros (r c:Nat) (w:World) (v:Value) (w':World):Prop:=∃ N E,New N w w'∧v=.agg #[nv r,nv c,E]∧aN N E (r*c) (tab (r*c) fun _=>0)

theorem Qbl (r c:Nat) (hr:r≤200) (hc:c≤200) (w:World):Calls Tryz.prog 56 #[.int .i64 r,.int .i64 c] w (aQ fun v w'=>Kp [] w w'∧Zeros r c w v w'):=by
 have hb:=rcZ hr hc
 refine Qa [] [] aA [] Tryz.func56 rfl mixed (by kernel_rfl) Tryz.ntmps56 Tryz.results56 rfl ⟨by simp,by simp⟩ aA ?_
 simp only[toS,Qe,Qx,Qo,Qr,ay,Ql,Qy,aB]
 repeat' first|apply jS|apply jO|apply jN|refine Q1 ?_|refine Qh fun _=>?_|apply jT
 refine Q9 trivial rfl rfl rfl (fun w _ _=>Qg2 r c w) fun w v w' _ _ _ hR=>?_
 obtain⟨b,rfl,hb⟩:=hR
 obtain rfl:=hb.2 oq
 repeat' first|apply jS|apply jO|apply jN|apply jT|refine Q1 ?_|refine Z1 (h:=?_)|refine QG ?_|apply jK|refine Q4 rfl ?_
 refine Xf rfl rfl rfl rfl rfl oq oq (fun b=>?_)
 repeat' first|apply jN|apply jT|refine Q6 ?_|refine ZU (h:=?_)|refine Q6 ?_|apply jR
 have:=Q55 b (r*c) (by simp only[maxLen];omega)
 exact Z0 1 rfl rfl rfl (fun a w st=>⟨st.kp,_,_,st.bI rfl (HSub.at 0 rfl (HSub.nil _)),rfl,this⟩)

def oneS (n k:Nat):List Int:=bP n n fun a b=>if a=b∧a<k then 1 else 0
theorem Q7p (n:Nat):oneS n 0=tab (n*n) fun _=>0:=by
 rw[← Q5p]
 exact Qk fun i j _ _=>by simp
theorem Qaj {n k:Nat} (hk:k<n):(oneS n k).set (k*n+k) 1=oneS n (k+1):=by
 unfold oneS
 rw[Y3 hk]
 refine Qk fun a b ha hb=>?_
 by_cases h:a=k∧b=k
 ·obtain⟨rfl,rfl⟩:=h
  simp
 ·rw[if_neg h]
  by_cases h2:a=b∧a<k
  ·rw[if_pos h2,if_pos ⟨h2.1,by omega⟩]
  ·rw[if_neg h2,if_neg]
   rintro⟨rfl,h3⟩
   rcases Nat.lt_or_ge a k with h4|h4
   ·exact h2 ⟨rfl,h4⟩
   ·exact h ⟨by omega,by omega⟩
theorem Qak (n:Nat):oneS n n=(fF n).e:=Qk fun a b ha hb=>by
 unfold fO
 by_cases h:a=b
 ·rw[if_pos ⟨h,ha⟩,if_pos h]
 ·rw[if_neg (fun h2=>h h2.1),if_neg h]

theorem Qmi (n:Nat) (hn:n≤200) (w:World):Calls Tryz.prog 45 #[nv n] w (aQ fun v w'=>Kp [] w w'∧Q5h (fF n) w v w'):=by
 have hnn:=rcZ hn hn
 refine Qa [⟨5,2,[],[]⟩] [] aA [] Tryz.func45 rfl mixed (by kernel_rfl) Tryz.ntmps45 Tryz.results45 rfl ⟨by simp,by simp⟩ aA ?_
 simp only[toS,Qe,Qx,Qo,Qr,ay,Ql,Qy,aB]
 repeat' first|apply jS|apply jO|apply jN|refine Q1 ?_|refine Qh fun _=>?_|apply jT
 rename_i b2
 refine Qt (A:=[_]) (B:=[]) rfl trivial rfl rfl rfl (fun w _ _=>Qbl n n hn hn w) fun w v w' _ _ _ hR=>?_
 obtain⟨N,Eo,hN,rfl,hO⟩:=hR
 obtain⟨Ao,co,rfl⟩:=hO.form
 refine⟨N,hN,?_⟩
 repeat' first|apply jS|apply jO|apply jN|apply jT|refine Q1 ?_|refine Q2 ?_|refine Q7 ?_|refine Q6 ?_|refine Qh fun _=>?_|refine Q6 ?_|apply jB
 rename_i b3
 refine Qn (ι:=Nat × aj) ⟨fun z=>[(10,nv z.1),(9,nv n),(0,nv n),(3,.pointer (some ⟨b3,0,none⟩)),(2,.pointer (some ⟨b2,0,none⟩))],
  fun z=>[(b3,.cells #[nv n,nv n,.slice Ao (n*n) co] 28),(b2,.cells #[iv 0,iv 0,.slice none 0 0] 28)]++(z.2++[]),
  fun z=>z.1≤n∧aN z.2 (.slice Ao (n*n) co) (n*n) (oneS n z.1),fun z=>n-z.1⟩ (0,N) ⟨by omega,by rw[Q7p];exact hO⟩ aC QE (fun k hk=>?_)
 obtain⟨k,N⟩:=k
 obtain⟨hkn,hO⟩:=hk
 dsimp only at hkn hO ⊢
 have hkk:k*n≤40000:=Vn (show k≤200 by omega) hn
 by_cases hlt:k<n
 ·have hi:=Yn hlt hlt
  repeat' first|apply jS|apply jO|apply jD|apply jN|apply jT|refine Q1 ?_|refine Q2 ?_|refine Q0 ?_|refine Q7 ?_|refine Z8 (h:=?_)|refine Z1 (h:=?_)|(refine Qg (h1:=?_) (h2:=?_)<;>intro hc<;>try omega)|apply jK|refine Q5 rfl ?_|apply jB
  refine Q9 au rfl rfl rfl (fun w _ _=>Qga w 1 oq oq) fun w v w' _ _ _ hR=>?_
  subst hR
  repeat' first|refine QY (h:=?_)|fail
  refine Q0a (A:=[_,_]) hO rfl rfl ⟨rfl,rfl⟩ rfl rfl hi (fun N' aX=>?_)
  rw[Qaj hlt]at aX
  repeat' first|apply jO|apply jN|apply jT|refine Q1 ?_|refine Qd ?_|apply jW
  exact Q8 (k+1,N') ⟨by dsimp only;omega,aX⟩ aW aC QE
 ·repeat' first|apply jS|apply jO|apply jN|apply jT|refine Qm ?_|refine Q6 ?_|(refine Qg (h1:=?_) (h2:=?_)<;>intro hc<;>try omega)|refine Q6 ?_|apply jU|apply jE|apply jR|refine Q4 rfl ?_|apply Qc
  obtain rfl:k=n:=by omega
  rw[Qak]at hO
  exact Z0 1 rfl rfl rfl (fun a w' st=>⟨st.kp,N,st.bI rfl Qb,gB.mk' hO⟩)

theorem Qii (w:World) (v u:Value) (n k:Nat) (xs ys:List WR) (hv:WX w v n xs) (hu:WX w u k ys) (hn:n<1000000000) (hk:k<1000000000):Calls Tryz.prog 119 #[v,u] w (aQ fun v w'=>Kp [] w w'∧iK (xs=ys) v):=by
 have hl:=hv.len
 have hl':=hu.len
 refine Qa [⟨6,1,[],[]⟩] [] aA [] Tryz.func119 rfl mixed (by kernel_rfl) Tryz.ntmps119 Tryz.results119 rfl ⟨by simp,by simp⟩ aA ?_
 simp only[toS,Qe,Qx,Qo,Qr,ay,Ql,Qy,aB]
 have hR:=WX.rd (c:=⟨Tryz.prog,26,w,[],by simp⟩) hv rfl []
 have hR':=WX.rd (c:=⟨Tryz.prog,26,w,[],by simp⟩) hu rfl []
 repeat' first|apply jS|apply jO|apply jN|apply jT|refine Q1 ?_|refine Q0 ?_|refine W7 (h:=?_)|(refine ZP (h1:=?_) (h2:=?_)<;>intro hc<;>try omega)|apply jV|apply jK|apply jR|refine Q5 rfl ?_|refine Q4 rfl ?_|apply jB
 ·exact Qj rfl (fun a w' st=>⟨st.kp,Xa (fun h=>hc (by rw[← hl, ← hl',h]))⟩)
 ·have hnk:n=k:=by omega
  subst hnk
  refine Qn (ι:=Nat) ⟨fun i=>[(13,nv i),(12,nv n),(0,v),(1,u)],fun _=>[],fun i=>i≤n∧∀ j,j<i→xs.getD j eX=ys.getD j eX,fun i=>n-i⟩ 0 ⟨by omega,fun j h=>by omega⟩ aC (HSub.nil _) (fun i hi=>?_)
  obtain⟨hin,hpr⟩:=hi
  dsimp only
  by_cases hlt:i<n
  ·repeat' first|apply jS|apply jO|apply jD|apply jN|apply jT|refine Q1 ?_|refine Q0 ?_|refine Q0w (h:=?_)|refine Qe5 (h:=?_)|(refine Qg (h1:=?_) (h2:=?_)<;>intro hc<;>try omega)|apply jK|refine Q5 rfl ?_|apply jB
   refine Qku rfl rfl rfl rfl ?_
   by_cases he:xs.getD i eX=ys.getD i eX
   ·rw[he]
    simp only[BEq.rfl,decide_true,Bool.and_self,Bool.not_true]
    repeat' first|apply jO|apply jN|apply jT|refine Q1 ?_|refine Qd ?_|apply jK|refine Q4 rfl ?_|apply jW
    refine Q8 (i+1) ⟨by omega,fun j h=>?_⟩ aW aC (HSub.nil _)
    rcases Nat.lt_or_ge j i with h'|h'
    ·exact hpr j h'
    ·have:j=i:=by omega
     subst this;exact he
   ·have hb:(!((xs.getD i eX).1 == (ys.getD i eX).1 && decide ((xs.getD i eX).2=(ys.getD i eX).2)))=true:=by
     simp only[Bool.not_eq_true',Bool.and_eq_false_iff]
     by_cases h1:(xs.getD i eX).1=(ys.getD i eX).1
     ·refine .inr ?_
      simp only[decide_eq_false_iff_not]
      exact fun h2=>he (Prod.ext h1 h2)
     ·exact .inl (by simpa using h1)
    rw[hb]
    repeat' first|apply jS|apply jO|apply jN|apply jT|refine Q0 ?_|apply jV|apply jR|refine Q5 rfl ?_|apply Qz
    exact Qj rfl (fun a w' st=>⟨st.kp,Xa (fun h=>he (by rw[h]))⟩)
  ·repeat' first|apply jS|apply jO|apply jN|apply jT|refine Q0 ?_|(refine Qg (h1:=?_) (h2:=?_)<;>intro hc<;>try omega)|apply jU|apply jE|apply jR|refine Q4 rfl ?_|apply Qc
   refine Qj rfl (fun a w' st=>⟨st.kp,iK.t (Q6h (d:=eX) oq (fun j hj=>hpr j oq))⟩)

theorem XM.ext' {a b:XM} (h2:a.R=b.R) (h3:a.C=b.C) (h4:a.E=b.E):a=b:=by
 cases a;cases b;simp_all
theorem Qj5 {m n:ZM} (h:m.xm=n.xm):m=n:=by
 obtain⟨r,c,e⟩:=m
 obtain⟨r',c',e'⟩:=n
 simp only[ZM.xm,XM.mk.injEq]at h
 obtain⟨h1,h2,h3⟩:=h
 have h1:r=r':=by omega
 have h2:c=c':=by omega
 subst h1 h2
 rw[Q58 h3]

theorem Qis (w:World) (v u:Value) (a b:XM) (ha:IsX w v a) (hb:IsX w u b) (hl:a.E.length<1000000000) (hl':b.E.length<1000000000):Calls Tryz.prog 54 #[v,u] w (aQ fun v w'=>Kp [] w w'∧iK (RX a∧a=b) v):=by
 obtain⟨E,rfl,hE⟩:=ha
 obtain⟨E',rfl,hE'⟩:=hb
 refine Qa [] [] aA [] Tryz.func54 rfl mixed (by kernel_rfl) Tryz.ntmps54 Tryz.results54 rfl ⟨by simp,by simp⟩ aA ?_
 simp only[toS,Qe,Qx,Qo,Qr,ay,Ql,Qy,aB]
 repeat' first|apply jS|apply jO|apply jN|refine Q0 ?_|refine Qm ?_|refine QM (h:=fun _=>?_)|apply jT
 refine Q9 trivial rfl rfl rfl (fun w hk _=>Qme w _ _ a b ⟨E,rfl,hE.mono hk⟩ ⟨E',rfl,hE'.mono hk⟩ oq oq) fun w v w' _ _ _ hR=>?_
 obtain⟨b',rfl,hb⟩:=hR
 cases b'
 ·repeat' first|apply jN|apply jT|refine Q1 ?_|refine Q0 ?_|refine Qq ?_|refine QA ?_|apply jR
  exact Qj rfl (fun a w' st=>⟨st.kp,Xa (fun h=>by cases hb.2 ⟨h.1,h.2▸h.1,by rw[h.2],by rw[h.2]⟩)⟩)
 ·have h1:=hb.1 rfl
  repeat' first|refine Q1 ?_|refine Q2 ?_|refine Q7 ?_|fail
  refine Q9 trivial rfl rfl rfl (fun w hk _=>Qii w _ _ _ _ _ _ (hE.mono hk) (hE'.mono hk) hl hl') fun w v w' _ _ _ hR=>?_
  obtain⟨b',rfl,hb⟩:=hR
  repeat' first|apply jN|apply jT|refine Q0 ?_|refine Qp ?_|apply jR
  refine Qj rfl (fun a w' st=>⟨st.kp,b',rfl,hb.trans ⟨fun h=>⟨h1.1,?_⟩,fun h=>by rw[h.2]⟩⟩)
  exact XM.ext' h1.2.2.1 h1.2.2.2 h

theorem Zk {P:Program} {f:FuncId} {args:Array Value} {w:World} {R R':Value→World→Prop} (h:Calls P f args w (aQ R)) (hr:∀ v w',R v w'→R' v w'):Calls P f args w (aQ R') :=
 Calls.mono h fun e w' he=>by
  cases e<;>first|exact hr _ _ he|exact he

theorem Qmn (w:World) (v u:Value) (m n:ZM) (hm:gJ m) (hn:gJ n) (hv:jw w v m) (hu:jw w u n):Calls Tryz.prog 54 #[v,u] w (aQ fun v w'=>Kp [] w w'∧iK (m=n) v):=by
 refine Zk (Qis w v u m.xm n.xm hv.x hu.x (by have:=hm.le;simp[ZM.xm];omega) (by have:=hn.le;simp[ZM.xm];omega)) fun v w' h=>⟨h.1,?_⟩
 obtain⟨b,rfl,hb⟩:=h.2
 exact⟨b,rfl,hb.trans ⟨fun h=>Qj5 h.2,fun h=>⟨hm.rx,by rw[h]⟩⟩⟩

def BdL (K:Nat) (xs:List Int):Prop:=∀ i,(xs.getD i 0).natAbs<256 ^ K


theorem Qoa {r c i j:Nat} (hi:i<r) (hj:j<c):i*c+j<r*c:=by
 have:=V1 c (show i+1≤r by omega)
 rw[Vl]at this
 omega
def gK (w:World) (v:Value) (xss:List (List Int)):Prop:=∃ ss:List Value,jc w 1 v xss.length ss∧∀ i,i<xss.length→WI w (ss.getD i (iv 0)) (xss.getD i []).length (xss.getD i [])
theorem gK.mono {w w':World} {v:Value} {xss:List (List Int)} (h:gK w v xss) (hk:Kp [] w w'):gK w' v xss:=by
 obtain⟨ss,h1,h2⟩:=h
 exact⟨ss,h1.mono hk,fun i hi=>(h2 i hi).mono hk⟩
def iY (xss:List (List Int)):Nat→Nat
 | 0=>0
 | k+1=>max (iY xss k) (xss.getD k []).length
theorem Qen (xss:List (List Int)):∀ {k i:Nat},i<k→(xss.getD i []).length≤iY xss k
 | 0,i,h=>by omega
 | k+1,i,h=>by
  rw[iY]
  by_cases hi:i=k
  ·subst hi;exact Nat.le_max_right _ _
  ·exact V0 (Qen xss (show i<k by omega)) (Nat.le_max_left _ _)
theorem Qo0 (a b:Nat):(if (a:Int)<(b:Int) then (b:Int) else (a:Int))=((max a b:Nat):Int):=by
 split<;>omega

def ofE (xss:List (List Int)) (i j:Nat):Int:=(xss.getD i []).getD j 0
def ofZ (xss:List (List Int)):ZM:=zof xss.length (iY xss xss.length) (ofE xss)
def ofS (xss:List (List Int)) (i k:Nat):Mi:=fun a b=>if a<i∨(a=i∧b<k) then ofE xss a b else 0
theorem Qi1 (r c:Nat) (xss:List (List Int)):bP r c (ofS xss 0 0)=tab (r*c) fun _=>0:=by
 unfold bP ofS
 exact YF fun t _=>by simp
theorem Qlb {r c i k:Nat} {xss:List (List Int)} (hk:k<c):(bP r c (ofS xss i k)).set (i*c+k) (ofE xss i k)=bP r c (ofS xss i (k+1)):=by
 rw[Y3 hk]
 refine Qk fun a b _ _=>?_
 unfold ofS
 by_cases h:a=i∧b=k
 ·obtain⟨rfl,rfl⟩:=h;simp
 ·rw[if_neg h]
  have e:(a<i∨a=i∧b<k+1)=(a<i∨a=i∧b<k):=by simp;omega
  simp only[e]
theorem Qle {i j:Nat} {xss:List (List Int)} (h:(xss.getD i []).length≤j):ofE xss i j=0:=by
 unfold ofE
 rw[List.getD,List.getElem?_eq_none h];rfl
theorem Qlc {r c i k:Nat} {xss:List (List Int)} (hk:(xss.getD i []).length≤k):bP r c (ofS xss i k)=bP r c (ofS xss (i+1) 0):=by
 refine Qk fun a b _ _=>?_
 unfold ofS
 by_cases h:a=i
 ·subst h
  by_cases hb:b<k
  ·rw[if_pos (.inr ⟨rfl,hb⟩),if_pos (.inl oq)]
  ·rw[if_neg oq,if_pos (.inl oq),Qle oq]
 ·have e:(a<i∨a=i∧b<k)=(a<i+1∨a=i+1∧b<0):=by simp;omega
  simp only[e]
theorem Qld {r c i:Nat} {xss:List (List Int)} (hi:r≤i):bP r c (ofS xss i 0)=bP r c (ofE xss):=by
 refine Qk fun a b ha _=>?_
 unfold ofS;rw[if_pos (.inl oq)]
def I64 (n:Int):Prop := -9223372036854775808≤n∧n<9223372036854775808

theorem c_Of (w:World) (v:Value) (xss:List (List Int)) (hv:gK w v xss) (hr:xss.length≤200) (hcc:iY xss xss.length≤200) (hI:∀ i j,I64 ((xss.getD i []).getD j 0)) :
  Calls Tryz.prog 40 #[v] w (aQ fun v w'=>Kp [] w w'∧Q5h (ofZ xss) w v w'):=by
 obtain⟨ss,hss,hrow⟩:=hv
 have hrc:=rcZ hr hcc
 have hlen:∀ i,i<xss.length→(xss.getD i []).length≤200:=fun i hi=>V0 (Qen xss hi) hcc
 have hsl:ss.length=xss.length:=by have:=hss.1;omega
 refine Qa [⟨16,2,[],[]⟩] [] aA [] Tryz.func40 rfl mixed (by kernel_rfl) Tryz.ntmps40 Tryz.results40 rfl ⟨by simp,by simp⟩ aA ?_
 simp only[toS,Qe,Qx,Qo,Qr,ay,Ql,Qy,aB]
 have hR:Rd ⟨Tryz.prog,58,w,[],by simp⟩ [] 1 v xss.length ss:=hss.rd rfl []
 repeat' first|apply jS|apply jO|apply jN|refine Q1 ?_|refine Q0 ?_|refine Qh fun _=>?_|apply jT
 rename_i b2
 refine Xy rfl rfl rfl hR ?_
 repeat' first|apply jN|apply jT|refine Q1 ?_|apply jB
 refine Qn (ι:=Nat) ⟨fun k=>[(13,nv k),(12,nv xss.length),(11,v),(3,nv (iY xss k)),(0,v),(2,.pointer (some ⟨b2,0,none⟩))],fun _=>[(b2,.cells #[iv 0,iv 0,.slice none 0 0] 28)],
  fun k=>k≤xss.length,fun k=>xss.length-k⟩ 0 aW aC QE (fun k hk=>?_)
 dsimp only at hk ⊢
 by_cases hkk:k<xss.length
 ·have hwi:=hrow k hkk
  have hl4:=hlen k hkk
  repeat' first|apply jS|apply jO|apply jN|apply jT|(refine Qg (h1:=?_) (h2:=?_)<;>intro hc<;>try omega)|apply jK|refine Q5 rfl ?_|apply jB
  refine X5 rfl rfl rfl rfl hR hkk ?_
  refine Q1q rfl rfl rfl rfl hR (HSub.nil _) (XB (d:=iv 0) oq) ?_
  repeat' first|apply jO|apply jN|apply jT|refine Q1 ?_|refine Q0 ?_|refine Q3p (h:=?_)|refine Qd ?_|refine Q8w (h:=?_)|apply jW
  refine Q8 (k+1) aW aW (by dsimp only[iY];unfold nv;rw[← Qo0];exact aC) QE
 ·have:k=xss.length:=by omega
  subst this
  repeat' first|apply jS|apply jO|apply jN|apply jT|refine Q1 ?_|(refine Qg (h1:=?_) (h2:=?_)<;>intro hc<;>try omega)|apply jU|apply jE|refine Q4 rfl ?_|apply Qc
  refine Xy rfl rfl rfl hR ?_
  repeat' first|refine Q1 ?_|fail
  refine Qt (A:=[_]) (B:=[]) rfl trivial rfl rfl rfl (fun w hk _=>Qbl xss.length _ hr hcc w) fun w v' w' _ _ _ hR'=>?_
  obtain⟨N,Eo,hN,rfl,hO⟩:=hR'
  obtain⟨Ao,co,rfl⟩:=hO.form
  refine⟨N,hN,?_⟩
  have hdone:∀ N',aN N' (.slice Ao (xss.length*iY xss xss.length) co) (xss.length*iY xss xss.length) (bP xss.length (iY xss xss.length) (ofE xss))→gB N' (.agg #[nv xss.length,nv (iY xss xss.length),.slice Ao (xss.length*iY xss xss.length) co]) (ofZ xss):=fun N' h=>gB.mk' h
  repeat' first|apply jS|apply jO|apply jN|apply jT|refine Q1 ?_|refine Q2 ?_|refine Q7 ?_|refine Qm ?_|refine Zt (h:=?_)|refine Q6 ?_|(refine Zm (h1:=?_) (h2:=?_)<;>intro hc<;>try omega)|refine Qh fun _=>?_|refine Q6 ?_|apply jV|apply jK|apply jR|refine Q5 rfl ?_|refine Q4 rfl ?_
  ·rename_i b6 h0
   refine Z0 1 rfl rfl rfl (fun a w' st=>⟨st.kp,N,st.bI rfl Qb,hdone _ ?_⟩)
   have e:bP xss.length (iY xss xss.length) (ofE xss)=tab (xss.length*iY xss xss.length) fun _=>0:=by
    unfold bP
    exact YF fun i hi=>by omega
   rw[e];exact hO
  ·refine Xy rfl rfl rfl hR ?_
   repeat' first|apply jN|apply jT|refine Q1 ?_|apply jB
   rename_i b6
   refine Qn (ι:=Nat × aj) ⟨fun z=>[(33,nv z.1),(32,nv xss.length),(31,v),(3,nv (iY xss xss.length)),(6,.pointer (some ⟨b6,0,none⟩)),(2,.pointer (some ⟨b2,0,none⟩))],
    fun z=>[(b6,.cells #[nv xss.length,nv (iY xss xss.length),.slice Ao (xss.length*iY xss xss.length) co] 28),(b2,.cells #[iv 0,iv 0,.slice none 0 0] 28)]++(z.2++[]),
    fun z=>z.1≤xss.length∧aN z.2 (.slice Ao (xss.length*iY xss xss.length) co) (xss.length*iY xss xss.length) (bP xss.length (iY xss xss.length) (ofS xss z.1 0)),fun z=>xss.length-z.1⟩ (0,N) ⟨by dsimp only;omega,by rw[Qi1];exact hO⟩ aC QE (fun z hz=>?_)
   clear hO
   obtain⟨i,N⟩:=z
   obtain⟨hi,hO⟩:=hz
   dsimp only at hi hO ⊢
   by_cases hii:i<xss.length
   ·have hwi:=hrow i hii
    have hl4:=hlen i hii
    have hlc:=Qen xss hii
    repeat' first|apply jS|apply jO|apply jN|apply jT|refine Q1 ?_|(refine Qg (h1:=?_) (h2:=?_)<;>intro hc<;>try omega)|apply jK|refine Q5 rfl ?_|apply jB
    refine X5 rfl rfl rfl rfl hR hii ?_
    refine Q1q rfl rfl rfl rfl hR (HSub.nil _) (XB (d:=iv 0) oq) ?_
    repeat' first|apply jS|apply jO|apply jN|apply jT|refine Q1 ?_|refine Q0 ?_|refine Q3p (h:=?_)|apply jB
    refine Qn (ι:=Nat × aj) ⟨fun z=>[(40,nv z.1),(39,nv (xss.getD i []).length),(38,ss.getD i (iv 0)),(7,nv i),(33,nv i),(32,nv xss.length),(31,v),(3,nv (iY xss xss.length)),(6,.pointer (some ⟨b6,0,none⟩)),(2,.pointer (some ⟨b2,0,none⟩))],
     fun z=>[(b6,.cells #[nv xss.length,nv (iY xss xss.length),.slice Ao (xss.length*iY xss xss.length) co] 28),(b2,.cells #[iv 0,iv 0,.slice none 0 0] 28)]++(z.2++[]),
     fun z=>z.1≤(xss.getD i []).length∧aN z.2 (.slice Ao (xss.length*iY xss xss.length) co) (xss.length*iY xss xss.length) (bP xss.length (iY xss xss.length) (ofS xss i z.1)),fun z=>(xss.getD i []).length-z.1⟩ (0,N) ⟨by dsimp only;omega,hO⟩ aC QE (fun z hz=>?_)
    clear hO
    obtain⟨j,N⟩:=z
    obtain⟨hj,hO⟩:=hz
    dsimp only at hj hO ⊢
    by_cases hjj:j<(xss.getD i []).length
    ·have hjc:j<iY xss xss.length:=by omega
     have hidx:=Qoa hii hjc
     have hb1:i*iY xss xss.length≤40000:=Vn (show i≤200 by omega) hcc
     have hI2:=hI i j
     repeat' first|apply jS|apply jO|apply jD|apply jN|apply jT|refine Q1 ?_|refine Q2 ?_|refine Q0 ?_|refine Q7 ?_|refine Qe7 (h:=?_)|refine Qkz (h:=?_)|refine Z8 (h:=?_)|refine Z1 (h:=?_)|(refine Qg (h1:=?_) (h2:=?_)<;>intro hc<;>try omega)|apply jK|refine Q5 rfl ?_|apply jB
     refine Q9 au rfl rfl rfl (fun w _ _=>Qga w ((xss.getD i []).getD j 0) hI2.1 hI2.2) fun w v w' _ _ _ hR=>?_
     subst hR
     repeat' first|refine QY (h:=?_)|fail
     refine Q0a (A:=[_,_]) (u:=ofE xss i j) hO rfl rfl au rfl rfl hidx (fun N' aX=>?_)
     rw[Qlb hjc]at aX
     repeat' first|apply jO|apply jN|apply jT|refine Q1 ?_|refine Qd ?_|apply jW
     exact Q8 (j+1,N') ⟨by dsimp only;omega,aX⟩ aW aC QE
    ·rw[Qlc (show (xss.getD i []).length≤j by omega)]at hO
     repeat' first|apply jS|apply jO|apply jN|apply jT|refine Q1 ?_|refine Qd ?_|(refine Qg (h1:=?_) (h2:=?_)<;>intro hc<;>try omega)|apply jU|apply jE|refine Q4 rfl ?_|apply jW|apply Qc
     exact Q8 (i+1,N) ⟨by dsimp only;omega,hO⟩ aW aC QE
   ·rw[Qld (show xss.length≤i by omega)]at hO
    repeat' first|apply jS|apply jO|apply jN|apply jT|refine Qm ?_|refine Q6 ?_|(refine Qg (h1:=?_) (h2:=?_)<;>intro hc<;>try omega)|refine Q6 ?_|apply jU|apply jE|apply jR|refine Q4 rfl ?_|apply Qc
    exact Z0 1 rfl rfl rfl (fun a w' st=>⟨st.kp,N,st.bI rfl Qb,hdone _ hO⟩)


theorem Q4a (r c:Int) (w:World):Calls Tryz.prog 92 #[.int .i64 r,.int .i64 c] w (aQ fun v w'=>Kp [] w w'∧iK (0≤r∧r≤200∧0≤c∧c≤200) v):=by
 refine Qa [] [] aA [] Tryz.func92 rfl mixed (by kernel_rfl) Tryz.ntmps92 Tryz.results92 rfl ⟨by simp,by simp⟩ aA ?_
 simp only[toS,Qe,Qx,Qo,Qr,ay,Ql,Qy,aB]
 repeat' first|apply jS|apply jO|apply jN|apply jT|refine Q1 ?_|refine Q0 ?_|refine Qp ?_|refine Qq ?_|(refine Xo (h1:=?_) (h2:=?_)<;>intro hc<;>try omega)|(refine Zs (h1:=?_) (h2:=?_)<;>intro hc<;>try omega)|refine QA ?_|apply jR
 all_goals first
  | exact Qj rfl (fun a w st=>⟨st.kp,iK.t oq⟩)
  | exact Qj rfl (fun a w st=>⟨st.kp,Xa oq⟩)

theorem Q49 (r c:Nat) (hr:r≤200) (hc:c≤200) (w:World):Calls Tryz.prog 42 #[.int .i64 r,.int .i64 c] w (aQ fun v w'=>Kp [] w w'∧Zeros r c w v w'):=by
 have hb:=rcZ hr hc
 refine Qa [] [] aA [] Tryz.func42 rfl mixed (by kernel_rfl) Tryz.ntmps42 Tryz.results42 rfl ⟨by simp,by simp⟩ aA ?_
 simp only[toS,Qe,Qx,Qo,Qr,ay,Ql,Qy,aB]
 repeat' first|apply jS|apply jO|apply jN|refine Q1 ?_|refine Qh fun _=>?_|apply jT
 refine Q9 trivial rfl rfl rfl (fun w _ _=>Q4a r c w) fun w v w' _ _ _ hR=>?_
 obtain⟨b,rfl,hb⟩:=hR
 obtain rfl:=hb.2 oq
 repeat' first|apply jS|apply jO|apply jN|apply jT|refine Q1 ?_|refine Q0 ?_|refine Z1 (h:=?_)|refine QG ?_|apply jK|refine Q4 rfl ?_
 refine Xf rfl rfl rfl rfl rfl oq oq (fun b=>?_)
 repeat' first|apply jN|apply jT|refine Q6 ?_|refine ZU (h:=?_)|refine Q6 ?_|apply jR
 have:=Q55 b (r*c) (by simp only[maxLen];omega)
 exact Z0 1 rfl rfl rfl (fun a w st=>⟨st.kp,_,_,st.bI rfl (HSub.at 0 rfl (HSub.nil _)),rfl,this⟩)

section
variable {c:Cx} {Q:Exit→Act→World→Prop} {m:Mode} {F:ak} {H:aj} {r:List bT} {g:Option (Option Tmp × Bool)} {ns:Bool} {d:Tmp} {ty t t':TypeId} {x y:Operand}
theorem Q52 {k:IntKind} {i:Nat} (j:Nat) (hd:Qw c.n (some d)=true) (hg:Qi F g=some true) (hx:ev F x=some (.int k i)) (hy:ev F y=some (.int k (j:Nat))) (hb:0<j)
  (h:JO c Q m r ((d,(.int k ((i % j:Nat):Int)))::F) H):JO c Q m (⟨some d,.binOp .rem t x y t',ty,g,.bg,ns⟩::r) F H :=
 ZF hd hg hx hy (fun w=>by
  have h0:¬((j:Int)=0):=by omega
  rw[binOp_rem];simp only[Op.intDiv,h0,if_false,Sem.run_pure,Int.ofNat_tmod]) h
end

def IsS (w:World) (v:Value) (R C:Nat) (L:List Int):Prop:=R<256∧C<256∧(∀ i,I64 (L.getD i 0))∧∃ E,v=.agg #[.int .u8 (R:Int),.int .u8 (C:Int),E]∧WI w E L.length L
theorem IsS.mono {w w':World} {v:Value} {R C:Nat} {L:List Int} (h:IsS w v R C L) (hk:Kp [] w w'):IsS w' v R C L:=by
 obtain⟨h1,h2,h3,E,h5,h6⟩:=h
 exact⟨h1,h2,h3,E,h5,h6.mono hk⟩

end Go.Proofs.YtbofgpenopcfaaaGreatDoor

namespace Go.Proofs.YtbofgpenopcfaaaGreatDoor
open Go Go.RowKit Go.Shelf
set_option linter.unusedSimpArgs false
set_option linter.unusedVariables false
set_option linter.unusedSectionVars false

attribute [local go_sem] Oper.semAt_some

def iL (A:Option Addr) (cap c i:Nat):Value:=.slice (if cap=i*c then A else A.map (·.add (i*c*2))) ((i+1)*c-i*c) (cap-i*c)

set_option maxRecDepth 100000 in
theorem Qhg (n:Nat) (hn:1≤n) (l bx r c k cap:Nat) (A:Option Addr) (hr:r≤200) (hc:c≤200) (hl:r*c≤k) (hk:k≤cap) (J Jx:List {i:Nat // i<r}→World→Prop)
  (hY : ∀ pre (x : {i : Nat // i < r}) W, J pre W → pre.length < r → YieldAt Fence.wide (n - 1) Tryz.prog l #[nv x.1, iL A cap c x.1] W fun e W' =>
   (e=.returned (.bool true)∧J (pre++[x]) W'∧KB [bx] W W')∨(e=.returned (.bool false)∧Jx (pre++[x]) W'))
  (W:World) (hB:W.heap[bx]?=some (.cells #[nv r,nv c,.slice A k cap] 28)) (h0:J [] W) :
  CallsIn Fence.wide n Tryz.prog 121 #[.func (.yield l) #[] #[],.pointer (some ⟨bx,0,none⟩)] W fun e W'=>(∃ v,e=.returned v) ∧
   ((∃ ys:List {i:Nat // i<r},ys.map (·.1)=List.range r∧J ys W')∨(∃ pre,True∧Jx pre W')):=by
 have hb0:W.cell? ⟨bx,0,none⟩=some (nv r):=Z4 hB rfl
 have hb1:W.cell? ⟨bx,1,none⟩=some (nv c):=Z4 hB rfl
 have hb2:W.cell? ⟨bx,2,none⟩=some (.slice A k cap):=Z4 hB rfl
 refine callsIn_of_wp Tryz.func121 rfl trivial ?_ rfl
 simp only[Tryz.ntmps121,List.size_toArray,List.length_cons,List.length_nil,Nat.reduceAdd,Nat.reduceSub,Array.replicate_succ,Array.replicate_zero,List.push_toArray,List.append_toArray,Vr,Vg]
 gi_wp2
 gi_loopw [6] (fun i wr=>∃ q:Nat,q≤r∧i=.int .i64 (q:Int)∧(∃ ys:List {i:Nat // i<r},ys.map (·.1)=List.range q∧J ys wr)∧KB [bx] W wr)
  (fun i _=>(r-intOf i).toNat)
 case atStart=>exact⟨0,V8 _,by simp,⟨[],rfl,h0⟩,KB.refl _ _⟩
 case round =>
  obtain⟨q,hq,rfl,⟨ys,hys,hJs⟩,hnx⟩:=hrel
  have hw0:wr.cell? ⟨bx,0,none⟩=some (nv r):=(hnx.cell (p:=⟨bx,0,none⟩) aA).trans hb0
  have hw1:wr.cell? ⟨bx,1,none⟩=some (nv c):=(hnx.cell (p:=⟨bx,1,none⟩) aA).trans hb1
  have hw2:wr.cell? ⟨bx,2,none⟩=some (.slice A k cap):=(hnx.cell (p:=⟨bx,2,none⟩) aA).trans hb2
  by_cases hlt:q<r
  ·obtain⟨fn,tmps,assign,body,hy,hR⟩:=hY ys ⟨q,hlt⟩ wr hJs (by have:=congrArg List.length hys;rw[List.length_map,List.length_range]at this;omega)
   dsimp only at hy
   have hqc:q*c≤40000:=Vn (show q≤200 by omega) hc
   have hqc1:(q+1)*c≤r*c:=Q9j hlt
   have hqc2:(q+1)*c≤40000:=V0 hqc1 (rcZ hr hc)
   have e:((q:Int)+1)*(c:Int)=(((q+1)*c:Nat):Int):=by simp
   have hI0:0≤((q:Int)+1)*(c:Int):=by rw[e];exact Int.natCast_nonneg _
   have hI1:((q:Int)+1)*(c:Int)≤(cap:Int):=by rw[e];omega
   have hI3:((q:Int)+1)*(c:Int)≤40000:=by rw[e];omega
   have hI2:(q:Int)*(c:Int)≤((q:Int)+1)*(c:Int):=by rw[Int.add_mul];omega
   have e2:(q+1)*c=(((q:Int)+1)*(c:Int)).toNat:=by rw[e];rfl
   by_cases hcc:cap=q*c
   ·subst hcc
    simp only[iL,if_true,Nat.sub_self]at hy
    clear e e2
    gi_wp2
    refine hR.mono ?_
    rintro e W3 (⟨rfl,hJ3,hk3⟩|⟨rfl,hJx3⟩)
    ·gi_wp2
     go_roundw
     case rel=>exact⟨q+1,by omega,by simp,⟨_,by rw[Vj,hys,List.range_succ];rfl,hJ3⟩,hnx.trans hk3⟩
     case measure=>first|(simp[intOf];done)|(simp[intOf];omega)
    ·gi_wp2
     refine bodyPost_ret (results_none rfl _ _ _) rfl ?_
     exact⟨⟨_,rfl⟩,.inr ⟨_,trivial,hJx3⟩⟩
   ·simp only[iL,if_neg hcc]at hy;clear e e2
    gi_wp2
    refine hR.mono ?_
    rintro e W3 (⟨rfl,hJ3,hk3⟩|⟨rfl,hJx3⟩)
    ·gi_wp2
     go_roundw
     case rel=>exact⟨q+1,by omega,by simp,⟨_,by rw[Vj,hys,List.range_succ];rfl,hJ3⟩,hnx.trans hk3⟩
     case measure=>first|(simp[intOf];done)|(simp[intOf];omega)
    ·gi_wp2
     refine bodyPost_ret (results_none rfl _ _ _) rfl ?_
     exact⟨⟨_,rfl⟩,.inr ⟨_,trivial,hJx3⟩⟩
  ·obtain rfl:q=r:=by omega
   gi_wp2
   go_end0
   exact⟨⟨_,rfl⟩,.inl ⟨ys,hys,hJs⟩⟩

theorem Q3h {r c k cap bx:Nat} {A:Option Addr} (hr:r≤200) (hc:c≤200) (hl:r*c≤k) (hk:k≤cap) :
  Qgj Tryz.prog 121 #[.pointer (some ⟨bx,0,none⟩)] (fun i=>nv i) (iL A cap c) r bx (.cells #[nv r,nv c,.slice A k cap] 28):=fun n w hn hb l J Jx W hW _ _ hY h0 =>
 Qhg n hn l bx r c k cap A hr hc hl hk J Jx hY W ((hW.block bx (Array.getElem?_eq_some_iff.1 hb).1).trans hb) h0

set_option linter.unusedSimpArgs false
set_option linter.unusedVariables false
set_option linter.unusedSectionVars false

theorem Qfw (w:World) (r c k cap:Nat) (A:Option Addr):Calls Tryz.prog 57 #[.agg #[nv r,nv c,.slice A k cap]] w (aQ fun v w'=>Kp [] w w'∧∃ bx,v=.func (.func 121) #[] #[.pointer (some ⟨bx,0,none⟩)]∧New [(bx,.cells #[nv r,nv c,.slice A k cap] 28 (0,0))] w w'):=by
 refine Qa [] [] aA [] Tryz.func57 rfl mixed (by kernel_rfl) Tryz.ntmps57 Tryz.results57 rfl ⟨by simp,by simp⟩ aA ?_
 simp only[toS,Qe,Qx,Qo,Qr,ay,Ql,Qy,aB]
 repeat' first|apply jS|apply jO|apply jN|apply jT|refine Q0 ?_|refine QM (h:=fun _=>?_)|refine Yg (h:=?_)|apply jR
 exact Qj rfl (fun a w' st=>⟨st.kp,_,rfl,st.bI rfl HSub.hd⟩)

theorem Qgm {w:World} {v:Value} {n:Nat} {zs:List Int} (h:WZ w v n zs) (hn:0<n):(dK v 0).block<w.heap.size:=by
 have hl:(iE (zs.map wz)).length=n*2:=h.1
 obtain⟨_,A,cap,rfl,_,hA⟩:=h
 obtain⟨_,h2⟩:=hA hn
 have h3:=h2 0 _ (List.getElem?_eq_getElem oq)
 exact Yt h3
theorem Q8u {wb:World} {c2:Cx} {v:Value} {n:Nat} {zs:List Int} (hv:WZ wb v n zs) (hk:Kp [] wb c2.w0) (hge:∀ k∈c2.M,wb.heap.size≤k) (N:aj):fH c2 N v n zs :=
 Qoz (hv.mono hk) (fun hn hm=>by have:=Qgm hv hn;have:=hge _ hm;omega) N
theorem Q67 {H:aj} {n:Nat} (h:∀ p∈H,n≤p.1):∀ k∈keys H,n≤k:=fun k hk=>by
 obtain⟨p,hp,rfl⟩:=List.mem_map.1 hk
 exact h p hp

def fA (m:ZM) (i:Nat):List Int:=(m.e.drop (i*m.c)).take m.c
theorem Q2q {m:ZM} {i j:Nat} (hj:j<m.c):(fA m i).getD j 0=m.at i j:=Qdy hj
theorem Q0u {m:ZM} {i:Nat} (hm:gJ m) (hi:i<m.r):(fA m i).length=m.c:=by
 unfold fA
 rw[List.length_take,List.length_drop,hm.len]
 have:=Q9j (c:=m.c) hi
 rw[Vl]at this;omega
theorem Qa0 {m:ZM} {i:Nat} (hm:gJ m) (hi:i<m.r):fA m i=tab m.c (m.at i):=by
 refine Q8p (Q0u hm hi) (fun j hj=>?_)
 rw[XB (d:=0) (by rw[Q0u hm hi];exact hj),Q2q hj]

theorem Qcv {w:World} {A:Option Addr} {n cap:Nat} {zs:List Int} (h:WZ w (.slice A n cap) n zs):n≤cap:=by
 obtain⟨_,A',cap',he,h,_⟩:=h
 cases he
 exact h
theorem Qdx {w:World} {m:ZM} {A:Option Addr} {cap i:Nat} (hm:gJ m) (h:WZ w (.slice A (m.r*m.c) cap) (m.r*m.c) m.e) (hi:i<m.r):WZ w (iL A cap m.c i) m.c (fA m i):=by
 have hrow:=Q9j (c:=m.c) hi
 have e1:(i+1)*m.c-i*m.c=m.c:=by rw[Vl];omega
 have e2:(i+1)*m.c=i*m.c+m.c:=by rw[Vl];omega
 have hlen:=Q0u hm hi
 obtain⟨hl,A',cap',he,hcap,hA⟩:=h
 simp only[Value.slice.injEq]at he
 obtain⟨rfl,_,rfl⟩:=he
 refine⟨by rw[Q1h,List.length_map,hlen],_,_,by unfold iL;rw[e1],by omega,fun hc=>?_⟩
 obtain⟨⟨b,o,rfl⟩,h2⟩:=hA oq
 have hne:cap≠i*m.c:=by omega
 rw[if_neg hne]
 refine⟨⟨b,o+i*m.c*2,by simp[ZD]⟩,fun j u hu=>?_⟩
 have hx:iE ((fA m i).map wz)=((iE (m.e.map wz)).drop (i*m.c*2)).take (m.c*2):=by
  unfold fA
  rw[List.map_take,List.map_drop, ← Q0m, ← Q0n]
 rw[hx,List.getElem?_take]at hu
 split at hu
 ·rw[List.getElem?_drop]at hu
  have:=h2 _ u hu
  unfold iL
  rw[if_neg hne]
  simpa [Nat.add_assoc,ZD,dK] using this
 ·cases hu

theorem Qiu (w:World) (v:Value) (n:Nat) (xs:List Int) (hv:WZ w v n xs) (hn:n≤1000000) :
  Calls Tryz.prog 97 #[v] w (aQ fun u w'=>Kp [] w w'∧∃ N,New N w w'∧aN N u n xs):=by
 obtain⟨A,cap,rfl⟩:=hv.form
 cases A with
 | none =>
  have h0:n=0∧xs=[]:=by
   have h1:=hv.len
   rcases Nat.eq_zero_or_pos n with h|h
   ·subst h;exact⟨rfl,List.eq_nil_of_length_eq_zero h1⟩
   ·obtain⟨_,A,cap',he,_,hA⟩:=hv
    cases he
    obtain⟨⟨_,_,h2⟩,_⟩:=hA oq
    cases h2
  obtain⟨rfl,rfl⟩:=h0
  refine Qa [] [] aA [] Tryz.func97 rfl mixed (by kernel_rfl) Tryz.ntmps97 Tryz.results97 rfl ⟨by simp,by simp⟩ aA ?_
  simp only[toS,Qe,Qx,Qo,Qr,ay,Ql,Qy,aB]
  repeat' first|apply jS|apply jO|apply jN|apply jT|refine Q1 ?_|refine Q0 ?_|refine Q60 (h:=?_)|apply jV|apply jR|refine Q5 rfl ?_
  exact Qj rfl (fun a w' st=>⟨st.kp,[],New.nil _ _,aN.nil⟩)
 | some ad =>
  refine Qa [] [] aA [] Tryz.func97 rfl mixed (by kernel_rfl) Tryz.ntmps97 Tryz.results97 rfl ⟨by simp,by simp⟩ aA ?_
  simp only[toS,Qe,Qx,Qo,Qr,ay,Ql,Qy,aB]
  repeat' first|apply jS|apply jO|apply jN|apply jT|refine Q1 ?_|refine Q0 ?_|refine Q60 (h:=?_)|apply jK|refine Q4 rfl ?_
  refine XP rfl rfl rfl (fun b=>?_)
  repeat' first|refine Q1 ?_|fail
  have hO:aN [(b,.cells #[] 75)] (.slice (some ⟨b,0,none⟩) 0 0) 0 []:=by
   have:=aH.mk' (e:=75) (sz:=2) (n:=0) (b:=b) (cs:=#[]) rfl (by simp only[maxLen];omega)
   exact this
  refine Zi (A:=[]) hO (WZ.rd hv rfl []) Qb rfl trivial rfl rfl rfl rfl oq (fun v' N' aX=>?_)
  rw[Vq,Vr]at aX
  repeat' first|apply jN|apply jT|refine Q0 ?_|apply jR
  exact Qj rfl (fun a w' st=>⟨st.kp,N',st.bI rfl Qb,aX⟩)

def trS (m:ZM) (pre:List Nat) (i j:Nat):List Int:=bP m.c m.r fun a b=>if b∈pre∨(b=i∧a<j) then m.at b a else 0
theorem Qh0 (m:ZM):trS m [] 0 0=tab (m.c*m.r) fun _=>0:=by
 rw[← Q5p]
 exact Qk fun i j _ _=>by simp
theorem Qd8 (m:ZM) (pre:List Nat) (i i':Nat):trS m pre i 0=trS m pre i' 0:=Qk fun a b _ _=>by simp
theorem Qke {m:ZM} {pre:List Nat} {i j:Nat} (hi:i<m.r):(trS m pre i j).set (j*m.r+i) (m.at i j)=trS m pre i (j+1):=by
 unfold trS
 rw[Y3 hi]
 refine Qk fun a b ha hb=>?_
 by_cases h:a=j∧b=i
 ·obtain⟨rfl,rfl⟩:=h
  rw[if_pos ⟨rfl,rfl⟩,if_pos (.inr ⟨rfl,by omega⟩)]
 ·rw[if_neg h]
  by_cases h2:b∈pre∨(b=i∧a<j)
  ·rw[if_pos h2,if_pos]
   rcases h2 with h2|h2
   ·exact .inl h2
   ·exact .inr ⟨h2.1,by omega⟩
  ·rw[if_neg h2,if_neg]
   rintro(h3|h3)
   ·exact h2 (.inl h3)
   ·refine h2 (.inr ⟨h3.1,?_⟩)
    have:¬a=j:=fun e=>h ⟨e,h3.1⟩
    omega
theorem Qh1 (m:ZM) (pre:List Nat) (i:Nat):trS m pre i m.c=trS m (pre++[i]) 0 0:=Qk fun a b ha hb=>by
 have:(b∈pre∨(b=i∧a<m.c))↔(b∈pre++[i]∨(b=0∧a<0)):=by simp[ha]
 simp only[this]
theorem Qkf (m:ZM):trS m (List.range m.r) 0 0=(trZ m).e:=Qk fun a b ha hb=>by
 rw[if_pos (.inl (List.mem_range.2 hb))]
 rfl

theorem XX (w:World) (v:Value) (m:ZM) (hm:gJ m) (hv:jw w v m) :
  Calls Tryz.prog 25 #[v] w (aQ fun v w'=>Kp [] w w'∧Q5h (trZ m) w v w'):=by
 have hvX:=hv.x
 obtain⟨E,rfl,hE⟩:=hv
 have hl:=hm.len
 have hle:=hm.le
 have hbr:=hm.r
 have hbc:=hm.c
 have hcr:=rcZ hbc hbr
 rw[hl]at hE
 obtain⟨A,cap,rfl⟩:=hE.form
 have hcap:m.r*m.c≤cap:=Qcv hE
 refine Q22 5 [] Tryz.func25 rfl mixed (by kernel_rfl) Tryz.ntmps25 aA ?_
 simp only[toZ,Q68,Bool.or_false,Bool.false_or,Bool.or_self,Bool.true_or,cond_true,cond_false,toS,Qe,Qx,Qo,Qr,ay,Ql,Qy,aB]

 repeat' first|apply jS|apply jO|apply jN|refine Qm ?_|refine Qh fun _=>?_|refine QM (h:=fun _=>?_)|apply jT
 rename_i b1 b2
 refine Q9 trivial rfl rfl rfl (fun w hk _=>Q24 w _ m.xm (hvX.mono hk) (by simp[ZM.xm];omega)) fun w v w' _ _ _ hR=>?_
 obtain⟨b',rfl,hb⟩:=hR
 obtain rfl:=hb.2 hm.rx
 repeat' first|apply jS|apply jO|apply jN|apply jT|refine Q2 ?_|refine Q7 ?_|refine QG ?_|apply jK|refine Q4 rfl ?_
 refine Qt (A:=[_,_]) (B:=[]) rfl trivial rfl rfl rfl (fun w hk _=>Qbl m.c m.r hbc hbr w) fun w v w' _ _ _ hR=>?_
 obtain⟨N,Eo,hN,rfl,hO⟩:=hR
 obtain⟨Ao,co,rfl⟩:=hO.form
 refine⟨N,hN,?_⟩
 repeat' first|apply jS|apply jO|apply jN|refine Qm ?_|refine Q6 ?_|refine Qh fun _=>?_|refine Q6 ?_|apply jT
 rename_i b3
 refine Qt (A:=[]) rfl trivial rfl rfl rfl (fun w hk _=>Qfw w m.r m.c (m.r*m.c) cap A) fun w v w' _ _ _ hR=>?_
 obtain⟨bx,rfl,hNx⟩:=hR
 refine⟨_,hNx,?_⟩
 repeat' first|apply jN|apply jT|apply jB
 have hbx:∀ (N:aj),(bx,Obj.cells #[nv m.r,nv m.c,.slice A (m.r*m.c) cap] 28 (0,0))∈([(bx,Obj.cells #[nv m.r,nv m.c,.slice A (m.r*m.c) cap] 28 (0,0)),(b3,.cells #[nv m.c,nv m.r,.slice Ao (m.c*m.r) co] 28 (0,0)),(b2,.cells #[iv 0,iv 0,.slice none 0 0] 28 (0,0)),(b1,.cells #[nv m.r,nv m.c,.slice A (m.r*m.c) cap] 28 (0,0))]++(N++[])):=fun N=>by simp
 refine Q4j (od:=[]) _ rfl mixed rfl rfl (enters_of Tryz.func121 (by kernel_rfl) rfl) (Q3h hbr hbc (V7 _) hcap)
  (fun pre H'=>∃ N,H'=[(bx,Obj.cells #[nv m.r,nv m.c,.slice A (m.r*m.c) cap] 28 (0,0)),(b3,.cells #[nv m.c,nv m.r,.slice Ao (m.c*m.r) co] 28 (0,0)),(b2,.cells #[iv 0,iv 0,.slice none 0 0] 28 (0,0)),(b1,.cells #[nv m.r,nv m.c,.slice A (m.r*m.c) cap] 28 (0,0))]++(N++[])∧aN N (.slice Ao (m.c*m.r) co) (m.c*m.r) (trS m pre 0 0))
  (by rintro pre _ ⟨N,rfl,_⟩;exact hbx N) (by rintro pre _ ⟨N,rfl,hO⟩;exact Cells.cons (Cells.cons (Cells.cons (Cells.cons (hO.cells.app Cells.nil))))) _ ⟨N,rfl,by rw[Qh0];exact hO⟩ QE
  (fun i _=>[(4,nv i),(5,iL A cap m.c i),(3,.pointer (some ⟨b3,0,none⟩)),(1,.pointer (some ⟨b1,0,none⟩))]) (fun _=>none) (fun _ _ h=>by cases h) rfl rfl (by kernel_rfl) (by kernel_rfl) rfl (fun _ _ h=>h) ?_ ?_ ?_
 ·intro l i W hW
  simp only[toB,Qe,Qx,Qo,Qr,ay,Ql,Qy]
  repeat' first|apply jS|apply jO|apply jN|refine Q0 ?_|apply jT
  exact Q5g rfl aC
 ·rintro l i pre _ _ W1 hM' hi hpl ⟨N,rfl,hO⟩ hl hln hkb hge
  simp only[toB,Qe,Qx,Qo,Qr,ay,Ql,Qy,jH,Vr]
  have hrow:=Q8u (c2:=⟨Tryz.prog,40,W1,_,hM'⟩) (Qdx hm hE hi) hkb (Q67 hge) []
  have hlr:=Q0u hm hi
  repeat' first|apply jS|apply jO|apply jN|apply jT|refine Q1 ?_|refine Zt (h:=?_)|apply jB
  refine Qn (ι:=Nat × aj) ⟨fun z=>[(23,nv z.1),(22,nv m.c),(21,iL A cap m.c i),(4,nv i),(3,.pointer (some ⟨b3,0,none⟩)),(1,.pointer (some ⟨b1,0,none⟩))],
   fun z=>[(bx,.cells #[nv m.r,nv m.c,.slice A (m.r*m.c) cap] 28),(b3,.cells #[nv m.c,nv m.r,.slice Ao (m.c*m.r) co] 28),(b2,.cells #[iv 0,iv 0,.slice none 0 0] 28),(b1,.cells #[nv m.r,nv m.c,.slice A (m.r*m.c) cap] 28)]++(z.2++[]),
   fun z=>z.1≤m.c∧aN z.2 (.slice Ao (m.c*m.r) co) (m.c*m.r) (trS m pre i z.1),fun z=>m.c-z.1⟩ (0,N) ⟨by omega,by rw[Qd8 m pre i 0];exact hO⟩ aC QE (fun j hj=>?_)
  obtain⟨j,N⟩:=j
  obtain⟨hjn,hO⟩:=hj
  dsimp only at hjn hO ⊢
  by_cases hj:j<m.c
  ·have hlt:=Yn hj hi
   have hjr:j*m.r≤40000:=by omega
   repeat' first|apply jS|apply jO|apply jN|apply jT|refine Q1 ?_|refine Q2 ?_|refine Q0 ?_|refine Q7 ?_|refine Qm ?_|refine QY (h:=?_)|refine Y4 (h:=?_)|refine Z8 (h:=?_)|refine Z1 (h:=?_)|refine Q6 ?_|(refine Qg (h1:=?_) (h2:=?_)<;>intro hc<;>try omega)|refine Qh fun _=>?_|refine Q6 ?_|apply jK|refine Q5 rfl ?_|apply jB
   rename_i b7
   refine Q0a (A:=[_,_,_,_,_]) hO rfl rfl au rfl rfl hlt (fun N' aX=>?_)
   rw[Q2q hj,Qke hi]at aX
   repeat' first|apply jO|apply jN|apply jT|refine Q1 ?_|refine Qd ?_|apply jW
   exact Q8 (j+1,N') ⟨by dsimp only;omega,aX⟩ aW aC (by exact HSub.skip (HSub.refl _))
  ·repeat' first|apply jS|apply jO|apply jN|apply jT|(refine Qg (h1:=?_) (h2:=?_)<;>intro hc<;>try omega)|apply jU|apply jE|refine Q4 rfl ?_|apply jW|apply Qc
   obtain rfl:j=m.c:=by omega
   rw[Qh1]at hO
   exact WF ⟨N,rfl,hO⟩ (Cells.cons (Cells.cons (Cells.cons (Cells.cons (hO.cells.app Cells.nil))))) (HSub.refl _)
 ·rintro D _ ⟨N,rfl,hO⟩ hD
  simp only[toS,Qe,Qx,Qo,Qr,ay,Ql,Qy]
  repeat' first|apply jS|apply jO|apply jN|apply jT|refine Qm ?_|refine Q6 ?_|refine Q6 ?_|apply jR
  rw[Qkf]at hO
  refine Q8n 0 rfl hD rfl ?_
  exact Z0 2 rfl rfl rfl (fun a w' st=>⟨st.kp,N,st.bI rfl (by exact HSub.skip (HSub.skip (HSub.skip (HSub.skip HSub.dJ)))),gB.mk' hO⟩)



abbrev TR:=aj × Value × List Int
def tH (ts:List TR):aj:=(ts.map (·.1)).flatten
theorem Q78 (a b:List TR):tH (a++b)=tH a++tH b:=by simp[tH]
theorem Qnc (t:TR):tH [t]=t.1:=by simp[tH]
structure cO (N:aj) (v:Value) (c:Nat) (ts:List TR):Prop where
 outer:aH 26 1 N v ts.length (ts.map (·.2.1))
 rows:∀ t∈ts,aN t.1 t.2.1 c t.2.2
theorem cO.cells {N:aj} {v:Value} {c:Nat} {ts:List TR} (h:cO N v c ts):Cells (N++tH ts):=h.outer.cells'.app fun p hp=>by
 obtain⟨l,hl,hp⟩:=List.mem_flatten.1 hp
 obtain⟨t,ht,rfl⟩:=List.mem_map.1 hl
 exact(h.rows t ht).cells p hp
theorem cO.form {N:aj} {v:Value} {c:Nat} {ts:List TR} (h:cO N v c ts):∃ A cap,v=.slice A ts.length cap:=by
 obtain⟨_,⟨h1,h2,_⟩|⟨b,cap,cur,h1,_⟩⟩:=h.outer
 ·exact⟨none,0,by rw[h1,h2]⟩
 ·exact⟨_,_,h1⟩


def iQ (ks:List Nat) (f:Nat→Int):Int:=(ks.map f).sum
theorem Q3b (ks:List Nat) (k:Nat) (f:Nat→Int):iQ (ks++[k]) f=iQ ks f+f k:=by simp[iQ]
theorem Q4w (f:Nat→Int):∀ n,iQ (List.range n) f=eF n f
 | 0=>rfl
 | n+1=>by rw[List.range_succ,Q3b,Q4w f n,eF]
theorem Qdg {B:Nat} {f:Nat→Int} (h:∀ k,(f k).natAbs≤B):∀ ks:List Nat,(iQ ks f).natAbs≤ks.length*B
 | []=>by simp[iQ]
 | k::ks=>by
  have h1:=Qdg h ks
  have h2:=h k
  have h3:=Int.natAbs_add_le (f k) (iQ ks f)
  have e:iQ (k::ks) f=f k+iQ ks f:=by simp[iQ]
  rw[e,List.length_cons,Vl,Nat.one_mul]
  omega

def muF (m n:ZM) (pre:List Nat) (i:Nat) (ks:List Nat) (k j:Nat):Mi:=fun a b=>(pre.count a:Int)*iW m.c m.at n.at a b+if a=i then iQ ks (fun t=>m.at i t*n.at t b)+(if b<j then m.at i k*n.at k b else 0) else 0
def jf (m n:ZM) (pre:List Nat) (i:Nat) (ks:List Nat) (k j:Nat):List Int:=bP m.r n.c (muF m n pre i ks k j)
def muE (m n:ZM) (pre:List Nat):List Int:=bP m.r n.c fun a b=>(pre.count a:Int)*iW m.c m.at n.at a b
theorem Qat (m n:ZM):muE m n []=tab (m.r*n.c) fun _=>0:=by
 rw[← Q5p]
 exact Qk fun i j _ _=>by simp
theorem Q7u (m n:ZM) (pre:List Nat) (i k:Nat):jf m n pre i [] k 0=muE m n pre:=Qk fun a b _ _=>by simp[muF,iQ]
theorem Qlg (m n:ZM) (pre:List Nat) (i:Nat) (ks:List Nat) (k k':Nat):jf m n pre i ks k 0=jf m n pre i ks k' 0:=Qk fun a b _ _=>by simp[muF]
theorem Qet {m n:ZM} {pre ks:List Nat} {i k j:Nat} (hi:i<m.r) (hj:j<n.c):(jf m n pre i ks k j).set (i*n.c+j) (enz n.c (jf m n pre i ks k j) i j+m.at i k*n.at k j)=jf m n pre i ks k (j+1):=by
 have e:enz n.c (jf m n pre i ks k j) i j=muF m n pre i ks k j i j:=Q1y hi hj
 rw[e]
 unfold jf
 rw[Y3 hj]
 refine Qk fun a b ha hb=>?_
 by_cases h:a=i∧b=j
 ·obtain⟨rfl,rfl⟩:=h
  simp only[muF,and_self,if_true,Nat.lt_irrefl,if_false,Nat.lt_succ_self]
  omega
 ·rw[if_neg h]
  simp only[muF]
  by_cases h1:a=i
  ·rw[if_pos h1,if_pos h1]
   have:(b<j+1)↔(b<j):=by
    have:¬b=j:=fun e=>h ⟨h1,e⟩
    omega
   simp only[this]
  ·rw[if_neg h1,if_neg h1]
theorem Qaq {m n:ZM} {pre ks:List Nat} {i k j:Nat} (h0:m.at i k*n.at k j=0):jf m n pre i ks k j=jf m n pre i ks k (j+1):=Qk fun a b ha hb=>by
 simp only[muF]
 by_cases hb:b=j
 ·subst hb
  rw[if_neg (Nat.lt_irrefl b),if_pos (Nat.lt_succ_self b),h0]
 ·have:(b<j+1)↔(b<j):=by omega
  simp only[this]
theorem Qar {m n:ZM} {pre ks:List Nat} {i k:Nat}:jf m n pre i ks k n.c=jf m n pre i (ks++[k]) 0 0:=Qk fun a b ha hb=>by
 simp only[muF]
 rw[if_pos hb,Q3b]
 simp
theorem Qas {m n:ZM} {pre ks:List Nat} {i k:Nat} (h0:m.at i k=0):jf m n pre i ks 0 0=jf m n pre i (ks++[k]) 0 0:=Qk fun a b ha hb=>by
 simp only[muF]
 rw[Q3b,h0]
 simp
theorem Qeu {m n:ZM} {pre:List Nat} {i:Nat}:jf m n pre i (List.range m.c) 0 0=muE m n (pre++[i]):=Qk fun a b ha hb=>by
 simp only[muF]
 rw[List.count_append]
 by_cases h:a=i
 ·subst h
  rw[if_pos rfl,Q4w]
  simp only[List.count_singleton_self,Nat.not_lt_zero,if_false]
  show _+(iW m.c m.at n.at a b+0)=_
  simp only[Int.natCast_add,Int.add_mul]
  simp
 ·rw[if_neg h,List.count_singleton]
  have:(i == a)=false:=by simpa using fun e=>h e.symm
  simp[this]
theorem Qev (m n:ZM):muE m n (List.range m.r)=(mulZ m n).e:=Qk fun a b ha hb=>by
 have:(List.range m.r).count a=1:=by
  have h1:=List.nodup_iff_count.1 (List.nodup_range (n:=m.r)) a
  have h2:=List.count_pos_iff.2 (List.mem_range.2 ha)
  omega
 rw[this]
 simp
theorem Qjs {K L:Nat} {m n:ZM} {pre ks:List Nat} {i k j a b:Nat} (hc:m.c≤200) (hm:gu K m) (hn:gu L n) (hp:pre.length≤200) (hk:ks.length≤200):(muF m n pre i ks k j a b).natAbs<256 ^ (K+L+2):=by
 have hB:∀ t,(m.at i t*n.at t b).natAbs≤256 ^ (K+L):=fun t=>Nat.le_of_lt (W9 (hm.at i t) (hn.at t b))
 have h1:(iW m.c m.at n.at a b).natAbs≤200*256 ^ (K+L):=V0 (Qjf (n:=m.c) (f:=fun t=>m.at a t*n.at t b) (B:=256 ^ (K+L)) (fun t _=>Nat.le_of_lt (W9 (hm.at a t) (hn.at t b)))) (V1 _ hc)
 have h2:((pre.count a:Int)*iW m.c m.at n.at a b).natAbs≤200*(200*256 ^ (K+L)):=by
  rw[Int.natAbs_mul,Int.natAbs_natCast]
  exact Vn (V0 List.count_le_length hp) h1
 have h3:(iQ ks (fun t=>m.at i t*n.at t b)).natAbs≤200*256 ^ (K+L):=V0 (Qdg hB ks) (V1 _ hk)
 have h4:=hB k
 have h5:=pos256 (K+L)
 have e:256 ^ (K+L+2)=65536*256 ^ (K+L):=by rw[V9,V9];omega
 rw[e]
 unfold muF
 generalize (pre.count a:Int)*iW m.c m.at n.at a b=x at h2 ⊢
 generalize iQ ks (fun t=>m.at i t*n.at t b)=y at h3 ⊢
 generalize m.at i k*n.at k b=z at h4 ⊢
 generalize 256 ^ (K+L)=P at *
 split
 ·split<;>omega
 ·omega

theorem Qix {N:aj} {A:Option Addr} {n cap:Nat} {xs:List WR} (h:dG N (.slice A n cap) n xs):∃ b,(0<n→A=some ⟨b,0,none⟩)∧n≤cap:=by
 obtain⟨_,⟨h1,h2,_⟩|⟨b,cap',cur,h1,_,h3,_⟩⟩:=h
 ·refine⟨0,fun h=>by omega,by omega⟩
 ·cases h1
  exact⟨b,fun _=>rfl,h3⟩

theorem Qne {cx:Cx} {N:aj} {A A':Option Addr} {b n co c l k:Nat} {xs:List Int} (hO:aN N (.slice A n co) n xs) (hA0:0<n→A=some ⟨b,0,none⟩) (hA:0<c→A'=some ⟨b,0+l*2,none⟩) (hl:l+c≤n) (hc:c≤k):fH cx N (.slice A' c k) c ((xs.drop l).take c):=by
 have hlen:=hO.len
 obtain⟨_,_,_,he,_,h2⟩:=hO.rd (c:=cx)
 cases he
 refine⟨by rw[Q1h,List.length_map,List.length_take,List.length_drop];omega,_,_,rfl,hc,fun h0=>?_⟩
 obtain⟨_,h3⟩:=h2 oq
 obtain rfl:=hA h0
 obtain rfl:=hA0 oq
 refine⟨⟨_,_,rfl⟩,fun w hw j u hu=>?_⟩
 rw[List.map_take,List.map_drop, ← Q0m, ← Q0n,List.getElem?_take]at hu
 split at hu
 ·rw[List.getElem?_drop]at hu
  have:=h3 w hw _ u hu
  simpa [Nat.add_assoc,dK] using this
 ·cases hu

theorem aN.ty {N:aj} {v:Value} {n:Nat} {xs:List Int} (h:aN N v n xs):∀ p∈N,∃ cs fz,p.2=.cells cs 75 fz:=by
 obtain⟨_,⟨_,_,rfl⟩|⟨b,cap,cur,_,rfl,_⟩⟩:=h
 ·intro p hp;cases hp
 ·intro p hp;cases List.mem_singleton.1 hp;exact⟨_,_,rfl⟩


theorem Qop (K L:Nat) (w:World) (v u:Value) (m n:ZM) (hm:gJ m) (hn:gJ n) (hr:m.c=n.r) (hK:K+L≤29000000000000) (hx:gu K m) (hy:gu L n) (hv:jw w v m) (hu:jw w u n) :
  Calls Tryz.prog 23 #[v,u] w (aQ fun v w'=>Kp [] w w'∧Qgl (mulZ m n) true w v w'):=by
 have hvX:=hv.x
 have huX:=hu.x
 obtain⟨E,rfl,hE⟩:=hv
 obtain⟨E',rfl,hE'⟩:=hu
 have hl:=hm.len
 have hle:=hm.le
 have hl':=hn.len
 have hle':=hn.le
 have hbr:=hm.r
 have hbc:=hm.c
 have hbr':=hn.r
 have hbc':=hn.c
 have hrc:=rcZ hbr hbc'
 rw[hl]at hE
 rw[hl']at hE'
 obtain⟨A,cap,rfl⟩:=hE.form
 obtain⟨A',cap',rfl⟩:=hE'.form
 have hcap:m.r*m.c≤cap:=Qcv hE
 have hcap':n.r*n.c≤cap':=Qcv hE'
 refine Q22 5 [⟨16,2,[],[]⟩] Tryz.func23 rfl mixed (by kernel_rfl) Tryz.ntmps23 aA ?_
 simp only[toZ,Q68,Bool.or_false,Bool.false_or,Bool.or_self,Bool.true_or,cond_true,cond_false,toS,Qe,Qx,Qo,Qr,ay,Ql,Qy,aB]
 repeat' first|apply jS|apply jO|apply jN|refine Q0 ?_|refine Qm ?_|refine Qh fun _=>?_|refine QM (h:=fun _=>?_)|apply jT
 rename_i b2 b3 b4
 refine Q9 trivial rfl rfl rfl (fun w hk _=>Q24 w _ m.xm (hvX.mono hk) (by simp[ZM.xm];omega)) fun w v w' _ _ _ hR=>?_
 obtain⟨b',rfl,hb⟩:=hR
 obtain rfl:=hb.2 hm.rx
 repeat' first|refine Q1 ?_|refine Qm ?_|refine QG ?_|fail
 refine Q9 trivial rfl rfl rfl (fun w hk _=>Q24 w _ n.xm (huX.mono hk) (by simp[ZM.xm];omega)) fun w v w' _ _ _ hR=>?_
 obtain⟨b',rfl,hb⟩:=hR
 obtain rfl:=hb.2 hn.rx
 repeat' first|apply jS|apply jO|apply jN|apply jT|refine Q1 ?_|refine Q2 ?_|refine Q7 ?_|refine Qq ?_|refine QG ?_|(refine ZP (h1:=?_) (h2:=?_)<;>intro hc<;>try omega)|apply jK|refine Q4 rfl ?_
 refine Qt (A:=[_,_,_]) (B:=[]) rfl trivial rfl rfl rfl (fun w hk _=>Qbl m.r n.c hbr hbc' w) fun w v w' _ _ _ hR=>?_
 obtain⟨N,Eo,hN,rfl,hO⟩:=hR
 obtain⟨Ao,co,rfl⟩:=hO.form
 refine⟨N,hN,?_⟩
 repeat' first|apply jS|apply jO|apply jN|refine Qm ?_|refine Q6 ?_|refine Qh fun _=>?_|refine Q6 ?_|apply jT
 rename_i b6
 refine Qt (A:=[]) rfl trivial rfl rfl rfl (fun w hk _=>Qfw w m.r m.c (m.r*m.c) cap A) fun w v w' _ _ _ hR=>?_
 obtain⟨bx,rfl,hNx⟩:=hR
 refine⟨_,hNx,?_⟩
 repeat' first|apply jN|apply jT|apply jB
 obtain⟨b0,hAo,hco⟩:=Qix hO
 have hbx:∀ (N:aj),(bx,Obj.cells #[nv m.r,nv m.c,.slice A (m.r*m.c) cap] 28 (0,0))∈([(bx,Obj.cells #[nv m.r,nv m.c,.slice A (m.r*m.c) cap] 28 (0,0)),(b6,.cells #[nv m.r,nv n.c,.slice Ao (m.r*n.c) co] 28 (0,0)),(b4,.cells #[iv 0,iv 0,.slice none 0 0] 28 (0,0)),(b3,.cells #[nv n.r,nv n.c,.slice A' (n.r*n.c) cap'] 28 (0,0)),(b2,.cells #[nv m.r,nv m.c,.slice A (m.r*m.c) cap] 28 (0,0))]++(N++[])):=fun N=>by simp
 refine Q4j (od:=[⟨16,2,[],[]⟩]) _ rfl mixed rfl rfl (enters_of Tryz.func121 (by kernel_rfl) rfl) (Q3h hbr hbc (V7 _) hcap)
  (fun pre H'=>∃ N,H'=[(bx,Obj.cells #[nv m.r,nv m.c,.slice A (m.r*m.c) cap] 28 (0,0)),(b6,.cells #[nv m.r,nv n.c,.slice Ao (m.r*n.c) co] 28 (0,0)),(b4,.cells #[iv 0,iv 0,.slice none 0 0] 28 (0,0)),(b3,.cells #[nv n.r,nv n.c,.slice A' (n.r*n.c) cap'] 28 (0,0)),(b2,.cells #[nv m.r,nv m.c,.slice A (m.r*m.c) cap] 28 (0,0))]++(N++[])∧aN N (.slice Ao (m.r*n.c) co) (m.r*n.c) (muE m n pre))
  (by rintro pre _ ⟨N,rfl,_⟩;exact hbx N) (by rintro pre _ ⟨N,rfl,hO⟩;exact(Cells.cons (Cells.cons (Cells.cons (Cells.cons (Cells.cons (hO.cells.app Cells.nil))))))) _ ⟨N,rfl,by rw[Qat];exact hO⟩ QE
  (fun i b=>[(7,nv i),(8,.pointer (some ⟨b,0,none⟩)),(6,.pointer (some ⟨b6,0,none⟩)),(3,.pointer (some ⟨b3,0,none⟩))]) (fun i=>some (.cells #[iL A cap m.c i] 26 (0,0))) ?_ rfl rfl (by kernel_rfl) (by kernel_rfl) rfl (fun _ _ h=>h) ?_ ?_ ?_
 ·rintro i _ ⟨⟩ pre _ ⟨N,rfl,hO⟩ p hp e
  simp only[List.mem_append,List.mem_cons,List.mem_nil_iff,or_false]at hp
  rcases hp with (rfl|rfl|rfl|rfl|rfl)|hp
  ·cases e
  ·cases e
  ·cases e
  ·cases e
  ·cases e
  ·obtain⟨cs,fz,h⟩:=hO.ty p hp
   rw[h]at e
   cases e
 ·intro l i W hW
  simp only[toB,Qe,Qx,Qo,Qr,ay,Ql,Qy,jH,Vr,Vg]
  repeat' first|apply jS|apply jO|apply jN|refine Q0 ?_|refine Qh fun _=>?_|refine QO ?_|apply jT
  exact Qcp 0 rfl rfl rfl aC
 ·rintro l i pre b8 _ W1 hM' hi hpl ⟨N,rfl,hO⟩ hl hln hkb hge
  simp only[toB,Qe,Qx,Qo,Qr,ay,Ql,Qy,jH,Vr,Vg]
  have hrow1:=Q9j (c:=n.c) hi
  have hrow2:(i+1)*n.c=i*n.c+n.c:=by rw[Vl];omega
  have hic:i*n.c≤40000:=by omega
  repeat' first|apply jS|apply jO|refine Q1 ?_|refine Q2 ?_|refine Q7 ?_|refine Qd ?_|refine Z1 (h:=?_)|apply jB
  refine Y9 (b:=b0) (o:=0) (l:=i*n.c) (h':=(i+1)*n.c) rfl rfl rfl hAo rfl rfl (.inl rfl) rfl rfl (.inl rfl) oq oq hco (fun A9 hA9=>?_)
  rw[show (i+1)*n.c-i*n.c=n.c by omega]
  have hA9:0<n.c→A9=some ⟨b0,0+i*n.c*2,none⟩:=fun h=>hA9 oq
  repeat' first|apply jS|apply jO|apply jN|refine Qm ?_|refine Qh fun _=>?_|refine QO ?_|apply jT
  rename_i b9
  refine Qt (A:=[]) rfl trivial rfl rfl rfl (fun w hk _=>Qfw w n.r n.c (n.r*n.c) cap' A') fun w v w' _ _ _ hR=>?_
  obtain⟨by_,rfl,hNy⟩:=hR
  refine⟨_,hNy,?_⟩
  repeat' first|apply jN|apply jT|apply jB
  have hby:∀ (N:aj),(by_,Obj.cells #[nv n.r,nv n.c,.slice A' (n.r*n.c) cap'] 28 (0,0))∈((by_,Obj.cells #[nv n.r,nv n.c,.slice A' (n.r*n.c) cap'] 28 (0,0))::(b9,.cells #[.slice A9 n.c (co-i*n.c)] 26 (0,0))::(b8,.cells #[iL A cap m.c i] 26 (0,0))::([(bx,Obj.cells #[nv m.r,nv m.c,.slice A (m.r*m.c) cap] 28 (0,0)),(b6,.cells #[nv m.r,nv n.c,.slice Ao (m.r*n.c) co] 28 (0,0)),(b4,.cells #[iv 0,iv 0,.slice none 0 0] 28 (0,0)),(b3,.cells #[nv n.r,nv n.c,.slice A' (n.r*n.c) cap'] 28 (0,0)),(b2,.cells #[nv m.r,nv m.c,.slice A (m.r*m.c) cap] 28 (0,0))]++(N++[]))):=fun N=>Vf ..
  refine Qcq (od:=[⟨16,2,[],[]⟩]) _ mixed hl hln rfl (enters_of Tryz.func121 (by kernel_rfl) rfl) (Q3h hbr' hbc' (V7 _) hcap') hkb (Q67 hge)
   (fun ks H'=>∃ N,H'=(by_,Obj.cells #[nv n.r,nv n.c,.slice A' (n.r*n.c) cap'] 28 (0,0))::(b9,.cells #[.slice A9 n.c (co-i*n.c)] 26 (0,0))::(b8,.cells #[iL A cap m.c i] 26 (0,0))::([(bx,Obj.cells #[nv m.r,nv m.c,.slice A (m.r*m.c) cap] 28 (0,0)),(b6,.cells #[nv m.r,nv n.c,.slice Ao (m.r*n.c) co] 28 (0,0)),(b4,.cells #[iv 0,iv 0,.slice none 0 0] 28 (0,0)),(b3,.cells #[nv n.r,nv n.c,.slice A' (n.r*n.c) cap'] 28 (0,0)),(b2,.cells #[nv m.r,nv m.c,.slice A (m.r*m.c) cap] 28 (0,0))]++(N++[]))∧aN N (.slice Ao (m.r*n.c) co) (m.r*n.c) (jf m n pre i ks 0 0))
   (by rintro ks _ ⟨N,rfl,_⟩;exact hby N) (by rintro ks _ ⟨N,rfl,hO⟩;exact(Cells.cons (Cells.cons (Cells.cons (Cells.cons (Cells.cons (Cells.cons (Cells.cons (Cells.cons (hO.cells.app Cells.nil)))))))))) _ ⟨N,rfl,by rw[Q7u];exact hO⟩ (HSub.refl _)
   (fun k _=>[(10,nv k),(11,iL A' cap' n.c k),(9,.pointer (some ⟨b9,0,none⟩)),(8,.pointer (some ⟨b8,0,none⟩))]) (fun _=>none) (fun _ _ h=>by cases h) rfl rfl (by kernel_rfl) (by kernel_rfl) ?_ ?_ ?_
  ·intro l2 k W2 hW2
   simp only[toB,Qe,Qx,Qo,Qr,ay,Ql,Qy,jH,Vr,Vg]
   repeat' first|apply jS|apply jO|apply jN|refine Q0 ?_|apply jT
   exact Q5g rfl aC
  ·rintro l2 k ks _ _ W2 hM2 hk hkl ⟨N,rfl,hO⟩ hln2 hkb2 hge2
   simp only[toB,Qe,Qx,Qo,Qr,ay,Ql,Qy,jH,Vr,Vg]
   have hra:=Q8u (c2:=⟨Tryz.prog,86,W2,_,hM2⟩) (Qdx hm hE hi) hkb2 (Q67 hge2) []
   have hrb:=Q8u (c2:=⟨Tryz.prog,86,W2,_,hM2⟩) (Qdx hn hE' hk) hkb2 (Q67 hge2) []
   have hkc:k<m.c:=by omega
   have ea:(fA m i).getD k 0=m.at i k:=Q2q hkc
   repeat' first|apply jS|apply jO|refine Q1 ?_|refine Q7 ?_|refine QY (h:=?_)|refine Y4 (h:=?_)|apply jB
   refine Q9 au rfl rfl rfl (fun w _ _=>Qfp w ((fA m i).getD k 0)) fun w v w' _ _ _ hR=>?_
   by_cases hz:(fA m i).getD k 0=0
   ·rw[decide_eq_true hz]at hR
    subst hR
    repeat' first|apply jN|apply jT|apply jU|apply jE|refine Q5 rfl ?_|apply Qc
    rw[Qas (show m.at i k=0 by rw[← ea];exact hz)]at hO
    exact WF ⟨N,rfl,hO⟩ (Cells.cons (Cells.cons (Cells.cons (Cells.cons (Cells.cons (Cells.cons (Cells.cons (Cells.cons (hO.cells.app Cells.nil))))))))) (HSub.refl _)
   ·rw[decide_eq_false hz]at hR
    subst hR
    repeat' first|apply jS|apply jO|apply jN|apply jT|refine Q1 ?_|refine Zt (h:=?_)|apply jK|refine Q4 rfl ?_|apply jB
    refine Qn (ι:=Nat × aj) ⟨fun z=>[(62,nv z.1),(61,nv n.c),(60,iL A' cap' n.c k),(10,nv k),(9,.pointer (some ⟨b9,0,none⟩)),(8,.pointer (some ⟨b8,0,none⟩))],
     fun z=>(by_,Obj.cells #[nv n.r,nv n.c,.slice A' (n.r*n.c) cap'] 28 (0,0))::(b9,.cells #[.slice A9 n.c (co-i*n.c)] 26 (0,0))::(b8,.cells #[iL A cap m.c i] 26 (0,0))::([(bx,Obj.cells #[nv m.r,nv m.c,.slice A (m.r*m.c) cap] 28 (0,0)),(b6,.cells #[nv m.r,nv n.c,.slice Ao (m.r*n.c) co] 28 (0,0)),(b4,.cells #[iv 0,iv 0,.slice none 0 0] 28 (0,0)),(b3,.cells #[nv n.r,nv n.c,.slice A' (n.r*n.c) cap'] 28 (0,0)),(b2,.cells #[nv m.r,nv m.c,.slice A (m.r*m.c) cap] 28 (0,0))]++(z.2++[])),
     fun z=>z.1≤n.c∧aN z.2 (.slice Ao (m.r*n.c) co) (m.r*n.c) (jf m n pre i ks k z.1),fun z=>n.c-z.1⟩ (0,N) ⟨by omega,by rw[Qlg m n pre i ks k 0];exact hO⟩ aC (HSub.refl _) (fun j hj=>?_)
    obtain⟨j,N⟩:=j
    obtain⟨hjn,hO⟩:=hj
    dsimp only at hjn hO ⊢
    by_cases hj:j<n.c
    ·have eb:(fA n k).getD j 0=n.at k j:=Q2q hj
     have hlt:=Yn hi hj
     obtain rfl:=hAo oq
     obtain rfl:=hA9 oq
     have hat:dK (.slice (some ⟨b0,0+i*n.c*2,none⟩) n.c (co-i*n.c)) (j*2)=dK (.slice (some ⟨b0,0,none⟩) (m.r*n.c) co) ((i*n.c+j)*2):=by
      simp only[Wf]
      congr 1
      rw[Vl];omega
     have hsub:fH ⟨Tryz.prog,86,W2,_,hM2⟩ N (.slice (some ⟨b0,0+i*n.c*2,none⟩) n.c (co-i*n.c)) n.c _:=Qne (l:=i*n.c) hO (fun _=>rfl) (fun _=>rfl) oq oq
     have es:(((jf m n pre i ks k j).drop (i*n.c)).take n.c).getD j 0=enz n.c (jf m n pre i ks k j) i j:=Qdy hj
     repeat' first|apply jS|apply jO|apply jN|apply jT|refine Q1 ?_|refine Q0 ?_|refine Qm ?_|refine QY (h:=?_)|refine Y4 (h:=?_)|refine Q6 ?_|(refine Qg (h1:=?_) (h2:=?_)<;>intro hc<;>try omega)|refine Qh fun _=>?_|refine Q6 ?_|apply jK|refine Q5 rfl ?_|apply jB
     refine Q9 au rfl rfl rfl (fun w _ _=>Qfp w ((fA n k).getD j 0)) fun w v w' _ _ _ hR=>?_
     by_cases hz2:(fA n k).getD j 0=0
     ·rw[decide_eq_true hz2]at hR
      subst hR
      repeat' first|apply jO|apply jN|apply jT|refine Q1 ?_|refine Qd ?_|refine QG ?_|apply jK|refine Q4 rfl ?_|apply jW
      rw[Qaq (show m.at i k*n.at k j=0 by rw[← eb,hz2,Int.mul_zero])]at hO
      exact Q8 (j+1,N) ⟨by dsimp only;omega,hO⟩ aW aC (HSub.skip (HSub.refl _))
     ·rw[decide_eq_false hz2]at hR
      subst hR
      repeat' first|apply jD|apply jN|apply jT|refine Q1 ?_|refine Q7 ?_|refine Qm ?_|refine QY (h:=?_)|refine Y4 (h:=?_)|refine QG ?_|refine Q5 rfl ?_
      refine Q9 au rfl rfl rfl (fun w _ _=>Qmk w _ _ ((fA m i).getD k 0) ((fA n k).getD j 0) (K+L) (QC (by rw[ea];exact Z2 (hx.at i k) oq)) (QC (by rw[eb];exact Z2 (hy.at k j) oq)) oq) fun w v w' _ _ _ hR=>?_
      subst hR
      skip
      refine Q9 au rfl rfl rfl (fun w _ _=>Qiv w _ _ ((((jf m n pre i ks k j).drop (i*n.c)).take n.c).getD j 0) ((fA m i).getD k 0*(fA n k).getD j 0) (K+L+2) (QC (by rw[es,show enz n.c (jf m n pre i ks k j) i j=muF m n pre i ks k j i j from Q1y hi hj];exact Qjs hbc hx hy oq oq)) (QC (by rw[ea,eb];exact Z2 (W9 (hx.at i k) (hy.at k j)) oq)) oq) fun w v w' _ _ _ hR=>?_
      subst hR
      repeat' first|refine QY (h:=?_)|fail
      refine Q0a (A:=[_,_,_,_,_,_,_,_,_]) hO rfl rfl au (congrArg (fun a=>some (Value.pointer (some a))) hat) rfl hlt (fun N' aX=>?_)
      rw[es,ea,eb,Qet hi hj]at aX
      repeat' first|apply jO|apply jN|apply jT|refine Q1 ?_|refine Qd ?_|apply jW
      exact Q8 (j+1,N') ⟨by dsimp only;omega,aX⟩ aW aC (HSub.skip (HSub.refl _))
    ·repeat' first|apply jS|apply jO|apply jN|apply jT|(refine Qg (h1:=?_) (h2:=?_)<;>intro hc<;>try omega)|apply jU|apply jE|refine Q4 rfl ?_|apply jW|apply Qc
     obtain rfl:j=n.c:=by omega
     rw[Qar]at hO
     exact WF ⟨N,rfl,hO⟩ (Cells.cons (Cells.cons (Cells.cons (Cells.cons (Cells.cons (Cells.cons (Cells.cons (Cells.cons (hO.cells.app Cells.nil))))))))) (HSub.refl _)
  ·rintro _ ⟨N,rfl,hO⟩
   repeat' first|apply jW
   rw[← hr,Qeu]at hO
   exact WF ⟨N,rfl,hO⟩ (Cells.cons (Cells.cons (Cells.cons (Cells.cons (Cells.cons (hO.cells.app Cells.nil)))))) (HSub.skip (HSub.skip (HSub.skip (HSub.refl _))))
 ·rintro D _ ⟨N,rfl,hO⟩ hD
  simp only[toS,Qe,Qx,Qo,Qr,ay,Ql,Qy]
  repeat' first|apply jS|apply jO|apply jN|apply jT|refine Q0 ?_|refine Qm ?_|refine Q6 ?_|refine Q6 ?_|apply jR
  rw[Qev]at hO
  refine Q8n 0 rfl hD rfl ?_
  exact Zg 2 rfl rfl rfl rfl (fun a w' st=>⟨st.kp,N,_,rfl,st.bI rfl (by exact HSub.skip (HSub.skip (HSub.skip (HSub.skip (HSub.skip HSub.dJ))))),gB.mk' hO⟩)



def dT:TR:=([],undef,[])
def tv (ts:List TR) (i:Nat):Value:=(ts.getD i dT).2.1
def tr' (ts:List TR) (i:Nat):List Int:=(ts.getD i dT).2.2
def tM (ts:List TR):Mi:=fun i j=>(tr' ts i).getD j 0
theorem Qd7 {ts:List TR} {i:Nat} (h:i<ts.length):(ts.map (·.2.1))[i]?=some (tv ts i):=by
 rw[List.getElem?_map,XB (d:=dT) h]
 rfl
theorem Q4u {ts:List TR} {i:Nat} (h:i<ts.length):ts.getD i dT∈ts:=QV h
theorem cO.row {N:aj} {v:Value} {c:Nat} {ts:List TR} (h:cO N v c ts) {i:Nat} (hi:i<ts.length):aN (ts.getD i dT).1 (tv ts i) c (tr' ts i):=h.rows _ (Q4u hi)
theorem Q4v:∀ {ts:List TR} {t:TR},t∈ts→HSub t.1 (tH ts)
 | [],_,h=>by cases h
 | x::ts,t,h=>by
  have e:tH (x::ts)=x.1++tH ts:=by simp[tH]
  rw[e]
  rcases List.mem_cons.1 h with rfl|h
  ·exact HSub.dJ
  ·exact Qf (Q4v h)
theorem Qja {ts:List TR} {i:Nat} (hi:i<ts.length):tH ts=tH (ts.take i)++((ts.getD i dT).1++tH (ts.drop (i+1))):=by
 have h1:ts=ts.take i++(ts.getD i dT::ts.drop (i+1)):=by
  conv=>lhs;rw[← List.take_append_drop i ts]
  congr 1
  rw[List.drop_eq_getElem_cons hi]
  congr 1
  simp only[List.getD,List.getElem?_eq_getElem hi,Option.getD_some]
 conv=>lhs;rw[h1]
 rw[Q78]
 simp[tH]
theorem Qnb {ts:List TR} {i:Nat} (hi:i<ts.length) (t:TR):tH (ts.set i t)=tH (ts.take i)++(t.1++tH (ts.drop (i+1))):=by
 rw[Qja (ts:=ts.set i t) (i:=i) (by simpa using hi)]
 rw[List.take_set_of_le (V7 _),List.drop_set_of_lt oq]
 congr 2
 simp[List.getD,hi]
theorem Qn8 {ts:List TR} {i j:Nat} {N:aj} {v:Value} {u:Int} (hi:i<ts.length) (hj:j<(tr' ts i).length) (a b:Nat):tM (ts.set i (N,v,(tr' ts i).set j u)) a b=if a=i∧b=j then u else tM ts a b:=by
 unfold tM tr'
 by_cases ha:a=i
 ·subst ha
  rw[Q2p (d:=dT) hi,if_pos rfl]
  show ((tr' ts a).set j u).getD b 0=_
  rw[Q2p (d:=0) hj]
  by_cases hb:b=j
  ·rw[if_pos hb,if_pos ⟨rfl,hb⟩]
  ·rw[if_neg hb,if_neg (fun h=>hb h.2)];rfl
 ·rw[Q2p (d:=dT) hi,if_neg ha,if_neg (fun h=>ha h.1)]
theorem Qn3 {ts:List TR} {i:Nat} {N:aj} {l:List Int} (hi:i<ts.length) (a:Nat):tv (ts.set i (N,tv ts i,l)) a=tv ts a:=by
 unfold tv
 rw[Q2p (d:=dT) hi]
 split
 ·rename_i h;subst h;rfl
 ·rfl
theorem Qkd {ts:List TR} {i:Nat} {N:aj} {l:List Int} (hi:i<ts.length):(ts.set i (N,tv ts i,l)).map (·.2.1)=ts.map (·.2.1):=by
 rw[List.map_set]
 refine List.ext_getElem? (fun k=>?_)
 rw[List.getElem?_set]
 split
 ·rename_i h
  subst h
  rw[if_pos (by simpa using hi),Qd7 hi]
 ·rfl

section
variable {c:Cx} {Q:Exit→Act→World→Prop} {m:Mode} {F:ak} {H:aj} {r:List bT} {g:Option (Option Tmp × Bool)} {ns:Bool} {d:Tmp} {ty t t':TypeId} {x y:Operand} {N:aj} {v:Value} {cc:Nat} {ts:List TR}
theorem cO.rd (h:cO N v cc ts):Rd c N 1 v ts.length (ts.map (·.2.1)):=aH.rd h.outer
theorem Qjk {e:TypeId} {n:Nat} [dh c.P t e] (hd:Qw c.n (some d)=true:=by exact rfl) (hg:Qi F g=some true:=by exact rfl) (hx:ev F x=some v:=by exact rfl) (hT:cO N v cc ts:=by assumption) (hn:ts.length=n:=by assumption)
  (h:JO c Q m r ((d,.int .i64 n)::F) H):JO c Q m (⟨some d,.call ⟨.builtin .len,#[x],#[t]⟩,ty,g,.bg,ns⟩::r) F H:=Xy hd hg hx hT.rd (by rw[hn];exact h)
theorem Zv {e:TypeId} {j:Nat} {k:IntKind} [dh c.P t e] [dS c.P e 1] (hd:Qw c.n (some d)=true:=by exact rfl) (hg:Qi F g=some true:=by exact rfl) (hx:ev F x=some v:=by exact rfl) (hy:ev F y=some (.int k j):=by exact rfl) (hT:cO N v cc ts:=by assumption) (hj:j<ts.length:=by omega)
  (h:JO c Q m r ((d,.pointer (some (dK v j)))::F) H):JO c Q m (⟨some d,.indexAddr t x y,ty,g,.bg,ns⟩::r) F H:=X5 hd hg hx hy hT.rd hj h
theorem YJ {i:Nat} {V:Nat→Value} [T1 c.P t] (hd:Qw c.n (some d)=true:=by exact rfl) (hg:Qi F g=some true:=by exact rfl) (hx:ev F x=some (.pointer (some (dK v i))):=by exact rfl) (hl:m.live=true:=by exact rfl) (hT:cO N v cc ts:=by assumption) (hV:∀ a,tv ts a=V a:=by assumption) (hN:HSub N (m.src H):=by exact Qb) (hi:i<ts.length:=by omega)
  (h:JO c Q m r ((d,V i)::F) H):JO c Q m (⟨some d,.load t x,ty,g,.ld,ns⟩::r) F H:=Q1q hd hg hx hl hT.rd hN (Qd7 hi) (by rw[hV];exact h)
theorem Q5y {e:TypeId} {i:Nat} {V:Nat→Value} [dh c.P t e] (hd:Qw c.n (some d)=true:=by exact rfl) (hg:Qi F g=some true:=by exact rfl) (hx:ev F x=some (V i):=by exact rfl) (hV:∀ a,tv ts a=V a:=by assumption) (hT:cO N v cc ts:=by assumption) (hi:i<ts.length:=by omega)
  (h:JO c Q m r ((d,.int .i64 cc)::F) H):JO c Q m (⟨some d,.call ⟨.builtin .len,#[x],#[t]⟩,ty,g,.bg,ns⟩::r) F H:=Zt hd hg (by rw[hx,hV]) (hT.row hi).rd h
theorem Zp {e:TypeId} {i j:Nat} {V:Nat→Value} {k:IntKind} [dh c.P t e] [dS c.P e 2] (hd:Qw c.n (some d)=true:=by exact rfl) (hg:Qi F g=some true:=by exact rfl) (hx:ev F x=some (V i):=by exact rfl) (hy:ev F y=some (.int k j):=by exact rfl) (hV:∀ a,tv ts a=V a:=by assumption) (hT:cO N v cc ts:=by assumption) (hi:i<ts.length:=by omega) (hj:j<cc:=by omega)
  (h:JO c Q m r ((d,.pointer (some (dK (V i) (j*2))))::F) H):JO c Q m (⟨some d,.indexAddr t x y,ty,g,.bg,ns⟩::r) F H:=QY hd hg (by rw[hx,hV]) hy (hT.row hi).rd hj (by rw[hV];exact h)
theorem YQ {i j:Nat} {V:Nat→Value} [TN c.P t 2] (hd:Qw c.n (some d)=true:=by exact rfl) (hg:Qi F g=some true:=by exact rfl) (hx:ev F x=some (.pointer (some (dK (V i) (j*2)))):=by exact rfl) (hl:m.live=true:=by exact rfl) (hV:∀ a,tv ts a=V a:=by assumption) (hT:cO N v cc ts:=by assumption) (hN:HSub (tH ts) (m.src H):=by exact Qb) (hi:i<ts.length:=by omega) (hj:j<cc:=by omega)
  (h:JO c Q m r ((d,Wv (tM ts i j))::F) H):JO c Q m (⟨some d,.load t x,ty,g,.ld,ns⟩::r) F H:=Y4 hd hg (by rw[hx,hV]) hl (hT.row hi).rd ((Q4v (Q4u hi)).trans hN) hj h
theorem Q3l {A B:aj} {i j:Nat} {u:Int} {V:Nat→Value} [TN c.P t 2] (hV:∀ a,tv ts a=V a) (hT:cO N v cc ts) (hH:H=A++(N++(tH ts++B))) (hg:Qi F g=some true) (hm:m.aO ns r) (hx:ev F x=some (.pointer (some (dK (V i) (j*2))))) (hy:ev F y=some (Wv u))
  (hi:i<ts.length) (hj:j<cc) (h:∀ ts',cO N v cc ts'→ts'.length=ts.length→(∀ a,tv ts' a=V a)→(∀ a b,tM ts' a b=if a=i∧b=j then u else tM ts a b)→JO c Q m.spent r F (A++(N++(tH ts'++B)))):JO c Q m (⟨none,.store t x y,ty,g,.seq,ns⟩::r) F H:=by
 refine Q0a (A:=A++(N++tH (ts.take i))) (B:=tH (ts.drop (i+1))++B) (hT.row hi) (by rw[hH,Qja hi];simp only[Vb]) hg hm (by rw[hx,hV]) hy hj (fun N' aX=>?_)
 have h1:=h (ts.set i (N',tv ts i,(tr' ts i).set j u)) ⟨by rw[List.length_set,Qkd hi];exact hT.outer,fun q hq=>by
  rcases List.mem_or_eq_of_mem_set hq with hq|rfl
  ·exact hT.rows q hq
  ·exact aX⟩ aA (fun a=>by rw[Qn3 hi];exact hV a) (Qn8 hi (by rw[(hT.row hi).len];exact hj))
 rw[Qnb hi]at h1
 simpa only[Vb] using h1
theorem Yd (hT:cO N v cc ts) {i:Nat} (hi:i<ts.length):(tv ts i).cells.toList=[tv ts i]∧(tv ts i).oneCell'=true:=by
 obtain⟨A,cap,e⟩:=(hT.row hi).form
 rw[e]
 exact⟨rfl,rfl⟩
end

section
variable {c:Cx} {Q:Exit→Act→World→Prop} {m:Mode} {F:ak} {H:aj} {r:List bT} {g:Option (Option Tmp × Bool)} {ns:Bool} {d:Tmp} {ty t t':TypeId} {x y:Operand}
end

def jg (ts:List TR) (p q:Nat):List TR:=(ts.set p (ts.getD q dT)).set q (ts.getD p dT)
theorem Qdf (ts:List TR) (p q:Nat):(jg ts p q).length=ts.length:=by simp[jg]
theorem XI {ts:List TR} {p q:Nat} (hp:p<ts.length) (hq:q<ts.length):(jg ts p q).Perm ts:=by
 have h:=Array.swap_perm (xs:=ts.toArray) (i:=p) (j:=q) (by simpa using hp) (by simpa using hq)
 have e:(ts.toArray.swap p q (by simpa using hp) (by simpa using hq)).toList=jg ts p q:=by
  unfold jg
  simp[Array.swap,List.getD,hp,hq]
 have h2:=Array.perm_iff_toList_perm.1 h
 rw[e]at h2
 exact h2
theorem Q1l {a b:List TR} (h:a.Perm b):(tH a).Perm (tH b):=(h.map _).flatten
theorem Qnd {ts:List TR} {p q:Nat} (hp:p<ts.length) (hq:q<ts.length):(jg ts p q).map (·.2.1)=((ts.map (·.2.1)).set p (tv ts q)).set q (tv ts p):=by
 unfold jg
 rw[List.map_set,List.map_set]
 rfl


theorem ZA {e:TypeId} {sz n:Nat} {N N':aj} {v:Value} {cs cs':List Value} (h:aH e sz N v n cs) (h':aH e sz N' v n cs'):keys N=keys N':=by
 obtain⟨_,⟨h1,_,h3⟩|⟨b,cap,cur,h1,h3,_⟩⟩:=h
 ·obtain⟨_,⟨_,_,k3⟩|⟨b,cap,cur,k1,_⟩⟩:=h'
  ·rw[h3,k3]
  ·rw[h1]at k1;cases k1
 ·obtain⟨_,⟨k1,_,_⟩|⟨b',cap',cur',k1,k3,_⟩⟩:=h'
  ·rw[h1]at k1;cases k1
  ·rw[h1]at k1
   cases k1
   rw[h3,k3]
   rfl


def Qcr (N:aj) (v:Value) (r c:Nat) (G:Mi) (w w':World):Prop:=Kp (keys N) w w'∧∃ N',keys N'=keys N∧InW N' w'∧aN N' v (r*c) (bP r c G)

theorem XE (K L:Nat) (w:World) (A0:Option Addr) (cap:Nat) (N:aj) (r c i k:Nat) (f:Int) (G:Mi) (hO:aN N (.slice A0 (r*c) cap) (r*c) (bP r c G)) (hs:aG N w) (hi:i<r) (hk:k<r) (hr:r≤200) (hc:c≤200) (hK:K+L≤8000000000) (hf:f.natAbs<256 ^ L) (hb:∀ a b,a<r→b<c→(G a b).natAbs<256 ^ K) :
  Calls Tryz.prog 134 #[.agg #[nv r,nv c,.slice A0 (r*c) cap],nv i,nv k,Wv f] w (aQ fun _ w'=>Qcr N (.slice A0 (r*c) cap) r c (fun a b=>if a=i∧b<c then G i b+f*G k b else G a b) w w'):=by
 have hM:=QK hs
 have hrc:r*c≤40000:=Vn hr hc
 refine Qa [⟨4,2,[],[]⟩] (keys N) hM N Tryz.func134 rfl mixed (by kernel_rfl) Tryz.ntmps134 Tryz.results134 rfl hs (fun p hp=>List.mem_map.2 ⟨p,hp,rfl⟩) ?_
 simp only[toS,Qe,Qx,Qo,Qr,ay,Ql,Qy,aB]
 repeat' first|apply jS|apply jO|apply jN|apply jT|refine Q0 ?_|refine QM (h:=fun _=>?_)|apply jB
 rename_i b4 b7
 have h0:aN N (.slice A0 (r*c) cap) (r*c) (bP r c (fun a b=>if a=i∧b<0 then G i b+f*G k b else G a b)):=by rw[Qk (g':=G) (fun a b _ _=>if_neg oq)];exact hO
 refine Qn (ι:=Nat × aj) ⟨fun z=>[(8,nv z.1),(7,.pointer (some ⟨b7,0,none⟩)),(4,.pointer (some ⟨b4,0,none⟩)),(1,nv i),(2,nv k)],fun z=>[(b7,.cells (wc f) 75),(b4,.cells #[nv r,nv c,.slice A0 (r*c) cap] 28)]++(z.2++[]),
  fun z=>z.1≤c∧aN z.2 (.slice A0 (r*c) cap) (r*c) (bP r c (fun a b=>if a=i∧b<z.1 then G i b+f*G k b else G a b)),fun z=>c-z.1⟩ (0,N) ⟨V8 _,h0⟩ aC (by simp only[Vh];exact HSub.refl _) (fun z hz=>?_)
 obtain⟨z,N1⟩:=z
 obtain⟨hz,bG⟩:=hz
 dsimp only at hz bG ⊢
 by_cases hlt:z<c
 ·have l1:i*c+z<r*c:=Yn hi hlt
  have l2:k*c+z<r*c:=Yn hk hlt
  have m1:i*c≤40000:=V0 (V1 c (show i≤r by omega)) hrc
  have m2:k*c≤40000:=V0 (V1 c (show k≤r by omega)) hrc
  have e1:(bP r c (fun a b=>if a=i∧b<z then G i b+f*G k b else G a b)).getD (i*c+z) 0=G i z:=by rw[Zz hi hlt,if_neg oq]
  have e2:(bP r c (fun a b=>if a=i∧b<z then G i b+f*G k b else G a b)).getD (k*c+z) 0=G k z:=by rw[Zz hk hlt,if_neg oq]
  repeat' first|apply jS|apply jO|apply jD|apply jN|apply jT|refine Q1 ?_|refine Q2 ?_|refine Q7 ?_|refine Qm ?_|refine QY (h:=?_)|refine Y4 (h:=?_)|refine Z8 (h:=?_)|refine Z1 (h:=?_)|(refine Qg (h1:=?_) (h2:=?_)<;>intro hc<;>try omega)|apply jK|refine Q5 rfl ?_|apply jB
  rw[e2]
  refine Q9 au rfl aF rfl (fun w _ _=>Q8g w _ _ f (G k z) (K+L) (QC (Z2 hf oq)) (QC (Z2 (hb k z hk hlt) oq)) oq) fun w v w' _ _ _ hR=>?_
  subst hR
  skip
  rw[e1]
  refine Q9 au rfl aF rfl (fun w _ _=>Q5f w _ _ (G i z) (f*G k z) (L+K) (QC (Z2 (hb i z hi hlt) oq)) (QC (W9 hf (hb k z hk hlt))) oq) fun w v w' _ _ _ hR=>?_
  subst hR
  repeat' first|refine QY (h:=?_)|fail
  refine Q0a (A:=[_,_]) (B:=[]) bG rfl rfl au rfl rfl l1 (fun N2 hO2=>?_)
  rw[Y3 hlt]at hO2
  rw[Qk (g':=fun a b=>if a=i∧b<(z+1) then G i b+f*G k b else G a b) (fun a b _ _=>by
   by_cases h1:a=i∧b=z
   ·obtain⟨rfl,rfl⟩:=h1;rw[if_pos ⟨rfl,rfl⟩,if_pos ⟨rfl,by omega⟩]
   ·rw[if_neg h1]
    by_cases h2:a=i∧b<z
    ·rw[if_pos h2,if_pos oq]
    ·rw[if_neg h2,if_neg oq])]at hO2
  repeat' first|apply jO|apply jN|apply jT|refine Q1 ?_|refine Q0 ?_|refine Qd ?_|apply jW
  exact Q8 (z+1,N2) ⟨by dsimp only;omega,hO2⟩ aW aC (HSub.refl _)
 ·repeat' first|apply jS|apply jO|apply jN|apply jT|refine Q1 ?_|refine Q2 ?_|refine Q7 ?_|(refine Qg (h1:=?_) (h2:=?_)<;>intro hc<;>try omega)|apply jU|apply jE|refine Q4 rfl ?_|apply Qc
  obtain rfl:z=c:=by omega
  exact Ze (fun a w' st=>⟨st.kp,N1,ZA bG hO,fun p hp=>st.hs.blk p (List.mem_append_right _ (List.mem_append_left _ hp)),bG⟩)

theorem WD (K L:Nat) (w:World) (A0:Option Addr) (cap:Nat) (N:aj) (r c i k:Nat) (f:Int) (G:Mi) (hO:aN N (.slice A0 (r*c) cap) (r*c) (bP r c G)) (hs:aG N w) (hi:i<c) (hk:k<c) (hr:r≤200) (hc:c≤200) (hK:K+L≤8000000000) (hf:f.natAbs<256 ^ L) (hb:∀ a b,a<r→b<c→(G a b).natAbs<256 ^ K) :
  Calls Tryz.prog 135 #[.agg #[nv r,nv c,.slice A0 (r*c) cap],nv i,nv k,Wv f] w (aQ fun _ w'=>Qcr N (.slice A0 (r*c) cap) r c (fun a b=>if b=i∧a<r then G a i+f*G a k else G a b) w w'):=by
 have hM:=QK hs
 have hrc:r*c≤40000:=Vn hr hc
 refine Qa [⟨4,2,[],[]⟩] (keys N) hM N Tryz.func135 rfl mixed (by kernel_rfl) Tryz.ntmps135 Tryz.results135 rfl hs (fun p hp=>List.mem_map.2 ⟨p,hp,rfl⟩) ?_
 simp only[toS,Qe,Qx,Qo,Qr,ay,Ql,Qy,aB]
 repeat' first|apply jS|apply jO|apply jN|apply jT|refine Q0 ?_|refine QM (h:=fun _=>?_)|apply jB
 rename_i b4 b7
 have h0:aN N (.slice A0 (r*c) cap) (r*c) (bP r c (fun a b=>if b=i∧a<0 then G a i+f*G a k else G a b)):=by rw[Qk (g':=G) (fun a b _ _=>if_neg oq)];exact hO
 refine Qn (ι:=Nat × aj) ⟨fun z=>[(8,nv z.1),(7,.pointer (some ⟨b7,0,none⟩)),(4,.pointer (some ⟨b4,0,none⟩)),(1,nv i),(2,nv k)],fun z=>[(b7,.cells (wc f) 75),(b4,.cells #[nv r,nv c,.slice A0 (r*c) cap] 28)]++(z.2++[]),
  fun z=>z.1≤r∧aN z.2 (.slice A0 (r*c) cap) (r*c) (bP r c (fun a b=>if b=i∧a<z.1 then G a i+f*G a k else G a b)),fun z=>r-z.1⟩ (0,N) ⟨V8 _,h0⟩ aC (by simp only[Vh];exact HSub.refl _) (fun z hz=>?_)
 obtain⟨z,N1⟩:=z
 obtain⟨hz,bG⟩:=hz
 dsimp only at hz bG ⊢
 by_cases hlt:z<r
 ·have l1:z*c+i<r*c:=Yn hlt hi
  have l2:z*c+k<r*c:=Yn hlt hk
  have m1:z*c≤40000:=V0 (V1 c (show z≤r by omega)) hrc
  have e1:(bP r c (fun a b=>if b=i∧a<z then G a i+f*G a k else G a b)).getD (z*c+i) 0=G z i:=by rw[Zz hlt hi,if_neg oq]
  have e2:(bP r c (fun a b=>if b=i∧a<z then G a i+f*G a k else G a b)).getD (z*c+k) 0=G z k:=by rw[Zz hlt hk,if_neg oq]
  repeat' first|apply jS|apply jO|apply jD|apply jN|apply jT|refine Q1 ?_|refine Q2 ?_|refine Q7 ?_|refine Qm ?_|refine QY (h:=?_)|refine Y4 (h:=?_)|refine Z8 (h:=?_)|refine Z1 (h:=?_)|(refine Qg (h1:=?_) (h2:=?_)<;>intro hc<;>try omega)|apply jK|refine Q5 rfl ?_|apply jB
  rw[e2]
  refine Q9 au rfl aF rfl (fun w _ _=>Q8g w _ _ f (G z k) (K+L) (QC (Z2 hf oq)) (QC (Z2 (hb z k hlt hk) oq)) oq) fun w v w' _ _ _ hR=>?_
  subst hR
  skip
  rw[e1]
  refine Q9 au rfl aF rfl (fun w _ _=>Q5f w _ _ (G z i) (f*G z k) (L+K) (QC (Z2 (hb z i hlt hi) oq)) (QC (W9 hf (hb z k hlt hk))) oq) fun w v w' _ _ _ hR=>?_
  subst hR
  repeat' first|refine QY (h:=?_)|fail
  refine Q0a (A:=[_,_]) (B:=[]) bG rfl rfl au rfl rfl l1 (fun N2 hO2=>?_)
  rw[Y3 hi]at hO2
  rw[Qk (g':=fun a b=>if b=i∧a<(z+1) then G a i+f*G a k else G a b) (fun a b _ _=>by
   by_cases h1:a=z∧b=i
   ·obtain⟨rfl,rfl⟩:=h1;rw[if_pos ⟨rfl,rfl⟩,if_pos ⟨rfl,by omega⟩]
   ·rw[if_neg h1]
    by_cases h2:b=i∧a<z
    ·rw[if_pos h2,if_pos oq]
    ·rw[if_neg h2,if_neg oq])]at hO2
  repeat' first|apply jO|apply jN|apply jT|refine Q1 ?_|refine Q0 ?_|refine Qd ?_|apply jW
  exact Q8 (z+1,N2) ⟨by dsimp only;omega,hO2⟩ aW aC (HSub.refl _)
 ·repeat' first|apply jS|apply jO|apply jN|apply jT|refine Q1 ?_|refine Q2 ?_|refine Q7 ?_|(refine Qg (h1:=?_) (h2:=?_)<;>intro hc<;>try omega)|apply jU|apply jE|refine Q4 rfl ?_|apply Qc
  obtain rfl:z=r:=by omega
  exact Ze (fun a w' st=>⟨st.kp,N1,ZA bG hO,fun p hp=>st.hs.blk p (List.mem_append_right _ (List.mem_append_left _ hp)),bG⟩)

theorem Yw (w:World) (A0:Option Addr) (cap:Nat) (N:aj) (r c i k:Nat) (G:Mi) (hO:aN N (.slice A0 (r*c) cap) (r*c) (bP r c G)) (hs:aG N w) (hi:i<r) (hk:k<r) (hr:r≤200) (hc:c≤200) :
  Calls Tryz.prog 129 #[.agg #[nv r,nv c,.slice A0 (r*c) cap],nv i,nv k] w (aQ fun _ w'=>Qcr N (.slice A0 (r*c) cap) r c (fun a b=>if a=k∧b<c then G i b else if a=i∧b<c then G k b else G a b) w w'):=by
 have hM:=QK hs
 have hrc:r*c≤40000:=Vn hr hc
 refine Qa [⟨5,2,[],[]⟩] (keys N) hM N Tryz.func129 rfl mixed (by kernel_rfl) Tryz.ntmps129 Tryz.results129 rfl hs (fun p hp=>List.mem_map.2 ⟨p,hp,rfl⟩) ?_
 simp only[toS,Qe,Qx,Qo,Qr,ay,Ql,Qy,aB]
 repeat' first|apply jS|apply jO|apply jN|apply jT|refine Q0 ?_|refine QM (h:=fun _=>?_)|apply jB
 rename_i b3
 have h0:aN N (.slice A0 (r*c) cap) (r*c) (bP r c (fun a b=>if a=k∧b<0 then G i b else if a=i∧b<0 then G k b else G a b)):=by rw[Qk (g':=G) (fun a b _ _=>by rw[if_neg oq,if_neg oq])];exact hO
 refine Qn (ι:=Nat × aj) ⟨fun z=>[(6,nv z.1),(3,.pointer (some ⟨b3,0,none⟩)),(1,nv i),(2,nv k)],fun z=>[(b3,.cells #[nv r,nv c,.slice A0 (r*c) cap] 28)]++(z.2++[]),
  fun z=>z.1≤c∧aN z.2 (.slice A0 (r*c) cap) (r*c) (bP r c (fun a b=>if a=k∧b<z.1 then G i b else if a=i∧b<z.1 then G k b else G a b)),fun z=>c-z.1⟩ (0,N) ⟨V8 _,h0⟩ aC (by simp only[Vh];exact HSub.refl _) (fun z hz=>?_)
 obtain⟨z,N1⟩:=z
 obtain⟨hz,bG⟩:=hz
 dsimp only at hz bG ⊢
 by_cases hlt:z<c
 ·have l1:i*c+z<r*c:=Yn hi hlt
  have l2:k*c+z<r*c:=Yn hk hlt
  have m1:i*c≤40000:=V0 (V1 c (show i≤r by omega)) hrc
  have m2:k*c≤40000:=V0 (V1 c (show k≤r by omega)) hrc
  have e1:(bP r c (fun a b=>if a=k∧b<z then G i b else if a=i∧b<z then G k b else G a b)).getD (i*c+z) 0=G i z:=by rw[Zz hi hlt,if_neg oq,if_neg oq]
  have e2:(bP r c (fun a b=>if a=k∧b<z then G i b else if a=i∧b<z then G k b else G a b)).getD (k*c+z) 0=G k z:=by rw[Zz hk hlt,if_neg oq,if_neg oq]
  repeat' first|apply jS|apply jO|apply jD|apply jN|apply jT|refine Q1 ?_|refine Q2 ?_|refine Q7 ?_|refine QY (h:=?_)|refine Y4 (h:=?_)|refine Z8 (h:=?_)|refine Z1 (h:=?_)|refine Q6 ?_|(refine Qg (h1:=?_) (h2:=?_)<;>intro hc<;>try omega)|refine Qh fun _=>?_|refine Q6 ?_|apply jK|refine Q5 rfl ?_|apply jB
  rename_i bx
  rw[e1,e2]
  refine Q0a (A:=[_,_]) (B:=[]) bG rfl rfl au rfl rfl l1 (fun N2 hO2=>?_)
  rw[Y3 hlt]at hO2
  repeat' first|apply jO|apply jN|refine Q1 ?_|refine Q2 ?_|refine Q7 ?_|refine Qm ?_|refine QY (h:=?_)|refine Z8 (h:=?_)|refine Z1 (h:=?_)|apply jT
  refine Q0a (A:=[_,_]) (B:=[]) (u:=G i z) hO2 rfl rfl au rfl rfl l2 (fun N3 hO3=>?_)
  rw[Y3 hlt]at hO3
  rw[Qk (g':=fun a b=>if a=k∧b<(z+1) then G i b else if a=i∧b<(z+1) then G k b else G a b) (fun a b _ _=>by
   by_cases h1:a=k∧b=z
   ·obtain⟨rfl,rfl⟩:=h1;rw[if_pos ⟨rfl,rfl⟩,if_pos ⟨rfl,by omega⟩]
   ·rw[if_neg h1]
    by_cases h2:a=i∧b=z
    ·obtain⟨rfl,rfl⟩:=h2;rw[if_pos ⟨rfl,rfl⟩,if_neg oq,if_pos ⟨rfl,by omega⟩]
    ·rw[if_neg h2]
     by_cases h3:a=k∧b<z
     ·rw[if_pos h3,if_pos oq]
     ·rw[if_neg h3]
      by_cases h4:a=i∧b<z
      ·rw[if_pos h4,if_neg oq,if_pos oq]
      ·rw[if_neg h4,if_neg oq,if_neg oq])]at hO3
  repeat' first|apply jO|apply jN|apply jT|refine Q1 ?_|refine Q0 ?_|refine Qd ?_|apply jW
  exact Q8 (z+1,N3) ⟨by dsimp only;omega,hO3⟩ aW aC (by exact HSub.skip (HSub.refl _))
 ·repeat' first|apply jS|apply jO|apply jN|apply jT|refine Q1 ?_|refine Q2 ?_|refine Q7 ?_|(refine Qg (h1:=?_) (h2:=?_)<;>intro hc<;>try omega)|apply jU|apply jE|refine Q4 rfl ?_|apply Qc
  obtain rfl:z=c:=by omega
  exact Ze (fun a w' st=>⟨st.kp,N1,ZA bG hO,fun p hp=>st.hs.blk p (List.mem_append_right _ (List.mem_append_left _ hp)),bG⟩)

theorem Yx (w:World) (A0:Option Addr) (cap:Nat) (N:aj) (r c i k:Nat) (G:Mi) (hO:aN N (.slice A0 (r*c) cap) (r*c) (bP r c G)) (hs:aG N w) (hi:i<c) (hk:k<c) (hr:r≤200) (hc:c≤200) :
  Calls Tryz.prog 130 #[.agg #[nv r,nv c,.slice A0 (r*c) cap],nv i,nv k] w (aQ fun _ w'=>Qcr N (.slice A0 (r*c) cap) r c (fun a b=>if b=k∧a<r then G a i else if b=i∧a<r then G a k else G a b) w w'):=by
 have hM:=QK hs
 have hrc:r*c≤40000:=Vn hr hc
 refine Qa [⟨5,2,[],[]⟩] (keys N) hM N Tryz.func130 rfl mixed (by kernel_rfl) Tryz.ntmps130 Tryz.results130 rfl hs (fun p hp=>List.mem_map.2 ⟨p,hp,rfl⟩) ?_
 simp only[toS,Qe,Qx,Qo,Qr,ay,Ql,Qy,aB]
 repeat' first|apply jS|apply jO|apply jN|apply jT|refine Q0 ?_|refine QM (h:=fun _=>?_)|apply jB
 rename_i b3
 have h0:aN N (.slice A0 (r*c) cap) (r*c) (bP r c (fun a b=>if b=k∧a<0 then G a i else if b=i∧a<0 then G a k else G a b)):=by rw[Qk (g':=G) (fun a b _ _=>by rw[if_neg oq,if_neg oq])];exact hO
 refine Qn (ι:=Nat × aj) ⟨fun z=>[(6,nv z.1),(3,.pointer (some ⟨b3,0,none⟩)),(1,nv i),(2,nv k)],fun z=>[(b3,.cells #[nv r,nv c,.slice A0 (r*c) cap] 28)]++(z.2++[]),
  fun z=>z.1≤r∧aN z.2 (.slice A0 (r*c) cap) (r*c) (bP r c (fun a b=>if b=k∧a<z.1 then G a i else if b=i∧a<z.1 then G a k else G a b)),fun z=>r-z.1⟩ (0,N) ⟨V8 _,h0⟩ aC (by simp only[Vh];exact HSub.refl _) (fun z hz=>?_)
 obtain⟨z,N1⟩:=z
 obtain⟨hz,bG⟩:=hz
 dsimp only at hz bG ⊢
 by_cases hlt:z<r
 ·have l1:z*c+i<r*c:=Yn hlt hi
  have l2:z*c+k<r*c:=Yn hlt hk
  have m1:z*c≤40000:=V0 (V1 c (show z≤r by omega)) hrc
  have e1:(bP r c (fun a b=>if b=k∧a<z then G a i else if b=i∧a<z then G a k else G a b)).getD (z*c+i) 0=G z i:=by rw[Zz hlt hi,if_neg oq,if_neg oq]
  have e2:(bP r c (fun a b=>if b=k∧a<z then G a i else if b=i∧a<z then G a k else G a b)).getD (z*c+k) 0=G z k:=by rw[Zz hlt hk,if_neg oq,if_neg oq]
  repeat' first|apply jS|apply jO|apply jD|apply jN|apply jT|refine Q1 ?_|refine Q2 ?_|refine Q7 ?_|refine QY (h:=?_)|refine Y4 (h:=?_)|refine Z8 (h:=?_)|refine Z1 (h:=?_)|refine Q6 ?_|(refine Qg (h1:=?_) (h2:=?_)<;>intro hc<;>try omega)|refine Qh fun _=>?_|refine Q6 ?_|apply jK|refine Q5 rfl ?_|apply jB
  rename_i bx
  rw[e1,e2]
  refine Q0a (A:=[_,_]) (B:=[]) bG rfl rfl au rfl rfl l1 (fun N2 hO2=>?_)
  rw[Y3 hi]at hO2
  repeat' first|apply jO|apply jN|refine Q1 ?_|refine Q2 ?_|refine Q7 ?_|refine Qm ?_|refine QY (h:=?_)|refine Z8 (h:=?_)|refine Z1 (h:=?_)|apply jT
  refine Q0a (A:=[_,_]) (B:=[]) (u:=G z i) hO2 rfl rfl au rfl rfl l2 (fun N3 hO3=>?_)
  rw[Y3 hk]at hO3
  rw[Qk (g':=fun a b=>if b=k∧a<(z+1) then G a i else if b=i∧a<(z+1) then G a k else G a b) (fun a b _ _=>by
   by_cases h1:a=z∧b=k
   ·obtain⟨rfl,rfl⟩:=h1;rw[if_pos ⟨rfl,rfl⟩,if_pos ⟨rfl,by omega⟩]
   ·rw[if_neg h1]
    by_cases h2:a=z∧b=i
    ·obtain⟨rfl,rfl⟩:=h2;rw[if_pos ⟨rfl,rfl⟩,if_neg oq,if_pos ⟨rfl,by omega⟩]
    ·rw[if_neg h2]
     by_cases h3:b=k∧a<z
     ·rw[if_pos h3,if_pos oq]
     ·rw[if_neg h3]
      by_cases h4:b=i∧a<z
      ·rw[if_pos h4,if_neg oq,if_pos oq]
      ·rw[if_neg h4,if_neg oq,if_neg oq])]at hO3
  repeat' first|apply jO|apply jN|apply jT|refine Q1 ?_|refine Q0 ?_|refine Qd ?_|apply jW
  exact Q8 (z+1,N3) ⟨by dsimp only;omega,hO3⟩ aW aC (by exact HSub.skip (HSub.refl _))
 ·repeat' first|apply jS|apply jO|apply jN|apply jT|refine Q1 ?_|refine Q2 ?_|refine Q7 ?_|(refine Qg (h1:=?_) (h2:=?_)<;>intro hc<;>try omega)|apply jU|apply jE|refine Q4 rfl ?_|apply Qc
  obtain rfl:z=r:=by omega
  exact Ze (fun a w' st=>⟨st.kp,N1,ZA bG hO,fun p hp=>st.hs.blk p (List.mem_append_right _ (List.mem_append_left _ hp)),bG⟩)


def gE (g:List (List Int)) (i j:Nat):Int:=(g.getD i []).getD j 0
structure Rec (r c:Nat) (g:List (List Int)):Prop where
 len:g.length=r
 row:∀ x∈g,x.length=c
theorem Rec.at {r c i:Nat} {g:List (List Int)} (h:Rec r c g) (hi:i<r):(g.getD i []).length=c:=h.row _ (QV (by have:=h.len;omega))
theorem Qey {xs ys:List Int} (hl:xs.length=ys.length) (h:∀ j,j<xs.length→xs.getD j 0=ys.getD j 0):xs=ys:=by
 refine List.ext_getElem hl fun j h1 h2=>?_
 have:=h j h1
 simpa [List.getD,List.getElem?_eq_getElem h1,List.getElem?_eq_getElem h2] using this
theorem Rec.ext {r c:Nat} {g g':List (List Int)} (h:Rec r c g) (h':Rec r c g') (e:∀ i j,i<r→j<c→gE g i j=gE g' i j):g=g':=by
 refine List.ext_getElem (by rw[h.len,h'.len]) fun i h1 h2=>?_
 have hi:i<r:=by have:=h.len;omega
 have e1:g.getD i []=g[i]:=by rw[List.getD,List.getElem?_eq_getElem h1];rfl
 have e2:g'.getD i []=g'[i]:=by rw[List.getD,List.getElem?_eq_getElem h2];rfl
 have l1:=h.at hi
 have l2:=h'.at hi
 rw[← e1, ← e2]
 refine Qey oq fun j hj=>e i j hi oq

structure Tn where
 a:Int
 b:Int
 c:Int
 d:Int
 deriving DecidableEq
def Tn.flip (t:Tn):Tn:=⟨t.d,-t.c,-t.b,t.a⟩
def Tn.p (t:Tn) (x y:Int):Int:=t.a*x+t.b*y
def Tn.q (t:Tn) (x y:Int):Int:=t.c*x+t.d*y

def Q08 (i k:Nat) (t:Tn) (g:List (List Int)):List (List Int):=(g.set i (List.zipWith t.p (g.getD i []) (g.getD k []))).set k (List.zipWith t.q (g.getD i []) (g.getD k []))
def XW (i k:Nat) (t:Tn) (g:List (List Int)):List (List Int):=g.map fun r=>(r.set i (t.p (r.getD i 0) (r.getD k 0))).set k (t.q (r.getD i 0) (r.getD k 0))

theorem Q9k {f:Int→Int→Int} {xs ys:List Int} {j:Nat} (h1:j<xs.length) (h2:j<ys.length):(List.zipWith f xs ys).getD j 0=f (xs.getD j 0) (ys.getD j 0):=by
 simp[List.getD,List.getElem?_zipWith,List.getElem?_eq_getElem h1,List.getElem?_eq_getElem h2]
theorem Rec.set {r c i:Nat} {g:List (List Int)} {l:List Int} (h:Rec r c g) (hl:l.length=c):Rec r c (g.set i l) :=
 ⟨by rw [List.length_set, h.len], fun x hx => by
  rcases List.mem_or_eq_of_mem_set hx with hx|rfl
  ·exact h.row x hx
  ·exact hl⟩
theorem Rec.rows {r c i k:Nat} {t:Tn} {g:List (List Int)} (h:Rec r c g) (hi:i<r) (hk:k<r):Rec r c (Q08 i k t g):=by
 have h1:=h.at hi
 have h2:=h.at hk
 exact(h.set (by rw[List.length_zipWith];omega)).set (by rw[List.length_zipWith];omega)
theorem Rec.cols {r c i k:Nat} {t:Tn} {g:List (List Int)} (h:Rec r c g):Rec r c (XW i k t g) :=
 ⟨by unfold XW; rw [List.length_map, h.len], fun x hx => by
  unfold XW at hx
  obtain⟨y,hy,rfl⟩:=List.mem_map.1 hx
  rw[List.length_set,List.length_set];exact h.row y hy⟩
theorem YM {α:Type} {l:List α} {i j:Nat} {x d:α} (hi:i<l.length):(l.set i x).getD j d=if j=i then x else l.getD j d:=by
 rw[List.getD,List.getElem?_set]
 by_cases h:i=j
 ·subst h;simp[hi]
 ·rw[if_neg h,if_neg (fun e=>h e.symm)];rfl
theorem Q0g {r c i k a b:Nat} {t:Tn} {g:List (List Int)} (h:Rec r c g) (hi:i<r) (hk:k<r) (hb:b<c):gE (Q08 i k t g) a b=if a=k then t.q (gE g i b) (gE g k b) else if a=i then t.p (gE g i b) (gE g k b) else gE g a b:=by
 have h1:=h.at hi
 have h2:=h.at hk
 have hl:=h.len
 unfold gE Q08
 rw[YM (by rw[List.length_set];omega)]
 by_cases e1:a=k
 ·rw[if_pos e1,if_pos e1,Q9k oq oq]
 ·rw[if_neg e1,if_neg e1,YM oq]
  by_cases e2:a=i
  ·rw[if_pos e2,if_pos e2,Q9k oq oq]
  ·rw[if_neg e2,if_neg e2]
theorem Q0h {r c i k a b:Nat} {t:Tn} {g:List (List Int)} (h:Rec r c g) (hi:i<c) (hk:k<c) (ha:a<r):gE (XW i k t g) a b=if b=k then t.q (gE g a i) (gE g a k) else if b=i then t.p (gE g a i) (gE g a k) else gE g a b:=by
 have h1:=h.at ha
 have hl:=h.len
 have e:(XW i k t g).getD a []=((g.getD a []).set i (t.p ((g.getD a []).getD i 0) ((g.getD a []).getD k 0))).set k (t.q ((g.getD a []).getD i 0) ((g.getD a []).getD k 0)):=by
  unfold XW
  rw[List.getD,List.getElem?_map,List.getD,List.getElem?_eq_getElem (show a<g.length by omega)]
  rfl
 unfold gE
 rw[e,YM (by rw[List.length_set];omega)]
 by_cases e1:b=k
 ·rw[if_pos e1,if_pos e1]
 ·rw[if_neg e1,if_neg e1,YM oq]

structure Sm where
 u:List (List Int)
 ui:List (List Int)
 d:List (List Int)
 v:List (List Int)
 vi:List (List Int)
 deriving DecidableEq
structure Dm (m n:Nat) (S:Sm):Prop where
 u:Rec m m S.u
 ui:Rec m m S.ui
 d:Rec m n S.d
 v:Rec n n S.v
 vi:Rec n n S.vi
def Sm.rows (i k:Nat) (t:Tn) (S:Sm):Sm:=⟨Q08 i k t S.u,XW i k t.flip S.ui,Q08 i k t S.d,S.v,S.vi⟩
def Sm.cols (i k:Nat) (t:Tn) (S:Sm):Sm:=⟨S.u,S.ui,XW i k t S.d,XW i k t S.v,Q08 i k t.flip S.vi⟩
theorem Dm.rows {m n i k:Nat} {t:Tn} {S:Sm} (h:Dm m n S) (hi:i<m) (hk:k<m):Dm m n (S.rows i k t):=⟨h.u.rows hi hk,h.ui.cols,h.d.rows hi hk,h.v,h.vi⟩
theorem Dm.cols {m n i k:Nat} {t:Tn} {S:Sm} (h:Dm m n S) (hi:i<n) (hk:k<n):Dm m n (S.cols i k t):=⟨h.u,h.ui,h.d.cols,h.v.cols,h.vi.rows hi hk⟩

def gZ (K:Nat) (g:List (List Int)):Bool:=g.all fun r=>r.all fun x=>decide (x.natAbs<256 ^ K)
theorem QT {K:Nat} {g:List (List Int)} (h:gZ K g=true) (a b:Nat):(gE g a b).natAbs<256 ^ K:=by
 unfold gE
 by_cases ha:a<g.length
 ·by_cases hb:b<(g.getD a []).length
  ·exact of_decide_eq_true (List.all_eq_true.1 (List.all_eq_true.1 h _ (QV ha)) _ (QV hb))
  ·rw[List.getD,List.getElem?_eq_none oq];exact pos256 K
 ·have:g.getD a []=[]:=by rw[List.getD,List.getElem?_eq_none oq];rfl
  rw[this];exact pos256 K
def Sm.ok (K:Nat) (S:Sm):Bool:=gZ K S.u && gZ K S.ui && gZ K S.d && gZ K S.v && gZ K S.vi
structure Ok (K:Nat) (S:Sm):Prop where
 u:gZ K S.u=true
 ui:gZ K S.ui=true
 d:gZ K S.d=true
 v:gZ K S.v=true
 vi:gZ K S.vi=true
theorem Ok.of {K:Nat} {S:Sm} (h:S.ok K=true):Ok K S:=by
 unfold Sm.ok at h
 simp only[Bool.and_eq_true]at h
 exact⟨h.1.1.1.1,h.1.1.1.2,h.1.1.2,h.1.2,h.2⟩
theorem Ok.ok {K:Nat} {S:Sm} (h:Ok K S):S.ok K=true:=by
 unfold Sm.ok
 simp only[Bool.and_eq_true]
 exact⟨⟨⟨⟨h.u,h.ui⟩,h.d⟩,h.v⟩,h.vi⟩
def gQ (a b:Int):Int:=if b=0 then 0 else a % b
def Wd (S:Sm) (t n i:Nat):Bool:=(List.range' (t+1) (n-(t+1))).any fun j=>decide (gQ (gE S.d i j) (gE S.d t t)≠0)
def Z7 (S:Sm) (t m n:Nat):Option Nat:=(List.range' (t+1) (m-(t+1))).find? fun i=>Wd S t n i
def negR (t:Nat) (g:List (List Int)):List (List Int):=g.set t ((g.getD t []).map fun x => -x)
def negC (t:Nat) (g:List (List Int)):List (List Int):=g.map fun r=>r.set t (-(r.getD t 0))
def Sm.neg (t:Nat) (S:Sm):Sm:=⟨negR t S.u,negC t S.ui,negR t S.d,S.v,S.vi⟩
def fP (n:Nat):List (List Int):=(List.range n).map fun i=>(List.range n).map fun j=>if i=j then 1 else 0
def WK (m n:Nat) (a:List (List Int)):Sm:=⟨fP m,fP m,a,fP n,fP n⟩

end Go.Proofs.YtbofgpenopcfaaaGreatDoor

