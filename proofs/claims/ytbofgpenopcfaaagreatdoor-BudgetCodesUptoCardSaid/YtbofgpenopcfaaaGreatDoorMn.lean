import Derived.Test.YtbofgpenopcfaaaGreatDoorMg
import Derived.Test.YtbofgpenopcfaaaGreatDoorMe
import Derived.Test.YtbofgpenopcfaaaGreatDoorMm
import Derived.Test.YtbofgpenopcfaaaGreatDoorMk
import Derived.Test.YtbofgpenopcfaaaGreatDoorMh
set_option maxHeartbeats 16000000
namespace Go.Proofs.YtbofgpenopcfaaaGreatDoor
open Go Go.RowKit
set_option linter.unusedSimpArgs false
set_option linter.unusedVariables false
set_option linter.unusedSectionVars false

def gG (a:Int):Value:=if -9223372036854775808≤a∧a<9223372036854775808 then .tuple #[iv a,.bool true] else .tuple #[iv 0,.bool false]

theorem Qax {p:Bool} {n:Nat} (h:18446744073709551616≤n):gG (bC p n)=.tuple #[iv 0,.bool false]:=by
 unfold gG
 rw[if_neg]
 cases p<;>simp[bC]<;>omega
theorem Qaw {n:Nat} (h:n≤9223372036854775808):gG (bC true n)=.tuple #[iv (-(n:Int)),.bool true]:=by
 unfold gG
 rw[if_pos]
 ·rfl
 ·simp only[bC,if_true];omega
theorem Q2y {p:Bool} {n:Nat} (h:9223372036854775808≤n) (hp:p=true→9223372036854775808<n):gG (bC p n)=.tuple #[iv 0,.bool false]:=by
 unfold gG
 rw[if_neg]
 cases p
 ·simp[bC];omega
 ·have:=hp rfl
  simp[bC];omega
theorem Qav {n:Nat} (h:n<9223372036854775808):gG (bC false n)=.tuple #[nv n,.bool true]:=by
 unfold gG
 rw[if_pos]
 ·rfl
 ·simp only[bC];simp;omega

set_option maxRecDepth 20000 in
theorem Qbm (w:World) (v:Value) (a:Int) (k:Nat) (hv:fD v a k) (hk:k≤10000000000) :
  Calls Tryz.prog 82 #[v] w (aQ fun r w'=>Kp [] w w'∧r=gG a):=by
 obtain⟨p,l,rfl,hl1,rfl⟩:=hv
 refine Qa [] [] aA [] Tryz.func82 rfl mixed (by kernel_rfl) Tryz.ntmps82 Tryz.results82 rfl ⟨by simp,by simp⟩ aA ?_
 simp only[toS,Qe,Qx,Qo,Qr,ay,Ql,Qy,aB]
 repeat' first|apply jS|apply jO|apply jN|refine Q0 ?_|refine Qm ?_|refine QM (h:=fun _=>?_)|apply jT
 rename_i b1
 refine Qt (A:=[_]) rfl trivial rfl rfl rfl (fun w hk hs=>Yl w p l oq) fun w v w' _ _ _ hR=>?_
 obtain⟨N1,zs,hN1,hO,hz,hval⟩:=hR
 refine⟨N1,hN1,?_⟩
 have hzl:=ZQ hz hval hl1
 rw[← hval]
 by_cases h4:4<zs.length
 ·have hge:=Q4r (b:=aI) dq hz.nrm (fun e=>by subst e;simp at h4)
  have h2:aI ^ 4≤aI ^ (zs.length-1):=V4 dq oq
  rw[Qax (V0 (show 18446744073709551616≤aI ^ 4 by decide) (V0 h2 hge))]
  repeat' first|apply jS|apply jO|apply jN|apply jT|refine Q1 ?_|refine Q0 ?_|refine Z9 (h:=?_)|(refine QU (h1:=?_) (h2:=?_)<;>intro hc<;>try omega)|apply jV|apply jR|refine Q5 rfl ?_
  exact QN rfl rfl (fun a w' st=>⟨st.kp,rfl⟩)
 ·have hbd:∀ i,val aI (zs.drop i)<18446744073709551616:=fun i=>by
   have h1:=Yi (b:=aI) (l:=zs.drop i) fun x hx=>hz.lt x (List.mem_of_mem_drop hx)
   have h2:aI ^ (zs.drop i).length≤aI ^ 4:=V4 dq (by simp;omega)
   exact V6 h1 (V0 h2 dq)
  repeat' first|apply jS|apply jO|apply jN|apply jT|refine Q1 ?_|refine Q0 ?_|refine Z9 (h:=?_)|refine X3 (h:=?_)|(refine QU (h1:=?_) (h2:=?_)<;>intro hc<;>try omega)|apply jK|refine Q4 rfl ?_|apply jB
  refine Qn (ι:=Nat) ⟨fun z=>[(6,iv ((z:Int)-1)),(5,uv (val aI (zs.drop z))),(4,v),(1,.pointer (some ⟨b1,0,none⟩))],fun _=>(b1,.cells #[.bool p,sv l] 75)::(N1++[]),fun z=>z≤zs.length,fun z=>z⟩ zs.length (V7 _) (by
   refine⟨rfl,?_⟩
   refine⟨by rw[Z5 (V7 _)];rfl,?_⟩
   repeat first|exact trivial|refine⟨rfl,?_⟩) QF (fun m hm=>?_)
  dsimp only at hm ⊢
  rcases m with _|i
  ·rw[List.drop_zero]
   have hb0:=hbd 0
   rw[List.drop_zero]at hb0
   generalize val aI zs=V at hb0 ⊢
   cases p with
   | true =>
    by_cases h63:V≤9223372036854775808
    ·rw[Qaw h63]
     repeat' first|apply jS|apply jO|apply jN|apply jT|refine Q1 ?_|refine Q2 ?_|refine Q7 ?_|refine Qp ?_|(refine Xo (h1:=?_) (h2:=?_)<;>intro hc<;>try omega)|(refine Zs (h1:=?_) (h2:=?_)<;>intro hc<;>try omega)|apply jU|apply jE|refine Q5 rfl ?_|refine Q4 rfl ?_|apply Qc
     refine Qa5 rfl rfl rfl oq ?_
     refine Wj (k':=.i64) (-((V:Nat):Int)) rfl rfl rfl (by rw[IntKind.wrap_i64];omega) ?_
     repeat' first|apply jN|apply jT|refine Q0 ?_|apply jV|apply jR
     exact QN rfl rfl (fun a w' st=>⟨st.kp,rfl⟩)
    ·rw[Q2y oq (fun _=>by omega)]
     repeat' first|apply jS|apply jO|apply jN|apply jT|refine Q1 ?_|refine Q2 ?_|refine Q0 ?_|refine Q7 ?_|refine Qp ?_|(refine Xo (h1:=?_) (h2:=?_)<;>intro hc<;>try omega)|(refine Zs (h1:=?_) (h2:=?_)<;>intro hc<;>try omega)|apply jU|apply jV|apply jK|apply jE|apply jR|refine Q5 rfl ?_|refine Q4 rfl ?_|apply Qc
     exact QN rfl rfl (fun a w' st=>⟨st.kp,rfl⟩)
   | false =>
    by_cases h63:9223372036854775808≤V
    ·rw[Q2y h63 (fun h=>by cases h)]
     repeat' first|apply jS|apply jO|apply jN|apply jT|refine Q1 ?_|refine Q2 ?_|refine Q0 ?_|refine Q7 ?_|refine Qq ?_|(refine Zs (h1:=?_) (h2:=?_)<;>intro hc<;>try omega)|apply jU|apply jV|apply jK|apply jE|refine Q5 rfl ?_|refine Q4 rfl ?_|apply Qc|refine QA ?_|apply jR
     exact QN rfl rfl (fun a w' st=>⟨st.kp,rfl⟩)
    ·rw[Qav oq]
     repeat' first|apply jS|apply jO|apply jN|apply jT|refine Q1 ?_|refine Q2 ?_|refine Q0 ?_|refine Q7 ?_|refine Qq ?_|refine Yb (h:=?_)|(refine Zs (h1:=?_) (h2:=?_)<;>intro hc<;>try omega)|apply jU|apply jK|apply jE|refine Q4 rfl ?_|apply Qc|refine QA ?_|apply jR
     exact QN rfl rfl (fun a w' st=>⟨st.kp,rfl⟩)
  ·have hiv:iv (((i+1:Nat):Int)-1)=nv i:=by
    show iv _=iv _
    congr 1
    omega
   rw[hiv]
   have hxi:zs.getD i 0<65536:=QD (b:=aI) dq hz.lt i
   have hxv:val aI (zs.drop i)=zs.getD i 0+65536*val aI (zs.drop (i+1)):=Z6 (show i<zs.length by omega)
   have hbi:=hbd i
   have hbi1:=hbd (i+1)
   have he:val aI (zs.drop (i+1))*65536+zs.getD i 0=val aI (zs.drop i):=by omega
   have hx2:val aI (zs.drop (i+1))*65536<18446744073709551616:=by omega
   repeat' first|apply jS|apply jO|apply jN|apply jT|refine Q1 ?_|(refine Zs (h1:=?_) (h2:=?_)<;>intro hc<;>try omega)|apply jK|refine Q5 rfl ?_|apply jB
   refine Qa7 (j:=65536) rfl rfl rfl rfl hx2 ?_
   generalize val aI (zs.drop (i+1))*65536=P at he hx2 ⊢
   repeat' first|apply jO|apply jN|apply jT|refine Q1 ?_|refine Q0 ?_|refine ZT (h:=?_)|refine Xp (h:=?_)|refine X3 (h:=?_)|refine Q8v (h:=?_)|refine Q11 (h:=?_)|apply jW
   rw[he]
   exact Q8 i aW aW aC QF

theorem Qir (w:World) (v:Value) (a:Int) (k:Nat) (hv:fD v a k) (hk:k≤10000000000) :
  Calls Tryz.prog 72 #[v] w (aQ fun r w'=>Kp [] w w'∧r=gG a):=by
 obtain⟨p,l,rfl,hl1,rfl⟩:=hv
 refine Qa [] [] aA [] Tryz.func72 rfl mixed (by kernel_rfl) Tryz.ntmps72 Tryz.results72 rfl ⟨by simp,by simp⟩ aA ?_
 simp only[toS,Qe,Qx,Qo,Qr,ay,Ql,Qy,aB]
 repeat' first|apply jS|apply jO|apply jN|refine Q0 ?_|refine Qm ?_|refine QM (h:=fun _=>?_)|apply jT
 rename_i b1
 refine Qt (A:=[_]) rfl trivial rfl rfl rfl (fun w hk hs=>Q4n w p l oq) fun w v w' _ _ _ hR=>?_
 obtain⟨N1,zs,hN1,hO,hz,hval⟩:=hR
 refine⟨N1,hN1,?_⟩
 have hzl:=Yz hz hval hl1
 rw[← hval]
 by_cases h4:2<zs.length
 ·have hge:=Q4r (b:=W32) dq hz.nrm (fun e=>by subst e;simp at h4)
  have h2:W32 ^ 2≤W32 ^ (zs.length-1):=V4 dq oq
  rw[Qax (V0 (show 18446744073709551616≤W32 ^ 2 by decide) (V0 h2 hge))]
  repeat' first|apply jS|apply jO|apply jN|apply jT|refine Q1 ?_|refine Q0 ?_|refine QW (h:=?_)|(refine QU (h1:=?_) (h2:=?_)<;>intro hc<;>try omega)|apply jV|apply jR|refine Q5 rfl ?_
  exact QN rfl rfl (fun a w' st=>⟨st.kp,rfl⟩)
 ·have hV:val W32 zs<18446744073709551616:=by
   have h1:=Yi (b:=W32) hz.lt
   have h2:W32 ^ zs.length≤W32 ^ 2:=V4 dq oq
   exact V6 h1 (V0 h2 dq)
  repeat' first|apply jS|apply jO|apply jN|apply jT|refine Q1 ?_|refine Q0 ?_|refine QW (h:=?_)|(refine QU (h1:=?_) (h2:=?_)<;>intro hc<;>try omega)|apply jK|refine Q4 rfl ?_|apply jB
  refine Qn (ι:=Nat) ⟨fun z=>[(15,nv z),(14,nv zs.length),(13,v),(5,uv (val W32 (zs.take z))),(4,v),(1,.pointer (some ⟨b1,0,none⟩))],fun _=>(b1,.cells #[.bool p,sv l] 75)::(N1++[]),fun z=>z≤zs.length,fun z=>zs.length-z⟩ 0 (V8 _) aC QF (fun i hi=>?_)
  dsimp only at hi ⊢
  by_cases hin:i<zs.length
  ·have hxi:zs.getD i 0<4294967296:=QD (b:=W32) dq hz.lt i
   have hvt:=QJ (b:=W32) zs i
   have hi01:i=0∨i=1:=by omega
   rcases hi01 with rfl|rfl
   ·repeat' first|apply jS|apply jO|apply jN|apply jT|refine Q1 ?_|refine Q0 ?_|refine Z1 (i:=32) (h:=?_)|refine Zd (h:=?_)|refine Yr (h:=?_)|refine Q3n (h:=?_)|(refine Qg (h1:=?_) (h2:=?_)<;>intro hc<;>try omega)|apply jK|refine Q5 rfl ?_|apply jB
    refine Qc6 (val W32 (zs.take (0+1))) rfl rfl rfl rfl ⟨by rw[List.take_zero];decide,Nat.mod_lt _ dq⟩ (by rw[hvt,List.take_zero,show val W32 []=0 from rfl,Nat.zero_or,Vq];show zs.getD 0 0*1 % 18446744073709551616=1*zs.getD 0 0;omega) ?_
    repeat' first|apply jO|apply jN|apply jT|refine Q1 ?_|refine Q0 ?_|refine Qd ?_|apply jW
    exact Q8 1 (by show 1≤zs.length;omega) (by show zs.length-1<zs.length-0;omega) aC QF
   ·have h0:val W32 (zs.take 1)<4294967296:=by
     have h1:=Yi (b:=W32) (l:=zs.take 1) fun x hx=>hz.lt x (List.mem_of_mem_take hx)
     have h2:W32 ^ (zs.take 1).length≤W32 ^ 1:=V4 dq (by simp;omega)
     exact V6 h1 (V0 h2 dq)
    repeat' first|apply jS|apply jO|apply jN|apply jT|refine Q1 ?_|refine Q0 ?_|refine Z1 (i:=32) (h:=?_)|refine Q3o (h:=?_)|refine Zd (h:=?_)|refine Yr (h:=?_)|(refine Qg (h1:=?_) (h2:=?_)<;>intro hc<;>try omega)|apply jK|refine Q5 rfl ?_|apply jB
    refine Qc6 (val W32 (zs.take (1+1))) rfl rfl rfl rfl oq ?_ ?_
    ·have h1:=Nat.two_pow_add_eq_or_of_lt (i:=32) h0 (zs.getD 1 0)
     rw[hvt,Nat.or_comm,Va (zs.getD 1 0) 4294967296,Nat.add_comm]
     exact h1.symm
    repeat' first|apply jO|apply jN|apply jT|refine Q1 ?_|refine Q0 ?_|refine Qd ?_|apply jW
    exact Q8 2 (by show 2≤zs.length;omega) (by show zs.length-2<zs.length-1;omega) aC QF
  ·rw[show zs.take i=zs from Vd oq]
   generalize val W32 zs=V at hV ⊢
   cases p with
   | true =>
    by_cases h63:V≤9223372036854775808
    ·rw[Qaw h63]
     repeat' first|apply jS|apply jO|apply jN|apply jT|refine Q1 ?_|refine Q2 ?_|refine Q0 ?_|refine Q7 ?_|refine Qp ?_|(refine Qg (h1:=?_) (h2:=?_)<;>intro hc<;>try omega)|(refine Xo (h1:=?_) (h2:=?_)<;>intro hc<;>try omega)|apply jU|apply jE|refine Q5 rfl ?_|refine Q4 rfl ?_|apply jB|apply Qc
     refine Qa5 rfl rfl rfl oq ?_
     refine Wj (k':=.i64) (-((V:Nat):Int)) rfl rfl rfl (by rw[IntKind.wrap_i64];omega) ?_
     repeat' first|apply jN|apply jT|refine Q0 ?_|apply jV|apply jR|apply Qz
     exact QN rfl rfl (fun a w' st=>⟨st.kp,rfl⟩)
    ·rw[Q2y oq (fun _=>by omega)]
     repeat' first|apply jS|apply jO|apply jN|apply jT|refine Q1 ?_|refine Q2 ?_|refine Q0 ?_|refine Q7 ?_|refine Qp ?_|(refine Qg (h1:=?_) (h2:=?_)<;>intro hc<;>try omega)|(refine Xo (h1:=?_) (h2:=?_)<;>intro hc<;>try omega)|(refine Zs (h1:=?_) (h2:=?_)<;>intro hc<;>try omega)|apply jU|apply jV|apply jE|apply jR|refine Q5 rfl ?_|refine Q4 rfl ?_|apply jB|apply Qz|apply Qc
     exact QN rfl rfl (fun a w' st=>⟨st.kp,rfl⟩)
   | false =>
    by_cases h63:9223372036854775808≤V
    ·rw[Q2y h63 (fun h=>by cases h)]
     repeat' first|apply jS|apply jO|apply jN|apply jT|refine Q1 ?_|refine Q2 ?_|refine Q0 ?_|refine Q7 ?_|refine Qq ?_|(refine Qg (h1:=?_) (h2:=?_)<;>intro hc<;>try omega)|(refine Zs (h1:=?_) (h2:=?_)<;>intro hc<;>try omega)|apply jU|apply jV|apply jE|apply jR|refine Q5 rfl ?_|refine Q4 rfl ?_|apply Qz|apply Qc|refine QA ?_|apply jB
     exact QN rfl rfl (fun a w' st=>⟨st.kp,rfl⟩)
    ·rw[Qav oq]
     repeat' first|apply jS|apply jO|apply jN|apply jT|refine Q1 ?_|refine Q2 ?_|refine Q0 ?_|refine Q7 ?_|refine Qq ?_|refine Yb (h:=?_)|(refine Qg (h1:=?_) (h2:=?_)<;>intro hc<;>try omega)|(refine Zs (h1:=?_) (h2:=?_)<;>intro hc<;>try omega)|apply jU|apply jK|apply jE|apply jR|refine Q4 rfl ?_|apply jB|apply Qc|refine QA ?_|apply jW
     exact QN rfl rfl (fun a w' st=>⟨st.kp,rfl⟩)


def hdK (a b c d:Int):Nat→Array Value
 | 0=>#[iv 0,iv 0,iv 0,iv 0]
 | 1=>#[iv a,iv 0,iv 0,iv 0]
 | 2=>#[iv a,iv b,iv 0,iv 0]
 | 3=>#[iv a,iv b,iv c,iv 0]
 | _=>#[iv a,iv b,iv c,iv d]
theorem Wz {A B C:List Int} {o k:Nat} (ho:A.length=o) (hk:B.length=k):((A++(B++C)).drop o).take k=B:=by
 subst ho hk
 rw[List.drop_left,List.take_left]
theorem XJ {c:Cx} {H N:aj} {w:World} {b Ln capL o r q cap:Nat} {A:Option Addr} {xs:List Int} {g:List (List Int)} (h:dO b o (r*q) cap A) (hv:fH c N (.slice (some ⟨b,0,none⟩) Ln capL) Ln xs) (ho:o+r*q≤Ln) (hg:Rec r q g) (hx:(xs.drop o).take (r*q)=g.flatten)
  (hk:Kp c.M c.w0 w) (hs:aG H w) (hN:HSub N H):jw w (.agg #[nv r,nv q,.slice A (r*q) cap]) (gM r q g) :=
 ⟨_, rfl, by
  have h1:=(h.rd hv ho).at hk hs hN
  rw[hx]at h1
  show WZ w _ (gM r q g).e.length g.flatten
  rw[show (gM r q g).e.length=r*q from QQ hg]
  exact h1⟩
theorem Q8l {K r c:Nat} {g:List (List Int)} (h:gZ K g=true):gu K (gM r c g):=fun k=>by
 show (g.flatten.getD k 0).natAbs<_
 by_cases hk:k<g.flatten.length
 ·exact Q1v h (QV hk)
 ·rw[List.getD,List.getElem?_eq_none oq]
  exact pos256 K
theorem Q16 {m:ZM} {i j:Nat} (hm:gJ m) (hi:i<m.r) (hj:j<m.c):gE (Ym m) i j=m.at i j:=by
 unfold gE Ym
 have e:((List.range m.r).map (fA m)).getD i []=fA m i:=by
  rw[List.getD,List.getElem?_map,List.getElem?_range hi]
  rfl
 rw[e,Qa0 hm hi]
 exact Q5s hj
theorem Q3i {r c:Nat} {g:List (List Int)} (h:Rec r c g) (hr:r≤200) (hc:c≤200):Ym (gM r c g)=g :=
 (Q1m (Wo h hr hc)).ext h fun i j hi hj=>by rw[Q16 (Wo h hr hc) hi hj,Qf5 h hi hj]
theorem Q7c {r c:Nat} {g:List (List Int)} (h:Rec r c g) (hr:r≤200) (hc:c≤200):Ym (trZ (gM r c g))=iG r c g:=by
 have hR:gJ (trZ (gM r c g)):=XZ hc hr
 refine(Q1m hR).ext (Y2 r c g) fun i j hi hj=>?_
 have hi':i<c:=hi
 have hj':j<r:=hj
 rw[Q16 hR hi hj]
 refine Eq.trans ?_ (Wg hj' hi').symm
 show (zof c r (tr (gM r c g).at)).at i j=_
 rw[Qj3 hi' hj']
 exact Qf5 h hj' hi'
theorem Qej {x y Nu tu Ni ti Nd td Nx tx Nj tj Mp Mq Nl:aj} :
  (x++(y++((Nj++tj)++((Nx++tx)++(Mq++((Nd++td)++((Ni++ti)++(Mp++((Nu++tu)++(Nl++[])))))))))).Perm
  ((x++(Nu++(tu++(Ni++(ti++(Nd++(td++(Nx++(tx++(Nj++(tj++[])))))))))))++(y++(Mq++(Mp++Nl)))):=by
 classical
 rw[List.perm_iff_count]
 intro x
 simp only[List.count_append,List.count_nil]
 omega
theorem Qkk {m n:Nat} {t s:Int} {S:Sm} (h:gX m n t s S=true):0≤t∧0≤s:=by
 unfold gX at h
 rw[Bool.and_eq_true]at h
 have:=of_decide_eq_true h.1
 exact⟨this.1,this.2.2.1⟩
def opnP (m n:Nat) (t s:Int) (S:Sm):Prop:=mulZ (gM m m S.u) (gM m m S.ui)=fF m∧mulZ (gM n n S.v) (gM n n S.vi)=fF n∧gX m n t s S=true


def pI (y:List UInt8):Option Int:=if (body y).all digit=true∧body y≠[] then some (bC (minus y) (eP (body y))) else none
theorem Q3r {y:List UInt8} {a:Int} (h:pI y=some a):PRes y=.tuple #[Wv a,.bool true]:=by
 unfold pI at h
 split at h
 ·rename_i hc
  cases h
  unfold PRes
  rw[if_pos hc.1,decide_eq_true hc.2]
 ·cases h
theorem Q3s {y:List UInt8} (h:pI y=none):∃ z,PRes y=.tuple #[Wv z,.bool false]:=by
 unfold pI at h
 split at h
 ·cases h
 ·rename_i hc
  unfold PRes
  split
  ·rename_i h1
   refine⟨bC (minus y) (eP (body y)),?_⟩
   rw[decide_eq_false (fun h2=>hc ⟨h1,h2⟩)]
  ·exact⟨0,rfl⟩
theorem Qmy {a b:Int} (h:Wv a=Wv b):a=b:=by
 have h1:(fD (Wv a) a (a.natAbs+1)):=QC (V6 (Nat.lt_pow_self (by decide:1<256)) (V4 dq (Nat.le_succ _)))
 have h2:(fD (Wv b) b (b.natAbs+1)):=QC (V6 (Nat.lt_pow_self (by decide:1<256)) (V4 dq (Nat.le_succ _)))
 obtain⟨p,l,e1,_,e2⟩:=h1
 obtain⟨q,k,e3,_,e4⟩:=h2
 rw[h,e3]at e1
 cases e1
 exact e2.trans e4.symm
theorem tup2 {a b c d:Value} (h:(.tuple #[a,b]:Value)=.tuple #[c,d]):a=c∧b=d:=by
 injection h with h
 have h1:=congrArg Array.toList h
 simpa using h1
theorem Qhx (a:Int):pI (tx a)=some a:=by
 have h:=Ql6 a
 cases hp:pI (tx a)with
 | none =>
  obtain⟨z,hz⟩:=Q3s hp
  rw[hz]at h
  cases (tup2 h).2
 | some b =>
  rw[Q3r hp]at h
  rw[Qmy (tup2 h).1]
theorem Qpk {y:List UInt8} {a:Int} {K:Nat} (h:pI y=some a) (hK:y.length≤K):a.natAbs<256 ^ K:=by
 unfold pI at h
 split at h
 ·rename_i hc
  cases h
  have h1:=Xg (l:=body y) (body y).length (V7 _) (by rw[List.take_length];exact List.all_eq_true.1 hc.1)
  rw[List.take_length]at h1
  have h2:(bC (minus y) (eP (body y))).natAbs=eP (body y):=by unfold bC;split<;>omega
  rw[h2]
  have h3:=Q6x y
  exact V6 h1 (V0 (Nat.pow_le_pow_left dq _) (V4 dq oq))
 ·cases h
def fV (ws:List (List UInt8)) (L:List Int):Prop:=ws.map pI=L.map some
theorem fV.len {ws:List (List UInt8)} {L:List Int} (h:fV ws L):ws.length=L.length:=by
 have:=congrArg List.length h
 simpa using this
theorem Q90 (L:List Int):fV (L.map tx) L:=by
 unfold fV
 rw[List.map_map]
 exact List.map_congr_left fun a _=>Qhx a
theorem fV.inj {ws:List (List UInt8)} {L L':List Int} (h:fV ws L) (h':fV ws L'):L=L':=by
 unfold fV at h h'
 have:=h.symm.trans h'
 exact(List.map_inj_right (fun a b e=>Option.some.inj e)).1 this
theorem Qeo {ws:List (List UInt8)} {L:List Int} {K:Nat} (h:fV ws L) (hK:∀ y∈ws,y.length≤K):∀ a∈L,a.natAbs<256 ^ K:=fun a ha=>by
 have h1:some a∈ws.map pI:=by rw[h];exact List.mem_map_of_mem ha
 obtain⟨y,hy,e⟩:=List.mem_map.1 h1
 exact Qpk e (hK y hy)

structure fC (ws:List (List UInt8)) (m n:Nat) (t s:Int) (S:Sm):Prop where
 w:ws=(encZ m n t s S).map tx
 lm:m≤200
 ln:n≤200
 d:Dm m n S
 p:opnP m n t s S
def chunk (r c:Nat) (l:List Int):List (List Int):=(List.range r).map fun i=>(l.drop (i*c)).take c
theorem Wp {r c:Nat} {l:List Int} (h:l.length=r*c):Rec r c (chunk r c l)∧(chunk r c l).flatten=l:=by
 refine⟨⟨by simp[chunk],fun x hx=>?_⟩,?_⟩
 ·obtain⟨i,hi,rfl⟩:=List.mem_map.1 hx
  have hi:=List.mem_range.1 hi
  rw[List.length_take,List.length_drop]
  have:(i+1)*c≤r*c:=V1 c hi
  rw[Nat.succ_mul]at this
  omega
 ·have key:∀ k,k≤r→((List.range k).map fun i=>(l.drop (i*c)).take c).flatten=l.take (k*c):=by
   intro k
   induction k with
   | zero=>intro _;simp
   | succ k ih =>
    intro hk
    rw[List.range_succ,Vj,List.flatten_append,ih oq]
    simp only[List.map_cons,List.map_nil,List.flatten_cons,List.flatten_nil,Vh]
    rw[Nat.succ_mul, ← List.take_add]
  unfold chunk
  rw[key r (V7 r), ← h,List.take_length]
theorem split5 (L:List Int) (a b c d:Nat):L.take a++((L.drop a).take b++((L.drop (a+b)).take c++((L.drop (a+b+c)).take d++L.drop (a+b+c+d))))=L:=by
 have h:∀ x y,(L.drop x).take y++L.drop (x+y)=L.drop x:=fun x y=>by rw[← List.drop_drop,List.take_append_drop]
 rw[h (a+b+c) d,h (a+b) c,h a b,List.take_append_drop]
theorem Qfb {L:List Int} {m n:Nat} (hl:L.length=4+(m*m+(m*m+(m*n+(n*n+n*n))))) (h0:L.getD 0 0=m) (h1:L.getD 1 0=n):∃ t s S,L=encZ m n t s S∧Dm m n S:=by
 obtain⟨a,L,rfl⟩:=List.exists_cons_of_length_pos (show 0<L.length by omega)
 obtain⟨b,L,rfl⟩:=List.exists_cons_of_length_pos (show 0<L.length by rw[List.length_cons]at hl;omega)
 obtain⟨t,L,rfl⟩:=List.exists_cons_of_length_pos (show 0<L.length by rw[List.length_cons,List.length_cons]at hl;omega)
 obtain⟨s,L,rfl⟩:=List.exists_cons_of_length_pos (show 0<L.length by rw[List.length_cons,List.length_cons,List.length_cons]at hl;omega)
 ·have h0:a=m:=h0
  have h1:b=n:=h1
  subst h0 h1
  simp only[List.length_cons]at hl
  obtain⟨r1,f1⟩:=Wp (r:=m) (c:=m) (l:=L.take (m*m)) (by rw[List.length_take];omega)
  obtain⟨r2,f2⟩:=Wp (r:=m) (c:=m) (l:=(L.drop (m*m)).take (m*m)) (by rw[List.length_take,List.length_drop];omega)
  obtain⟨r3,f3⟩:=Wp (r:=m) (c:=n) (l:=(L.drop (m*m+m*m)).take (m*n)) (by rw[List.length_take,List.length_drop];omega)
  obtain⟨r4,f4⟩:=Wp (r:=n) (c:=n) (l:=(L.drop (m*m+m*m+m*n)).take (n*n)) (by rw[List.length_take,List.length_drop];omega)
  obtain⟨r5,f5⟩:=Wp (r:=n) (c:=n) (l:=L.drop (m*m+m*m+m*n+n*n)) (by rw[List.length_drop];omega)
  refine⟨t,s,⟨chunk m m (L.take (m*m)),chunk m m ((L.drop (m*m)).take (m*m)),chunk m n ((L.drop (m*m+m*m)).take (m*n)),chunk n n ((L.drop (m*m+m*m+m*n)).take (n*n)),chunk n n (L.drop (m*m+m*m+m*n+n*n))⟩,?_,⟨r1,r2,r3,r4,r5⟩⟩
  unfold encZ
  dsimp only
  rw[f1,f2,f3,f4,f5]
  show (m:Int)::(n:Int)::t::s::L=(m:Int)::(n:Int)::t::s::_
  rw[split5 L (m*m) (m*m) (m*n) (n*n)]
  rfl
theorem Q17 {r c:Nat} {g g':List (List Int)} (h:Rec r c g) (h':Rec r c g') (e:g.flatten=g'.flatten):g=g':=by
 refine Rec.ext h h' fun i j hi hj=>?_
 have e1:=Zj h
 rw[e, ← Zj h']at e1
 rw[← Zz (g:=gE g) hi hj, ← Zz (g:=gE g') hi hj,e1]
theorem Q6k {m n m' n':Nat} {t s t' s':Int} {S S':Sm} (h:Dm m n S) (h':Dm m' n' S') (e:encZ m n t s S=encZ m' n' t' s' S'):m=m'∧n=n'∧t=t'∧s=s'∧S=S':=by
 unfold encZ at e
 simp only[Vg,Vr,List.cons.injEq]at e
 obtain⟨e1,e2,e3,e4,e5⟩:=e
 have e1:m=m':=by omega
 have e2:n=n':=by omega
 subst e1 e2
 refine⟨rfl,rfl,e3,e4,?_⟩
 obtain⟨a1,e5⟩:=List.append_inj e5 (by rw[QQ h.u,QQ h'.u])
 obtain⟨a2,e5⟩:=List.append_inj e5 (by rw[QQ h.ui,QQ h'.ui])
 obtain⟨a3,e5⟩:=List.append_inj e5 (by rw[QQ h.d,QQ h'.d])
 obtain⟨a4,a5⟩:=List.append_inj e5 (by rw[QQ h.v,QQ h'.v])
 obtain⟨u,ui,d,v,vi⟩:=S
 obtain⟨u',ui',d',v',vi'⟩:=S'
 have b1:=Q17 h.u h'.u a1
 have b2:=Q17 h.ui h'.ui a2
 have b3:=Q17 h.d h'.d a3
 have b4:=Q17 h.v h'.v a4
 have b5:=Q17 h.vi h'.vi a5
 dsimp only at b1 b2 b3 b4 b5
 subst b1 b2 b3 b4 b5
 rfl
theorem fC.num {ws:List (List UInt8)} {L:List Int} {m n:Nat} {t s:Int} {S:Sm} (h:fC ws m n t s S) (hN:fV ws L):L=encZ m n t s S:=by
 have:=Q90 (encZ m n t s S)
 rw[← h.w]at this
 exact hN.inj this
theorem XA {K:Nat} {g:List (List Int)} (h:∀ x∈g.flatten,x.natAbs<256 ^ K):gZ K g=true:=by
 refine List.all_eq_true.2 fun l hl=>List.all_eq_true.2 fun x hx=>decide_eq_true (h x (List.mem_flatten.2 ⟨l,hl,hx⟩))
theorem Q3x {K m n:Nat} {t s:Int} {S:Sm} (h:∀ x∈encZ m n t s S,x.natAbs<256 ^ K):Ok K S:=by
 unfold encZ at h
 have h1:∀ x∈S.u.flatten++(S.ui.flatten++(S.d.flatten++(S.v.flatten++S.vi.flatten))),x.natAbs<256 ^ K:=fun x hx=>h x (List.mem_append_right _ hx)
 exact⟨XA fun x hx=>h1 x (List.mem_append_left _ hx),XA fun x hx=>h1 x (List.mem_append_right _ (List.mem_append_left _ hx)),XA fun x hx=>h1 x (List.mem_append_right _ (List.mem_append_right _ (List.mem_append_left _ hx))),XA fun x hx=>h1 x (List.mem_append_right _ (List.mem_append_right _ (List.mem_append_right _ (List.mem_append_left _ hx)))),XA fun x hx=>h1 x (List.mem_append_right _ (List.mem_append_right _ (List.mem_append_right _ (List.mem_append_right _ hx))))⟩


theorem Qhy (b:Nat) (z:Int):aN [(b,.cells ⟨[.bool (wz z).1,sv (wz z).2]⟩ 75)] (.slice (some ⟨b,0,none⟩) 1 1) 1 [z]:=by
 have h:=aH.mk' (e:=75) (sz:=2) (n:=1) (b:=b) (cs:=⟨[.bool (wz z).1,sv (wz z).2]⟩) aA (by simp only[maxLen];omega)
 exact h

theorem Qg8 (w:World) (v:Value) (n:Nat) (L:List Int) (hv:WI w v n L) (hn:n≤1000) (hI:∀ i,I64 (L.getD i 0)) :
  Calls Tryz.prog 41 #[v] w (aQ fun v w'=>Kp [] w w'∧∃ N,New N w w'∧aN N v n L):=by
 have hlen:L.length=n:=by simpa using hv.1
 refine Qa [] [] aA [] Tryz.func41 rfl mixed (by kernel_rfl) Tryz.ntmps41 Tryz.results41 rfl ⟨by simp,by simp⟩ aA ?_
 simp only[toS,Qe,Qx,Qo,Qr,ay,Ql,Qy,aB]
 have hR:RdI ⟨Tryz.prog,20,w,[],by simp⟩ [] v n L:=hv.rd rfl []
 repeat' first|apply jS|apply jO|apply jN|apply jT|refine Q0 ?_|apply jB
 refine Qn (ι:=Nat × aj × Value) ⟨fun z=>[(4,nv z.1),(3,z.2.2),(0,v)],fun z=>z.2.1++[],
  fun z=>z.1≤n∧aN z.2.1 z.2.2 z.1 (L.take z.1),fun z=>n-z.1⟩ (0,[],.slice none 0 0) ⟨by omega,by simpa using aN.nil⟩ aC (HSub.nil _) (fun z hz=>?_)
 obtain⟨k,N,vo⟩:=z
 obtain⟨hk,hO⟩:=hz
 dsimp only at hk hO ⊢
 obtain⟨Ao,co,rfl⟩:=hO.form
 by_cases hkk:k<n
 ·have hIk:=hI k
  repeat' first|apply jS|apply jO|apply jN|apply jT|refine Q1 ?_|refine Qe7 (h:=?_)|refine Qkz (h:=?_)|refine Q3p (h:=?_)|(refine Qg (h1:=?_) (h2:=?_)<;>intro hc<;>try omega)|apply jK|refine Q5 rfl ?_|apply jB
  refine Q9 au rfl rfl rfl (fun w _ _=>Yc w (L.getD k 0) hIk.1 hIk.2) fun w v w' _ _ _ hR=>?_
  subst hR
  skip
  refine Wy (sz:=2) (vs:=[Wv (L.getD k 0)]) (cl:=[.bool (wz (L.getD k 0)).1,sv (wz (L.getD k 0)).2]) rfl rfl (by first|rfl|trivial|exact⟨rfl,rfl⟩) rfl rfl (fun v hv=>by
   cases List.mem_singleton.1 hv;rfl) rfl dq dq (fun b=>?_)
  have h1:=Qhy b (L.getD k 0)
  skip
  refine Zi (A:=[_]) (B:=[]) hO h1.rd Qb rfl au rfl rfl rfl rfl oq (fun v' N' aX=>?_)
  rw[show L.take k++[L.getD k 0]=L.take (k+1) by
   rw[List.take_add_one,XB (d:=0) oq];rfl]at aX
  repeat' first|apply jO|apply jN|apply jT|refine Q1 ?_|refine Q0 ?_|refine Qd ?_|apply jW
  exact Q8 (k+1,N',v') ⟨by dsimp only;omega,aX⟩ aW aC (by exact HSub.skip (HSub.refl _))
 ·repeat' first|apply jS|apply jO|apply jN|apply jT|refine Q1 ?_|refine Q0 ?_|refine Q3p (h:=?_)|(refine Qg (h1:=?_) (h2:=?_)<;>intro hc<;>try omega)|apply jU|apply jE|apply jR|refine Q4 rfl ?_|apply Qc
  obtain rfl:k=n:=by omega
  rw[← hlen,List.take_length,hlen]at hO
  exact Qj rfl (fun a w' st=>⟨st.kp,N,st.bI rfl Qb,hO⟩)

open Classical in
def GivesLB (zs:List Int) (b:Bool) (w:World) (v:Value) (w':World):Prop:=∃ N E,New N w w'∧v=.tuple #[E,.bool b]∧aN N E zs.length zs
theorem GivesLB.nil {w w':World} {v:Value} (h:v=.tuple #[.slice none 0 0,.bool false]):GivesLB [] false w v w':=⟨[],_,New.nil _ _,h,aN.nil⟩
theorem BdL.of {L:Nat} {zs:List Int} (h:∀ i,(zs.getD i 0).natAbs<256 ^ L):BdL L zs:=h

section
variable {c:Cx} {Q:Exit→Act→World→Prop} {m:Mode} {F:ak} {H:aj} {r:List bT} {g:Option (Option Tmp × Bool)} {ns:Bool} {d:Tmp} {ty t t':TypeId} {x y:Operand} {N:aj} {n:Nat} {v:Value}
end


theorem WI.lit {w:World} {b n:Nat} {vs:List Value} (xs:List Int) (hb:w.heap[b]?=some (.cells ⟨vs⟩ 3)) (hv:vs=xs.map iv) (hn:xs.length=n):WI w (.slice (some ⟨b,0,none⟩) n n) n xs:=by
 subst hv
 refine⟨by simp[hn],_,_,rfl,V7 _,fun _=>⟨⟨b,0,rfl⟩,fun j u hu=>?_⟩⟩
 simp only[dK,Vq]
 exact Z4 hb (by simpa using hu)
theorem gK.lit {w:World} {b n:Nat} {ss:List Value} (xss:List (List Int)) (hb:w.heap[b]?=some (.cells ⟨ss⟩ 22)) (hl:ss.length=n) (hx:xss.length=n) (h:∀ i,i<n→WI w (ss.getD i (iv 0)) (xss.getD i []).length (xss.getD i [])):gK w (.slice (some ⟨b,0,none⟩) n n) xss:=by
 subst hx
 refine⟨ss,⟨by omega,_,_,rfl,V7 _,fun _=>⟨⟨b,0,rfl⟩,fun j u hu=>?_⟩⟩,h⟩
 simp only[dK,Vq]
 exact Z4 hb (by simpa using hu)
theorem Q9i {w:World} {b:Nat} {s s':Value} (xs xs':List Int) (hb:w.heap[b]?=some (.cells ⟨[s,s']⟩ 22)) (h:WI w s xs.length xs) (h':WI w s' xs'.length xs'):gK w (.slice (some ⟨b,0,none⟩) 2 2) [xs,xs'] :=
 gK.lit [xs,xs'] hb rfl rfl fun i hi=>by
  rcases(show i=0∨i=1 by omega)with rfl|rfl
  ·exact h
  ·exact h'
theorem Qls {xss:List (List Int)} (h:∀ l∈xss,∀ x∈l,I64 x):∀ i j,I64 ((xss.getD i []).getD j 0):=fun i j=>by
 have h0:I64 0:=⟨by decide,by decide⟩
 rw[List.getD]
 cases hj:(xss.getD i [])[j]? with
 | none=>exact h0
 | some x =>
  have hx:=List.mem_of_getElem? hj
  rw[List.getD]at hx
  cases hi:xss[i]? with
  | none=>rw[hi]at hx;cases hx
  | some l=>rw[hi]at hx;exact h l (List.mem_of_getElem? hi) x hx
instance (n:Int):Decidable (I64 n):=by unfold I64;infer_instance
theorem Qoc {xs:List Int} (h:∀ x∈xs,I64 x) (i:Nat):I64 (xs.getD i 0):=by
 rw[List.getD]
 cases hi:xs[i]? with
 | none=>exact⟨by decide,by decide⟩
 | some x=>exact h x (List.mem_of_getElem? hi)

theorem Qo7 {P:Prop} {v:Value} (h:iK P v) (hp:P):v=.bool true:=by
 obtain⟨y,rfl,hy⟩:=h
 rw[hy.2 hp]
def sn0:Sm:=⟨[[1,0],[0,1]],[[1,0],[0,1]],[[2,4],[3,5]],[[1,0],[0,1]],[[1,0],[0,1]]⟩
def sn1:Sm:=⟨[[1,0],[-1,1]],[[1,0],[1,1]],[[2,4],[1,1]],[[1,0],[0,1]],[[1,0],[0,1]]⟩
def sn2:Sm:=⟨[[-1,1],[3,-2]],[[2,1],[3,1]],[[1,0],[0,2]],[[1,-1],[0,1]],[[1,1],[0,1]]⟩
def snZ:Sm:=⟨[],[],[],[],[]⟩
def snF:Sm:=⟨[[1]],[[1]],[[0]],[[1]],[[1]]⟩
theorem Qih {m n:Nat} {S:Sm} (h:(S.u.length=m∧∀ x∈S.u,x.length=m)∧(S.ui.length=m∧∀ x∈S.ui,x.length=m)∧(S.d.length=m∧∀ x∈S.d,x.length=n)∧(S.v.length=n∧∀ x∈S.v,x.length=n)∧(S.vi.length=n∧∀ x∈S.vi,x.length=n)):Dm m n S :=
 ⟨⟨h.1.1,h.1.2⟩,⟨h.2.1.1,h.2.1.2⟩,⟨h.2.2.1.1,h.2.2.1.2⟩,⟨h.2.2.2.1.1,h.2.2.2.1.2⟩,⟨h.2.2.2.2.1,h.2.2.2.2.2⟩⟩
theorem Qdm:Dm 2 2 sn0:=Qih dq
theorem Qje:Dm 2 2 sn1:=Qih dq
theorem Qjd:Dm 0 0 snZ:=Qih dq
theorem Qni:Dm 1 1 snF:=Qih dq
theorem rn0:aJ 2 2 0 0 sn0=(sn0,0,0):=rfl
theorem rn1:aJ 2 2 1 0 sn0=(sn1,0,1):=by kernel_rfl
theorem rn2:aJ 2 2 1000 0 sn1=(sn2,2,5):=by kernel_rfl
theorem rnZ:aJ 0 0 0 0 snZ=(snZ,0,0):=rfl
theorem Qhc {m n t s k t' r:Nat} {S S':Sm} {e:Int} {w:World} {b:Nat} {W:WV} {T:WT} (hrun:aJ m n k t S=(S',t',r)) (hok:(List.range (r+1)).all (fun j=>(aJ m n j t S).1.ok 8)=true) (he:(if (Qv S' t' m n).2.2=true then (60:Int) else 0)=e) (hD:Dm m n S) (hm:m≤200) (hn:n≤200) (bD:t≤m) (htn:t≤n) (hsk:s+k<1099511627776)
  (hW:dB W m n T S) (hs:aG (aK b W m n t s T) w) :
  Calls Tryz.prog 17 #[.pointer (some ⟨b,0,none⟩),nv k] w (aQ fun v w'=>Kp (keys (aK b W m n t s T)) w w'∧(jl b W m n t s T (t':Nat) ((s+r:Nat):Int) S' w w'∧v=iv e)):=by
 have h:=Qok 8 w b W m n t s k T S hW hD hs hm hn bD htn dq dq hsk (by
  rw[hrun]
  intro j hj
  exact Ok.of (List.all_eq_true.1 hok j (List.mem_range.2 (Nat.lt_succ_of_le hj))))
 rw[hrun]at h
 refine Zk h fun v w' h=>⟨h.1.1,h.1,?_⟩
 rw[h.2]
 exact congrArg iv he

def tS0:List UInt8:=[50,32,50,32,48,32,48,32,49,32,48,32,48,32,49,32,49,32,48,32,48,32,49,32,50,32,52,32,51,32,53,32,49,32,48,32,48,32,49,32,49,32,48,32,48,32,49]
def tS1:List UInt8:=[50,32,50,32,48,32,49,32,49,32,48,32,45,49,32,49,32,49,32,48,32,49,32,49,32,50,32,52,32,49,32,49,32,49,32,48,32,48,32,49,32,49,32,48,32,48,32,49]
theorem en0:bU (encZ (2:Nat) (2:Nat) (0:Nat) (0:Nat) sn0)=tS0:=by kernel_rfl
theorem en1:bU (encZ (2:Nat) (2:Nat) (0:Nat) (1:Nat) sn1)=tS1:=by kernel_rfl
theorem enZ:sv (bU (encZ (0:Nat) (0:Nat) 0 0 snZ))=.string ⟨#[48,32,48,32,48,32,48]⟩:=by kernel_rfl
theorem enF:sv (bU (encZ (1:Nat) (1:Nat) 1 5 snF))=.string ⟨#[49,32,49,32,49,32,53,32,49,32,49,32,48,32,49,32,49]⟩:=by kernel_rfl
theorem Qpe (w:World) (v:Value) (hv:jw w v (ofZ [[2,4],[3,5]])):Calls Tryz.prog 15 #[v] w (aQ fun v w'=>Kp [] w w'∧∃ b W T,v=.pointer (some ⟨b,0,none⟩)∧New (aK b W 2 2 (0:Nat) (0:Nat) T) w w'∧dB W 2 2 T sn0):=by
 have h:=Qol w v (ofZ [[2,4],[3,5]]) ⟨by decide,by decide,by decide⟩ hv
 have e:WK (ofZ [[2,4],[3,5]]).r (ofZ [[2,4],[3,5]]).c (Ym (ofZ [[2,4],[3,5]]))=sn0:=by kernel_rfl
 rw[e]at h
 exact h
theorem lf0:(Qv sn0 0 2 2).2.2=true:=by kernel_rfl
theorem lf2:(Qv sn2 2 2 2).2.2=false:=by kernel_rfl
theorem Qko (w:World) (v u:Value) (h:WZ w v 2 [1,2]) (hu:WZ w u 2 [1,2]):Calls Tryz.prog 19 #[v,u] w (aQ fun v w'=>Kp [] w w'∧v=.bool true) :=
 Zk (Qg9 w v u 2 2 _ _ h hu dq dq) fun v w' h=>⟨h.1,Qo7 h.2 rfl⟩
section
variable {c:Cx} {Q:Exit→Act→World→Prop} {m:Mode} {F:ak} {H:aj} {r:List bT} {g:Option (Option Tmp × Bool)} {ns:Bool} {d:Tmp} {ty t t':TypeId} {x y:Operand} {l:List UInt8}
theorem Qjj [dL c.P t] (hd:Qw c.n (some d)=true) (hg:Qi F g=some true) (hx:ev F x=some (sv l)) (hy:ev F y=some (sv l))
  (h:JO c Q m r ((d,.bool false)::F) H):JO c Q m (⟨some d,.binOp .neq t x y t',ty,g,.bg,ns⟩::r) F H :=
 Ya hd hg hx hy (by rw[decide_eq_false (fun h=>h rfl)];exact h)
theorem Qjn [dL c.P t] (hd:Qw c.n (some d)=true) (hg:Qi F g=some true) (hx:ev F x=some (sv l)) (hy:ev F y=some (sv l))
  (h:JO c Q m r ((d,.bool true)::F) H):JO c Q m (⟨some d,.binOp .eql t x y t',ty,g,.bg,ns⟩::r) F H :=
 ZE hd hg (fun a w fr=>by
  simp[execOp,fr.ev hx,fr.ev hy,eqGuard,binOp_string_eql,Wh]) h
end



theorem Q2u (n:Nat):Rec n n (fP n):=⟨by simp[fP],fun x hx=>by
 unfold fP at hx
 obtain⟨i,_,rfl⟩:=List.mem_map.1 hx
 simp⟩
theorem Q9s {r c:Nat} {g:List (List Int)} (h:Rec r c g):Dm r c (WK r c g):=⟨Q2u r,Q2u r,h,Q2u c,Q2u c⟩
theorem Q63 {n i j:Nat} (hi:i<n) (hj:j<n):(gE (fP n) i j).natAbs<256 ^ 1:=by
 rw[Q6b hi hj]
 unfold fO
 split<;>decide
theorem Qdk {B r c:Nat} {g:List (List Int)} (h:Rec r c g) (hb:∀ i j,i<r→j<c→(gE g i j).natAbs<256 ^ B):Inv B r c 0 0 (WK r c g) :=
 ⟨Q9s h,fun i hi=>absurd hi (Nat.not_lt_zero _),0,.inl ⟨V7 _,hb⟩⟩
theorem Qh7 {B r c:Nat} {g:List (List Int)}:Ob (Wb B 1 0) r c (WK r c g) :=
 ⟨fun _ _ h1 h2=>Q63 h1 h2,fun _ _ h1 h2=>Q63 h1 h2,fun _ _ h1 h2=>Q63 h1 h2,fun _ _ h1 h2=>Q63 h1 h2⟩
theorem Inv.okK {B W m n k t K:Nat} {S:Sm} (h:Inv B m n k t S) (ho:Ob (Wb B W k) m n S) (h1:Wb B W k≤K) (h2:Mb B ((k+1) / 2)≤K):Ok K S :=
 ⟨Q00 h.dm.u fun a b ha hb => Z2 (ho.u a b ha hb) h1, Q00 h.dm.ui fun a b ha hb => Z2 (ho.ui a b ha hb) h1,
  Q00 h.dm.d fun a b ha hb=>Z2 (h.fr a b ha hb) h2,Q00 h.dm.v fun a b ha hb=>Z2 (ho.v a b ha hb) h1,Q00 h.dm.vi fun a b ha hb=>Z2 (ho.vi a b ha hb) h1⟩
theorem Q9z {m n:Nat}:∀ (j t:Nat) (S:Sm),Dm m n S→t≤m→t≤n→Dm m n (aJ m n j t S).1∧(aJ m n j t S).2.1≤m∧(aJ m n j t S).2.1≤n
 | 0,t,S,h,h1,h2=>⟨h,h1,h2⟩
 | j + 1, t, S, h, h1, h2 => by
  rw[aJ]
  cases hs:dH m n t S with
  | none=>exact⟨h,h1,h2⟩
  | some r =>
   obtain⟨g1,g2,g3⟩:=Xl h hs
   exact Q9z j r.2 r.1 g1 g2 g3
theorem Qh6 {B K r c k:Nat} {g:List (List Int)} (hB:1≤B) (h:Rec r c g) (hb:∀ i j,i<r→j<c→(gE g i j).natAbs<256 ^ B) (hW:Wb B 1 k≤K) (hM:Mb B ((k+1) / 2)≤K) (j:Nat) (hj:j≤k):Ok K (aJ r c j 0 (WK r c g)).1:=by
 obtain⟨h1,h2⟩:=Qdw hB j 0 0 _ (Qdk h hb) (Qh7 (B:=B))
 have hle:=Q3g (m:=r) (n:=c) j 0 (WK r c g)
 rw[Vq]at h1 h2
 exact h1.okK h2 (V0 (Qoy oq) hW) (V0 (Q28 oq) hM)
theorem Qhf {m:ZM} (hm:gJ m):m.e=bP m.r m.c (gE (Ym m)):=by
 have h1:bP m.r m.c (enz m.c m.e)=m.e:=Qj9 hm.len
 refine h1.symm.trans (Qk fun i j hi hj=>?_)
 rw[Q16 hm hi hj]
 rfl

theorem Qah {a b:Nat} {e:Nat} (he:e≠0) (h:a ^ e≤b ^ e):a≤b:=(Nat.pow_le_pow_iff_left he).1 h
theorem Qn5 (L:Nat):10 ^ L≤256 ^ ((5*L+11) / 12):=by
 refine Qah (e:=12) dq ?_
 rw[← Nat.pow_mul, ← Nat.pow_mul,Va L 12,Nat.pow_mul 10 12 L]
 refine V0 (Nat.pow_le_pow_left (show 10 ^ 12≤256 ^ 5 by decide) L) ?_
 rw[← Nat.pow_mul]
 exact V4 dq oq
theorem Qot (K:Nat):256 ^ K≤10 ^ ((5*K+1) / 2):=by
 refine Qah (e:=2) dq ?_
 rw[← Nat.pow_mul, ← Nat.pow_mul,Va K 2,Nat.pow_mul 256 2 K]
 refine V0 (Nat.pow_le_pow_left (show 256 ^ 2≤10 ^ 5 by decide) K) ?_
 rw[← Nat.pow_mul]
 exact V4 dq oq
theorem parab {c L A T:Nat} (h:L+2*c≤T) (hc:c≤A) (hA:4*A≤T):c*L≤A*(T-2*A):=by
 have h1:c*L≤c*(T-2*c):=V3 c oq
 refine V0 h1 ?_
 obtain⟨d,rfl⟩:=Nat.exists_eq_add_of_le hc
 obtain⟨e,rfl⟩:=Nat.exists_eq_add_of_le hA
 rw[show 4*(c+d)+e-2*c=2*c+(4*d+e) by omega,show 4*(c+d)+e-2*(c+d)=2*c+(2*d+e) by omega]
 rw[Vl c d]
 have h2:d*(2*c+(2*d+e))=2*(c*d)+d*(2*d+e):=by rw[Vm,Nat.mul_left_comm,Va d c]
 rw[h2,Vm c,Vm c,Vm c,Vm c]
 have h3:c*(4*d)=4*(c*d):=by rw[Nat.mul_left_comm]
 have h4:c*(2*d)=2*(c*d):=by rw[Nat.mul_left_comm]
 omega
theorem Qpd {c T L B K:Nat} (h:(c≤200004∧T≤1048576)∨(c≤210∧T≤3000000)) (hL:L+2*c≤T+2) (hB:B=(5*L+11) / 12) (hK:K=2046*B+4071):c*((5*K+1) / 2+2)≤281474976710656:=by
 have h1:c*L≤129716602000:=by
  rcases h with ⟨h1,h2⟩|⟨h1,h2⟩
  ·exact V0 (parab (T:=1048578) oq h1 dq) dq
  ·exact V0 (Vn h1 (show L≤3000002 by omega)) dq
 have hc:c≤200004:=by omega
 have h2:24*((5*K+1) / 2+2)≤51150*L+356970:=by omega
 have h3:=V3 c h2
 rw[Nat.mul_left_comm c 24,Vm c (51150*L),Nat.mul_left_comm c 51150]at h3
 omega
theorem Wb19 (B:Nat):Wb B B 19≤2046*B+4071:=by
 simp[Wb,Mb];omega
theorem Mb10 (B:Nat):Mb B 10≤2046*B+4071:=by
 simp[Mb];omega
theorem Q6r:∀ l:List (List UInt8),(∀ x∈l,x≠[])→2*l.length≤(fK l).length
 | [],_=>V7 _
 | x::l,h=>by
  have:=Q6r l fun y hy=>h y (by simp[hy])
  have h1:=List.length_pos_iff.2 (h x aA)
  show 2*(l.length+1)≤(32::(x++fK l)).length
  rw[List.length_cons,Vi]
  omega
theorem Q86:∀ {l:List (List UInt8)} {y:List UInt8},(∀ x∈l,x≠[])→y∈l→y.length+2*l.length≤(fK l).length+1
 | x::l,y,h,hy=>by
  have hl:∀ x∈l,x≠[]:=fun z hz=>h z (by simp[hz])
  have h1:=List.length_pos_iff.2 (h x aA)
  show _+2*(l.length+1)≤(32::(x++fK l)).length+1
  rw[List.length_cons,Vi]
  rcases List.mem_cons.1 hy with rfl|hy
  ·have:=Q6r l hl;omega
  ·have:=Q86 hl hy;omega
theorem Qfc {l:List (List UInt8)} {y:List UInt8} (h:∀ x∈l,x≠[]) (hy:y∈l):y.length+2*l.length≤(bZ l).length+2:=by
 cases l with
 | nil=>simp at hy
 | cons x l =>
  have hl:∀ x∈l,x≠[]:=fun z hz=>h z (by simp[hz])
  have h1:=List.length_pos_iff.2 (h x aA)
  show _+2*(l.length+1)≤(x++fK l).length+2
  rw[Vi]
  rcases List.mem_cons.1 hy with rfl|hy
  ·have:=Q6r l hl;omega
  ·have:=Q86 hl hy;omega
theorem Qb8:∀ l:List (List UInt8),l.length≤(fK l).count 32
 | []=>V7 _
 | x::l=>by
  have:=Qb8 l
  show l.length+1≤(32::(x++fK l)).count 32
  rw[List.count_cons_self,List.count_append]
  omega
theorem Qif (l:List (List UInt8)):l.length≤(bZ l).count 32+1:=by
 cases l with
 | nil=>exact V8 _
 | cons x l =>
  have:=Qb8 l
  show l.length+1≤(x++fK l).count 32+1
  rw[List.count_append]
  omega
theorem Q85 (l:List UInt8) (i:Nat) (u:UInt8):(l.set i u).count 32≤l.count 32+1:=by
 by_cases h:i<l.length
 ·rw[List.count_set h];split<;>split<;>omega
 ·rw[List.set_eq_of_length_le oq];omega

theorem Qnx {y:List UInt8} {a:Int} (h:pI y=some a):a.natAbs<10 ^ y.length:=by
 unfold pI at h
 split at h
 ·rename_i hc
  cases h
  have h1:=Xg (l:=body y) (body y).length (V7 _) (by rw[List.take_length];exact List.all_eq_true.1 hc.1)
  rw[List.take_length]at h1
  have h2:(bC (minus y) (eP (body y))).natAbs=eP (body y):=by unfold bC;split<;>omega
  rw[h2]
  exact V6 h1 (V4 dq (Q6x y))
 ·cases h
theorem Qn2 (a:Int):a.natAbs<10 ^ (tx a).length:=Qnx (Qhx a)
theorem Qkc (a:Int):tx a≠[]:=fun h=>by
 have:=Qhx a
 rw[h]at this
 unfold pI at this
 rw[if_neg (fun h=>h.2 rfl)]at this
 cases this
theorem Qd6 {a:Int} {K:Nat} (h:a.natAbs<256 ^ K):(tx a).length≤(5*K+1) / 2+1:=by
 have h2:=Q6o _ _ (V6 h (Qot K))
 unfold tx txt
 rw[List.length_map]
 by_cases h0:a=0
 ·rw[if_pos h0];simp
 ·rw[if_neg h0,Vi]
  by_cases hn:a<0
  ·rw[if_pos hn,Vo];omega
  ·rw[if_neg hn,List.length_nil];omega
theorem Q87 {K:Nat}:∀ l:List Int,(∀ x∈l,x.natAbs<256 ^ K)→(dW l).length≤l.length*((5*K+1) / 2+2)
 | [],_=>by simp[dW]
 | x::l,h=>by
  have h1:=Qd6 (h x aA)
  have h2:=Q87 l fun y hy=>h y (by simp[hy])
  show (32::(tx x++dW l)).length≤_
  rw[List.length_cons,Vi,List.length_cons,Nat.succ_mul]
  omega
theorem Q81 {K:Nat} (l:List Int) (h:∀ x∈l,x.natAbs<256 ^ K):(bU l).length≤l.length*((5*K+1) / 2+2):=by
 cases l with
 | nil=>exact V8 _
 | cons x l =>
  have h1:=Qd6 (h x aA)
  have h2:=Q87 l fun y hy=>h y (by simp[hy])
  show (tx x++dW l).length≤_
  rw[Vi,List.length_cons,Nat.succ_mul]
  omega
theorem Q0r {m n:Nat} {t s:Int} {S:Sm} (h:gX m n t s S=true):(0≤t∧t≤(min m n:Nat)∧0≤s∧s≤1099511627776)∧Zc m n t.toNat S:=by
 unfold gX at h
 rw[Bool.and_eq_true,decide_eq_true_eq]at h
 obtain⟨h0,h1⟩:=h
 refine⟨h0,?_⟩
 have key:∀ i,i<t.toNat→∀ a b,i≤a→a<m→i≤b→b<n→¬(decide (a=i)=decide (b=i))→gE S.d a b=0:=fun i hi a b ha ham hb hbn hne=>by
  have h2:=List.all_eq_true.1 h1 i (by rw[List.mem_range'_1];omega)
  unfold dI at h2
  rw[Bool.and_eq_true]at h2
  have h3:=List.all_eq_true.1 h2.2 a (by rw[List.mem_range'_1];omega)
  unfold WL at h3
  have h4:=List.all_eq_true.1 h3 b (by rw[List.mem_range'_1];omega)
  unfold Q7b at h4
  rw[Bool.and_eq_true,decide_eq_false hne,Bool.false_or]at h4
  exact of_decide_eq_true h4.2
 intro i hi
 have him:i<m:=by omega
 have hin:i<n:=by omega
 refine⟨fun k hk hne=>?_,fun k hk hne=>?_⟩
 ·rcases Nat.lt_or_ge k i with hlt|hge
  ·exact key k oq i k oq him (V7 _) hk (by rw[decide_eq_false oq,decide_eq_true rfl];decide)
  ·exact key i hi i k (V7 _) him hge hk (by rw[decide_eq_true rfl,decide_eq_false oq];decide)
 ·rcases Nat.lt_or_ge k i with hlt|hge
  ·exact key k oq k i (V7 _) hk oq hin (by rw[decide_eq_true rfl,decide_eq_false oq];decide)
  ·exact key i hi k i hge hk (V7 _) hin (by rw[decide_eq_false oq,decide_eq_true rfl];decide)
theorem Qpo {B m n:Nat} {S:Sm} (h:Ok B S):Fr B m n S∧Ob B m n S :=
 ⟨fun a b _ _=>QT h.d a b,fun a b _ _=>QT h.u a b,fun a b _ _=>QT h.ui a b,fun a b _ _=>QT h.v a b,fun a b _ _=>QT h.vi a b⟩
theorem Qla {B K m n t j:Nat} {S:Sm} (hB:1≤B) (hD:Dm m n S) (hz:Zc m n t S) (hb:Ok B S) (hK:K=2046*B+4071) (hj:j≤19):Ok K (aJ m n j t S).1:=by
 obtain⟨f1,f2⟩:=Qpo (m:=m) (n:=n) hb
 obtain⟨h1,h2⟩:=Qdw (B:=B) (W:=B) hB j 0 t S ⟨hD,hz,0,.inl ⟨V7 _,f1⟩⟩ f2
 have hle:=Q3g (m:=m) (n:=n) j t S
 rw[Vq]at h1 h2
 have e1:=Wb19 B
 have e2:=Mb10 B
 exact h1.okK h2 (V0 (Qoy (k:=(aJ m n j t S).2.2) (l:=19) oq) oq) (V0 (Q28 (k:=((aJ m n j t S).2.2+1) / 2) (l:=10) oq) oq)
def gy (l:List UInt8):Prop:=l.length≤1048576∨(l.length≤3000000∧l.count 32≤209)
theorem gy.len {l:List UInt8} (h:gy l):l.length≤3000000:=by unfold gy at h;omega
theorem Ql9 {ws:List (List UInt8)} {m n:Nat} {t s:Int} {S:Sm} (h:fC ws m n t s S) (hT:gy (bZ ws)):∃ B K,1≤B∧8≤K∧K=2046*B+4071∧K≤3000000000∧Ok B S∧(encZ m n t s S).length*((5*K+1) / 2+2)≤281474976710656:=by
 have hc:ws.length=(encZ m n t s S).length:=by rw[h.w,List.length_map]
 have hel:=YV h.d t s
 have hmm:m*m≤40000:=Vn h.lm h.lm
 have hmn:m*n≤40000:=Vn h.lm h.ln
 have hnn:n*n≤40000:=Vn h.ln h.ln
 have hne:∀ x∈ws,x≠[]:=fun x hx=>by
  rw[h.w]at hx
  obtain⟨a,_,rfl⟩:=List.mem_map.1 hx
  exact Qkc a
 have hm2:∀ x∈encZ m n t s S,(tx x).length+2*ws.length≤(bZ ws).length+2:=fun x hx=>Qfc hne (by rw[h.w];exact List.mem_map_of_mem hx)
 have h0:=hm2 (m:Int) (by simp[encZ])
 have hl1:1≤(tx (m:Int)).length:=List.length_pos_iff.2 (Qkc _)
 have hcl:=Qif ws
 obtain⟨T,hTe⟩:∃ T,T=(bZ ws).length:=⟨_,rfl⟩
 unfold gy at hT
 rw[← hTe]at hm2 h0 hT
 have hb:∀ x∈encZ m n t s S,x.natAbs<256 ^ ((5*(T+2-2*ws.length)+11) / 12):=fun x hx=>by
  have h1:=hm2 x hx
  exact V6 (Qn2 x) (V0 (V4 dq oq) (Qn5 _))
 refine⟨(5*(T+2-2*ws.length)+11) / 12,_,by omega,?_,rfl,by omega,Q3x hb,?_⟩
 ·omega
 ·rw[← hc]
  exact Qpd (T:=T) (L:=T+2-2*ws.length) oq oq rfl rfl


theorem Q30 {w:World} {r q c:Nat} {A:Option Addr} {g:List (List Int)} (hg:Rec r q g) (h:WZ w (.slice A (r*q) c) (r*q) (bP r q (gE g))):jw w (.agg #[nv r,nv q,.slice A (r*q) c]) (gM r q g):=⟨_,rfl,by
 show WZ w _ (gM r q g).e.length g.flatten
 rw[show (gM r q g).e.length=r*q from QQ hg, ← Zj hg]
 exact h⟩


theorem Q4t (n:Int) {m:Int} (hm:0<m) : -m<n.tmod m∧n.tmod m<m:=by
 have h1:=Int.tmod_lt_of_pos n hm
 have h2:=Int.lt_tmod_of_pos n hm
 omega
theorem Qi3 (n:Int) {m:Int} (hm:0<m):(n.tmod m+m).tmod m=n % m:=by
 have h:=Q4t n hm
 rw[Int.tmod_eq_emod_of_nonneg oq]
 have h1:(n.tmod m+m) % m=n.tmod m % m:=by simp
 rw[h1]
 have h2:=Int.tmod_add_mul_tdiv n m
 rw[show n.tmod m=n+m*(-(n.tdiv m)) by rw[Int.mul_neg];omega,Int.add_mul_emod_self_left]

theorem Qmb (w:World) (n m:Int) (hm:0<m) (hb:m<1000000000000) :
  Calls Tryz.prog 43 #[iv n,iv m] w (aQ fun v w'=>Kp [] w w'∧v=iv (n % m)):=by
 have h:=Q4t n hm
 refine Qa [] [] aA [] Tryz.func43 rfl mixed (by kernel_rfl) Tryz.ntmps43 Tryz.results43 rfl ⟨by simp,by simp⟩ aA ?_
 simp only[toS,Qe,Qx,Qo,Qr,ay,Ql,Qy,aB]
 repeat' first|apply jS|apply jO|apply jN|apply jT|refine Q1 ?_|refine Q0 ?_|refine Q61 (h:=?_)|refine Qpi (h:=?_)|apply jR
 exact Qj rfl (fun a' w' st=>⟨st.kp,congrArg iv (Qi3 n hm)⟩)

def szF (L:List Int) (k:Nat):Int:=if L=[] then 0 else (L.getD ((k+k / L.length) % L.length) 0) % 13-6
def szZ (L:List Int) (r c:Nat):ZM:=⟨r,c,tab (r*c) (szF L)⟩
theorem Qk4 (L:List Int) {r c:Nat} (hr:r≤200) (hc:c≤200):gJ (szZ L r c):=⟨hr,hc,by simp[szZ,tab]⟩
theorem Qjb (L:List Int) (k:Nat) : -6≤szF L k∧szF L k≤6:=by
 unfold szF
 split
 ·decide
 ·generalize L.getD ((k+k / L.length) % L.length) 0=e
  omega
def szS (n:Nat) (L:List Int) (k:Nat):List Int:=tab n fun i=>if i<k then szF L i else 0
theorem Qh4 (n:Nat) (L:List Int):szS n L 0=tab n fun _=>0:=by
 unfold szS
 exact YF fun i _=>by simp
theorem Qdd {n k:Nat} {L:List Int} (h:n≤k∨L=[]):szS n L k=tab n (szF L):=by
 unfold szS
 refine YF fun i hi=>?_
 rcases h with h|h
 ·rw[if_pos oq]
 ·subst h;simp[szF]
theorem Qki {n k:Nat} {L:List Int} (hk:k<n):(szS n L k).set k (szF L k)=szS n L (k+1):=by
 unfold szS
 rw[Qdb]
 refine YF fun i hi=>?_
 by_cases h:i=k
 ·subst h;rw[if_pos rfl,if_pos oq]
 ·rw[if_neg h]
  by_cases h2:i<k
  ·rw[if_pos h2,if_pos oq]
  ·rw[if_neg h2,if_neg oq]

theorem Qg6 (w:World) (v:Value) (R C:Nat) (L:List Int) (hv:IsS w v R C L) :
  Calls Tryz.prog 14 #[v] w (aQ fun v w'=>Kp [] w w'∧Q5h (szZ L (R % 6) (C % 6)) w v w'):=by
 obtain⟨h1,h2,h3,E,rfl,hE⟩:=hv
 have hr6:R % 6<6:=Nat.mod_lt _ dq
 have hc6:C % 6<6:=Nat.mod_lt _ dq
 refine Qa [⟨5,2,[],[]⟩] [] aA [] Tryz.func14 rfl mixed (by kernel_rfl) Tryz.ntmps14 Tryz.results14 rfl ⟨by simp,by simp⟩ aA ?_
 simp only[toS,Qe,Qx,Qo,Qr,ay,Ql,Qy,aB]
 repeat' first|apply jS|apply jO|apply jN|refine Q2 ?_|refine Q7 ?_|refine Qh fun _=>?_|refine QM (h:=fun _=>?_)|apply jT
 rename_i b1 b2
 refine Q52 (i:=R) 6 rfl rfl rfl rfl oq ?_
 repeat' first|refine Q2 ?_|refine Q7 ?_|refine Yb (h:=?_)|fail
 refine Q52 (i:=C) 6 rfl rfl rfl rfl oq ?_
 repeat' first|refine Yb (h:=?_)|fail
 refine Qt (A:=[_,_]) (B:=[]) rfl au rfl aF rfl (fun w hk _=>Q49 (R % 6) (C % 6) oq oq w) fun w v w' _ _ _ hR=>?_
 obtain⟨N,Eo,hN,rfl,hO⟩:=hR
 obtain⟨Ao,co,rfl⟩:=hO.form
 refine⟨N,hN,?_⟩
 generalize R % 6=r at *
 generalize C % 6=c at *
 have hrc:r*c≤40000:=Vn (show r≤200 by omega) (show c≤200 by omega)
 repeat' first|apply jS|apply jO|apply jN|apply jT|refine Q0 ?_|refine Q6 ?_|refine Qh fun _=>?_|refine Q6 ?_|apply jB
 rename_i b3
 refine Qn (ι:=Nat × aj) ⟨fun z=>[(4,nv z.1),(3,.pointer (some ⟨b3,0,none⟩)),(2,.pointer (some ⟨b2,0,none⟩)),(1,.pointer (some ⟨b1,0,none⟩))],
  fun z=>[(b3,.cells #[nv r,nv c,.slice Ao (r*c) co] 28),(b2,.cells #[iv 0,iv 0,.slice none 0 0] 28),(b1,.cells #[.int .u8 (R:Int),.int .u8 (C:Int),E] 24)]++(z.2++[]),
  fun z=>z.1≤r*c∧aN z.2 (.slice Ao (r*c) co) (r*c) (szS (r*c) L z.1),fun z=>r*c-z.1⟩ (0,N) ⟨by dsimp only;omega,by rw[Qh4];exact hO⟩ aC QE (fun z hz=>?_)
 clear hO
 obtain⟨k,N⟩:=z
 obtain⟨hk,hO⟩:=hz
 dsimp only at hk hO ⊢
 by_cases hkk:k<r*c
 ·by_cases hL:0<L.length
  ·have hq1:k / L.length≤k:=Nat.div_le_self _ _
   have hlt:(k+k / L.length) % L.length<L.length:=Nat.mod_lt _ hL
   have hne:L≠[]:=fun e=>by subst e;exact Nat.lt_irrefl _ hL
   repeat' first|apply jS|apply jO|apply jN|apply jT|refine Q1 ?_|refine Q2 ?_|refine Q7 ?_|refine Zt (h:=?_)|refine Q3p (h:=?_)|refine Qp ?_|(refine Qg (h1:=?_) (h2:=?_)<;>intro hc<;>try omega)|(refine QU (h1:=?_) (h2:=?_)<;>intro hc<;>try omega)|apply jK|refine Q5 rfl ?_|apply jB
   refine XY [(b3,.cells #[nv r,nv c,.slice Ao (r*c) co] 28),(b2,.cells #[iv 0,iv 0,.slice none 0 0] 28),(b1,.cells #[.int .u8 (R:Int),.int .u8 (C:Int),E] 24)] QE ?_
   repeat' first|refine Q1 ?_|refine Q2 ?_|refine Q7 ?_|refine Qe7 (h:=?_)|refine Qkz (h:=?_)|refine Q3p (h:=?_)|refine Z8 (h:=?_)|refine W6 (h:=?_)|refine W8 (h:=?_)|fail
   refine Q9 au rfl aF rfl (fun w _ _=>Qmb w (L.getD ((k+k / L.length) % L.length) 0) 13 dq dq) fun w v w' _ _ _ hR=>?_
   subst hR
   have hF:L.getD ((k+k / L.length) % L.length) 0 % 13-6=szF L k:=by unfold szF;rw[if_neg hne]
   have hbd:=Qjb L k
   rw[← hF]at hbd
   generalize L.getD ((k+k / L.length) % L.length) 0 % 13=e at *
   repeat' first|refine X3 (h:=?_)|fail
   refine Q9 au rfl aF rfl (fun w _ _=>Yc w (e-6) oq oq) fun w v w' _ _ _ hR=>?_
   subst hR
   rw[hF]
   repeat' first|refine QY (h:=?_)|fail
   refine Q0a (A:=[_,_,_]) (u:=szF L k) hO rfl rfl au rfl rfl hkk (fun N' aX=>?_)
   rw[Qki hkk]at aX
   repeat' first|apply jO|apply jN|apply jT|refine Q1 ?_|refine Q0 ?_|refine Qd ?_|apply jW
   exact Q8 (k+1,N') ⟨by dsimp only;omega,aX⟩ aW aC QE
  ·repeat' first|apply jS|apply jO|apply jN|apply jT|refine Q1 ?_|refine Q2 ?_|refine Q7 ?_|refine Qm ?_|refine Zt (h:=?_)|refine Q3p (h:=?_)|refine Qp ?_|refine Q6 ?_|(refine Qg (h1:=?_) (h2:=?_)<;>intro hc<;>try omega)|(refine QU (h1:=?_) (h2:=?_)<;>intro hc<;>try omega)|refine Q6 ?_|apply jU|apply jE|apply jR|refine Q4 rfl ?_|apply Qc
   have hL0:L=[]:=List.eq_nil_of_length_eq_zero oq
   rw[Qdd (.inr hL0)]at hO
   exact Z0 1 rfl rfl rfl (fun a w' st=>⟨st.kp,N,st.bI rfl Qb,gB.mk' hO⟩)
 ·repeat' first|apply jS|apply jO|apply jN|apply jT|refine Q1 ?_|refine Q2 ?_|refine Q7 ?_|refine Qm ?_|refine Zt (h:=?_)|refine Qq ?_|refine Q6 ?_|(refine Qg (h1:=?_) (h2:=?_)<;>intro hc<;>try omega)|refine Q6 ?_|apply jU|apply jE|refine Q4 rfl ?_|apply Qc|refine QA ?_|apply jR
  rw[Qdd (.inl oq)]at hO
  exact Z0 1 rfl rfl rfl (fun a w' st=>⟨st.kp,N,st.bI rfl Qb,gB.mk' hO⟩)

def JV.set (J:JV) (f:FV):Nat→JV
 | 0=>{ J with u:=f }
 | 1=>{ J with ui:=f }
 | 2=>{ J with d:=f }
 | 3=>{ J with v:=f }
 | _=>{ J with vi:=f }
theorem Qh3 (L:List Int) {r c:Nat} (i j:Nat) (hi:i<r) (hj:j<c) (hr:r≤200) (hc:c≤200):(gE (Ym (szZ L r c)) i j).natAbs<256 ^ 1:=by
 rw[Q16 (Qk4 L hr hc) hi hj]
 show ((tab (r*c) (szF L)).getD (i*c+j) 0).natAbs<_
 rw[Q5s (Yn hi hj)]
 have:=Qjb L (i*c+j)
 omega
end Go.Proofs.YtbofgpenopcfaaaGreatDoor

