import Derived.Test.YtbofgpenopcfaaaGreatDoorMc
import Derived.Laws.CopyRow
import Derived.RangeFuncNested
import Derived.RangeFuncCalls
import Derived.RangeFuncLeaves
import Derived.RangeFuncBox
import Derived.Shelf.RegionOpen
import Derived.WalkKit
import Derived.OwnWalkIn
import Derived.TacticsInMore
import Derived.LoopNIn
import Derived.LoopIn
import Derived.Shelf.Abstract
set_option maxHeartbeats 16000000
namespace Go.Proofs.YtbofgpenopcfaaaGreatDoor
open Go Go.RowKit
set_option linter.unusedSimpArgs false
set_option linter.unusedVariables false
set_option linter.unusedSectionVars false

theorem Xe (n j:Nat):(tab n fun _=>0).getD j 0=0:=by
 by_cases h:j<n
 ·rw[List.getD,Q03 h];rfl
 ·rw[List.getD,List.getElem?_eq_none (by simp;omega)];rfl
theorem YI {b P c s x y a v:Nat} (hs:s=x+c+y) (h:v+P*c=a):(v+P*(s % b))+(P*b)*(s / b)=a+P*x+P*y:=by
 have h1:P*(s % b)+P*b*(s / b)=P*s:=by rw[Vk, ← Vm,Nat.mod_add_div]
 rw[Nat.add_assoc,h1,hs,Vm,Vm, ← h]
 omega
theorem aZ.head {N:aj} {b n k cap:Nat} {xs:List Nat} (h:aZ N (.slice (some ⟨b,0,none⟩) n cap) n xs) (hk:k≤n) (h0:0<n):aZ N (.slice (some ⟨b,0,none⟩) k cap) k (xs.take k):=by
 have hl:=h.len
 obtain⟨b',cap',rest,h1,rfl,h2,h3,h4⟩:=h.named h0
 simp only[Value.slice.injEq,Option.some.injEq,Addr.mk.injEq,and_true,true_and]at h1
 obtain⟨rfl,rfl⟩:=h1
 have e:ZJ xs rest=ZJ (xs.take k) ((xs.drop k).map uv++rest):=by
  apply Array.ext'
  show xs.map uv++rest=(xs.take k).map uv++((xs.drop k).map uv++rest)
  rw[← Vb, ← Vj,List.take_append_drop]
 rw[e]
 exact Q2g (by simp;omega) oq (by simp;omega) h4

theorem Qin (w:World) (v u:Value) (n k:Nat) (xs ys:List Nat) (hv:WU w v n xs) (hu:WU w u k ys) (hx:∀ x∈xs,x<W32) (hy:∀ x∈ys,x<W32) (hn:n≤16000000000000) (hk:k≤16000000000000) :
  Calls Tryz.prog 122 #[v,u] w (aQ fun v w'=>Kp [] w w'∧∃ N zs,New N w w'∧aZ N v zs.length zs∧dA W32 zs∧val W32 zs=val W32 xs+val W32 ys):=by
 have hlx:=hv.len
 have hly:=hu.len
 by_cases hlt:n<k
 ·refine Qa [] [] aA [] Tryz.func122 rfl mixed (by kernel_rfl) Tryz.ntmps122 Tryz.results122 rfl ⟨by simp,by simp⟩ aA ?_
  simp only[toS,Qe,Qx,Qo,Qr,ay,Ql,Qy,aB]
  repeat' first|apply jS|apply jO|apply jN|apply jT|refine Q1 ?_|refine Q0 ?_|refine Qd ?_|refine QW (h:=?_)|(refine Qg (h1:=?_) (h2:=?_)<;>intro hc<;>try omega)|refine Q5 rfl ?_
  refine Xf (n:=k+1) rfl rfl rfl rfl rfl oq oq (fun b5=>?_)
  have hO:=Y0 b5 (k+1) (by simp only[maxLen];omega)
  repeat' first|apply jS|apply jO|apply jN|apply jT|refine Q1 ?_|refine Q0 ?_|refine QW (h:=?_)|apply jB
  refine Qn (ι:=Nat × Nat × aj × List Nat) ⟨fun z=>[(22,nv z.1),(21,nv k),(6,uv z.2.1),(5,.slice (some ⟨b5,0,none⟩) (k+1) (k+1)),(0,u),(1,v)],fun z=>z.2.2.1++[],
   fun z=>z.1≤k∧aZ z.2.2.1 (.slice (some ⟨b5,0,none⟩) (k+1) (k+1)) (k+1) z.2.2.2∧(∀ x∈z.2.2.2,x<W32)∧z.2.1≤1∧val W32 (z.2.2.2.take z.1)+W32 ^ z.1*z.2.1=val W32 (ys.take z.1)+val W32 (xs.take z.1)∧∀ j,z.1≤j→z.2.2.2.getD j 0=0,fun z=>k-z.1⟩
   (0,0,_,_) ⟨V8 _,hO,fun x hx=>by obtain⟨a,_,rfl⟩:=List.mem_map.1 hx;decide,V8 _,by simp[val],fun j _=>Xe _ j⟩ aC QE (fun z hz=>?_)
  clear hO
  obtain⟨i,c,N,zs⟩:=z
  obtain⟨hi,hO,hz,hc1,hval,hzero⟩:=hz
  dsimp only at hi hO hz hc1 hval hzero ⊢
  have hlz:=hO.len
  by_cases hin:i<k
  ·have hxi:ys.getD i 0<4294967296:=QD (b:=W32) dq hy i
   have hyi:xs.getD i 0<4294967296:=QD (b:=W32) dq hx i
   by_cases hik:i<n
   ·repeat' first|apply jS|apply jO|apply jN|apply jT|refine Q1 ?_|refine Q0 ?_|refine Zd (h:=?_)|refine Yr (h:=?_)|refine QW (h:=?_)|refine Q11 (h:=?_)|refine X4 (h:=?_)|(refine Qg (h1:=?_) (h2:=?_)<;>intro hc<;>try omega)|apply jK|refine Q5 rfl ?_|apply jB
    refine Xx (j:=32) rfl rfl rfl rfl oq ?_
    repeat' first|refine Q0x (h:=?_)|fail
    refine Xw (A:=[]) hO rfl rfl trivial rfl rfl oq (fun N' aX=>?_)
    repeat' first|apply jO|apply jN|apply jT|refine Q1 ?_|refine Q0 ?_|refine Qd ?_|apply jW
    refine Q8 (i+1,_,N',_) ⟨by dsimp only;omega,aX,fun x hx=>?_,?_,?_,fun j hj=>?_⟩ aW aC QE
    ·rcases List.mem_or_eq_of_mem_set hx with h|rfl
     ·exact hz x h
     ·exact Nat.mod_lt _ dq
    ·dsimp only;omega
    ·dsimp only
     rw[QJ,QJ,QJ,Xd,QP oq,V9]
     have h:=YI (b:=W32) (P:=W32 ^ i) (c:=c) (s:=ys.getD i 0+c+xs.getD i 0) (x:=ys.getD i 0) (y:=xs.getD i 0) rfl hval
     rw[Nat.add_add_add_comm, ← Nat.add_assoc]
     exact h
    ·dsimp only at hj ⊢
     have:=hzero j oq
     rw[List.getD,List.getElem?_set_ne oq]
     exact this
   ·have hy0:xs.getD i 0=0:=by rw[List.getD,List.getElem?_eq_none oq];rfl
    repeat' first|apply jS|apply jO|apply jN|apply jT|refine Q1 ?_|refine Q0 ?_|refine Zd (h:=?_)|refine Yr (h:=?_)|refine QW (h:=?_)|refine Q11 (h:=?_)|refine X4 (h:=?_)|(refine Qg (h1:=?_) (h2:=?_)<;>intro hc<;>try omega)|apply jK|refine Q5 rfl ?_|refine Q4 rfl ?_|apply jB
    refine Xx (j:=32) rfl rfl rfl rfl oq ?_
    repeat' first|refine Q0x (h:=?_)|fail
    refine Xw (A:=[]) hO rfl rfl trivial rfl rfl oq (fun N' aX=>?_)
    repeat' first|apply jO|apply jN|apply jT|refine Q1 ?_|refine Q0 ?_|refine Qd ?_|apply jW
    refine Q8 (i+1,_,N',_) ⟨by dsimp only;omega,aX,fun x hx=>?_,?_,?_,fun j hj=>?_⟩ aW aC QE
    ·rcases List.mem_or_eq_of_mem_set hx with h|rfl
     ·exact hz x h
     ·exact Nat.mod_lt _ dq
    ·dsimp only;omega
    ·dsimp only
     rw[QJ,QJ,QJ,Xd,QP oq,V9]
     have h:=YI (b:=W32) (P:=W32 ^ i) (c:=c) (s:=ys.getD i 0+c) (x:=ys.getD i 0) (y:=xs.getD i 0) (by rw[hy0];rfl) hval
     rw[Nat.add_add_add_comm, ← Nat.add_assoc]
     exact h
    ·dsimp only at hj ⊢
     have:=hzero j oq
     rw[List.getD,List.getElem?_set_ne oq]
     exact this
  ·repeat' first|apply jS|apply jO|apply jN|apply jT|refine Q1 ?_|refine Q0x (h:=?_)|refine QW (h:=?_)|(refine Qg (h1:=?_) (h2:=?_)<;>intro hc<;>try omega)|apply jU|apply jE|refine Q4 rfl ?_|apply Qc
   refine Xw (A:=[]) hO rfl rfl trivial rfl rfl oq (fun N' aX=>?_)
   repeat' first|apply jS|apply jO|apply jN|refine Q1 ?_|apply jT
   refine Q9 trivial rfl rfl rfl (fun w hk hs=>YR w _ _ _ _ (aX.rd.at hk hs Qb) oq) fun w v w' _ _ _ hR=>?_
   obtain⟨q,hq,rfl,hnq⟩:=hR
   repeat' first|apply jN|apply jT|refine Q0 ?_|apply jR
   have hlt2:∀ x∈zs.set k c,x<W32:=fun x hx=>by
    rcases List.mem_or_eq_of_mem_set hx with h|rfl
    ·exact hz x h
    ·show x<4294967296;omega
   have hown:=aX.head hq oq
   rw[← hnq]at hown
   have jG:(nrm (zs.set k c)).length=q:=hown.len
   refine Qj rfl (fun a w' st=>⟨st.kp,N',nrm (zs.set k c),st.bI rfl Qb,by rw[jG];exact hown,dA.of hlt2,?_⟩)
   rw[Zo]
   have e1:zs.set k c=(zs.set k c).take (k+1):=(Vd (by simp;omega)).symm
   rw[e1,QJ,Xd,QP oq]
   obtain rfl:i=k:=by omega
   rw[hval,Vd oq,Vd oq]
   exact Nat.add_comm _ _
 ·refine Qa [] [] aA [] Tryz.func122 rfl mixed (by kernel_rfl) Tryz.ntmps122 Tryz.results122 rfl ⟨by simp,by simp⟩ aA ?_
  simp only[toS,Qe,Qx,Qo,Qr,ay,Ql,Qy,aB]
  repeat' first|apply jS|apply jO|apply jN|apply jT|refine Q1 ?_|refine Q0 ?_|refine Qd ?_|refine QW (h:=?_)|(refine Qg (h1:=?_) (h2:=?_)<;>intro hc<;>try omega)|apply jK|refine Q4 rfl ?_
  refine Xf (n:=n+1) rfl rfl rfl rfl rfl oq oq (fun b5=>?_)
  have hO:=Y0 b5 (n+1) (by simp only[maxLen];omega)
  repeat' first|apply jS|apply jO|apply jN|apply jT|refine Q1 ?_|refine Q0 ?_|refine QW (h:=?_)|apply jB
  refine Qn (ι:=Nat × Nat × aj × List Nat) ⟨fun z=>[(22,nv z.1),(21,nv n),(6,uv z.2.1),(5,.slice (some ⟨b5,0,none⟩) (n+1) (n+1)),(0,v),(1,u)],fun z=>z.2.2.1++[],
   fun z=>z.1≤n∧aZ z.2.2.1 (.slice (some ⟨b5,0,none⟩) (n+1) (n+1)) (n+1) z.2.2.2∧(∀ x∈z.2.2.2,x<W32)∧z.2.1≤1∧val W32 (z.2.2.2.take z.1)+W32 ^ z.1*z.2.1=val W32 (xs.take z.1)+val W32 (ys.take z.1)∧∀ j,z.1≤j→z.2.2.2.getD j 0=0,fun z=>n-z.1⟩
   (0,0,_,_) ⟨V8 _,hO,fun x hx=>by obtain⟨a,_,rfl⟩:=List.mem_map.1 hx;decide,V8 _,by simp[val],fun j _=>Xe _ j⟩ aC QE (fun z hz=>?_)
  clear hO
  obtain⟨i,c,N,zs⟩:=z
  obtain⟨hi,hO,hz,hc1,hval,hzero⟩:=hz
  dsimp only at hi hO hz hc1 hval hzero ⊢
  have hlz:=hO.len
  by_cases hin:i<n
  ·have hxi:xs.getD i 0<4294967296:=QD (b:=W32) dq hx i
   have hyi:ys.getD i 0<4294967296:=QD (b:=W32) dq hy i
   by_cases hik:i<k
   ·repeat' first|apply jS|apply jO|apply jN|apply jT|refine Q1 ?_|refine Q0 ?_|refine Zd (h:=?_)|refine Yr (h:=?_)|refine QW (h:=?_)|refine Q11 (h:=?_)|refine X4 (h:=?_)|(refine Qg (h1:=?_) (h2:=?_)<;>intro hc<;>try omega)|apply jK|refine Q5 rfl ?_|apply jB
    refine Xx (j:=32) rfl rfl rfl rfl oq ?_
    repeat' first|refine Q0x (h:=?_)|fail
    refine Xw (A:=[]) hO rfl rfl trivial rfl rfl oq (fun N' aX=>?_)
    repeat' first|apply jO|apply jN|apply jT|refine Q1 ?_|refine Q0 ?_|refine Qd ?_|apply jW
    refine Q8 (i+1,_,N',_) ⟨by dsimp only;omega,aX,fun x hx=>?_,?_,?_,fun j hj=>?_⟩ aW aC QE
    ·rcases List.mem_or_eq_of_mem_set hx with h|rfl
     ·exact hz x h
     ·exact Nat.mod_lt _ dq
    ·dsimp only;omega
    ·dsimp only
     rw[QJ,QJ,QJ,Xd,QP oq,V9]
     have h:=YI (b:=W32) (P:=W32 ^ i) (c:=c) (s:=xs.getD i 0+c+ys.getD i 0) (x:=xs.getD i 0) (y:=ys.getD i 0) rfl hval
     rw[Nat.add_add_add_comm, ← Nat.add_assoc]
     exact h
    ·dsimp only at hj ⊢
     have:=hzero j oq
     rw[List.getD,List.getElem?_set_ne oq]
     exact this
   ·have hy0:ys.getD i 0=0:=by rw[List.getD,List.getElem?_eq_none oq];rfl
    repeat' first|apply jS|apply jO|apply jN|apply jT|refine Q1 ?_|refine Q0 ?_|refine Zd (h:=?_)|refine Yr (h:=?_)|refine QW (h:=?_)|refine Q11 (h:=?_)|refine X4 (h:=?_)|(refine Qg (h1:=?_) (h2:=?_)<;>intro hc<;>try omega)|apply jK|refine Q5 rfl ?_|refine Q4 rfl ?_|apply jB
    refine Xx (j:=32) rfl rfl rfl rfl oq ?_
    repeat' first|refine Q0x (h:=?_)|fail
    refine Xw (A:=[]) hO rfl rfl trivial rfl rfl oq (fun N' aX=>?_)
    repeat' first|apply jO|apply jN|apply jT|refine Q1 ?_|refine Q0 ?_|refine Qd ?_|apply jW
    refine Q8 (i+1,_,N',_) ⟨by dsimp only;omega,aX,fun x hx=>?_,?_,?_,fun j hj=>?_⟩ aW aC QE
    ·rcases List.mem_or_eq_of_mem_set hx with h|rfl
     ·exact hz x h
     ·exact Nat.mod_lt _ dq
    ·dsimp only;omega
    ·dsimp only
     rw[QJ,QJ,QJ,Xd,QP oq,V9]
     have h:=YI (b:=W32) (P:=W32 ^ i) (c:=c) (s:=xs.getD i 0+c) (x:=xs.getD i 0) (y:=ys.getD i 0) (by rw[hy0];rfl) hval
     rw[Nat.add_add_add_comm, ← Nat.add_assoc]
     exact h
    ·dsimp only at hj ⊢
     have:=hzero j oq
     rw[List.getD,List.getElem?_set_ne oq]
     exact this
  ·repeat' first|apply jS|apply jO|apply jN|apply jT|refine Q1 ?_|refine Q0x (h:=?_)|refine QW (h:=?_)|(refine Qg (h1:=?_) (h2:=?_)<;>intro hc<;>try omega)|apply jU|apply jE|refine Q4 rfl ?_|apply Qc
   refine Xw (A:=[]) hO rfl rfl trivial rfl rfl oq (fun N' aX=>?_)
   repeat' first|apply jS|apply jO|apply jN|refine Q1 ?_|apply jT
   refine Q9 trivial rfl rfl rfl (fun w hk hs=>YR w _ _ _ _ (aX.rd.at hk hs Qb) oq) fun w v w' _ _ _ hR=>?_
   obtain⟨q,hq,rfl,hnq⟩:=hR
   repeat' first|apply jN|apply jT|refine Q0 ?_|apply jR
   have hlt2:∀ x∈zs.set n c,x<W32:=fun x hx=>by
    rcases List.mem_or_eq_of_mem_set hx with h|rfl
    ·exact hz x h
    ·show x<4294967296;omega
   have hown:=aX.head hq oq
   rw[← hnq]at hown
   have jG:(nrm (zs.set n c)).length=q:=hown.len
   refine Qj rfl (fun a w' st=>⟨st.kp,N',nrm (zs.set n c),st.bI rfl Qb,by rw[jG];exact hown,dA.of hlt2,?_⟩)
   rw[Zo]
   have e1:zs.set n c=(zs.set n c).take (n+1):=(Vd (by simp;omega)).symm
   rw[e1,QJ,Xd,QP oq]
   obtain rfl:i=n:=by omega
   rw[hval,Vd oq,Vd oq]

theorem aZ.head0 {N:aj} {b n k cap:Nat} {xs:List Nat} (h:aZ N (.slice (some ⟨b,0,none⟩) n cap) n xs) (hk:k≤n):aZ N (.slice (some ⟨b,0,none⟩) k cap) k (xs.take k):=by
 rcases Nat.eq_zero_or_pos n with h0|h0
 ·subst h0
  obtain rfl:k=0:=by omega
  have hl:=h.len
  rw[List.eq_nil_of_length_eq_zero hl]at h ⊢
  exact h
 ·exact h.head hk h0
theorem Q79 {P c c' d x y a v z:Nat} (hs:x+4294967296*c'=d+c+y) (h:a+P*c=v+z):(a+P*x)+(P*W32)*c'=(v+P*d)+(z+P*y):=by
 have h1:P*x+P*W32*c'=P*d+P*c+P*y:=by rw[Vk, ← Vm,show x+W32*c'=d+c+y from hs,Vm,Vm]
 omega

theorem Qft (w:World) (v u:Value) (n k:Nat) (xs ys:List Nat) (hv:WU w v n xs) (hu:WU w u k ys) (hx:∀ x∈xs,x<W32) (hy:∀ x∈ys,x<W32) (hn:n≤16000000000000) (hk:k≤n) (hle:val W32 ys≤val W32 xs) :
  Calls Tryz.prog 125 #[v,u] w (aQ fun v w'=>Kp [] w w'∧∃ N zs,New N w w'∧aZ N v zs.length zs∧dA W32 zs∧val W32 zs+val W32 ys=val W32 xs):=by
 have hlx:=hv.len
 have hly:=hu.len
 refine Qa [] [] aA [] Tryz.func125 rfl mixed (by kernel_rfl) Tryz.ntmps125 Tryz.results125 rfl ⟨by simp,by simp⟩ aA ?_
 simp only[toS,Qe,Qx,Qo,Qr,ay,Ql,Qy,aB]
 repeat' first|apply jS|apply jO|apply jN|refine Q1 ?_|refine Q0 ?_|refine QW (h:=?_)|apply jT
 refine Xf (n:=n) rfl rfl rfl rfl rfl oq oq (fun b5=>?_)
 have hO:=Y0 b5 n (by simp only[maxLen];omega)
 repeat' first|apply jS|apply jO|apply jN|apply jT|refine Q1 ?_|refine Q0 ?_|refine QW (h:=?_)|apply jB
 refine Qn (ι:=Nat × Nat × aj × List Nat) ⟨fun z=>[(14,nv z.1),(13,nv n),(6,uv z.2.1),(5,.slice (some ⟨b5,0,none⟩) n n),(0,v),(1,u)],fun z=>z.2.2.1++[],
  fun z=>z.1≤n∧aZ z.2.2.1 (.slice (some ⟨b5,0,none⟩) n n) n z.2.2.2∧(∀ x∈z.2.2.2,x<W32)∧z.2.1≤1∧val W32 (xs.take z.1)+W32 ^ z.1*z.2.1=val W32 (z.2.2.2.take z.1)+val W32 (ys.take z.1),fun z=>n-z.1⟩
  (0,0,_,_) ⟨V8 _,hO,fun x hx=>by obtain⟨a,_,rfl⟩:=List.mem_map.1 hx;decide,V8 _,by simp[val]⟩ aC QE (fun z hz=>?_)
 clear hO
 obtain⟨i,c,N,zs⟩:=z
 obtain⟨hi,hO,hz,hc1,hval⟩:=hz
 dsimp only at hi hO hz hc1 hval ⊢
 have hlz:=hO.len
 by_cases hin:i<n
 ·have hxi:xs.getD i 0<4294967296:=QD (b:=W32) dq hx i
  have hyi:ys.getD i 0<4294967296:=QD (b:=W32) dq hy i
  by_cases hik:i<k
  ·repeat' first|apply jS|apply jO|apply jN|apply jT|refine Q1 ?_|refine Q0 ?_|refine Zd (h:=?_)|refine Yr (h:=?_)|refine QW (h:=?_)|refine X4 (h:=?_)|refine Qe2 (h:=?_)|(refine Qg (h1:=?_) (h2:=?_)<;>intro hc<;>try omega)|apply jK|refine Q5 rfl ?_|apply jB
   refine Xx (j:=63) rfl rfl rfl rfl oq ?_
   repeat' first|refine Q0x (h:=?_)|fail
   refine Xw (A:=[]) hO rfl rfl trivial rfl rfl oq (fun N' aX=>?_)
   repeat' first|apply jO|apply jN|apply jT|refine Q1 ?_|refine Q0 ?_|refine Qd ?_|apply jW
   refine Q8 (i+1,_,N',_) ⟨by dsimp only;omega,aX,fun x hx=>?_,?_,?_⟩ aW aC QE
   ·rcases List.mem_or_eq_of_mem_set hx with h|rfl
    ·exact hz x h
    ·exact Nat.mod_lt _ dq
   ·dsimp only;omega
   ·dsimp only
    rw[QJ,QJ,QJ,Xd,QP oq,V9]
    exact Q79 oq hval
  ·have hy0:ys.getD i 0=0:=by rw[List.getD,List.getElem?_eq_none oq];rfl
   repeat' first|apply jS|apply jO|apply jN|apply jT|refine Q1 ?_|refine Q0 ?_|refine Zd (h:=?_)|refine Yr (h:=?_)|refine QW (h:=?_)|refine X4 (h:=?_)|refine Qe2 (h:=?_)|(refine Qg (h1:=?_) (h2:=?_)<;>intro hc<;>try omega)|apply jK|refine Q5 rfl ?_|refine Q4 rfl ?_|apply jB
   refine Xx (j:=63) rfl rfl rfl rfl oq ?_
   repeat' first|refine Q0x (h:=?_)|fail
   refine Xw (A:=[]) hO rfl rfl trivial rfl rfl oq (fun N' aX=>?_)
   repeat' first|apply jO|apply jN|apply jT|refine Q1 ?_|refine Q0 ?_|refine Qd ?_|apply jW
   refine Q8 (i+1,_,N',_) ⟨by dsimp only;omega,aX,fun x hx=>?_,?_,?_⟩ aW aC QE
   ·rcases List.mem_or_eq_of_mem_set hx with h|rfl
    ·exact hz x h
    ·exact Nat.mod_lt _ dq
   ·dsimp only;omega
   ·dsimp only
    rw[QJ,QJ,QJ,Xd,QP oq,V9]
    exact Q79 oq hval
 ·repeat' first|apply jS|apply jO|apply jN|apply jT|refine Q1 ?_|(refine Qg (h1:=?_) (h2:=?_)<;>intro hc<;>try omega)|apply jU|apply jE|refine Q4 rfl ?_|apply Qc
  refine Q9 trivial rfl rfl rfl (fun w hk hs=>YR w _ _ _ _ (hO.rd.at hk hs Qb) oq) fun w v w' _ _ _ hR=>?_
  obtain⟨q,hq,rfl,hnq⟩:=hR
  repeat' first|apply jN|apply jT|refine Q0 ?_|apply jR
  have hown:=hO.head0 hq
  rw[← hnq]at hown
  have jG:(nrm zs).length=q:=hown.len
  refine Qj rfl (fun a w' st=>⟨st.kp,N,nrm zs,st.bI rfl Qb,by rw[jG];exact hown,dA.of hz,?_⟩)
  rw[Zo]
  obtain rfl:i=n:=by omega
  rw[Vd oq,Vd oq,Vd oq]at hval
  have h1:=Yi hz
  rw[hlz]at h1
  have h2:c=0:=by
   rcases(show c=0∨c=1 by omega)with h|rfl
   ·exact h
   ·rw[Nat.mul_one]at hval;omega
  subst h2
  rw[Nat.mul_zero]at hval
  exact hval.symm


def fG (a b:Nat):Int:=if a<b then -1 else if b<a then 1 else 0

theorem Q75 {b:Nat} {l:List Nat} {i:Nat} (h:i<l.length):val b l=val b (l.take i)+b ^ i*(l.getD i 0+b*val b (l.drop (i+1))):=by
 have e:l=l.take i++(l.getD i 0::l.drop (i+1)):=by
  conv=>lhs;rw[← List.take_append_drop i l]
  rw[List.drop_eq_getElem_cons h]
  simp[List.getD,h]
 have h2:=congrArg (val b) e
 rw[YX,val]at h2
 rw[h2,List.length_take,Nat.min_eq_left (Nat.le_of_lt h)]
theorem Q5m {b:Nat} {l r:List Nat} {i:Nat} (hl:i<l.length) (hr:i<r.length) (hlt:∀ x∈l,x<b) (h:l.getD i 0<r.getD i 0) (hd:l.drop (i+1)=r.drop (i+1)):val b l<val b r:=by
 rw[Q75 hl,Q75 hr,hd]
 have h1:=Yi (b:=b) (l:=l.take i) fun x hx=>hlt x (List.mem_of_mem_take hx)
 rw[List.length_take,Nat.min_eq_left (Nat.le_of_lt hl)]at h1
 have h2:b ^ i*(l.getD i 0+b*val b (r.drop (i+1))+1)≤b ^ i*(r.getD i 0+b*val b (r.drop (i+1))):=V3 _ oq
 rw[Vm,Nat.mul_one]at h2
 omega
theorem YL {b:Nat} {l r:List Nat} (hb:0<b) (hl:dA b l) (hr:dA b r) (h:l.length<r.length):val b l<val b r:=by
 have h1:=Yi hl.lt
 have h2:=Q4r hb hr.nrm (fun e=>by subst e;cases h)
 have h3:b ^ l.length≤b ^ (r.length-1):=V4 hb oq
 omega

theorem Qmd (w:World) (v u:Value) (n k:Nat) (xs ys:List Nat) (hv:WU w v n xs) (hu:WU w u k ys) (hx:dA W32 xs) (hy:dA W32 ys) (hn:n≤16000000000000) (hk:k≤16000000000000) :
  Calls Tryz.prog 124 #[v,u] w (aQ fun v w'=>Kp [] w w'∧v=iv (fG (val W32 xs) (val W32 ys))):=by
 have hlx:=hv.len
 have hly:=hu.len
 refine Qa [] [] aA [] Tryz.func124 rfl mixed (by kernel_rfl) Tryz.ntmps124 Tryz.results124 rfl ⟨by simp,by simp⟩ aA ?_
 simp only[toS,Qe,Qx,Qo,Qr,ay,Ql,Qy,aB]
 rcases Nat.lt_trichotomy n k with h|h|h
 ·have hcc:=YL dq hx hy oq
  repeat' first|apply jS|apply jO|apply jN|apply jT|refine Q1 ?_|refine Q0 ?_|refine QW (h:=?_)|(refine Qg (h1:=?_) (h2:=?_)<;>intro hc<;>try omega)|apply jV|apply jR|refine Q5 rfl ?_|apply jB|apply Qz
  exact Qj rfl (fun a w' st=>⟨st.kp,by unfold fG;rw[if_pos hcc]⟩)
 ·repeat' first|apply jS|apply jO|apply jN|apply jT|refine Q1 ?_|refine Q0 ?_|refine X3 (h:=?_)|refine QW (h:=?_)|(refine Qg (h1:=?_) (h2:=?_)<;>intro hc<;>try omega)|(refine QU (h1:=?_) (h2:=?_)<;>intro hc<;>try omega)|apply jK|refine Q4 rfl ?_|apply jB|apply jW
  refine Qn (ι:=Nat) ⟨fun q=>[(5,iv ((q:Int)-1)),(0,v),(1,u)],fun _=>[],fun q=>q≤n∧xs.drop q=ys.drop q,fun q=>q⟩ n ⟨V7 _,by rw[List.drop_eq_nil_of_le oq,List.drop_eq_nil_of_le oq]⟩ aC QE (fun q hq=>?_)
  obtain⟨hqn,hd⟩:=hq
  dsimp only at hqn hd ⊢
  rcases q with _|q
  ·repeat' first|apply jS|apply jO|apply jN|apply jT|refine Q1 ?_|refine Q0 ?_|(refine Zs (h1:=?_) (h2:=?_)<;>intro hc<;>try omega)|apply jU|apply jE|apply jR|refine Q4 rfl ?_|apply Qc
   have:xs=ys:=hd
   exact Qj rfl (fun a w' st=>⟨st.kp,by unfold fG;rw[this,if_neg (Nat.lt_irrefl _),if_neg (Nat.lt_irrefl _)]⟩)
  ·have hiv:iv (((q+1:Nat):Int)-1)=nv q:=by
    show iv _=iv _
    congr 1
    omega
   rw[hiv]
   rcases Nat.lt_trichotomy (xs.getD q 0) (ys.getD q 0)with h1|h1|h1
   ·have hcc:=Q5m (b:=W32) oq oq hx.lt h1 hd
    repeat' first|apply jS|apply jO|apply jD|apply jN|apply jT|refine Q1 ?_|refine Q0 ?_|refine Zd (h:=?_)|refine Yr (h:=?_)|(refine Qg (h1:=?_) (h2:=?_)<;>intro hc<;>try omega)|(refine Zs (h1:=?_) (h2:=?_)<;>intro hc<;>try omega)|apply jV|apply jK|apply jR|refine Q5 rfl ?_|apply jB|apply Qz
    exact Qj rfl (fun a w' st=>⟨st.kp,by unfold fG;rw[if_pos hcc]⟩)
   ·repeat' first|apply jS|apply jO|apply jD|apply jN|apply jT|refine Q1 ?_|refine Q0 ?_|refine X3 (h:=?_)|refine Zd (h:=?_)|refine Yr (h:=?_)|(refine Qg (h1:=?_) (h2:=?_)<;>intro hc<;>try omega)|(refine QU (h1:=?_) (h2:=?_)<;>intro hc<;>try omega)|(refine Zs (h1:=?_) (h2:=?_)<;>intro hc<;>try omega)|apply jK|refine Q5 rfl ?_|refine Q4 rfl ?_|apply jB|apply jW
    refine Q8 q ⟨by omega,?_⟩ aW aC QE
    rw[List.drop_eq_getElem_cons (show q<xs.length by omega),List.drop_eq_getElem_cons (show q<ys.length by omega),hd]
    have e:xs[q]'oq=ys[q]'oq:=by
     simpa [List.getD,List.getElem?_eq_getElem (show q<xs.length by omega),List.getElem?_eq_getElem (show q<ys.length by omega)] using h1
    rw[e]
   ·have hcc:=Q5m (b:=W32) oq oq hy.lt h1 hd.symm
    repeat' first|apply jS|apply jO|apply jD|apply jN|apply jT|refine Q1 ?_|refine Q0 ?_|refine Zd (h:=?_)|refine Yr (h:=?_)|(refine Qg (h1:=?_) (h2:=?_)<;>intro hc<;>try omega)|(refine QU (h1:=?_) (h2:=?_)<;>intro hc<;>try omega)|(refine Zs (h1:=?_) (h2:=?_)<;>intro hc<;>try omega)|apply jV|apply jK|apply jR|refine Q5 rfl ?_|refine Q4 rfl ?_|apply jB|apply Qz
    exact Qj rfl (fun a w' st=>⟨st.kp,by unfold fG;rw[if_neg oq,if_pos hcc]⟩)
 ·have hcc:=YL dq hy hx oq
  repeat' first|apply jS|apply jO|apply jN|apply jT|refine Q1 ?_|refine Q0 ?_|refine QW (h:=?_)|(refine Qg (h1:=?_) (h2:=?_)<;>intro hc<;>try omega)|(refine QU (h1:=?_) (h2:=?_)<;>intro hc<;>try omega)|apply jV|apply jR|refine Q5 rfl ?_|refine Q4 rfl ?_|apply jB|apply Qz
  exact Qj rfl (fun a w' st=>⟨st.kp,by unfold fG;rw[if_neg oq,if_pos hcc]⟩)


theorem Xk {b:Nat}:∀ {l:List Nat} {j u:Nat},j<l.length→val b (l.set j u)+b ^ j*l.getD j 0=val b l+b ^ j*u
 | x::l,0,u,_=>by
  simp only[List.set_cons_zero,val,Nat.pow_zero,Nat.one_mul,List.getD_cons_zero]
  omega
 | x::l,j+1,u,h=>by
  have ih:=Xk (b:=b) (l:=l) (j:=j) (u:=u) (by simpa using h)
  simp only[List.set_cons_succ,val,List.getD_cons_succ,V9]
  have h2:=congrArg (b * ·) ih
  simp only[Vm]at h2
  have e:∀ z,b ^ j*b*z=b*(b ^ j*z):=fun z=>by rw[Va (b ^ j) b,Vk]
  rw[e,e]
  omega


theorem Qia {W P top second lv a b c lu U V:Nat} (ht:0<top) (hV:V=(top*W+second)*P+lv) (hU:U=((a*W+b)*W+c)*P+lu) (hc:c<W) (hlu:lu<P):U / V≤(a*W+b) / top:=by
 rw[Nat.le_div_iff_mul_le ht]
 have h1:U / V*V≤U:=Nat.div_mul_le_self U V
 have h2:top*W*P≤V:=by rw[hV,Vl];omega
 have h3:U / V*(top*W*P)≤U:=V0 (V3 _ h2) h1
 have h4:U<(a*W+b+1)*(W*P):=by
  have e1:(c+1)*P≤W*P:=V1 _ hc
  rw[Vl]at e1
  have e2:U=(a*W+b)*(W*P)+(c*P+lu):=by rw[hU,Vl,Vk (a*W+b) W P,Nat.add_assoc]
  rw[e2,Vl (a*W+b) 1]
  omega
 have h5:U / V*top*(W*P)<(a*W+b+1)*(W*P):=by
  have:U / V*(top*W*P)=U / V*top*(W*P):=by simp only[Vk]
  rw[← this]
  omega
 have h6:=Nat.lt_of_mul_lt_mul_right h5
 omega
theorem Qo5 {P V2 U3 lv lu U V g:Nat} (hV:V=V2*P+lv) (hU:U=U3*P+lu) (hlu:lu<P) (h:U3<g*V2):U / V<g:=by
 have h1:U<g*V:=by
  have h2:(U3+1)*P≤g*V2*P:=V1 _ h
  have h3:g*V2*P≤g*V:=by rw[hV,Vm,Vk];omega
  rw[Vl]at h2
  omega
 exact Nat.div_lt_of_lt_mul (by rw[Va];exact h1)
theorem Qo4 {P V2 U3 lv lu U V g:Nat} (hV:V=V2*P+lv) (hlv:lv<P) (hV2:0<V2) (hU:U=U3*P+lu) (h:g*V2≤U3) (hg:g≤V2+1):g≤U / V+1:=by
 rcases g with _|g
 ·exact V8 _
 have hP:0<P:=by omega
 have hVp:0<V:=by rw[hV];have:=Nat.mul_pos hV2 hP;omega
 have h1:g*V≤U:=by
  have h2:V≤(V2+1)*P:=by rw[Vl];omega
  have h3:g*V≤g*((V2+1)*P):=V3 _ h2
  have h4:g*(V2+1)≤(g+1)*V2:=by rw[Vm,Vl];omega
  have h5:g*(V2+1)*P≤(g+1)*V2*P:=V1 _ h4
  have h6:(g+1)*V2*P≤U3*P:=V1 _ h
  rw[← Vk]at h3
  omega
 have:g≤U / V:=(Nat.le_div_iff_mul_le hVp).2 h1
 omega
theorem Qo3 {W top second two c g rest:Nat} (hr:two=g*top+rest) (hg:g<W) (hs:second<W) (h:W≤rest∨g*second≤rest*W+c):g*(top*W+second)≤two*W+c:=by
 have e:two*W=g*top*W+rest*W:=by rw[hr,Vl]
 have e2:g*(top*W+second)=g*top*W+g*second:=by rw[Vm,Vk]
 rw[e,e2]
 rcases h with h|h
 ·have h1:g*second≤W*W:=Vn oq oq
  have h2:W*W≤rest*W:=V1 _ h
  omega
 ·omega

def digF (b:Nat):Nat→Nat→List Nat
 | 0,_=>[]
 | f+1,n=>if n=0 then [] else n % b::digF b f (n / b)
def dig (b n:Nat):List Nat:=digF b n n

theorem Q98 {b:Nat} (hb:2≤b):∀ (f n:Nat),n≤f→dA b (digF b f n)∧val b (digF b f n)=n
 | 0,n,h=>by
  obtain rfl:n=0:=by omega
  exact⟨dA.nil b,rfl⟩
 | f + 1, n, h => by
  rw[digF]
  by_cases h0:n=0
  ·rw[if_pos h0,h0];exact⟨dA.nil b,rfl⟩
  ·rw[if_neg h0]
   have hlt:n / b<n:=Nat.div_lt_self oq hb
   obtain⟨h1,h2⟩:=Q98 hb f (n / b) oq
   refine⟨⟨fun x hx=>?_,?_⟩,by rw[val,h2,Nat.mod_add_div]⟩
   ·rcases List.mem_cons.1 hx with rfl|hx
    ·exact Nat.mod_lt _ oq
    ·exact h1.lt x hx
   ·rw[nrm,h1.nrm]
    cases hc:digF b f (n / b)with
    | nil =>
     have hz:n / b=0:=by rw[← h2,hc];rfl
     have hm:n % b≠0:=by
      have:=Nat.mod_add_div n b
      rw[hz]at this
      omega
     show (if n % b=0 then [] else [n % b])=[n % b]
     rw[if_neg hm]
    | cons y s=>rfl
theorem Qff {b:Nat} (hb:2≤b) (n:Nat):dA b (dig b n):=(Q98 hb n n (V7 _)).1
theorem Q5l {b:Nat} (hb:2≤b) (n:Nat):val b (dig b n)=n:=(Q98 hb n n (V7 _)).2
theorem dA.eq_dig {b:Nat} (hb:2≤b) {l:List Nat} (h:dA b l):l=dig b (val b l):=h.inj (Qff hb _) (Q5l hb _).symm
theorem Qly {b n:Nat} (hb:2≤b):dig b n=[]↔n=0:=⟨fun h=>by rw[← Q5l hb n,h];rfl,fun h=>by rw[h];rfl⟩
theorem dA.bM {b:Nat} (hb:2≤b) {l:List Nat} (h:dA b l) {k:Nat} (hv:val b l<b ^ k):l.length≤k:=by
 by_cases h0:l=[]
 ·subst h0;exact V8 _
 ·have h1:=Q4r (V6 dq hb) h.nrm h0
  have h2:b ^ (l.length-1)<b ^ k:=V5 h1 hv
  have h3:=(Nat.pow_lt_pow_iff_right (show 1<b from hb)).1 h2
  omega
theorem Qch {b:Nat} (hb:2≤b) {n k:Nat} (hv:n<b ^ k):(dig b n).length≤k:=(Qff hb n).bM hb (by rw[Q5l hb];exact hv)
theorem dA.eq_nil {b:Nat} (hb:0<b) {l:List Nat} (h:dA b l):l=[]↔val b l=0:=⟨fun e=>by subst e;rfl,fun e=>Ve fun h0=>by
 exact absurd e (Nat.ne_of_gt (Q3a hb h.nrm h0))⟩

theorem Q12 {l:List Nat}:nrm (l.reverse)=(l.dropWhile (· == 0)).reverse:=by
 induction l with
 | nil=>rfl
 | cons x l ih =>
  rw[List.reverse_cons]
  by_cases hx:x=0
  ·subst hx;rw[Q3y,ih];rfl
  ·rw[Qam _ hx,List.dropWhile,show (x == 0)=false by simp[hx]];simp
def bV (l:List Nat):Nat:=val 256 l.reverse
theorem Y6 (l:List Nat) (x:Nat):bV (l++[x])=x+256*bV l:=by
 unfold bV
 rw[List.reverse_append]
 rfl
theorem WE:bV []=0:=rfl
theorem Qgb (l:List Nat):bV (l.dropWhile (· == 0))=bV l:=by
 unfold bV
 rw[← Q12,Zo]
theorem Q8j (l:List Nat) (i:Nat) (h:i<l.length):bV (l.take (i+1))=l.getD i 0+256*bV (l.take i):=by
 rw[List.take_add_one,XB (d:=0) h]
 exact Y6 _ _
theorem Qmo {l:List Nat} (h:∀ x∈l,x<256):bV l<256 ^ l.length:=by
 have:=Yi (b:=256) (l:=l.reverse) (by simpa using h)
 simpa [bV] using this
def mag (n:Nat):List Nat:=(dig 256 n).reverse
theorem Qo2 {n:Nat}:∀ x∈mag n,x<256:=fun x hx=>(Qff dq n).lt x (by simpa [mag] using hx)
theorem Q6w (n:Nat):bV (mag n)=n:=by unfold bV mag;rw[List.reverse_reverse];exact Q5l dq n
theorem Qo1 {l:List Nat} (h:∀ x∈l,x<256):l.dropWhile (· == 0)=mag (bV l):=by
 have h1:dA 256 ((l.dropWhile (· == 0)).reverse):=by
  rw[← Q12]
  exact dA.of (by simpa using h)
 have h2:=h1.eq_dig dq
 unfold mag
 have h3:val 256 (l.dropWhile (· == 0)).reverse=bV l:=Qgb l
 rw[← h3, ← h2,List.reverse_reverse]
theorem Qlj {n:Nat}:mag n=[]↔n=0:=by
 unfold mag
 rw[List.reverse_eq_nil_iff]
 exact Qly dq
theorem Qlk {n k:Nat} (h:n<256 ^ k):(mag n).length≤k:=by
 unfold mag
 rw[List.length_reverse]
 exact Qch dq h
theorem Qll {n m:Nat} (h:mag n=mag m):n=m:=by rw[← Q6w n,h,Q6w]
theorem Y1 (b:Nat) (l:List Nat) (k:Nat) (h:k≤l.length):val b l=val b (l.take k)+b ^ k*val b (l.drop k):=by
 conv=>lhs;rw[← List.take_append_drop k l]
 rw[YX,List.length_take,Nat.min_eq_left h]
theorem Z6 {b:Nat} {l:List Nat} {k:Nat} (h:k<l.length):val b (l.drop k)=l.getD k 0+b*val b (l.drop (k+1)):=by
 rw[List.drop_eq_getElem_cons h]
 simp[val,List.getD,h]
theorem Z5 {b:Nat} {l:List Nat} {k:Nat} (h:l.length≤k):val b (l.drop k)=0:=by
 rw[List.drop_eq_nil_of_le h];rfl
theorem Q15 (l:List Nat) (i j:Nat):(l.drop i).getD j 0=l.getD (i+j) 0:=by simp[List.getD]
theorem Qgs {W:Nat} {l:List Nat} {k:Nat} (h:k+3≤l.length) (h0:val W (l.drop (k+3))=0):val W l=((l.getD (k+2) 0*W+l.getD (k+1) 0)*W+l.getD k 0)*W ^ k+val W (l.take k):=by
 rw[Y1 W l k oq,Z6 oq,Z6 (show k+1<l.length by omega),Z6 (show k+1+1<l.length by omega),h0]
 simp only[Nat.mul_zero,Vp]
 rw[Va (_+_) (W ^ k),Nat.add_comm]
 congr 2
 rw[Va W,Nat.add_comm,Va W,Nat.add_comm (l.getD (k+1) 0)]
theorem Qgt {W:Nat} {l:List Nat} {k:Nat} (h:k+2=l.length):val W l=(l.getD (k+1) 0*W+l.getD k 0)*W ^ k+val W (l.take k):=by
 rw[Y1 W l k oq,Z6 oq,Z6 (show k+1<l.length by omega),Z5 oq]
 simp only[Nat.mul_zero,Vp]
 rw[Va (_+_) (W ^ k),Nat.add_comm]
 congr 2
 rw[Va W,Nat.add_comm]
theorem Yq {W:Nat} {l:List Nat} (h:∀ x∈l,x<W) {k:Nat} (hk:k≤l.length):val W (l.take k)<W ^ k:=by
 have:=Yi (b:=W) (l:=l.take k) fun x hx=>h x (List.mem_of_mem_take hx)
 rwa [List.length_take,Nat.min_eq_left hk]at this
theorem Qd5 {W:Nat} {l:List Nat} {k:Nat} (h:val W l<W ^ k) (hk:k≤l.length):val W (l.drop k)=0:=by
 rw[Y1 W l k hk]at h
 by_cases h0:val W (l.drop k)=0
 ·exact h0
 ·have:=Nat.le_mul_of_pos_right (W ^ k) (Nat.pos_of_ne_zero h0)
  omega

structure KnStep (W:Nat) (u v:List Nat) (i m U V top second a b c:Nat):Prop where
 lt:U<V*W
 hV:∃ lv,lv<W ^ (m-2)∧V=(top*W+second)*W ^ (m-2)+lv
 hU:∃ lu,lu<W ^ (m-2)∧U=((a*W+b)*W+c)*W ^ (m-2)+lu
 head:val W ((u.drop i).take (m+1))=U
 tail:val W (u.drop (i+m+1))=0
theorem Qln {W:Nat} {u v:List Nat} {i m:Nat} (hu:∀ x∈u,x<W) (hv:∀ x∈v,x<W) (hm:v.length=m) (hm2:2≤m) (hi:i+m<u.length) (h:val W (u.drop (i+1))<val W v) :
  KnStep W u v i m (val W (u.drop i)) (val W v) (v.getD (m-1) 0) (v.getD (m-2) 0) (u.getD (i+m) 0) (u.getD (i+m-1) 0) (u.getD (i+m-2) 0):=by
 have hud:∀ x∈u.drop i,x<W:=fun x hx=>hu x (List.mem_of_mem_drop hx)
 have hVlt:val W v<W ^ m:=by have:=Yi hv;rwa [hm]at this
 have e0:=Z6 (b:=W) (l:=u) (k:=i) oq
 have hx0:u.getD i 0<W:=hu _ (QV oq)
 have hlt:val W (u.drop i)<val W v*W:=by
  rw[e0]
  have:=V3 W h
  rw[Nat.mul_succ]at this
  rw[Va _ W]
  omega
 have hlt2:val W (u.drop i)<W ^ (m+1):=by
  rw[V9]
  exact V6 hlt (V1 _ (Nat.le_of_lt hVlt))
 have hlen:(u.drop i).length=u.length-i:=by simp
 have h0:=Qd5 hlt2 oq
 refine⟨hlt,⟨_,Yq hv oq,?_⟩,⟨_,Yq hud (k:=m-2) oq,?_⟩,?_,?_⟩
 ·have:=Qgt (W:=W) (l:=v) (k:=m-2) oq
  rwa [show m-2+1=m-1 by omega]at this
 ·have:=Qgs (W:=W) (l:=u.drop i) (k:=m-2) oq (by rwa [show m-2+3=m+1 by omega])
  rw[Q15,Q15,Q15]at this
  rwa [show i+(m-2+2)=i+m by omega,show i+(m-2+1)=i+m-1 by omega,show i+(m-2)=i+m-2 by omega]at this
 ·have:=Y1 W (u.drop i) (m+1) oq
  rw[h0]at this
  omega
 ·rw[List.drop_drop]at h0
  rwa [show i+(m+1)=i+m+1 by omega]at h0
def bC (p:Bool) (n:Nat):Int:=if p then -(n:Int) else n
theorem YY (p:Bool) (n:Nat):(bC p n).natAbs=n:=by cases p<;>simp[bC]
theorem Qds (p:Bool) (n:Nat):decide (bC p n<0)=(p && decide (n≠0)):=by
 cases p
 ·simp[bC]
 ·by_cases h:n=0
  ·subst h;rfl
  ·simp[bC,h];omega
theorem Qha (z:Int):bC (decide (z<0)) z.natAbs=z:=by
 unfold bC
 by_cases h:z<0
 ·simp only[h,decide_true,if_true];omega
 ·simp only[h,decide_false,Bool.false_eq_true,if_false];omega
theorem Qdr (p:Bool) (n:Nat):bC (!p) n = -bC p n:=by cases p<;>simp[bC]
theorem Qdu (p:Bool) (x y:Nat):bC p (x+y)=bC p x+bC p y:=by cases p<;>simp[bC];omega
theorem Q9x {p q:Bool} {x y:Nat} (h:p≠q) (hxy:x<y):bC q (y-x)=bC p x+bC q y:=by cases p<;>cases q<;>simp_all [bC]<;>omega
theorem Q9w {p q:Bool} {x y:Nat} (h:p≠q) (hxy:¬x<y):bC p (x-y)=bC p x+bC q y:=by cases p<;>cases q<;>simp_all [bC]<;>omega
theorem Qdt (p q:Bool) (x y:Nat):bC (p != q) (x*y)=bC p x*bC q y:=by cases p<;>cases q<;>simp[bC,Int.neg_mul,Int.mul_neg]
theorem YS (p:Bool):bC p 0=0:=by cases p<;>rfl
theorem Q05 (p:Bool) (n:Nat):bC p n=0↔n=0:=by cases p<;>simp[bC]

theorem Q53 {a b q r:Int} (h:a=q*b+r) (h0:0≤r) (h1:r<b.natAbs):q=a / b∧r=a % b:=by
 have hb:b≠0:=by omega
 have e:=Int.mul_ediv_add_emod a b
 have m0:=Int.emod_nonneg a hb
 have m1:a % b<b.natAbs:=Int.emod_lt a hb
 have key:(q-a / b)*b=a % b-r:=by
  rw[Int.sub_mul,Int.mul_comm (a / b) b];omega
 have:q=a / b:=by
  refine Ve fun hne=>?_
  have h2:1≤(q-a / b).natAbs:=by omega
  have h3:((q-a / b)*b).natAbs=(q-a / b).natAbs*b.natAbs:=Int.natAbs_mul _ _
  have h4:b.natAbs≤(q-a / b).natAbs*b.natAbs:=Nat.le_mul_of_pos_left _ h2
  rw[key]at h3
  omega
 refine⟨this,?_⟩
 rw[this]at key
 simp at key
 omega

theorem Qef (p q:Bool) (x y n r:Nat) (hy:0<y) (hn:x=n*y+r) (hr:r<y) :
  (p=true∧0<r→bC (p != q) (n+1)=bC p x / bC q y∧((y-r:Nat):Int)=bC p x % bC q y) ∧
  (¬(p=true∧0<r)→bC (p != q) n=bC p x / bC q y∧(r:Int)=bC p x % bC q y):=by
 constructor
 ·rintro⟨rfl,h0⟩
  refine Q53 ?_ oq (by rw[YY];omega)
  have e:(x:Int)=n*y+r:=by exact_mod_cast hn
  have e2:((y-r:Nat):Int)=y-r:=by omega
  rw[e2]
  cases q
  ·simp only[bC,Bool.true_bne,Bool.not_false,if_true,Bool.false_eq_true,if_false]
   rw[e];push_cast;rw[Int.neg_mul,Int.add_mul,Int.one_mul];omega
  ·simp only[bC,Bool.true_bne,Bool.not_true,if_true,Bool.false_eq_true,if_false]
   rw[e];push_cast;rw[Int.mul_neg,Int.add_mul,Int.one_mul];omega
 ·intro h
  have e:(x:Int)=n*y+r:=by exact_mod_cast hn
  refine Q53 ?_ oq (by rw[YY];omega)
  cases p
  ·cases q
   ·simpa [bC] using e
   ·simp only[bC,Bool.false_bne,if_true,Bool.false_eq_true,if_false]
    rw[e,Int.neg_mul_neg]
  ·have:r=0:=by
    refine Ve fun hne=>h ⟨rfl,by omega⟩
   subst this
   cases q
   ·simp only[bC,Bool.true_bne,Bool.not_false,if_true,Bool.false_eq_true,if_false]
    rw[e,Int.neg_mul];omega
   ·simp only[bC,Bool.true_bne,Bool.not_true,if_true,Bool.false_eq_true,if_false]
    rw[e,Int.mul_neg];omega

structure GcdP (a b g x y:Int):Prop where
 e:g=Int.gcd a b
 z:b=0→x=a.sign∧y=0
 n:b≠0→0≤x∧x*g<b.natAbs∧x*a+y*b=g
structure GI (a b g h x u:Int):Prop where
 ex:∃ y,x*a+y*b=g
 eu:∃ v,u*a+v*b=h
 gcd:Int.gcd g h=Int.gcd a b
 g0:0≤g
 h0:0≤h
 sz:x.natAbs*h.natAbs+u.natAbs*g.natAbs≤3*b.natAbs


section
variable {c:Cx} {Q:Exit→Act→World→Prop} {m:Mode} {F:ak} {H:aj} {r:List bT} {g:Option (Option Tmp × Bool)} {ns:Bool} {d:Tmp} {ty t t':TypeId} {x y:Operand} {i j:Nat}

theorem Q5x {k:IntKind} (hd:Qw c.n (some d)=true:=by exact rfl) (hg:Qi F g=some true:=by exact rfl) (hx:ev F x=some (uv i):=by exact rfl) (hy:ev F y=some (.int k 32):=by exact rfl)
  (h:JO c Q m r ((d,uv (i / 4294967296))::F) H):JO c Q m (⟨some d,.binOp .shr t x y t',ty,g,.bg,ns⟩::r) F H :=
 Xx (j:=32) hd hg hx hy oq (by rw[show (2:Nat) ^ 32=4294967296 from rfl];exact h)
theorem Q3o {k:IntKind} (hd:Qw c.n (some d)=true:=by exact rfl) (hg:Qi F g=some true:=by exact rfl) (hx:ev F x=some (uv i):=by exact rfl) (hy:ev F y=some (.int k 32):=by exact rfl) (hb:i<4294967296:=by(first|assumption|omega))
  (h:JO c Q m r ((d,uv (i*4294967296))::F) H):JO c Q m (⟨some d,.binOp .shl t x y t',ty,g,.bg,ns⟩::r) F H :=
 Q3n (j:=32) hd hg hx hy oq (by rw[show (2:Nat) ^ 32=4294967296 from rfl,Nat.mod_eq_of_lt oq];exact h)
theorem or32 {i j:Nat} (hj:j<4294967296):i*4294967296 ||| j=i*4294967296+j:=by
 have:=Nat.two_pow_add_eq_or_of_lt (i:=32) (b:=j) (by simpa using hj) i
 rw[show (2:Nat) ^ 32=4294967296 from rfl,Va]at this
 exact this.symm
theorem Qa4 (hd:Qw c.n (some d)=true:=by exact rfl) (hg:Qi F g=some true:=by exact rfl) (hx:ev F x=some (uv (i*4294967296)):=by exact rfl) (hy:ev F y=some (uv j):=by exact rfl) (hb:i<4294967296∧j<4294967296:=by(first|assumption|omega|exact⟨by assumption,by assumption⟩))
  (h:JO c Q m r ((d,uv (i*4294967296+j))::F) H):JO c Q m (⟨some d,.binOp .or t x y t',ty,g,.bg,ns⟩::r) F H :=
 Qns hd hg hx hy oq (by rw[or32 hb.2];exact h)
theorem Qc6 (s:Nat) (hd:Qw c.n (some d)=true) (hg:Qi F g=some true) (hx:ev F x=some (uv i)) (hy:ev F y=some (uv j)) (hb:i<18446744073709551616∧j<18446744073709551616) (hs:i ||| j=s)
  (h:JO c Q m r ((d,uv s)::F) H):JO c Q m (⟨some d,.binOp .or t x y t',ty,g,.bg,ns⟩::r) F H :=
 Qns hd hg hx hy hb (by rw[hs];exact h)
end

theorem aZ.hd {N:aj} {A:Option Addr} {n k cap:Nat} {xs:List Nat} (h:aZ N (.slice A n cap) n xs) (hk:k≤n):aZ N (.slice A k cap) k (xs.take k):=by
 have hl:=h.len
 obtain⟨h1,⟨h2,h3,h4⟩|⟨b,cap',cur,h2,h3,h4,h5,h6,h7⟩⟩:=h
 ·subst h4
  subst h3
  obtain rfl:k=0:=by omega
  have h0:xs=[]:=List.eq_nil_of_length_eq_zero hl
  subst h0
  rw[h2]
  exact aZ.nil
 ·simp only[Value.slice.injEq,true_and]at h2
  obtain⟨rfl,rfl⟩:=h2
  refine⟨by simp;omega,.inr ⟨b,cap,cur,rfl,h3,by omega,h5,h6,?_⟩⟩
  rw[Nat.mul_one]at h7 ⊢
  rw[List.map_take, ← h7,List.take_take,Nat.min_eq_left hk]

theorem Q7s {W P V V' x y c z s A:Nat} (hV:V'+P*z=V+P*(s % W)) (hs:s=z+x*y+c) (h:V+P*c=A):V'+P*W*(s / W)=A+P*(x*y):=by
 have h1:P*(s % W)+P*W*(s / W)=P*s:=by rw[Vk, ← Vm,Nat.mod_add_div]
 have h2:P*s=P*z+P*(x*y)+P*c:=by rw[hs,Vm,Vm]
 omega
theorem Q7t {x y:Nat} (hx:x<4294967296) (hy:y<4294967296):x*y≤18446744065119617025:=by
 have:=Vn (show x≤4294967295 by omega) (show y≤4294967295 by omega)
 omega
theorem getD_set_ne {l:List Nat} {i j u:Nat} (h:i≠j):(l.set i u).getD j 0=l.getD j 0:=by
 rw[List.getD,List.getElem?_set_ne h];rfl
theorem Yj {b:Nat} {l:List Nat} {i u:Nat} (hl:∀ x∈l,x<b) (hu:u<b):∀ x∈l.set i u,x<b:=fun x hx=>by
 rcases List.mem_or_eq_of_mem_set hx with h|rfl
 ·exact hl x h
 ·exact hu
theorem We (b n:Nat):val b (tab n fun _=>0)=0:=by
 have key:∀ l:List Nat,(∀ x∈l,x=0)→val b l=0:=by
  intro l
  induction l with
  | nil=>intro _;rfl
  | cons x l ih=>intro h;rw[val,h x aA,ih fun y hy=>h y (Vc _ hy)];simp
 refine key _ fun x hx=>?_
 obtain⟨a,_,rfl⟩:=List.mem_map.1 hx
 rfl


def YP (o k:Nat) (ys xs:List Nat):List Nat:=xs.take o++(ys.take k++xs.drop (o+k))

theorem Q8s (o:Nat) (ys xs:List Nat):YP o 0 ys xs=xs:=by simp[YP]
theorem Qbz {o k:Nat} {ys xs:List Nat} (hk:k≤ys.length) (ho:o+k≤xs.length):(YP o k ys xs).length=xs.length:=by simp[YP];omega
section
variable {c:Cx} {Q:Exit→Act→World→Prop} {m:Mode} {F:ak} {H:aj} {r:List bT} {g:Option (Option Tmp × Bool)} {ns:Bool} {d:Tmp} {ty t t':TypeId} {x y:Operand}

end

theorem Q71 {w:World} {b o k cc:Nat} {us:List Nat} {rest:List Value} {T:TypeId} {fz:Nat × Nat} (h:w.heap[b]?=some (.cells (ZJ us rest) T fz)) (ho:o+k≤us.length) (hc:k≤cc):WU w (.slice (some ⟨b,o,none⟩) k cc) k ((us.drop o).take k):=by
 refine⟨by simp;omega,_,cc,rfl,hc,fun h0=>⟨⟨b,o,rfl⟩,fun j u hu=>?_⟩⟩
 rw[Wf]
 refine Z4 h ?_
 rw[List.map_take,List.map_drop,List.getElem?_take]at hu
 split at hu
 ·rw[List.getElem?_drop]at hu
  have e:(ZJ us rest)[o+j]?=(us.map uv++rest)[o+j]?:=by simp[ZJ]
  rw[e]
  rw[List.getElem?_append_left (by simp;omega)]
  exact hu
 ·cases hu

section
variable {c:Cx} {Q:Exit→Act→World→Prop} {m:Mode} {F:ak} {H:aj} {r:List bT} {g:Option (Option Tmp × Bool)} {ns:Bool} {d:Tmp} {ty t t':TypeId} {x y:Operand}

theorem Qjh {A B:aj} {b:Nat} {cur new:Array Value} {T:TypeId} {op:Op} {dd:Option Tmp} {v:Value} (hH:H=A++([(b,.cells cur T (0,0))]++B)) (hm:m.aO ns r) (hd:Qw c.n dd=true) (hg:Qi F g=some true)
  (hx:∀ a w,St c F H a w→(execOp a.eval ⟨dd,op,ty, "",#[],none⟩).run c.P w=.ok (.value v) (w.setRow b new))
  (h:JO c Q m.spent r (dN F dd v) (A++([(b,.cells new T (0,0))]++B))):JO c Q m (⟨dd,op,ty,g,.seq,ns⟩::r) F H:=by
 subst hH
 refine⟨⟨hd,.inr ⟨hg,fun a w st hs=>?_⟩⟩⟩
 unfold Oper.wp bT.oper
 rw[hx a w st]
 have hp:(A++([(b,Obj.cells cur T (0,0))]++B)).Perm ((A++B)++[(b,Obj.cells cur T (0,0))]):=(QX A _ B).symm
 have hbw:w.heap[b]?=some (.cells cur T (0,0)):=st.hs.blk (b,.cells cur T (0,0)) aA
 obtain⟨st',hstep,hkk⟩:=ZV (w':=w.setRow b new) (N':=[(b,.cells new T (0,0))]) st hp aA (fun q hq=>by cases List.mem_singleton.1 hq;exact setRow_heap w b _ _ _ _ hbw) (fun k hk=>.inl hk) (fun q _ hq=>setRow_other w b q _ (fun e=>hq (by subst e;simp[keys]))) (by simp[World.setRow]) rfl rfl rfl
 refine⟨hstep,_,_,m.spent,(st'.perm (QX A _ B)).put v hd,fun k hk'=>hkk k ?_,Za hm,h.h⟩
 obtain⟨q,hq,rfl⟩:=List.mem_map.1 hk'
 exact List.mem_map.2 ⟨q,(QX A _ B).mem_iff.2 hq,rfl⟩

theorem Q7d {us ys:List Nat} {rest:List Value} {o k:Nat} (ho:o+k≤us.length):((ZJ us rest).toList.take o++(ys.take k).map uv++(ZJ us rest).toList.drop (o+k)).toArray=ZJ (YP o k ys us) rest:=by
 apply Array.ext'
 show (us.map uv++rest).take o++(ys.take k).map uv++(us.map uv++rest).drop (o+k)=(YP o k ys us).map uv++rest
 rw[List.take_append_of_le_length (by simp;omega),List.drop_append_of_le_length (by simp;omega)]
 simp[YP,List.map_take,List.map_drop]

theorem Qhn {A B:aj} {b o n cc:Nat} {us:List Nat} {rest:List Value} {T:TypeId} [dh c.P t 126] [TE c.P 126 1 8 #[(.int .u64 0)]] (hH:H=A++([(b,.cells (ZJ us rest) T (0,0))]++B)) (hm:m.aO ns r) (hg:Qi F g=some true) (hx:ev F x=some (.slice (some ⟨b,o,none⟩) n cc))
  (hn:0<n) (ho:o+n≤us.length) (h:JO c Q m.spent r F (A++([(b,.cells (ZJ (YP o n (List.replicate n 0) us) rest) T (0,0))]++B))) :
  JO c Q m (⟨none,.call ⟨.builtin .clear,#[x],#[t]⟩,ty,g,.seq,ns⟩::r) F H:=by
 refine Qjh (v:=.tuple #[]) hH hm rfl hg (fun a w st=>?_) h
 obtain⟨i,z,hi,hi1,hi2,hz,hzc⟩:=TE.info (P:=c.P) (e:=126) (sz:=1) (bytes:=8) (zc:=#[(.int .u64 0)])
 have hbw:w.heap[b]?=some (.cells (ZJ us rest) T (0,0)):=st.hs.blk (b,_) (by rw[hH];simp)
 have hargs:(#[x]:Array Operand).map a.eval=#[.slice (some ⟨b,o,none⟩) n cc]:=by simp[st.fr.ev hx]
 have hst:=run_storeCells_at c.P b o T ((List.replicate n 0).map uv) 0 (ZJ us rest) w hbw (by rw[Q1n];simp;omega) (fun u hu=>by obtain⟨q,_,rfl⟩:=List.mem_map.1 hu;rfl)
 have e:=Q7d (ys:=List.replicate n 0) (rest:=rest) ho
 rw[Vd (l:=List.replicate n 0) (i:=n) aA]at e
 rw[List.length_map,List.length_replicate,Vp,e]at hst
 rw[List.map_replicate]at hst
 have hzl:(Builtin.zeroCells #[(.int .u64 0)] n).toList=List.replicate n (uv 0):=by
  simp only[Builtin.zeroCells]
  apply List.ext_getElem
  ·simp
  ·intro i h1 h2
   simp[Nat.mod_one]
 obtain⟨k,rfl⟩:∃ k,n=k+1:=⟨n-1,by omega⟩
 have ht:=dh.und (P:=c.P) (t:=t) (e:=126)
 have hzv:(zeroValue 126).run c.P w=.ok z w:=by simp[zeroValue,typeInfo,hi,hz]
 have hrun:(Builtin.clear_ #[t] ty #[.slice (some ⟨b,o,none⟩) (k+1) cc]).run c.P w=.ok (.tuple #[]) (w.setRow b (ZJ (YP o (k+1) (List.replicate (k+1) 0) us) rest)):=by
  simp[Builtin.clear_,run_underlying ht,hzv,hzc,hzl,hst]
 show (do let d ← resolve a.eval ⟨.builtin .clear,#[x],#[t]⟩ ty;invoke d.target d.args).run c.P w=_
 simp only[resolve,Sem.run_bind,Sem.run_pure,Result.andThen_ok,invoke,builtin,hargs]
 simp[hrun]

theorem Ql2 {A B N2:aj} {b o n cc k:Nat} {us ys:List Nat} {rest:List Value} {T:TypeId} {vs:Value} [dh c.P t 126] [TE c.P 126 1 8 #[(.int .u64 0)]] (hH:H=A++([(b,.cells (ZJ us rest) T (0,0))]++B)) (h2:RdU c N2 vs k ys) (eH:HSub N2 H) (hm:m.aO ns r) (hd:Qw c.n (some d)=true) (hg:Qi F g=some true)
  (hx:ev F x=some (.slice (some ⟨b,o,none⟩) n cc)) (hy:ev F y=some vs) (hk:k≤n) (ho:o+n≤us.length) (h:JO c Q m.spent r ((d,goInt k)::F) (A++([(b,.cells (ZJ (YP o k ys us) rest) T (0,0))]++B))) :
  JO c Q m (⟨some d,.call ⟨.builtin .copy,#[x,y],#[t,t]⟩,ty,g,.seq,ns⟩::r) F H:=by
 refine Qjh (v:=goInt k) hH hm hd hg (fun a w st=>?_) h
 obtain⟨i,z,hi,hi1,_⟩:=TE.info (P:=c.P) (e:=126) (sz:=1) (bytes:=8) (zc:=#[(.int .u64 0)])
 have hyl:=h2.len
 obtain⟨_,A2,c2,rfl,_,hrd⟩:=h2
 have hbw:w.heap[b]?=some (.cells (ZJ us rest) T (0,0)):=st.hs.blk (b,_) (by rw[hH];simp)
 have hargs:(#[x,y]:Array Operand).map a.eval=#[.slice (some ⟨b,o,none⟩) n cc,.slice A2 k c2]:=by simp[st.fr.ev hx,st.fr.ev hy]
 have hrun:(Builtin.copy_ #[t,t] ty #[.slice (some ⟨b,o,none⟩) n cc,.slice A2 k c2]).run c.P w=.ok (goInt k) (w.setRow b (ZJ (YP o k ys us) rest)):=by
  rcases Nat.eq_zero_or_pos k with h0|h0
  ·subst h0
   rw[Q8s,setRow_self w b _ _ _ hbw]
   cases A2<;>simp[Builtin.copy_,run_underlying (dh.und (P:=c.P) (t:=t)),Builtin.lenOf,Builtin.firstCells,sizeOf,typeInfo,hi,loadCells,loadCellsFrom,storeCells]
  ·obtain⟨⟨b2,o2,rfl⟩,hcell⟩:=hrd h0
   have hlt:(ys.take k).length=k:=by simp;omega
   have hr:=run_copy_row (P:=c.P) w t t ty 126 b o n cc ⟨b2,o2,none⟩ k c2 (ZJ us rest) T ((ys.take k).map uv) (dh.und (P:=c.P) (t:=t)) (by rw[hi];simp[hi1]) hbw (by rw[List.length_map,hlt];exact(Nat.min_eq_left hk).symm)
    (fun j u hu => by
     rw[ZD]
     refine hcell w ⟨st.kp,eH.aV st.hs⟩ j u ?_
     rw[List.map_take,List.getElem?_take]at hu
     split at hu
     ·exact hu
     ·cases hu) (by rw[List.length_map,hlt,Q1n];omega) (fun u hu=>by obtain⟨q,_,rfl⟩:=List.mem_map.1 hu;rfl)
   rw[List.length_map,hlt,Q7d oq]at hr
   exact hr
 show (do let d ← resolve a.eval ⟨.builtin .copy,#[x,y],#[t,t]⟩ ty;invoke d.target d.args).run c.P w=_
 simp only[resolve,Sem.run_bind,Sem.run_pure,Result.andThen_ok,invoke,builtin,hargs]
 simp[hrun]
end


theorem Qid {H:aj} {w:World} {b b':Nat} {o o':Obj} (h:aG H w) (k k':Nat) (hk:H[k]?=some (b,o)) (hk':H[k']?=some (b',o')) (hne:k≠k'):b≠b':=by
 intro e
 subst e
 have e1:(H.map (·.1))[k]?=some b:=by simp[hk]
 have e2:(H.map (·.1))[k']?=some b:=by simp[hk']
 have hl:=(List.getElem?_eq_some_iff.1 e1).1
 exact hne ((List.getElem?_inj hl h.nd).1 (e1.trans e2.symm))

section
variable {c:Cx} {Q:Exit→Act→World→Prop} {m:Mode} {F:ak} {H:aj} {r:List bT} {g:Option (Option Tmp × Bool)} {ns:Bool} {d:Tmp} {ty t t':TypeId} {x y:Operand} {i j:Nat}
theorem Qaa (hd:Qw c.n (some d)=true:=by exact rfl) (hg:Qi F g=some true:=by exact rfl) (hx:ev F x=some (uv i):=by exact rfl) (hy:ev F y=some (.int .u64 1):=by exact rfl) (hb:1≤i∧i<18446744073709551616:=by(first|assumption|omega))
  (h:JO c Q m r ((d,uv (i-1))::F) H):JO c Q m (⟨some d,.binOp .sub t x y t',ty,g,.bg,ns⟩::r) F H :=
 Qe2 (j:=1) hd hg hx hy oq (by rw[show (i+(18446744073709551616-1)) % 18446744073709551616=i-1 by omega];exact h)
theorem Q51 {e:TypeId} {b o o' len cap l:Nat} {lo:Operand} [dh c.P t e] [dS c.P e 1] (hd:Qw c.n (some d)=true) (hg:Qi F g=some true)
  (hx:ev F x=some (.slice (some ⟨b,o,none⟩) len cap)) (hlo:ev F lo=some (nv l)) (ho:o+l=o') (hlh:l<len) (hlc:len≤cap)
  (h:JO c Q m r ((d,(.slice (some ⟨b,o',none⟩) (len-l) (cap-l)))::F) H):JO c Q m (⟨some d,.slice t x (some lo) none none,ty,g,.bg,ns⟩::r) F H :=
 Y9 (b:=b) (o:=o) (h':=len) (vh:=none) hd hg hx (fun _=>rfl) hlo rfl (.inl rfl) rfl rfl (.inr ⟨rfl,rfl⟩) oq (V7 _) hlc (fun A' hA'=>by
  obtain rfl:=hA' hlh
  rw[Nat.mul_one,ho]
  exact h)
end

theorem aZ.blk {N:aj} {v:Value} {n:Nat} {xs:List Nat} (h:aZ N v n xs) (hn:0<n):∃ b cap rest,v=.slice (some ⟨b,0,none⟩) n cap∧N=[(b,.cells (ZJ xs rest) 126 (0,0))]∧n≤cap∧rest.length=cap-n∧cap≤maxLen:=h.named hn

theorem Qfd {p X Y Q R:Nat} (hp:0<p) (h:R+p*Y*Q=p*X) (hR:R<p*Y):X=Q*Y+R / p∧R / p<Y:=by
 rw[Vk]at h
 have h1:p*(Y*Q)≤p*X:=by omega
 have h2:Y*Q≤X:=Nat.le_of_mul_le_mul_left h1 hp
 have h3:R=p*(X-Y*Q):=by rw[Nat.mul_sub];omega
 have h4:R / p=X-Y*Q:=by rw[h3,Nat.mul_div_cancel_left _ hp]
 rw[h4,Va Q Y]
 refine⟨by omega,?_⟩
 rw[h3]at hR
 exact Nat.lt_of_mul_lt_mul_left hR
theorem Qdq {s k:Nat} {ys vs:List Nat} (hs:s≤31) (hk:ys.length=k) (hk0:0<k) (hy:dA 4294967296 ys) (ht:ys.getD (k-1) 0*2 ^ s<4294967296) (hv:dA 4294967296 vs) (h:val 4294967296 vs=2 ^ s*val 4294967296 ys):vs.length=k∧2 ^ s*4294967296 ^ (k-1)≤val 4294967296 vs:=by
 have hp0:0<2 ^ s:=Nat.pow_pos dq
 have hne:ys≠[]:=fun e=>by subst e;simp at hk;omega
 have h1:=Q4r (b:=4294967296) dq hy.nrm hne
 rw[hk]at h1
 have h2:2 ^ s*4294967296 ^ (k-1)≤val 4294967296 vs:=by rw[h];exact V3 _ h1
 refine⟨?_,h2⟩
 have htop:ys.getD (k-1) 0<2 ^ (32-s):=by
  refine Nat.lt_of_mul_lt_mul_right (a:=2 ^ s) ?_
  rw[← Nat.pow_add,show 32-s+s=32 by omega]
  exact ht
 have h3:val 4294967296 ys<(ys.getD (k-1) 0+1)*4294967296 ^ (k-1):=by
  have e:=Y1 4294967296 ys (k-1) oq
  rw[Z6 oq,Z5 oq,Nat.mul_zero,Vp]at e
  have h4:=Yq hy.lt (k:=k-1) oq
  rw[e,Vl,Nat.one_mul,Va (ys.getD (k-1) 0)]
  omega
 have h5:val 4294967296 vs<4294967296 ^ k:=by
  rw[h]
  have h6:2 ^ s*val 4294967296 ys<2 ^ s*((ys.getD (k-1) 0+1)*4294967296 ^ (k-1)):=Nat.mul_lt_mul_of_pos_left h3 hp0
  refine V6 h6 ?_
  have h7:2 ^ s*(ys.getD (k-1) 0+1)≤4294967296:=by
   have:(ys.getD (k-1) 0+1)*2 ^ s≤2 ^ (32-s)*2 ^ s:=V1 _ htop
   rw[← Nat.pow_add,show 32-s+s=32 by omega]at this
   rw[Va]
   exact this
  rw[← Vk]
  have e:(4294967296:Nat) ^ k=4294967296*4294967296 ^ (k-1):=by
   conv=>lhs;rw[show k=k-1+1 by omega,V9,Va]
  rw[e]
  exact V1 _ h7
 have h8:=hv.bM dq h5
 refine Nat.le_antisymm h8 ?_
 refine Ve fun hlt=>?_
 have h9:val 4294967296 vs<4294967296 ^ (k-1):=by
  refine V6 (Yi hv.lt) (V4 dq oq)
 have h10:4294967296 ^ (k-1)≤2 ^ s*4294967296 ^ (k-1):=Nat.le_mul_of_pos_left _ hp0
 omega
theorem Qdp {s k n V:Nat} {us:List Nat} (hu:∀ x∈us,x<4294967296) (hl:us.length=n+1) (hk:1≤k) (hkn:k≤n) (ht:us.getD n 0<2 ^ s) (hV:2 ^ s*4294967296 ^ (k-1)≤V):val 4294967296 (us.drop (n+1-k))<V:=by
 have hd:∀ x∈us.drop (n+1-k),x<4294967296:=fun x hx=>hu x (List.mem_of_mem_drop hx)
 have hlen:(us.drop (n+1-k)).length=k:=by simp;omega
 have e:=Y1 4294967296 (us.drop (n+1-k)) (k-1) oq
 rw[Z6 (l:=us.drop (n+1-k)) (k:=k-1) oq,Z5 (l:=us.drop (n+1-k)) (k:=k-1+1) oq,Q15,show n+1-k+(k-1)=n by omega]at e
 simp only[Nat.mul_zero,Vp]at e
 have h1:=Yq hd (k:=k-1) oq
 rw[e]
 have h2:4294967296 ^ (k-1)*(us.getD n 0+1)≤4294967296 ^ (k-1)*2 ^ s:=V3 _ ht
 rw[Vm,Nat.mul_one,Va _ (2 ^ s)]at h2
 omega

end Go.Proofs.YtbofgpenopcfaaaGreatDoor

namespace Go.Proofs.YtbofgpenopcfaaaGreatDoor
open Go Go.RowKit Go.Shelf
set_option linter.unusedSimpArgs false
set_option linter.unusedVariables false
set_option linter.unusedSectionVars false

attribute [local go_sem] Oper.semAt_some

def KB (S:List Nat) (W W':World):Prop:=∀ k∈S,W'.heap[k]?=W.heap[k]?
theorem KB.refl (S:List Nat) (W:World):KB S W W:=fun _ _=>rfl
theorem KB.trans {S:List Nat} {A B C:World} (h:KB S A B) (k:KB S B C):KB S A C:=fun i hi=>(k i hi).trans (h i hi)
theorem KB.cell {S:List Nat} {W W':World} (h:KB S W W') {p:Addr} (hp:p.block∈S):W'.cell? p=W.cell? p:=World.cell?_of_block (h _ hp)

def bk (xs:List Nat) (k:Nat):List (Nat × Nat):=(List.range k).map fun j=>(xs.length-1-j,xs[xs.length-1-j]?.getD 0)
theorem Q9g (xs:List Nat) (k:Nat):bk xs (k+1)=bk xs k++[(xs.length-1-k,xs[xs.length-1-k]?.getD 0)]:=by simp[bk,List.range_succ]
theorem Qge (xs:List Nat) (k:Nat):(bk xs k).length=k:=by simp[bk]

set_option maxRecDepth 100000 in
theorem Qiw (F:Fence) (n:Nat) (hF:F.fn 180) (hro:F.round=none) (hn:1≤n) (l Bs b off cap:Nat) (S:List Nat) (xs:List Nat) (hl:xs.length≤16000000000000) (hb:b∈S) (J Jx:List (Nat × Nat)→World→Prop)
  (hY : ∀ pre x W, J pre W → pre.length < xs.length → YieldAt F (n - 1) Tryz.prog l #[.int .i64 (x.1 : Int), .int .u64 (x.2 : Int)] W fun e W' =>
   (e=.returned (.bool true)∧J (pre++[x]) W'∧KB S W W')∨(e=.returned (.bool false)∧Jx (pre++[x]) W'))
  (W:World) (hBs:W.cell? ⟨Bs,0,none⟩=some (.slice (some ⟨b,off,none⟩) xs.length cap)) (hBl:Bs∈S) (hc:∀ j,j<xs.length→W.cell? ⟨b,off+j,none⟩=some (.int .u64 (xs[j]?.getD 0:Nat))) (h0:J [] W) :
  CallsIn F n Tryz.prog 180 #[.func (.yield l) #[] #[],.pointer (some ⟨Bs,0,none⟩)] W fun e W'=>(∃ v,e=.returned v) ∧
   ((∃ ys,ys=bk xs xs.length∧J ys W')∨(∃ pre,(∃ k,k≤xs.length∧pre=bk xs k)∧Jx pre W')):=by
 refine callsIn_of_wp Tryz.func180 rfl hF ?_ hro
 simp only[Tryz.ntmps180,List.size_toArray,List.length_cons,List.length_nil,Nat.reduceAdd,Nat.reduceSub,Array.replicate_succ,Array.replicate_zero,List.push_toArray,List.append_toArray,Vr,Vg]
 gi_wp2
 gi_loopw [3] (fun i wr=>∃ k:Nat,k≤xs.length∧i=.int .i64 ((xs.length:Int)-1-k)∧J (bk xs k) wr∧KB S W wr)
  (fun i _=>(intOf i+1).toNat)
 case atStart=>exact⟨0,V8 _,by simp,h0,KB.refl _ _⟩
 case round =>
  obtain⟨k,hk,rfl,hJs,hnx⟩:=hrel
  have hcx:k<xs.length→wr.cell? ⟨b,off+(xs.length-1-k),none⟩=some (.int .u64 (xs[xs.length-1-k]?.getD 0:Nat)):=fun h=>(hnx.cell (p:=⟨b,off+(xs.length-1-k),none⟩) hb).trans (hc _ oq)
  have hbx:wr.cell? ⟨Bs,0,none⟩=some (.slice (some ⟨b,off,none⟩) xs.length cap):=(hnx.cell (p:=⟨Bs,0,none⟩) hBl).trans hBs
  by_cases hlt:k<xs.length
  ·obtain⟨fn,tmps,assign,body,hy,hR⟩:=hY _ (xs.length-1-k,xs[xs.length-1-k]?.getD 0) wr hJs (by rw[Qge];exact hlt)
   dsimp only at hy
   have hcx':=hcx hlt
   have he:((xs.length:Int)-1-k)=((xs.length-1-k:Nat):Int):=by omega
   rw[he]
   gi_wp2
   refine hR.mono ?_
   rintro e W3 (⟨rfl,hJ3,hk3⟩|⟨rfl,hJx3⟩)
   ·gi_wp2
    go_roundw
    case rel=>exact⟨k+1,by omega,by first|(congr 1;done)|(congr 1;omega),by rw[Q9g];exact hJ3,hnx.trans hk3⟩
    case measure=>first|(simp[intOf];done)|(simp[intOf];omega)
   ·gi_wp2
    refine bodyPost_ret (results_none rfl _ _ _) rfl ?_
    exact⟨⟨_,rfl⟩,.inr ⟨_,⟨k+1,by omega,(Q9g _ _).symm⟩,hJx3⟩⟩
  ·obtain rfl:k=xs.length:=by omega
   gi_wp2
   go_end0
   exact⟨⟨_,rfl⟩,.inl ⟨_,rfl,hJs⟩⟩

set_option maxRecDepth 100000 in
theorem Q8m (F:Fence) (n:Nat) (hF:F.fn 180) (hro:F.round=none) (l Bs:Nat) (A:Option Addr) (cap:Nat) (J:List (Nat × Nat)→World→Prop) (W:World) (hBs:W.cell? ⟨Bs,0,none⟩=some (.slice A 0 cap)) (h0:J [] W) :
  CallsIn F n Tryz.prog 180 #[.func (.yield l) #[] #[],.pointer (some ⟨Bs,0,none⟩)] W fun e W'=>(∃ v,e=.returned v)∧J [] W':=by
 refine callsIn_of_wp Tryz.func180 rfl hF ?_ hro
 simp only[Tryz.ntmps180,List.size_toArray,List.length_cons,List.length_nil,Nat.reduceAdd,Nat.reduceSub,Array.replicate_succ,Array.replicate_zero,List.push_toArray,List.append_toArray,Vr,Vg]
 gi_wp2
 gi_loopw [3] (fun i wr=>i=.int .i64 (-1)∧J [] wr) (fun _ _=>0)
 case atStart=>exact⟨by simp,h0⟩
 case round =>
  obtain⟨rfl,hJs⟩:=hrel
  gi_wp2
  go_end0
  exact⟨⟨_,rfl⟩,hJs⟩

def Wds (S:List Nat) (W:World) (sv:Value) (xs:List Nat):Prop :=
 (xs=[]∧∃ A cap,sv=.slice A 0 cap)∨∃ b off cap,sv=.slice (some ⟨b,off,none⟩) xs.length cap∧b∈S∧b<W.heap.size∧∀ j,j<xs.length→W.cell? ⟨b,off+j,none⟩=some (.int .u64 (xs[j]?.getD 0:Nat))

theorem Qcm (F:Fence) (n:Nat) (hF:F.fn 180) (hro:F.round=none) (hn:1≤n) (Bs:Nat) (S:List Nat) (sv:Value) (xs:List Nat) (hl:xs.length≤16000000000000) (w:World) (hBs:Bs<w.heap.size) (hBn:Bs∈S)
  (hc:w.cell? ⟨Bs,0,none⟩=some sv) (hI:Wds S w sv xs) :
  SeqStopsK F n Tryz.prog 180 #[.pointer (some ⟨Bs,0,none⟩)] (fun x:Nat × Nat=>#[Value.int .i64 (x.1:Int),Value.int .u64 (x.2:Int)]) (KB S) (fun ys=>ys=bk xs xs.length) (fun pre=>∃ k,k≤xs.length∧pre=bk xs k) xs.length w:=fun l J Jx W hW _ _ hY h0=>by
 have hc':=(hW.cell (p:=⟨Bs,0,none⟩) hBs).trans hc
 rcases hI with ⟨rfl,A,cap,rfl⟩|⟨b,off,cap,rfl,hb,hbl,hcs⟩
 ·exact(Q8m F n hF hro l Bs A cap J W hc' h0).mono fun e W' ⟨he,hj⟩=>⟨he,.inl ⟨_,rfl,hj⟩⟩
 ·exact Qiw F n hF hro hn l Bs b off cap S xs hl hb J Jx hY W hc' hBn (fun j hj=>(hW.cell (p:=⟨b,off+j,none⟩) hbl).trans (hcs j hj)) h0

set_option linter.unusedSimpArgs false
set_option linter.unusedVariables false
set_option linter.unusedSectionVars false

def ad (D:List Deferred) (a:Act):Act:={ a with defers:=a.defers++D }
theorem Qbs (D:List Deferred) (a:Act) (d:Option Tmp) (v:Value):(ad D a).put d v=ad D (a.put d v):=by cases d<;>rfl
theorem Qmt (D:List Deferred) (a:Act):(ad D a).eval=a.eval:=rfl

theorem Qk9 {P:Program} {o:Oper} {D:List Deferred} {a:Act} {next next':Act→World→Prop} {Q Q':Exit→Act→World→Prop} (hn:∀ a w,next a w→next' (ad D a) w) (hQ:∀ e a w,Q e a w→Q' e (ad D a) w) :
  ∀ {r:Result Next},o.upon P a next Q r→o.upon P (ad D a) next' Q' r:=by
 intro r h
 cases r with
 | ok n w' =>
  cases n<;>simp only[Oper.upon]at h ⊢ <;>
   first
    | exact h.elim
    | (rw[Qbs];exact hn _ _ h)
    | (have h2 := hn _ _ h
       rename_i d
       have e:∀ (b:Act) (x:Option Tmp),ad D ({ b with defers:=d::b.defers }.put x undef)=({ ad D b with defers:=d::(ad D b).defers }:Act).put x undef:=fun b x=>by cases x<;>rfl
       rw[e]at h2;exact h2)
    | (refine Calls.mono h (fun e w'' he=>?_);cases e<;>first|(have h3:=hn _ _ he;rw[← Qbs]at h3;exact h3)|exact hQ _ _ _ he|(obtain⟨a',w',h'⟩:=he;exact⟨_,_,hQ _ _ _ h'⟩))
    | exact Rows.mono h (fun v w' h'=>by rw[Qbs];exact hn _ _ h')
 | halt x w'=>cases x<;>simp only[Oper.upon]at h ⊢ <;> first|exact hQ _ _ _ h|exact h.elim

theorem Q37 {P:Program} {ops:Array Oper} {D:List Deferred} {Q Q':Exit→Act→World→Prop} (hQ:∀ e a w,Q e a w→Q' e (ad D a) w):∀ {l:List Oper} {a:Act} {w:World},wpList P ops Q l a w→wpList P ops Q' l (ad D a) w
 | [],a,w,h=>hQ _ _ _ h
 | o :: l, a, w, h => by
  unfold wpList at h ⊢
  have e:(ad D a).tmps=a.tmps:=rfl
  rw[e]
  split at h
  ·rename_i hw
   rw[if_pos hw]
   rcases h with h|⟨h,a',w',h'⟩
   ·refine .inl ?_
    unfold Oper.wp at h ⊢
    rw[Qmt]
    exact Qk9 (fun a w h=>Q37 hQ h) hQ h
   ·exact .inr ⟨h,_,_,hQ _ _ _ h'⟩
  ·rename_i hw
   rw[if_neg hw,Qbs]
   exact Q37 hQ h

def Q77:Code→Bool
 | .region _ _ d=>!d
 | .seq a b=>Q77 a && Q77 b
 | .ret=>true
 | _=>false

theorem Xb {c:Cx} (od:List Od) (D:List Deferred):∀ (s:Code) (Q Q':Exit→Act→World→Prop),Q77 s=true→(∀ e a w,Q e a w→Q' e (ad D a) w)→∀ a w,(toS od s).wp c Q a w→s.wp c.P Q' (ad D a) w
 | .region id ops false,Q,Q',_,hQ,a,w,h=>by
  obtain⟨F,H,st,h⟩:=h
  obtain⟨kd,hl,he⟩:=Xv (ay od id).ov ops ops.toList 0
  rw[he]at h
  have:=Xc (P:=c.P) (ops:=ops) (Q:=Q) rfl _ F H h a w st
  rw[List.map_fst_zip oq]at this
  exact wp_region_list (Q37 hQ this)
 | .region id ops true,Q,Q',hk,hQ,a,w,h=>by cases hk
 | .seq x y,Q,Q',hk,hQ,a,w,h=>by
  simp only[Q77,Bool.and_eq_true]at hk
  refine wp_seq (Xb od D x _ _ hk.1 (fun e a w hq=>?_) a w h)
  cases e<;>first|exact hQ _ _ _ hq|exact Xb od D y _ _ hk.2 hQ _ _ hq
 | .ret,Q,Q',_,hQ,a,w,h=>wp_ret (hQ _ _ _ h)

def YK:List Oper→Bool
 | []=>true
 | o::l=>(match o.op with | .defer _=>false|_=>true) && YK l

theorem Q76 {P:Program} {o:Oper} {l m:Nat} {a:Act} {next:Act→World→Prop} {Q:Exit→Act→World→Prop}:∀ {r:Result Next},o.upon P a next Q r→o.uponIn (Fence.wide.inRound l) m P a next Q r:=by
 intro r h
 cases r with
 | ok n w' =>
  cases n<;>simp only[Oper.upon,Oper.uponIn]at h ⊢ <;>
   first
    | exact h
    | exact h.elim
    | exact⟨fun h0=>(by cases h0),CallsIn.inRound l (callsIn_wide.2 h)⟩
    | exact⟨fun h0=>(by cases h0),fun c cs _=>let ⟨v,w',r,s⟩:=h c cs;⟨v,w',r,stepsIn_wide.2 s⟩⟩
 | halt x w'=>cases x<;>simp only[Oper.upon,Oper.uponIn]at h ⊢ <;> first|exact h|exact h.elim

theorem XG {P:Program} {ops:Array Oper} {l m:Nat} {Q:Exit→Act→World→Prop} (hQ:¬LetsOut Q):∀ {os:List Oper} {a:Act} {w:World},YK os=true→wpList P ops Q os a w→wpListIn (Fence.wide.inRound l) m P ops Q os a w
 | [],a,w,_,h=>h
 | o :: os, a, w, hd, h => by
  simp only[YK,Bool.and_eq_true]at hd
  unfold wpList at h
  unfold wpListIn
  split at h
  ·rename_i hw
   rw[if_pos hw]
   rcases h with h|⟨_,h⟩
   ·refine⟨fun f _=>trivial,?_⟩
    rw[Oper.semAt_eq _ _ _ (fun c hc=>by rw[hc]at hd;exact absurd hd.1 aA)]
    unfold Oper.wp at h
    have h2:=Q76 (l:=l) (m:=m) h
    revert h2
    generalize (execOp a.eval o).run P w=r
    intro h2
    exact uponIn_mono' (fun a w h=>XG hQ hd.2 h) h2
   ·exact absurd h hQ
  ·rename_i hw
   rw[if_neg hw]
   exact⟨fun f _=>trivial,XG hQ hd.2 h⟩
where
 uponIn_mono' {P:Program} {o:Oper} {l m:Nat} {a:Act} {next next':Act→World→Prop} {Q:Exit→Act→World→Prop} (hn:∀ a w,next a w→next' a w):∀ {r:Result Next},o.uponIn (Fence.wide.inRound l) m P a next Q r→o.uponIn (Fence.wide.inRound l) m P a next' Q r:=by
  intro r h
  cases r with
  | ok n w' =>
   cases n<;>simp only[Oper.uponIn]at h ⊢ <;>
    first
     | exact h.elim
     | exact hn _ _ h
     | exact⟨h.1,h.2.mono (fun e w'' he=>by cases e<;>first|exact hn _ _ he|exact he)⟩
     | exact⟨h.1,h.2.mono (fun v w'' he=>hn _ _ he)⟩
  | halt x w'=>cases x<;>simp only[Oper.uponIn]at h ⊢ <;> first|exact h|exact h.elim

theorem WJ {c:Cx} {id l m:Nat} {ops:Array Oper} {ov:List (Nat × Kind)} {K:Act→World→Prop} {F:ak} {H:aj} (hd:YK ops.toList=true) (h:JO c (Only K) .text (Qe ov ops 0 ops.toList) F H) :
  ∀ a w,St c F H a w→(Code.region id ops false).wpIn (Fence.wide.inRound l) m c.P (Only K) a w:=fun a w st=>by
 obtain⟨kd,hl,he⟩:=Xv ov ops ops.toList 0
 have h:=h.h
 rw[he]at h
 have:=Xc (P:=c.P) (ops:=ops) (Q:=Only K) rfl _ F H h a w st
 rw[List.map_fst_zip oq]at this
 exact wpIn_region_list (XG (fun⟨_,_,h⟩=>h) hd this)

def Q68:Code→Bool
 | .seq a b=>Q68 a || Q68 b
 | .block _ c=>Q68 c
 | .rangeFunc ..=>true
 | _=>false
def toZ (od:List Od):Code→dZ
 | .seq a b=>bif Q68 a then .seq (toZ od a) (.raw b) else .seq (toS od a) (toZ od b)
 | .block id c=>.block id (toZ od c)
 | c=>toS od c
def okZ (P:Program) (od:List Od):Code→Bool
 | .seq a b=>bif Q68 a then okZ P od a else okS P od a && okZ P od b
 | .block _ c=>okZ P od c
 | c=>okS P od c
theorem Q0p {c:Cx} (od:List Od) (hm:c.P.follows .mixedOrders=true):∀ (s:Code) (Q:Exit→Act→World→Prop) (a:Act) (w:World),okZ c.P od s=true→(toZ od s).wp c Q a w→s.wp c.P Q a w
 | .seq x y, Q, a, w, hk, h => by
  unfold toZ at h
  unfold okZ at hk
  cases hr:Q68 x with
  | true =>
   rw[hr]at h hk
   exact wp_seq (Q0p od hm x _ a w hk h)
  | false =>
   rw[hr]at h hk
   simp only[cond_false,Bool.and_eq_true]at h hk
   refine wp_seq (aU od hm x _ a w hk.1 ?_)
   refine aU.wp_mono' (fun e a w hq=>?_) h
   cases e<;>first|exact hq|exact Q0p od hm y _ _ _ hk.2 hq
 | .block id s,Q,a,w,hk,h=>wp_block (Q0p od hm s _ _ _ hk h)
 | .skip,Q,a,w,hk,h=>aU od hm _ _ _ _ hk h
 | .region _ _ _,Q,a,w,hk,h=>aU od hm _ _ _ _ hk h
 | .cond _ _ _,Q,a,w,hk,h=>aU od hm _ _ _ _ hk h
 | .loop _,Q,a,w,hk,h=>aU od hm _ _ _ _ hk h
 | .exit _,Q,a,w,hk,h=>aU od hm _ _ _ _ hk h
 | .scope _,Q,a,w,hk,h=>aU od hm _ _ _ _ hk h
 | .ret,Q,a,w,hk,h=>aU od hm _ _ _ _ hk h
 | .label _,Q,a,w,hk,h=>aU od hm _ _ _ _ hk h
 | .goto _,Q,a,w,hk,h=>aU od hm _ _ _ _ hk h
 | .refuse _,Q,a,w,hk,h=>aU od hm _ _ _ _ hk h
 | .rangeFunc ..,Q,a,w,hk,h=>aU od hm _ _ _ _ hk h

theorem Q22 {P:Program} {f:FuncId} {fn:Func} {s:Code} {args:Array Value} {w:World} {R:Ending→World→Prop} {n:Nat} (m:Nat) (od:List Od)
  (hf:P.funcs[f]?=some fn) (hb:fn.body=some s) (hm:P.follows .mixedOrders=true) (hk:okZ P od s=true)
  (hn:fn.ntmps=n) (hF:Nat.ble args.size n=true)
  (h:JC ⟨P,n,w,[],by simp⟩ (bodyPostM Fence.wide m P fn R) (toZ od s) (aB 0 args.toList) []):Calls P f args w R:=by
 subst hn
 have hF:=Nat.le_of_ble_eq_true hF
 refine callsIn_wide.1 (callsIn_of_wp_marks (n:=m) hf hb trivial (wpIn_wide.2 ?_) rfl)
 refine Q0p (c:=⟨P,fn.ntmps,w,[],by simp⟩) od hm s _ _ _ hk (h.h _ _ ⟨⟨rfl,?_,fun i v hl=>?_⟩,Kp.refl _ _,⟨by simp,by simp⟩,fun p hp=>by cases hp⟩)
 ·simp;omega
 ·obtain⟨_,h1⟩:=Q0l _ _ _ _ hl
  have h1:args[i]?=some v:=by simpa using h1
  have h2:i<args.size:=by
   rcases Nat.lt_or_ge i args.size with h|h
   ·exact h
   ·rw[Array.getElem?_eq_none h]at h1;cases h1
  rw[Array.getElem?_append_left h2];exact h1

section
variable {c:Cx} {Q:Exit→Act→World→Prop} {F:ak} {H:aj}
theorem JC.raw {s:Code} (h:∀ a w,St c F H a w→s.wp c.P Q a w):JC c Q (.raw s) F H:=⟨h⟩
end


instance:dL Tryz.prog 9:=⟨Tryz.underlying9⟩

section
variable {c:Cx} {Q:Exit→Act→World→Prop} {m:Mode} {F:ak} {H:aj} {r:List bT} {g:Option (Option Tmp × Bool)} {ns:Bool} {d:Tmp} {ty t t':TypeId} {x y:Operand} {l:List UInt8}
theorem Q0c {k:IntKind} {b:UInt8} [dL c.P t] (hd:Qw c.n (some d)=true:=by exact rfl) (hg:Qi F g=some true:=by exact rfl) (hx:ev F x=some (sv (b::l)):=by exact rfl) (hy:ev F y=some (.int k 0):=by exact rfl)
  (h:JO c Q m r ((d,yv b.toNat)::F) H):JO c Q m (⟨some d,.index t x y,ty,g,.bg,ns⟩::r) F H:=YG (j:=0) hd hg hx hy aA h
theorem Q5z {k:IntKind} {b:UInt8} {lo:Operand} [dL c.P t] (hd:Qw c.n (some d)=true:=by exact rfl) (hg:Qi F g=some true:=by exact rfl) (hx:ev F x=some (sv (b::l)):=by exact rfl) (hy:ev F lo=some (.int k 1):=by exact rfl)
  (h:JO c Q m r ((d,sv l)::F) H):JO c Q m (⟨some d,.slice t x (some lo) none none,ty,g,.bg,ns⟩::r) F H:=Ql0 (i:=1) hd hg hx hy aA h
theorem Qjm {b:UInt8} [dL c.P t] (hd:Qw c.n (some d)=true:=by exact rfl) (hg:Qi F g=some true:=by exact rfl) (hx:ev F x=some (sv (b::l)):=by exact rfl) (hy:ev F y=some (.string ⟨#[]⟩):=by exact rfl)
  (h:JO c Q m r ((d,.bool false)::F) H):JO c Q m (⟨some d,.binOp .eql t x y t',ty,g,.bg,ns⟩::r) F H:=Qea (l:=b::l) (l':=[]) hd hg hx hy (by rw[decide_eq_false aA];exact h)
theorem Qe9 [dL c.P t] (hd:Qw c.n (some d)=true:=by exact rfl) (hg:Qi F g=some true:=by exact rfl) (hx:ev F x=some (sv []):=by exact rfl) (hy:ev F y=some (.string ⟨#[]⟩):=by exact rfl)
  (h:JO c Q m r ((d,.bool true)::F) H):JO c Q m (⟨some d,.binOp .eql t x y t',ty,g,.bg,ns⟩::r) F H:=Qea (l:=[]) (l':=[]) hd hg hx hy (by rw[decide_eq_true rfl];exact h)
theorem Qe4 {b:UInt8} [dL c.P t] (hd:Qw c.n (some d)=true:=by exact rfl) (hg:Qi F g=some true:=by exact rfl) (hx:ev F x=some (sv (b::l)):=by exact rfl) (hy:ev F y=some (.string ⟨#[]⟩):=by exact rfl)
  (h:JO c Q m r ((d,.bool true)::F) H):JO c Q m (⟨some d,.binOp .neq t x y t',ty,g,.bg,ns⟩::r) F H:=Ya (l:=b::l) (l':=[]) hd hg hx hy (by rw[decide_eq_true aA];exact h)
theorem Qa6 [dL c.P t] (hd:Qw c.n (some d)=true:=by exact rfl) (hg:Qi F g=some true:=by exact rfl) (hx:ev F x=some (sv []):=by exact rfl) (hy:ev F y=some (.string ⟨#[]⟩):=by exact rfl)
  (h:JO c Q m r ((d,.bool false)::F) H):JO c Q m (⟨some d,.binOp .neq t x y t',ty,g,.bg,ns⟩::r) F H:=Ya (l:=[]) (l':=[]) hd hg hx hy (by rw[decide_eq_false aA];exact h)
end

theorem Qm6 (w:World) (l:List UInt8) (b:UInt8) (hl:l.length≤66000000000000) :
  Calls Tryz.prog 181 #[sv l,yv b.toNat] w (aQ fun v w'=>Kp [] w w'∧v=sv (l.dropWhile (· == b))):=by
 refine Qa [] [] aA [] Tryz.func181 rfl mixed (by kernel_rfl) Tryz.ntmps181 Tryz.results181 rfl ⟨by simp,by simp⟩ aA ?_
 simp only[toS,Qe,Qx,Qo,Qr,ay,Ql,Qy,aB]
 repeat' first|apply jS|apply jO|apply jN|apply jT|refine Q0 ?_|apply jB
 refine Qn (ι:=List UInt8) ⟨fun z=>[(0,sv z),(1,yv b.toNat)],fun _=>[],fun z=>z.length≤66000000000000∧z.dropWhile (· == b)=l.dropWhile (· == b),fun z=>z.length⟩ l ⟨hl,rfl⟩ aC QE (fun z hz=>?_)
 obtain⟨hzl,hz⟩:=hz
 dsimp only at hzl hz ⊢
 rcases z with _|⟨x,z⟩
 ·have h0:((([]:List UInt8).length:Nat):Int)=0:=rfl
  repeat' first|apply jS|apply jO|apply jN|apply jT|refine Q1 ?_|refine Q0 ?_|refine Qq ?_|refine Zu (h:=?_)|(refine QU (h1:=?_) (h2:=?_)<;>intro hc<;>try omega)|apply jU|apply jE|refine Q4 rfl ?_|apply Qc|refine QA ?_|apply jR
  exact Qj rfl (fun a w' st=>⟨st.kp,by rw[← hz];rfl⟩)
 ·have h0:(0:Int)<((x::z).length:Nat):=by rw[List.length_cons];omega
  by_cases hxb:x=b
  ·subst hxb
   repeat' first|apply jS|apply jO|apply jN|apply jT|refine Q1 ?_|refine Q0 ?_|refine Qp ?_|refine Zu (h:=?_)|refine Q0c (h:=?_)|refine Q5z (h:=?_)|(refine QU (h1:=?_) (h2:=?_)<;>intro hc<;>try omega)|(refine Zm (h1:=?_) (h2:=?_)<;>intro hc<;>try omega)|apply jK|refine Q5 rfl ?_|apply jB|apply jW
   exact Q8 z ⟨by simp at hzl;omega,by rw[← hz];simp[List.dropWhile]⟩ aA aC QE
  ·have hne:¬((x.toNat:Int)=(b.toNat:Int)):=fun e=>hxb (UInt8.toNat.inj (by exact_mod_cast e))
   repeat' first|apply jS|apply jO|apply jN|apply jT|refine Q1 ?_|refine Q0 ?_|refine Qp ?_|refine Zu (h:=?_)|refine Q0c (h:=?_)|(refine QU (h1:=?_) (h2:=?_)<;>intro hc<;>try omega)|(refine Zm (h1:=?_) (h2:=?_)<;>intro hc<;>try omega)|apply jU|apply jE|apply jR|refine Q4 rfl ?_|apply Qc
   exact Qj rfl (fun a w' st=>⟨st.kp,by rw[← hz,List.dropWhile,show (x == b)=false by simpa using hxb]⟩)

theorem Qck (w:World) (l:List UInt8) (hl:l.length≤66000000000000) :
  Calls Tryz.prog 163 #[sv l,sv [0]] w (aQ fun v w'=>Kp [] w w'∧v=sv (l.dropWhile (· == 0))):=by
 rcases l with _|⟨x,l⟩
 ·refine Qa [] [] aA [] Tryz.func163 rfl mixed (by kernel_rfl) Tryz.ntmps163 Tryz.results163 rfl ⟨by simp,by simp⟩ aA ?_
  simp only[toS,Qe,Qx,Qo,Qr,ay,Ql,Qy,aB]
  repeat' first|apply jS|apply jO|apply jN|apply jT|refine Q1 ?_|refine Q0 ?_|refine Qp ?_|refine Qe9 (h:=?_)|apply jV|refine Q5 rfl ?_|refine QA ?_|apply jR
  exact Qj rfl (fun a w' st=>⟨st.kp,rfl⟩)
 ·refine Qa [] [] aA [] Tryz.func163 rfl mixed (by kernel_rfl) Tryz.ntmps163 Tryz.results163 rfl ⟨by simp,by simp⟩ aA ?_
  simp only[toS,Qe,Qx,Qo,Qr,ay,Ql,Qy,aB]
  have h1:((([0]:List UInt8).length:Nat):Int)=1:=rfl
  have h2:((UInt8.toNat 0:Nat):Int)=0:=rfl
  repeat' first|apply jS|apply jO|apply jN|apply jT|refine Q1 ?_|refine Q0 ?_|refine Qp ?_|refine Qq ?_|refine Zu (h:=?_)|refine Q0c (h:=?_)|refine Qjm (h:=?_)|(refine Qg (h1:=?_) (h2:=?_)<;>intro hc<;>try omega)|(refine Zm (h1:=?_) (h2:=?_)<;>intro hc<;>try omega)|apply jK|refine Q5 rfl ?_|refine Q4 rfl ?_
  refine Q9 trivial rfl rfl rfl (fun w hk hs=>Qm6 w (x::l) 0 hl) fun w v w' _ _ _ hR=>?_
  subst hR
  repeat' first|apply jN|apply jT|refine Q0 ?_|apply jV|apply jR
  exact Qj rfl (fun a w' st=>⟨st.kp,rfl⟩)


def aS (n:Nat):List UInt8:=(mag n).map UInt8.ofNat
theorem Q1e (n:Nat):bf (aS n)=mag n:=Qgc Qo2
theorem Q65 {l:List UInt8}:l.dropWhile (· == 0)=aS (bV (bf l)):=by
 apply Q9f
 rw[Q1e, ← Qo1 (fun x hx=>by
  obtain⟨a,_,rfl⟩:=List.mem_map.1 hx
  exact UInt8.toNat_lt a)]
 unfold bf
 induction l with
 | nil=>rfl
 | cons a l ih =>
  rw[List.map_cons,List.dropWhile,List.dropWhile]
  by_cases h:a=0
  ·subst h;exact ih
  ·have h1:(a == 0)=false:=by simpa using h
   have h2:(a.toNat == 0)=false:=by
    simp only[beq_eq_false_iff_ne]
    exact fun e=>h (UInt8.toNat.inj e)
   rw[h1,h2];rfl
theorem bF {n:Nat}:aS n=[]↔n=0:=by
 rw[← Qlj]
 exact⟨fun h=>by rw[← Q1e,h];rfl,fun h=>by unfold aS;rw[h];rfl⟩
theorem Qi4 {n k:Nat} (h:n<256 ^ k):(aS n).length≤k:=by unfold aS;rw[List.length_map];exact Qlk h
theorem Qi5 {n m:Nat} (h:aS n=aS m):n=m:=Qll (by rw[← Q1e,h,Q1e])
theorem Q8k (n:Nat):bV (bf (aS n))=n:=by rw[Q1e,Q6w]

abbrev wv (p:Bool) (l:List UInt8):Value:=.agg #[.bool p,sv l]
def Wv (z:Int):Value:=wv (decide (z<0)) (aS z.natAbs)
theorem Qgf (p:Bool) (n:Nat):Wv (bC p n)=wv (p && decide (aS n≠[])) (aS n):=by
 unfold Wv
 have h:decide (n≠0)=decide (aS n≠[]):=by simp[bF]
 rw[YY,Qds,h]

section
variable {c:Cx} {Q:Exit→Act→World→Prop} {m:Mode} {F:ak} {H:aj} {r:List bT} {g:Option (Option Tmp × Bool)} {ns:Bool} {d:Tmp} {ty t t':TypeId} {x y:Operand} {i:Nat}
theorem Qkv {e:TypeId} {sz bytes n k:Nat} {zc:Array Value} [dh c.P t e] [TE c.P e sz bytes zc] (hd:Qw c.n (some d)=true) (hg:Qi F g=some true) (hl:m.live=true)
  (hx:ev F x=some (.int .i64 n)) (hy:ev F y=some (.int .i64 k)) (hnk:n≤k) (hn:k*bytes≤140737488355328) (hn':k<9223372036854775808)
  (h:∀ b,JO c Q m r ((d,(.slice (some ⟨b,0,none⟩) n k))::F) ((b,.cells (Zb zc (k*sz)) e)::H)):JO c Q m (⟨some d,.makeSlice t x y,ty,g,.alloc,ns⟩::r) F H :=
 Q1t (mk:=fun b=>.slice (some ⟨b,0,none⟩) n k) hd hg hl (fun a fr=>by
  obtain⟨i,z,hi,rfl,rfl,hz,rfl⟩:=TE.info (P:=c.P) (e:=e) (sz:=sz) (bytes:=bytes) (zc:=zc)
  have h1:a.eval x=.int .i64 (Int.ofNat n):=fr.ev hx
  have h2:a.eval y=.int .i64 (Int.ofNat k):=fr.ev hy
  simp only[ZI,dh.und (P:=c.P) (t:=t),h1,h2,hi,hz,Option.map_some]
  rw[if_pos ⟨hnk,hn,hn'⟩]
  by_cases h0:k*i.size=0
  ·simp[h0,Zb]
  ·simp[h0,Zb]) h
theorem Qkq {k:IntKind} (hd:Qw c.n (some d)=true:=by exact rfl) (hg:Qi F g=some true:=by exact rfl) (hx:ev F x=some (uv i):=by exact rfl) (hy:ev F y=some (.int k 24):=by exact rfl) (h:JO c Q m r ((d,uv (i / 16777216))::F) H):JO c Q m (⟨some d,.binOp .shr t x y t',ty,g,.bg,ns⟩::r) F H:=Xx (j:=24) hd hg hx hy oq h
theorem Qkr {k:IntKind} (hd:Qw c.n (some d)=true:=by exact rfl) (hg:Qi F g=some true:=by exact rfl) (hx:ev F x=some (uv i):=by exact rfl) (hy:ev F y=some (.int k 16):=by exact rfl) (h:JO c Q m r ((d,uv (i / 65536))::F) H):JO c Q m (⟨some d,.binOp .shr t x y t',ty,g,.bg,ns⟩::r) F H:=Xx (j:=16) hd hg hx hy oq h
theorem Qno {k:IntKind} (hd:Qw c.n (some d)=true:=by exact rfl) (hg:Qi F g=some true:=by exact rfl) (hx:ev F x=some (uv i):=by exact rfl) (hy:ev F y=some (.int k 8):=by exact rfl) (h:JO c Q m r ((d,uv (i / 256))::F) H):JO c Q m (⟨some d,.binOp .shr t x y t',ty,g,.bg,ns⟩::r) F H:=Xx (j:=8) hd hg hx hy oq h
theorem Q0v {k:IntKind} [TI c.P t k] [TI c.P t' .u8] (hd:Qw c.n (some d)=true:=by exact rfl) (hg:Qi F g=some true:=by exact rfl) (hx:ev F x=some (.int k i):=by exact rfl) (h:JO c Q m r ((d,yv (i % 256))::F) H):JO c Q m (⟨some d,.convert t t' x,ty,g,.bg,ns⟩::r) F H :=
 Wj (k':=.u8) ((i % 256:Nat):Int) hd hg hx (by rw[IntKind.wrap_u8];omega) h
end

def wbs (l:List (Nat × Nat)):List Nat:=l.flatMap fun x=>[x.2 / 16777216 % 256,x.2 / 65536 % 256,x.2 / 256 % 256,x.2 % 256]
theorem Q9l (l:List (Nat × Nat)) (x:Nat × Nat):wbs (l++[x])=wbs l++[x.2 / 16777216 % 256,x.2 / 65536 % 256,x.2 / 256 % 256,x.2 % 256]:=by simp[wbs]
theorem Qk6 (l:List (Nat × Nat)):(wbs l).length=4*l.length:=by
 induction l with
 | nil=>rfl
 | cons x l ih=>simp only[wbs,List.flatMap_cons,Vi,List.length_cons,List.length_nil]at ih ⊢;omega
theorem Qmz (l:List (Nat × Nat)):∀ u∈wbs l,u<256:=by
 intro u hu
 obtain⟨x,_,hx⟩:=List.mem_flatMap.1 hu
 simp only[List.mem_cons,List.mem_nil_iff,or_false]at hx
 omega
theorem Qbo {xs:List Nat} (hx:∀ x∈xs,x<4294967296):∀ k,k≤xs.length→bV (wbs (bk xs k))=val 4294967296 (xs.drop (xs.length-k))
 | 0,_=>by rw[Nat.sub_zero,Z5 (V7 _)];rfl
 | k+1,h=>by
  have ih:=Qbo hx k oq
  rw[Q9g,Q9l]
  dsimp only
  have e:wbs (bk xs k)++[xs[xs.length-1-k]?.getD 0 / 16777216 % 256,xs[xs.length-1-k]?.getD 0 / 65536 % 256,xs[xs.length-1-k]?.getD 0 / 256 % 256,xs[xs.length-1-k]?.getD 0 % 256]=(((wbs (bk xs k)++[xs[xs.length-1-k]?.getD 0 / 16777216 % 256])++[xs[xs.length-1-k]?.getD 0 / 65536 % 256])++[xs[xs.length-1-k]?.getD 0 / 256 % 256])++[xs[xs.length-1-k]?.getD 0 % 256]:=by simp
  rw[e,Y6,Y6,Y6,Y6,ih,show xs.length-(k+1)=xs.length-1-k by omega,Z6 (k:=xs.length-1-k) oq,show xs.length-1-k+1=xs.length-k by omega]
  have hlt:xs.getD (xs.length-1-k) 0<4294967296:=hx _ (QV oq)
  have e2:xs[xs.length-1-k]?.getD 0=xs.getD (xs.length-1-k) 0:=rfl
  rw[e2]
  omega

theorem Qos (w:World) (v:Value) (A:Option Addr) (n cap:Nat) (hv:v=.slice A n cap) :
  Calls Tryz.prog 162 #[v] w (aQ fun u w'=>Kp [] w w'∧∃ b,u=.func (.func 180) #[] #[.pointer (some ⟨b,0,none⟩)]∧New [(b,.cells #[v] 147)] w w'):=by
 subst hv
 refine Qa [] [] aA [] Tryz.func162 rfl mixed (by kernel_rfl) Tryz.ntmps162 Tryz.results162 rfl ⟨by simp,by simp⟩ aA ?_
 simp only[toS,Qe,Qx,Qo,Qr,ay,Ql,Qy,aB]
 repeat' first|apply jS|apply jO|apply jN|apply jT|refine Q0 ?_|refine Ql4 (h:=fun _=>?_)|refine Yg (h:=?_)|apply jR
 rename_i b
 exact Qj rfl (fun a w' st=>⟨st.kp,b,rfl,st.bI rfl Qb⟩)


theorem Qbf (w:World) (v u:Value) (n k:Nat) (xs ys:List Nat) (hv:WU w v n xs) (hu:WU w u k ys) (hx:∀ x∈xs,x<W32) (hy:∀ x∈ys,x<W32) (hn:n≤8500000000000) (hk:k≤8500000000000) :
  Calls Tryz.prog 126 #[v,u] w (aQ fun v w'=>Kp [] w w'∧∃ N zs,New N w w'∧aZ N v zs.length zs∧dA W32 zs∧val W32 zs=val W32 xs*val W32 ys):=by
 have hlx:=hv.len
 have hly:=hu.len
 refine Qa [] [] aA [] Tryz.func126 rfl mixed (by kernel_rfl) Tryz.ntmps126 Tryz.results126 rfl ⟨by simp,by simp⟩ aA ?_
 simp only[toS,Qe,Qx,Qo,Qr,ay,Ql,Qy,aB]
 repeat' first|apply jS|apply jO|apply jN|refine Q1 ?_|refine Q0 ?_|refine Z8 (h:=?_)|refine QW (h:=?_)|apply jT
 refine Xf (n:=n+k) rfl rfl rfl rfl rfl oq oq (fun b5=>?_)
 have hO:=Y0 b5 (n+k) (by simp only[maxLen];omega)
 repeat' first|apply jS|apply jO|apply jN|apply jT|refine Q1 ?_|refine Q0 ?_|refine QW (h:=?_)|apply jB
 refine Qn (ι:=Nat × aj × List Nat) ⟨fun z=>[(20,nv z.1),(19,nv n),(18,v),(5,.slice (some ⟨b5,0,none⟩) (n+k) (n+k)),(0,v),(1,u)],fun z=>z.2.1++[],
  fun z=>z.1≤n∧aZ z.2.1 (.slice (some ⟨b5,0,none⟩) (n+k) (n+k)) (n+k) z.2.2∧(∀ x∈z.2.2,x<W32)∧val W32 z.2.2=val W32 (xs.take z.1)*val W32 ys∧∀ j,z.1+k≤j→z.2.2.getD j 0=0,fun z=>n-z.1⟩
  (0,_,_) ⟨V8 _,hO,fun x hx=>by obtain⟨a,_,rfl⟩:=List.mem_map.1 hx;decide,by show val W32 (tab (n+k) fun _=>0)=_;rw[We];simp[val],fun j _=>Xe _ j⟩ aC QE (fun z hz=>?_)
 clear hO
 obtain⟨i,N,zs⟩:=z
 obtain⟨hi,hO,hz,hval,hzero⟩:=hz
 dsimp only at hi hO hz hval hzero ⊢
 have hlz:=hO.len
 by_cases hin:i<n
 ·have hxi:xs.getD i 0<4294967296:=QD (b:=W32) dq hx i
  repeat' first|apply jS|apply jO|apply jN|apply jT|refine Q1 ?_|refine Q0 ?_|refine Zd (h:=?_)|refine Yr (h:=?_)|refine QW (h:=?_)|(refine Qg (h1:=?_) (h2:=?_)<;>intro hc<;>try omega)|apply jK|refine Q5 rfl ?_|apply jB
  refine Qn (ι:=Nat × Nat × aj × List Nat) ⟨fun y=>[(27,nv y.1),(26,nv k),(25,u),(8,uv y.2.1),(7,uv (xs.getD i 0)),(6,nv i),(20,nv i),(19,nv n),(18,v),(5,.slice (some ⟨b5,0,none⟩) (n+k) (n+k)),(0,v),(1,u)],fun y=>y.2.2.1++[],
   fun y=>y.1≤k∧aZ y.2.2.1 (.slice (some ⟨b5,0,none⟩) (n+k) (n+k)) (n+k) y.2.2.2∧(∀ x∈y.2.2.2,x<W32)∧y.2.1<4294967296∧val W32 y.2.2.2+W32 ^ (i+y.1)*y.2.1=val W32 (xs.take i)*val W32 ys+W32 ^ i*(xs.getD i 0*val W32 (ys.take y.1))∧∀ j,i+k≤j→y.2.2.2.getD j 0=0,fun y=>k-y.1⟩
   (0,0,_,_) ⟨V8 _,hO,hz,by show (0:Nat)<4294967296;decide,by simp[hval,val],hzero⟩ aC QE (fun y hyy=>?_)
  clear hO hz hval hzero hlz
  obtain⟨q,c,M,us⟩:=y
  obtain⟨hq,hO,hz,hc1,hval,hzero⟩:=hyy
  dsimp only at hq hO hz hc1 hval hzero ⊢
  have hlz:=hO.len
  by_cases hqk:q<k
  ·have hyq:ys.getD q 0<4294967296:=QD (b:=W32) dq hy q
   have huq:us.getD (i+q) 0<4294967296:=QD (b:=W32) dq hz (i+q)
   have hxy:=Q7t hxi hyq
   repeat' first|apply jS|apply jO|apply jN|apply jT|refine Q1 ?_|refine Q0 ?_|refine Z8 (h:=?_)|refine Q5x (h:=?_)|refine Zd (h:=?_)|refine Yr (h:=?_)|refine Q11 (h:=?_)|refine Qa7 (h:=?_)|refine X4 (h:=?_)|(refine Qg (h1:=?_) (h2:=?_)<;>intro hc<;>try omega)|apply jK|refine Q5 rfl ?_|apply jB
   refine Xw (A:=[]) hO rfl rfl trivial rfl rfl oq (fun M' aX=>?_)
   repeat' first|apply jO|apply jN|apply jT|refine Q1 ?_|refine Q0 ?_|refine Qd ?_|apply jW
   refine Q8 (q+1,_,M',_) ⟨by dsimp only;omega,aX,Yj hz (Nat.mod_lt _ dq),?_,?_,fun j hj=>?_⟩ aW aC QE
   ·dsimp only;omega
   ·dsimp only
    have e:=Xk (b:=W32) (l:=us) (j:=i+q) (u:=(us.getD (i+q) 0+xs.getD i 0*ys.getD q 0+c) % W32) oq
    have:=Q7s e rfl hval
    rw[QJ,Vm,Vm, ← Nat.add_assoc (_*_), ← Nat.add_assoc i q 1,V9]
    have e3:W32 ^ i*(xs.getD i 0*(W32 ^ q*ys.getD q 0))=W32 ^ (i+q)*(xs.getD i 0*ys.getD q 0):=by
     rw[Nat.pow_add]
     simp only[Nat.mul_left_comm,Vk]
    rw[e3]
    exact this
   ·dsimp only at hj ⊢
    rw[getD_set_ne oq]
    exact hzero j oq
  ·obtain rfl:q=k:=by omega
   repeat' first|apply jS|apply jO|apply jN|apply jT|refine Q1 ?_|refine Z8 (h:=?_)|refine Zd (h:=?_)|refine QW (h:=?_)|(refine Qg (h1:=?_) (h2:=?_)<;>intro hc<;>try omega)|apply jU|apply jE|refine Q4 rfl ?_|apply Qc
   refine Xw (A:=[]) hO rfl rfl trivial rfl rfl oq (fun M' aX=>?_)
   repeat' first|apply jO|apply jN|apply jT|refine Q1 ?_|refine Qd ?_|apply jW
   refine Q8 (i+1,M',_) ⟨by dsimp only;omega,aX,Yj hz hc1,?_,fun j hj=>?_⟩ aW aC QE
   ·dsimp only
    have e:=Xk (b:=W32) (l:=us) (j:=i+q) (u:=c) oq
    rw[hzero (i+q) (V7 _),Nat.mul_zero,Vp,hval]at e
    rw[e,QJ,Vl,Vd (l:=ys) (i:=q) oq,Vk]
   ·dsimp only at hj ⊢
    rw[getD_set_ne oq]
    exact hzero j oq
 ·repeat' first|apply jS|apply jO|apply jN|apply jT|refine Q1 ?_|(refine Qg (h1:=?_) (h2:=?_)<;>intro hc<;>try omega)|apply jU|apply jE|refine Q4 rfl ?_|apply Qc
  refine Q9 trivial rfl rfl rfl (fun w hk hs=>YR w _ _ _ _ (hO.rd.at hk hs Qb) oq) fun w v w' _ _ _ hR=>?_
  obtain⟨q,hq,rfl,hnq⟩:=hR
  repeat' first|apply jN|apply jT|refine Q0 ?_|apply jR
  have hown:=hO.hd hq
  rw[← hnq]at hown
  have jG:(nrm zs).length=q:=hown.len
  refine Qj rfl (fun a w' st=>⟨st.kp,N,nrm zs,st.bI rfl Qb,by rw[jG];exact hown,dA.of hz,?_⟩)
  rw[Zo,hval,Vd oq]


theorem Q2i {H:aj} {w:World} {b:Nat} {o:Obj} (h:aG H w) (k:Nat) (hk:H[k]?=some (b,o)):w.heap[b]?=some o:=h.blk (b,o) (List.mem_of_getElem? hk)
theorem WU.hd {w:World} {A:Option Addr} {n k cap:Nat} {xs:List Nat} (hv:WU w (.slice A n cap) n xs) (hk:k≤n):WU w (.slice A k cap) k (xs.take k):=by
 have hl:=hv.len
 obtain⟨h1,A',cap',h2,h3,h4⟩:=hv
 simp only[Value.slice.injEq]at h2
 obtain⟨rfl,_,rfl⟩:=h2
 refine⟨by simp;omega,A,cap,rfl,by omega,fun h0=>⟨(h4 oq).1,fun j u hu=>?_⟩⟩
 obtain⟨⟨b,o,rfl⟩,h5⟩:=h4 oq
 refine h5 j u ?_
 rw[List.map_take,List.getElem?_take]at hu
 split at hu
 ·exact hu
 ·cases hu
theorem WU.monoM {w w':World} {M:List Nat} {v:Value} {n:Nat} {xs:List Nat} (h:WU w v n xs) (hk:Kp M w w') (hne:0<n→(dK v 0).block∉M):WU w' v n xs:=by
 obtain⟨hl,A,cap,rfl,hn,h⟩:=h
 refine⟨hl,A,cap,rfl,hn,fun h0=>⟨(h h0).1,fun j u hu=>?_⟩⟩
 have h1:=(h h0).2 j u hu
 obtain⟨b,o,rfl⟩:=(h h0).1
 have hb:=hk.block _ (Yt h1) (hne h0)
 unfold World.cell? at h1 ⊢
 rw[hb];exact h1
theorem WU.cap {w:World} {A:Option Addr} {n cap:Nat} {xs:List Nat} (h:WU w (.slice A n cap) n xs):n≤cap:=by
 obtain⟨_,A',cap',h2,h3,_⟩:=h
 simp only[Value.slice.injEq]at h2
 obtain⟨_,_,rfl⟩:=h2
 exact h3
theorem YB {a b:Nat}:fG a b<0↔a<b:=by
 unfold fG
 split
 ·simp_all
 ·split<;>simp_all
theorem Q5k {b:Nat} (d:Nat):val b [d]=d:=by simp[val]
theorem X0 {d:Nat}:val W32 (nrm [d])=d:=by rw[Zo,Q5k]

def put (i k:Nat) (zs us:List Nat):List Nat:=us.take i++((zs++List.replicate (k-zs.length) 0)++us.drop (i+k))
theorem Ql5 {i k:Nat} {zs us:List Nat} (h:i+k≤us.length) (hz:zs.length≤k):YP i zs.length zs (YP i k (List.replicate k 0) us)=put i k zs us:=by
 have e1:(us.take i).length=i:=by simp;omega
 have e2:(YP i k (List.replicate k 0) us)=us.take i++(List.replicate k 0++us.drop (i+k)):=by
  unfold YP
  rw[Vd (l:=List.replicate k 0) (i:=k) aA]
 rw[e2]
 unfold YP put
 rw[List.take_append_of_le_length oq,Vd (l:=us.take i) oq,List.drop_append,List.drop_eq_nil_of_le oq,Vd (l:=zs) (V7 _),e1,show i+zs.length-i=zs.length by omega,List.drop_append_of_le_length (by simp;omega),List.drop_replicate,Vr,Vb]
theorem Wk {i k:Nat} {zs us:List Nat} (h:i+k≤us.length) (hz:zs.length≤k):(put i k zs us).length=us.length:=by
 unfold put
 simp
 omega
theorem Qht {i k:Nat} {zs us:List Nat} (h:i+k≤us.length):(put i k zs us).drop i=(zs++List.replicate (k-zs.length) 0)++us.drop (i+k):=by
 unfold put
 rw[List.drop_append,List.drop_eq_nil_of_le (by simp;omega),Vr,show i-(us.take i).length=0 by simp;omega,List.drop_zero]
theorem Q2s {i k:Nat} {zs us:List Nat} (h:i+k≤us.length):(put i k zs us).take i=us.take i:=by
 unfold put
 rw[List.take_append_of_le_length (by simp;omega),Vd (by simp;omega)]
theorem Qag {b i k:Nat} {zs us:List Nat} (hb:0<b) (hu:∀ x∈us,x<b) (hz:∀ x∈zs,x<b):∀ x∈put i k zs us,x<b:=fun x hx=>by
 unfold put at hx
 simp only[List.mem_append]at hx
 rcases hx with h|(h|h)|h
 ·exact hu x (List.mem_of_mem_take h)
 ·exact hz x h
 ·rw[List.eq_of_mem_replicate h];exact hb
 ·exact hu x (List.mem_of_mem_drop h)
theorem Qgu (b n:Nat):val b (List.replicate n 0)=0:=by
 induction n with
 | zero=>rfl
 | succ n ih=>rw[List.replicate_succ,val,ih];simp
theorem Q5j {b i k:Nat} {zs us:List Nat} (h:i+k≤us.length) (h0:val b (us.drop (i+k))=0):val b ((put i k zs us).drop i)=val b zs:=by
 rw[Qht h,YX,YX,h0,Qgu]
 simp

theorem Qbn (w:World) (v:Value) (n:Nat) (xs:List Nat) (hv:WU w v n xs) (hn:n≤16000000000000) :
  Calls Tryz.prog 197 #[v] w (aQ fun u w'=>Kp [] w w'∧∃ N,New N w w'∧aZ N u n xs):=by
 obtain⟨A,cap,rfl⟩:=hv.form
 cases A with
 | none =>
  have h0:n=0∧xs=[]:=by
   have h1:=hv.len
   rcases Nat.eq_zero_or_pos n with h|h
   ·subst h;exact⟨rfl,List.eq_nil_of_length_eq_zero h1⟩
   ·obtain⟨_,A,cap',he,_,hA⟩:=hv
    cases he
    obtain⟨⟨_,_,h2⟩,_⟩:=hA oq
    cases h2
  obtain⟨rfl,rfl⟩:=h0
  refine Qa [] [] aA [] Tryz.func197 rfl mixed (by kernel_rfl) Tryz.ntmps197 Tryz.results197 rfl ⟨by simp,by simp⟩ aA ?_
  simp only[toS,Qe,Qx,Qo,Qr,ay,Ql,Qy,aB]
  repeat' first|apply jS|apply jO|apply jN|apply jT|refine Q1 ?_|refine Q0 ?_|refine Q60 (h:=?_)|apply jV|apply jR|refine Q5 rfl ?_
  exact Qj rfl (fun a w' st=>⟨st.kp,[],New.nil _ _,aZ.nil⟩)
 | some ad =>
  refine Qa [] [] aA [] Tryz.func197 rfl mixed (by kernel_rfl) Tryz.ntmps197 Tryz.results197 rfl ⟨by simp,by simp⟩ aA ?_
  simp only[toS,Qe,Qx,Qo,Qr,ay,Ql,Qy,aB]
  repeat' first|apply jS|apply jO|apply jN|apply jT|refine Q1 ?_|refine Q0 ?_|refine Q60 (h:=?_)|apply jK|refine Q4 rfl ?_
  refine XP rfl rfl rfl (fun b=>?_)
  repeat' first|refine Q1 ?_|fail
  have hO:aZ [(b,.cells #[] 126)] (.slice (some ⟨b,0,none⟩) 0 0) 0 []:=YA b 0 [] [] rfl rfl oq
  refine Qed (A:=[]) hO (WU.rd hv rfl []) Qb rfl trivial rfl rfl rfl rfl oq (fun v' N' aX=>?_)
  rw[Vq,Vr]at aX
  repeat' first|apply jN|apply jT|refine Q0 ?_|apply jR
  exact Qj rfl (fun a w' st=>⟨st.kp,N',st.bI rfl Qb,aX⟩)

theorem Qjz (w:World) (b o n cap m d:Nat) (xs ys:List Nat) (u:Value) (hv:WU w (.slice (some ⟨b,o,none⟩) n cap) n xs) (hu:WU w u m ys) (hm:m+1≤n) (hx:∀ x∈xs,x<W32) (hy:∀ x∈ys,x<W32) (hd:d<4294967296) (hm6:m≤8400000000000) :
  Calls Tryz.prog 177 #[.slice (some ⟨b,o,none⟩) n cap,u,uv d] w (aQ fun v w'=>Kp [] w w'∧v=.bool (decide (val W32 (xs.take (m+1))<val W32 ys*d))):=by
 have hlx:=hv.len
 have hly:=hu.len
 have hcap:=hv.cap
 have hxt:∀ x∈xs.take (m+1),x<W32:=fun x hx'=>hx x (List.mem_of_mem_take hx')
 refine Qa [] [] aA [] Tryz.func177 rfl mixed (by kernel_rfl) Tryz.ntmps177 Tryz.results177 rfl ⟨by simp,by simp⟩ aA ?_
 simp only[toS,Qe,Qx,Qo,Qr,ay,Ql,Qy,aB]
 repeat' first|apply jS|apply jO|apply jN|refine Q1 ?_|refine Q0 ?_|refine Qd ?_|refine QW (h:=?_)|apply jT
 refine Q7k rfl rfl rfl rfl hm hcap ?_
 skip
 refine Qt (A:=[]) rfl trivial rfl rfl rfl (fun w hk hs=>Qbn w _ _ _ ((hv.mono hk).hd hm) oq) fun w v w' _ _ _ hR=>?_
 obtain⟨N1,hN1,bG⟩:=hR
 refine⟨N1,hN1,?_⟩
 obtain⟨A1,c1,rfl⟩:=bG.form
 skip
 refine Q9 trivial rfl rfl rfl (fun w hk hs=>YR w _ _ _ _ (bG.rd.at hk hs Qb) oq) fun w v w' _ _ _ hR=>?_
 obtain⟨k1,hk1,rfl,hn1⟩:=hR
 have hO1':=bG.hd hk1
 rw[← hn1]at hO1'
 repeat' first|refine Q1 ?_|refine QH (h:=fun _=>?_)|fail
 rename_i b3
 have hO3:aZ [(b3,.cells ⟨[uv d]⟩ 126)] (.slice (some ⟨b3,0,none⟩) 1 1) 1 [d]:=YA b3 1 [d] _ rfl rfl oq
 refine Q9 trivial rfl rfl rfl (fun w hk hs=>YR w _ _ _ _ (hO3.rd.at hk hs Qb) oq) fun w v w' _ _ _ hR=>?_
 obtain⟨k3,hk3,rfl,hn3⟩:=hR
 have jq:=hO3.hd hk3
 rw[← hn3]at jq
 have hd3:∀ x∈nrm [d],x<W32:=fun x hx=>by
  have:=Xq x hx
  rw[List.mem_singleton]at this
  rw[this];exact hd
 skip
 refine Qt (A:=[]) rfl trivial rfl rfl rfl (fun w hk hs=>Qbf w _ _ _ _ _ _ (hu.mono hk) (jq.rd.at hk hs Qb) hy hd3 oq oq) fun w v w' _ _ _ hR=>?_
 obtain⟨N4,zs,hN4,hO4,hz,hval⟩:=hR
 refine⟨N4,hN4,?_⟩
 rw[X0]at hval
 have hzl:zs.length≤m+1:=by
  refine hz.bM dq ?_
  rw[hval,V9]
  have h1:val W32 ys<W32 ^ m:=by have:=Yi hy;rwa [hly]at this
  exact V6 (Nat.mul_lt_mul_of_lt_of_le h1 (Nat.le_of_lt hd) dq) (V7 _)
 obtain⟨A4,c4,rfl⟩:=hO4.form
 skip
 refine Q9 trivial rfl rfl rfl (fun w hk hs=>Qmd w _ _ _ _ _ _ (hO1'.rd.at hk hs Qb) (hO4.rd.at hk hs Qb) (dA.of hxt) hz oq oq) fun w v w' _ _ _ hR=>?_
 rw[Zo,hval]at hR
 subst hR
 repeat' first|apply jN|apply jT|refine Q0 ?_|(refine Qg (h1:=?_) (h2:=?_)<;>intro hc<;>try omega)|apply jR
 ·have h1:=YB.1 hc
  exact Qj rfl (fun a w' st=>⟨st.kp,by rw[decide_eq_true h1]⟩)
 ·have h1:=fun h=>hc (YB.2 h)
  exact Qj rfl (fun a w' st=>⟨st.kp,by rw[decide_eq_false h1]⟩)

theorem Qbb (w:World) (b i cap m d iI:Nat) (us ys:List Nat) (Au:Option Addr) (rest:List Value) (hb:w.heap[b]?=some (.cells (ZJ us rest) 126 (0,0))) (hc:us.length≤cap) (hu:WU w (.slice Au m iI) m ys) (hne:0<m→(dK (.slice Au m iI) 0).block∉[b]) (hi:i+m+1≤us.length)
  (hx:∀ x∈us,x<W32) (hy:∀ x∈ys,x<W32) (hd:d<4294967296) (hm6:m≤8400000000000) (hle:val W32 ys*d≤val W32 ((us.drop i).take (m+1))) (hL:us.length≤16000000000000) :
  Calls Tryz.prog 178 #[.slice (some ⟨b,i,none⟩) (us.length-i) (cap-i),.slice Au m iI,uv d] w (aQ fun _ w'=>Kp [b] w w'∧∃ zs,zs.length≤m+1∧dA W32 zs∧val W32 zs+val W32 ys*d=val W32 ((us.drop i).take (m+1))∧w'.heap[b]?=some (.cells (ZJ (put i (m+1) zs us) rest) 126 (0,0))):=by
 have hly:=hu.len
 have hblt:b<w.heap.size:=by
  rcases Nat.lt_or_ge b w.heap.size with h|h
  ·exact h
  ·rw[Array.getElem?_eq_none h]at hb;cases hb
 have hxt:∀ x∈(us.drop i).take (m+1),x<W32:=fun x hx'=>hx x (List.mem_of_mem_drop (List.mem_of_mem_take hx'))
 refine Qa [] [b] (by simpa using hblt) [(b,.cells (ZJ us rest) 126 (0,0))] Tryz.func178 rfl mixed (by kernel_rfl) Tryz.ntmps178 Tryz.results178 rfl ⟨by simp,by simpa using hb⟩ aA ?_
 simp only[toS,Qe,Qx,Qo,Qr,ay,Ql,Qy,aB]
 repeat' first|apply jS|refine Q1 ?_|refine ZC (h:=?_)|refine Qd ?_|apply jO
 refine Q7k rfl rfl rfl rfl oq oq ?_
 skip
 refine Qt (A:=[_]) rfl trivial rfl rfl rfl (fun w hk hs=>Qbn w _ _ _ (Q71 (Q2i hs 0 rfl) oq oq) oq) fun w v w' _ _ _ hR=>?_
 obtain⟨N1,hN1,bG⟩:=hR
 refine⟨N1,hN1,?_⟩
 obtain⟨A1,c1,rfl⟩:=bG.form
 repeat' first|refine Q1 ?_|refine QH (h:=fun _=>?_)|fail
 rename_i b3
 have hO3:aZ [(b3,.cells ⟨[uv d]⟩ 126)] (.slice (some ⟨b3,0,none⟩) 1 1) 1 [d]:=YA b3 1 [d] _ rfl rfl oq
 refine Q9 trivial rfl rfl rfl (fun w hk hs=>YR w _ _ _ _ (hO3.rd.at hk hs Qb) oq) fun w v w' _ _ _ hR=>?_
 obtain⟨k3,hk3,rfl,hn3⟩:=hR
 have jq:=hO3.hd hk3
 rw[← hn3]at jq
 have hd3:∀ x∈nrm [d],x<W32:=fun x hx=>by
  have:=Xq x hx
  rw[List.mem_singleton]at this
  rw[this];exact hd
 skip
 refine Qt (A:=[_,_]) rfl trivial rfl rfl rfl (fun w hk hs=>Qbf w _ _ _ _ _ _ (hu.monoM hk hne) (jq.rd.at hk hs Qb) hy hd3 oq oq) fun w v w' _ _ _ hR=>?_
 obtain⟨N4,zs,hN4,hO4,hz,hval⟩:=hR
 refine⟨N4,hN4,?_⟩
 rw[X0]at hval
 have hlen1:((us.drop i).take (m+1)).length=m+1:=by simp;omega
 have hzl:zs.length≤m+1:=by
  refine hz.bM dq ?_
  rw[hval]
  refine V5 hle ?_
  have:=Yi hxt
  rwa [hlen1]at this
 obtain⟨A4,c4,rfl⟩:=hO4.form
 skip
 refine Qt (A:=[_,_]) rfl trivial rfl rfl rfl (fun w hk hs=>Qft w _ _ _ _ _ _ (bG.rd.at hk hs Qb) (hO4.rd.at hk hs Qb) hxt hz.lt oq hzl (by rw[hval];exact hle)) fun w v w' _ _ _ hR=>?_
 obtain⟨N5,rs,hN5,iy,hr,dX⟩:=hR
 refine⟨N5,hN5,?_⟩
 rw[hval]at dX
 have hrl:rs.length≤m+1:=by
  refine hr.bM dq ?_
  have:=Yi hxt
  rw[hlen1, ← dX]at this
  exact V5 (Nat.le_add_right _ _) this
 obtain⟨A5,c5,rfl⟩:=iy.form
 repeat' first|apply jS|apply jO|apply jN|refine Q1 ?_|refine Q0 ?_|refine ZC (h:=?_)|refine Qd ?_|apply jT
 refine Q7k rfl rfl rfl rfl oq oq ?_
 refine Qhn (A:=[_]) rfl trivial rfl rfl oq oq ?_
 repeat' first|apply jO|apply jN|refine Q1 ?_|apply jT
 refine Ql2 (A:=[_]) rfl iy.rd Qb trivial rfl rfl rfl rfl oq (by rw[Qbz aA oq];omega) ?_
 repeat' first|apply jN
 refine Ze (fun a w' st=>⟨st.kp,rs,hrl,hr,dX,?_⟩)
 rw[← Ql5 oq hrl]
 exact Q2i st.hs 1 rfl


structure WAt (w0:World) (b4 b5 bx:Nat) (sx:Value) (pre:List (Nat × Nat)) (W:World):Prop where
 ex:∃ v N,dU N v (4*pre.length) (wbs pre)∧aG ((b5,.cells #[v] 51 (0,0))::(b4,.cells #[.bool false,.string ⟨#[]⟩] 75 (0,0))::(bx,.cells #[sx] 147 (0,0))::N) W∧∀ p∈N,w0.heap.size≤p.1
 kp:Kp [] w0 W

theorem dU.cells {N:aj} {v:Value} {n:Nat} {xs:List Nat} (h:dU N v n xs):∀ p∈N,p.2.isCells=true:=by
 obtain⟨_,⟨_,_,rfl⟩|⟨b,cap,cur,_,rfl,_⟩⟩:=h
 ·intro p hp;cases hp
 ·intro p hp;cases List.mem_singleton.1 hp;rfl

theorem Qmu {w0:World} {b4 b5 bx B:Nat} {sx:Value} (hB:w0.heap.size≤B):OwnFrom B (WAt w0 b4 b5 bx sx):=by
 rintro pre W W' row ⟨⟨v,N,hO,hs,hN⟩,hk⟩ hg hr
 have key:∀ (k:Nat) (o:Obj),W.heap[k]?=some o→o.isCells=true→W'.heap[k]?=some o:=fun k o h hc=>by
  refine(hg.block k (Array.getElem?_eq_some_iff.1 h).1 (fun e=>?_)).trans h
  obtain⟨_,o',h1,h2⟩:=hr k e.symm
  rw[h]at h1
  cases h1
  rw[hc]at h2;cases h2
 refine⟨⟨v,N,hO,⟨hs.nd,fun p hp=>key _ _ (hs.blk p hp) ?_⟩,hN⟩,⟨hg.os.trans hk.os,hg.tape.trans hk.tape,hg.output.trans hk.output,V0 hk.size hg.size,fun k hk' hm=>(hg.block k (V6 hk' hk.size) (fun e=>?_)).trans (hk.block k hk' hm)⟩⟩
 ·rcases List.mem_cons.1 hp with rfl|hp
  ·rfl
  ·rcases List.mem_cons.1 hp with rfl|hp
   ·rfl
   ·rcases List.mem_cons.1 hp with rfl|hp
    ·rfl
    ·exact hO.cells p hp
 ·have:=(hr k e.symm).1
  omega

theorem WAt.same {w0 W W':World} {b4 b5 bx:Nat} {sx:Value} {pre:List (Nat × Nat)} (h:WAt w0 b4 b5 bx sx pre W) (hk:Kp [] W W'):WAt w0 b4 b5 bx sx pre W':=by
 obtain⟨⟨v,N,hO,hs,hN⟩,hk0⟩:=h
 exact⟨⟨v,N,hO,hs.kp hk aA,hN⟩,hk0.trans hk⟩
theorem Kp.keeps {W W':World} (hk:Kp [] W W') (B:Nat):KeepsFrom B W W':=⟨hk.size,fun k o _ h _=>(hk.block k (Array.getElem?_eq_some_iff.1 h).1 aA).trans h⟩

def WAx (b5:Nat) (x:Nat × Nat) (a:Act) (_:World):Prop:=dQ 43 [(7,uv x.2),(5,.pointer (some ⟨b5,0,none⟩))] a

theorem dQ.set {n:Nat} {F:ak} {a:Act} (h:dQ n F a) {d:Nat} (v:Value) (hd:d<n):dQ n ((d,v)::F) { a with tmps:=a.tmps.setIfInBounds d v }:=by
 have:=h.put (d:=some d) v (by simpa [Qw] using hd)
 exact this

theorem dQ.sub {n:Nat} {F F':ak} {a:Act} (h:dQ n F a) (hc:cov F F'):dQ n F' a:=⟨h.defers,h.size,fun i v hl=>h.fr i v (WB hc i v hl)⟩

theorem aG.ltp {H:aj} {w:World} (h:aG H w) {p:Nat × Obj} (hp:p∈H):p.1<w.heap.size:=(Array.getElem?_eq_some_iff.1 (h.blk p hp)).1

theorem WAt.kb {w0 W W':World} {b4 b5 bx:Nat} {sx:Value} {pre:List (Nat × Nat)} {S M:List Nat} (h:WAt w0 b4 b5 bx sx pre W) (hS:∀ q∈S,q=bx∨q<w0.heap.size) (hM:∀ q∈S,q∉M) (hk:Kp M W W'):KB S W W':=fun q hq=>by
 refine hk.block q ?_ (hM q hq)
 rcases hS q hq with rfl|h1
 ·obtain⟨⟨v,N,hO,hs,hN⟩,_⟩:=h
  exact hs.ltp (p:=(q,_)) (Vc _ (Vc _ (Vf ..)))
 ·exact V6 h1 h.kp.size

theorem Qcn {w0 W W':World} {b4 b5 bx bl:Nat} {sx v v':Value} {ol:Obj} {pre:List (Nat × Nat)} {x:Nat × Nat} {N N':aj} {S:List Nat} (B:Nat) (hO:dU N v (4*pre.length) (wbs pre)) (hs:aG ((b5,.cells #[v] 51 (0,0))::(b4,.cells #[.bool false,.string ⟨#[]⟩] 75 (0,0))::(bx,.cells #[sx] 147 (0,0))::N) W) (hN:∀ p∈N,w0.heap.size≤p.1) (hk0:Kp [] w0 W)
  (h5:w0.heap.size≤b5) (hS:∀ q∈S,q=bx∨q<w0.heap.size) (aX:dU N' v' (4*pre.length+4) (wbs (pre++[x]))) (hk:Kp (b5::N.map (·.1)) W W')
  (hs':aG ((bl,ol)::(b5,.cells #[v'] 51 (0,0))::N') W') (hwr:∀ p∈N',W.heap.size≤p.1∨p.1∈b5::N.map (·.1)):KeepsFrom B W W'∧KB S W W'∧WAt w0 b4 b5 bx sx (pre++[x]) W':=by
 have hnd:=hs.nd
 simp only[List.map_cons,List.nodup_cons,List.mem_cons,not_or]at hnd
 obtain⟨⟨e54,e5x,e5N⟩,⟨e4x,e4N⟩,jr,hNn⟩:=hnd
 have hnd':=hs'.nd
 simp only[List.map_cons,List.nodup_cons,List.mem_cons,not_or]at hnd'
 obtain⟨_,e5N',hNn'⟩:=hnd'
 have hb5:=hs.blk (b5,_) (Vf ..)
 have hb4:=hs.blk (b4,_) (Vc _ (Vf ..))
 have hbx:=hs.blk (bx,_) (Vc _ (Vc _ (Vf ..)))
 have l4:=(Array.getElem?_eq_some_iff.1 hb4).1
 have lx:=(Array.getElem?_eq_some_iff.1 hbx).1
 dsimp only at hb5 hb4 hbx l4 lx
 have n4:b4∉b5::N.map (·.1):=by simp only[List.mem_cons,not_or];exact⟨Ne.symm e54,e4N⟩
 have nx:bx∉b5::N.map (·.1):=by simp only[List.mem_cons,not_or];exact⟨Ne.symm e5x,jr⟩
 have hMge:∀ q∈b5::N.map (·.1),w0.heap.size≤q:=fun q hq=>by
  rcases List.mem_cons.1 hq with rfl|hq
  ·exact h5
  ·obtain⟨p,hp,rfl⟩:=List.mem_map.1 hq
   exact hN p hp
 have hfar:∀ q,q<W.heap.size→q∉b5::N.map (·.1)→q∉N'.map (·.1):=fun q hq hn hm=>by
  obtain⟨p,hp,rfl⟩:=List.mem_map.1 hm
  rcases hwr p hp with h|h
  ·omega
  ·exact hn h
 have hSM:∀ q∈S,q∉b5::N.map (·.1):=fun q hq hm=>by
  rcases hS q hq with rfl|h1
  ·exact nx hm
  ·have:=hMge q hm;omega
 refine⟨⟨hk.size,fun q o _ h hc=>(hk.block q (Array.getElem?_eq_some_iff.1 h).1 (fun hm=>?_)).trans h⟩,?_,⟨⟨v',N',?_,⟨?_,fun p hp=>?_⟩,fun p hp=>?_⟩,⟨hk.os.trans hk0.os,hk.tape.trans hk0.tape,hk.output.trans hk0.output,V0 hk0.size hk.size,fun q hq hm=>(hk.block q (V6 hq hk0.size) (fun hm'=>?_)).trans (hk0.block q hq hm)⟩⟩⟩
 ·rcases List.mem_cons.1 hm with rfl|hm
  ·rw[hb5]at h;cases h;cases hc
  ·obtain⟨p,hp,rfl⟩:=List.mem_map.1 hm
   have h2:=hs.blk p (Vc _ (Vc _ (Vc _ hp)))
   rw[h2]at h;cases h
   rw[hO.cells p hp]at hc;cases hc
 ·exact WAt.kb ⟨⟨v,N,hO,hs,hN⟩,hk0⟩ hS hSM hk
 ·rw[Vi,Vo,Vm,Nat.mul_one];exact aX
 ·simp only[List.map_cons,List.nodup_cons,List.mem_cons,not_or]
  exact⟨⟨e54,e5x,e5N'⟩,⟨e4x,hfar _ l4 n4⟩,hfar _ lx nx,hNn'⟩
 ·rcases List.mem_cons.1 hp with rfl|hp
  ·exact hs'.blk _ (Vc _ (Vf ..))
  ·rcases List.mem_cons.1 hp with rfl|hp
   ·exact(hk.block _ l4 n4).trans hb4
   ·rcases List.mem_cons.1 hp with rfl|hp
    ·exact(hk.block _ lx nx).trans hbx
    ·exact hs'.blk _ (Vc _ (Vc _ hp))
 ·rcases hwr p hp with h|h
  ·have:=hk0.size;omega
  ·exact hMge _ h
 ·have:=hMge q hm';omega

theorem Yh (w0:World) (v:Value) (n:Nat) (xs:List Nat) (p:Bool) (hv:WU w0 v n xs) (hx:∀ x∈xs,x<W32) (hn:n≤16000000000000) :
  Calls Tryz.prog 123 #[v,.bool p] w0 (aQ fun r w'=>Kp [] w0 w'∧r=Wv (bC p (val W32 xs))):=by
 obtain⟨A,cap,rfl⟩:=hv.form
 refine Q22 3 [⟨6,0,[],[(1,.seq)]⟩] Tryz.func123 rfl mixed (by kernel_rfl) Tryz.ntmps123 aA ?_
 simp only[toZ,Q68,Bool.or_false,Bool.false_or,Bool.or_self,Bool.true_or,cond_true,cond_false,toS,Qe,Qx,Qo,Qr,ay,Ql,Qy,aB]

 repeat' first|apply jS|apply jO|apply jN|refine Q1 ?_|refine Qh fun _=>?_|apply jT
 rename_i b4
 refine Q9 trivial rfl rfl rfl (fun w hk hs=>YR w _ _ _ _ (hv.mono hk) oq) fun w v w' _ _ _ hR=>?_
 obtain⟨k,hk,rfl,hnk⟩:=hR
 have hvk:=hv.hd hk
 rw[← hnk]at hvk
 have hlk:(nrm xs).length=k:=hvk.len
 repeat' first|apply jS|apply jO|apply jN|refine Q1 ?_|refine Q0 ?_|refine ZC (h:=?_)|refine Z1 (i:=4) (h:=?_)|apply jT
 refine Qkv (n:=0) (k:=4*k) rfl rfl rfl rfl rfl oq oq oq (fun bb=>?_)
 repeat' first|apply jS|apply jO|apply jN|refine Q1 ?_|refine Qh fun _=>?_|refine QO ?_|apply jT
 rename_i b5
 refine Qt (A:=[]) rfl trivial rfl rfl rfl (fun w hk hs=>Qos w _ A k cap rfl) fun w v w' _ _ _ hR=>?_
 obtain⟨bx,rfl,hNx⟩:=hR
 refine⟨_,hNx,?_⟩
 repeat' first|apply jN|apply jT|apply jB
 refine JC.part (F':=[(16,.func (.func 180) #[] #[.pointer (some ⟨bx,0,none⟩)]),(5,.pointer (some ⟨b5,0,none⟩)),(4,.pointer (some ⟨b4,0,none⟩)),(1,.bool p)]) (H':=[(b5,.cells #[.slice (some ⟨bb,0,none⟩) 0 (4*k)] 51 (0,0)),(b4,.cells #[.bool false,.string ⟨#[]⟩] 75 (0,0)),(bx,.cells #[.slice A k cap] 147 (0,0)),(bb,.cells (Zb #[Value.int IntKind.u8 0] (4*k*1)) 5 (0,0))]) aC (by exact HSub.at 1 rfl (HSub.at 2 rfl (HSub.at 0 rfl (HSub.at 0 rfl (HSub.nil _))))) ?_
 refine JC.raw (fun a W st=>?_)
 obtain⟨tm,df⟩:=a
 obtain rfl:df=[]:=st.fr.defers
 have hge:∀ q∈[b5,b4,bx,bb],w0.heap.size≤q:=fun q hq=>by
  have:∃ o,(q,o)∈[(b5,Obj.cells #[.slice (some ⟨bb,0,none⟩) 0 (4*k)] 51 (0,0)),(b4,.cells #[.bool false,.string ⟨#[]⟩] 75 (0,0)),(bx,.cells #[.slice A k cap] 147 (0,0)),(bb,.cells (Zb #[Value.int IntKind.u8 0] (4*k*1)) 5 (0,0))]:=by
   simp only[List.mem_cons,List.mem_nil_iff,or_false]at hq
   rcases hq with rfl|rfl|rfl|rfl
   ·exact⟨_,Vf ..⟩
   ·exact⟨_,Vc _ (Vf ..)⟩
   ·exact⟨_,Vc _ (Vc _ (Vf ..))⟩
   ·exact⟨_,Vc _ (Vc _ (Vc _ (Vf ..)))⟩
  obtain⟨o,ho⟩:=this
  rcases st.wr _ ho with h|h
  ·exact h
  ·cases h
 have h5:w0.heap.size≤b5:=hge b5 aA
 have hWs:w0.heap.size≤W.heap.size:=st.kp.size
 have hI0:WAt w0 b4 b5 bx (.slice A k cap) [] W:=by
  refine⟨⟨_,[(bb,.cells (Zb #[Value.int IntKind.u8 0] (4*k*1)) 5 (0,0))],⟨rfl,.inr ⟨bb,4*k,_,rfl,rfl,V8 _,by simp only[maxLen];omega,by rw[iH];simp,rfl⟩⟩,st.hs,fun p hp=>?_⟩,st.kp⟩
  cases List.mem_singleton.1 hp
  exact hge bb aA
 obtain⟨S,hSx,hS,hWd⟩:∃ S:List Nat,bx∈S∧(∀ q∈S,q=bx∨q<w0.heap.size)∧Wds S W (.slice A k cap) (nrm xs):=by
  rcases Nat.eq_zero_or_pos k with h0|h0
  ·refine⟨[bx],by simp,fun q hq=>.inl (by simpa using hq),.inl ⟨List.eq_nil_of_length_eq_zero oq,A,cap,by rw[h0]⟩⟩
  ·obtain⟨_,A',cap',h1,_,h2⟩:=hvk
   simp only[Value.slice.injEq]at h1
   obtain⟨rfl,_,rfl⟩:=h1
   obtain⟨⟨ab,ao,rfl⟩,h3⟩:=h2 h0
   have hcell:∀ j,j<k→w0.cell? ⟨ab,ao+j,none⟩=some (uv ((nrm xs).getD j 0)):=fun j hj=>h3 j _ (by rw[List.getElem?_map,XB (d:=0) oq];rfl)
   have hab:ab<w0.heap.size:=Yt (hcell 0 h0)
   refine⟨[bx,ab],by simp,fun q hq=>?_,.inr ⟨ab,ao,cap,by rw[hlk],by simp,V6 hab st.kp.size,fun j hj=>?_⟩⟩
   ·simp only[List.mem_cons,List.mem_nil_iff,or_false]at hq
    rcases hq with rfl|rfl
    ·exact .inl rfl
    ·exact .inr hab
   ·have:=hcell j oq
    rw[World.cell?_of_block (w:=w0) (st.kp.block ab hab aA)]
    exact this
 have hbxW:bx<W.heap.size:=st.hs.ltp (p:=(bx,_)) (Vc _ (Vc _ (Vf ..)))
 have hcx:W.cell? ⟨bx,0,none⟩=some (.slice A k cap):=Z4 (st.hs.blk (bx,_) (Vc _ (Vc _ (Vf ..)))) rfl
 refine wpIn_wide.1 (wpIn_rangeFunc_ownH (F:=Fence.wide) (n:=3) rfl oq (gf:=180) (lb:=#[.pointer (some ⟨bx,0,none⟩)]) (st.fr.ev rfl) trivial (enters_of Tryz.func180 (by kernel_rfl) rfl)
  (Qcm Fence.wide 2 trivial rfl oq bx S (.slice A k cap) (nrm xs) oq W hbxW hSx hcx hWd) KB.trans (fun W' l o o' hl ho _ _ q hq=>?_) (Below.refl _ _) (fun _=>rfl)
  (WAt w0 b4 b5 bx (.slice A k cap)) (fun _ _ _=>False) (Qmu st.kp.size) (fun _ _ _ _ _ hs _ _=>hs) hI0 (WAx b5) (fun _ _ _ _ _ _ hs _ _=>hs) ?assign ?body ?done ?stop)
 ·refine World.putObj_heap_other (fun e=>?_)
  subst e
  rcases hS q hq with rfl|h
  ·omega
  ·omega
 case assign =>
  intro l pre x W1 K hI hK
  have stx:St ⟨Tryz.prog,43,W1,[],by simp⟩ [(18,uv x.2),(5,.pointer (some ⟨b5,0,none⟩))] [] { tmps:=(tm.setIfInBounds 17 (Value.int .i64 (x.1:Int))).setIfInBounds 18 (uv x.2),defers:=[] } W1 :=
   ⟨((st.fr.set (d:=17) (Value.int .i64 (x.1:Int)) (show 17<43 by decide)).set (d:=18) (uv x.2) (show 18<43 by decide)).sub aC,Kp.refl _ _,⟨by simp,by simp⟩,fun p hp=>by cases hp⟩
  have e:(Array.zip (#[17,18]:Array Tmp) #[Value.int .i64 (x.1:Int),Value.int .u64 (x.2:Int)]).foldl (fun t (p,v)=>t.setIfInBounds p v) tm=(tm.setIfInBounds 17 (Value.int .i64 (x.1:Int))).setIfInBounds 18 (uv x.2):=by simp
  rw[e]
  refine wpIn_mono (WJ (c:=⟨Tryz.prog,43,W1,[],by simp⟩) (ov:=[]) (F:=[(18,uv x.2),(5,.pointer (some ⟨b5,0,none⟩))]) (H:=[]) (K:=K) rfl ?_ _ _ stx) (fun e a w hq=>by cases e<;>first|exact hq|exact hq.elim)
  simp only[Qe,Qx,Qo,Qr]
  repeat' first|refine Q0 ?_|apply jN
  exact⟨fun a' W' st'=>hK a' W' (st'.kp.keeps _) (hI.kb hS aA st'.kp) (hI.same st'.kp) (st'.fr.sub aC)⟩
 case body =>
  intro l pre x a' W1 hl hr hI hA hlen
  have hI':=hI
  obtain⟨⟨v,N,hO,hs,hN⟩,hk0⟩:=hI
  have hMlt:∀ q∈b5::N.map (·.1),q<W1.heap.size:=fun q hq=>by
   rcases List.mem_cons.1 hq with rfl|hq
   ·exact hs.ltp (p:=(q,_)) (Vf ..)
   ·obtain⟨p,hp,rfl⟩:=List.mem_map.1 hq
    exact hs.ltp (Vc _ (Vc _ (Vc _ hp)))
  have hs1:aG ((b5,.cells #[v] 51 (0,0))::(N++[])) W1:=by
   rw[Vh]
   exact hs.sub (fun q hq=>by
    rcases List.mem_cons.1 hq with rfl|hq
    ·exact Vf ..
    ·exact Vc _ (Vc _ (Vc _ hq))) (by
    have:=hs.nd
    simp only[List.map_cons,List.nodup_cons,List.mem_cons,not_or]at this ⊢
    exact⟨this.1.2.2,this.2.2.2⟩)
  have st1:St ⟨Tryz.prog,43,W1,b5::N.map (·.1),hMlt⟩ [(7,uv x.2),(5,.pointer (some ⟨b5,0,none⟩))] ((b5,.cells #[v] 51 (0,0))::(N++[])) a' W1 :=
   ⟨hA, Kp.refl _ _, hs1, fun q hq => .inr (by
    rw[Vh]at hq
    rcases List.mem_cons.1 hq with rfl|hq
    ·exact Vf ..
    ·exact Vc _ (List.mem_map.2 ⟨q,hq,rfl⟩))⟩
  refine wpIn_block (wpIn_mono (WJ (c:=⟨Tryz.prog,43,W1,b5::N.map (·.1),hMlt⟩) (ov:=[]) (F:=[(7,uv x.2),(5,.pointer (some ⟨b5,0,none⟩))]) (H:=(b5,.cells #[v] 51 (0,0))::(N++[])) (K:=fun _ W'=>KeepsFrom W.heap.size W1 W'∧KB S W1 W'∧WAt w0 b4 b5 bx (.slice A k cap) (pre++[x]) W') rfl ?_ _ _ st1) (fun e a w hq=>by cases e<;>first|exact hq|exact hq.elim))
  simp only[Qe,Qx,Qo,Qr]
  repeat' first|refine Q1 ?_|refine Q7 ?_|refine Q0v (h:=?_)|refine Qkq (h:=?_)|refine Qkr (h:=?_)|refine Qno (h:=?_)|refine QH (h:=fun _=>?_)|fail
  rename_i bl
  have hOl:dU [(bl,.cells ⟨[yv (x.2 / 16777216 % 256),yv (x.2 / 65536 % 256),yv (x.2 / 256 % 256),yv (x.2 % 256)]⟩ 5)] (.slice (some ⟨bl,0,none⟩) 4 4) 4 [x.2 / 16777216 % 256,x.2 / 65536 % 256,x.2 / 256 % 256,x.2 % 256]:=Xh bl 4 _ _ rfl rfl oq
  refine Xz (A:=[_,_]) hO hOl.rd Qb rfl trivial rfl rfl rfl rfl oq (fun v' N' aX=>?_)
  obtain⟨A3,c3,rfl⟩:=aX.form
  repeat' first|refine QO ?_|apply jN
  refine⟨fun a2 W2 st2=>Qcn (bl:=bl) (ol:=.cells ⟨[yv (x.2 / 16777216 % 256),yv (x.2 / 65536 % 256),yv (x.2 / 256 % 256),yv (x.2 % 256)]⟩ 5) _ hO hs hN hk0 h5 hS (by rw[Q9l];exact aX) st2.kp ?_ (fun q hq=>?_)⟩
  ·have h:=st2.hs
   exact⟨by have:=h.nd;simpa using this,fun q hq=>h.blk q (by simpa using hq)⟩
  ·exact st2.wr q (by simp[hq])
 case done =>
  intro D ys W1 hD hys hI hDd
  obtain⟨⟨v,N,hO,hs,hN⟩,hk0⟩:=hI
  subst hys
  rw[Qge]at hO
  have hB:=Qbo (xs:=nrm xs) (fun x hx'=>hx x (Xq x hx')) (nrm xs).length (V7 _)
  rw[Nat.sub_self,List.drop_zero,show val 4294967296 (nrm xs)=val W32 xs from Zo W32 xs]at hB
  have hDc:∀ q∈(b5,Obj.cells #[v] 51 (0,0))::(b4,.cells #[.bool false,.string ⟨#[]⟩] 75 (0,0))::(bx,.cells #[.slice A k cap] 147 (0,0))::N,D≠q.1:=fun q hq e=>by
   have h1:=hs.blk q hq
   rw[← e,hDd]at h1
   have hc:q.2.isCells=true:=by
    rcases List.mem_cons.1 hq with rfl|hq
    ·rfl
    ·rcases List.mem_cons.1 hq with rfl|hq
     ·rfl
     ·rcases List.mem_cons.1 hq with rfl|hq
      ·rfl
      ·exact hO.cells q hq
   rw[← Option.some.inj h1]at hc
   cases hc
  have hnd:=hs.nd
  simp only[List.map_cons,List.nodup_cons,List.mem_cons,not_or]at hnd
  have st1:St ⟨Tryz.prog,43,w0,[],by simp⟩ [(5,.pointer (some ⟨b5,0,none⟩)),(4,.pointer (some ⟨b4,0,none⟩)),(1,.bool p)] ((b5,.cells #[v] 51 (0,0))::(b4,.cells #[.bool false,.string ⟨#[]⟩] 75 (0,0))::(D,.deferred (some []))::(N++[])) { tmps:=tm,defers:=[] } W1:=by
   refine⟨st.fr.sub aC,hk0,⟨?_,fun q hq=>?_⟩,fun q hq=>.inl ?_⟩
   ·simp only[Vh,List.map_cons,List.nodup_cons,List.mem_cons,not_or]
    exact⟨⟨hnd.1.1,(hDc _ (Vf ..)).symm,hnd.1.2.2⟩,⟨(hDc _ (Vc _ (Vf ..))).symm,hnd.2.1.2⟩,fun hm=>by
     obtain⟨q,hq,e⟩:=List.mem_map.1 hm
     exact hDc q (Vc _ (Vc _ (Vc _ hq))) e.symm,hnd.2.2.2⟩
   ·rw[Vh]at hq
    rcases List.mem_cons.1 hq with rfl|hq
    ·exact hs.blk _ (Vf ..)
    ·rcases List.mem_cons.1 hq with rfl|hq
     ·exact hs.blk _ (Vc _ (Vf ..))
     ·rcases List.mem_cons.1 hq with rfl|hq
      ·exact hDd
      ·exact hs.blk _ (Vc _ (Vc _ (Vc _ hq)))
   ·rw[Vh]at hq
    rcases List.mem_cons.1 hq with rfl|hq
    ·exact h5
    ·rcases List.mem_cons.1 hq with rfl|hq
     ·exact hge b4 aA
     ·rcases List.mem_cons.1 hq with rfl|hq
      ·exact V0 hWs hD
      ·exact hN q hq
  refine Xb (c:=⟨Tryz.prog,43,w0,[],by simp⟩) [⟨6,0,[],[(1,.seq)]⟩] [{ target:=.collected D,args:=#[] }] _ (fun e a w=>bodyPostM Fence.wide 3 Tryz.prog Tryz.f123 (aQ fun r w'=>Kp [] w0 w'∧r=Wv (bC p (val W32 xs))) e (ad [{ target:=.collected D,args:=#[] }] a) w) _ rfl (fun e a w h=>h) { tmps:=tm,defers:=[] } W1 (JC.h ?_ _ _ st1)
  simp only[toS,Qe,Qx,Qo,Qr,ay,Ql,Qy]
  repeat' first|apply jS|refine Q7 ?_|apply jO
  refine Q09 (Qmz _) hO.rd Qb trivial rfl rfl rfl (fun l hl=>?_)
  have hll:l.length≤66000000000000:=by rw[← Xt,hl,Qk6,Qge];omega
  refine Q9 trivial rfl rfl rfl (fun w hk hs=>Qck w l hll) fun w v w' _ _ _ hR=>?_
  rw[Q65,hl,hB]at hR
  subst hR
  have hfin:∀ (vs:Array Value) (a2:Act) (W2:World),St ⟨Tryz.prog,43,w0,[],by simp⟩ [(4,.pointer (some ⟨b4,0,none⟩))] [(b4,.cells vs 75 (0,0)),(D,.deferred (some []))] a2 W2→vs.size=2→.agg vs=Wv (bC p (val W32 xs))→bodyPostM Fence.wide 3 Tryz.prog Tryz.f123 (aQ fun r w'=>Kp [] w0 w'∧r=Wv (bC p (val W32 xs))) .ret (ad [{ target:=.collected D,args:=#[] }] a2) W2:=by
   intro vs a2 W2 st2 hvs he
   have hK:W2.heap[D]?=some (.deferred (some [])):=st2.hs.blk (D,_) aA
   have hd2:a2.defers=[]:=st2.fr.defers
   have h4D:b4≠D:=by have:=st2.hs.nd;simpa using this
   have hk2:Kp [] w0 (W2.putObj D (.deferred none)):=⟨st2.kp.os,st2.kp.tape,st2.kp.output,by simpa using st2.kp.size,fun q hq hm=>(World.putObj_heap_other (fun e=>by subst e;omega)).trans (st2.kp.block q hq hm)⟩
   have st3:St ⟨Tryz.prog,43,w0,[],by simp⟩ [(4,.pointer (some ⟨b4,0,none⟩))] [(b4,.cells vs 75 (0,0))] a2 (W2.putObj D (.deferred none)) :=
    ⟨st2.fr,hk2,⟨by simp,fun q hq=>by cases List.mem_singleton.1 hq;exact(World.putObj_heap_other h4D).trans (st2.hs.blk (b4,_) aA)⟩,fun q hq=>st2.wr q (by simp at hq;simp[hq])⟩
   show LeavesInM Fence.wide 3 _ _ _ _ (a2.defers++_) _ _
   rw[hd2]
   refine⟨by simp,.inl ⟨D,_,rfl,run_takeDeferred hK,?_⟩⟩
   have hr:=Wi (fn:=Tryz.f123) (vs:=[.agg vs]) st3 (Q1g 0 rfl rfl hvs JR.nil)
   exact⟨_,hr,hk2,he⟩
  cases p with
  | false =>
   repeat' first|apply jS|apply jO|apply jN|apply jT|refine Q1 ?_|refine Q0 ?_|refine Qq ?_|refine Q6 ?_|refine ZU (h:=?_)|refine Q6 ?_|refine QA ?_|apply jR
   exact⟨fun a2 W2 st2=>hfin #[.bool false,sv (aS (val W32 xs))] a2 W2 (st2.part aC (HSub.at 1 rfl (HSub.at 1 rfl (HSub.nil _)))) rfl (by rw[Qgf];rfl)⟩
  | true =>
   repeat' first|apply jS|apply jO|apply jN|apply jT|refine Q1 ?_|refine Q0 ?_|refine Qp ?_|refine Q6 ?_|refine Ya (h:=?_)|refine ZU (h:=?_)|refine Q6 ?_|apply jR
   exact⟨fun a2 W2 st2=>hfin #[.bool (decide (aS (val W32 xs)≠[])),sv (aS (val W32 xs))] a2 W2 (st2.part aC (HSub.at 1 rfl (HSub.at 1 rfl (HSub.nil _)))) rfl (by rw[Qgf];rfl)⟩
 case stop =>
  intro D c pre W1 _ _ h _
  exact h.elim

end Go.Proofs.YtbofgpenopcfaaaGreatDoor

