import Derived.Test.YtbofgpenopcfaaaGreatDoorMf
import Derived.Test.YtbofgpenopcfaaaGreatDoorMe
import Derived.Test.YtbofgpenopcfaaaGreatDoorMd
import Derived.KernelRfl
set_option maxHeartbeats 16000000
namespace Go.Proofs.YtbofgpenopcfaaaGreatDoor
open Go Go.RowKit
set_option linter.unusedSimpArgs false
set_option linter.unusedVariables false
set_option linter.unusedSectionVars false

theorem Qbe (w:World) (p:Bool) (l:List UInt8) (hl:l.length≤31000000000000) :
  Calls Tryz.prog 149 #[wv p l] w (aQ fun v w'=>Kp [] w w'∧v=.bool (p && decide (bV (bf l)≠0))):=by
 cases p with
 | false =>
  refine Qa [] [] aA [] Tryz.func149 rfl mixed (by kernel_rfl) Tryz.ntmps149 Tryz.results149 rfl ⟨by simp,by simp⟩ aA ?_
  simp only[toS,Qe,Qx,Qo,Qr,ay,Ql,Qy,aB]
  repeat' first|apply jS|apply jO|apply jN|apply jT|refine Q1 ?_|refine Q2 ?_|refine Q0 ?_|refine Q7 ?_|refine Qq ?_|refine QM (h:=fun _=>?_)|refine QA ?_|apply jR
  exact Qj rfl (fun a w' st=>⟨st.kp,rfl⟩)
 | true =>
  refine Qa [] [] aA [] Tryz.func149 rfl mixed (by kernel_rfl) Tryz.ntmps149 Tryz.results149 rfl ⟨by simp,by simp⟩ aA ?_
  simp only[toS,Qe,Qx,Qo,Qr,ay,Ql,Qy,aB]
  repeat' first|apply jS|apply jO|apply jN|refine Q1 ?_|refine Q2 ?_|refine Q0 ?_|refine Q7 ?_|refine Qm ?_|refine QM (h:=fun _=>?_)|apply jT
  refine Qt (A:=[_]) rfl au rfl rfl rfl (fun w hk hs=>Yl w true l hl) fun w v w' _ _ _ hR=>?_
  obtain⟨N1,zs1,hN1,bG,hz1,aP⟩:=hR
  refine⟨N1,hN1,?_⟩
  have he:=hz1.eq_nil dq
  rw[aP]at he
  by_cases h0:zs1.length=0
  ·have h1:=he.1 (List.eq_nil_of_length_eq_zero h0)
   rw[h1]
   repeat' first|apply jN|apply jT|refine Q0 ?_|refine Z9 (h:=?_)|refine Qp ?_|(refine QU (h1:=?_) (h2:=?_)<;>intro hc<;>try omega)|apply jR
   exact Qj rfl (fun a w' st=>⟨st.kp,rfl⟩)
  ·have h1:bV (bf l)≠0:=fun h=>h0 (by rw[he.2 h];rfl)
   rw[decide_eq_true h1]
   repeat' first|apply jN|apply jT|refine Q0 ?_|refine Z9 (h:=?_)|refine Qp ?_|(refine QU (h1:=?_) (h2:=?_)<;>intro hc<;>try omega)|apply jR
   exact Qj rfl (fun a w' st=>⟨st.kp,rfl⟩)

theorem Qd4:val aI [1]=1:=rfl
theorem Qhb (p:Bool) (X:Nat):∃ p',(p && decide (X≠0))=p'∧bC p X=bC p' X:=by
 refine⟨_,rfl,?_⟩
 by_cases h:X=0
 ·subst h;rw[YS,YS]
 ·rw[decide_eq_true h,Bool.and_true]

theorem Q8f (w:World) (v u:Value) (a b:Int) (k:Nat) (hv:fD v a k) (hu:fD u b k) (hk:k≤15000000000000) :
  Calls Tryz.prog 91 #[v,u] w (aQ fun r w'=>Kp [] w w'∧r=if b=0 then .tuple #[Wv 0,Wv 0,.bool false] else .tuple #[Wv (a / b),Wv (a % b),.bool true]):=by
 obtain⟨p,l,rfl,hl1,rfl⟩:=hv
 obtain⟨q,l',rfl,hl2,rfl⟩:=hu
 obtain⟨p',hp',hps⟩:=Qhb p (bV (bf l))
 rw[hps]
 refine Qa [⟨8,3,[0,2,3,5,7,1,4,6,8,9,10,11],[]⟩] [] aA [] Tryz.func91 rfl mixed (by kernel_rfl) Tryz.ntmps91 Tryz.results91 rfl ⟨by simp,by simp⟩ aA ?_
 simp only[toS,Qe,Qx,Qo,Qr,ay,Ql,Qy,aB]
 repeat' first|apply jS|apply jO|apply jN|refine Q0 ?_|refine Qm ?_|refine Qh fun _=>?_|refine QM (h:=fun _=>?_)|apply jT
 refine Qt (A:=[_,_,_,_]) rfl au rfl rfl rfl (fun w hk hs=>Yl w q l' oq) fun w v w' _ _ _ hR=>?_
 obtain⟨N2,zs2,eH,hO2,hz2,aY⟩:=hR
 refine⟨N2,eH,?_⟩
 have hzl2:=ZQ hz2 aY hl2
 have he:=hz2.eq_nil dq
 rw[aY]at he
 by_cases h0:zs2.length=0
 ·have h1:=he.1 (List.eq_nil_of_length_eq_zero h0)
  rw[h1,if_pos (YS q)]
  repeat' first|apply jS|apply jO|apply jN|apply jT|refine Q1 ?_|refine Q0 ?_|refine Z9 (h:=?_)|refine Q6 ?_|(refine Zm (h1:=?_) (h2:=?_)<;>intro hc<;>try omega)|refine ZU (h:=?_)|refine Q6 ?_|apply jV|apply jR|refine Q5 rfl ?_
  exact ZZ 1 0 rfl rfl rfl rfl rfl rfl rfl (fun a w' st=>⟨st.kp,rfl⟩)
 have hy0:bV (bf l')≠0:=fun h=>h0 (by rw[he.2 h];rfl)
 rw[if_neg (fun h=>hy0 ((Q05 _ _).1 h))]
 repeat' first|apply jS|apply jO|apply jN|apply jT|refine Q1 ?_|refine Q0 ?_|refine Qm ?_|refine Z9 (h:=?_)|(refine Zm (h1:=?_) (h2:=?_)<;>intro hc<;>try omega)|apply jK|refine Q4 rfl ?_
 refine Qt (A:=[_,_,_,_]) rfl au rfl rfl rfl (fun w hk hs=>Yl w p l oq) fun w v w' _ _ _ hR=>?_
 obtain⟨N1,zs1,hN1,bG,hz1,aP⟩:=hR
 refine⟨N1,hN1,?_⟩
 have jv:=ZQ hz1 aP hl1
 have hv1:val aI zs1<256 ^ k:=by rw[aP];exact QZ hl1
 have hv2:val aI zs2<256 ^ k:=by rw[aY];exact QZ hl2
 have hpw:256 ^ k≤aI ^ k:=Nat.pow_le_pow_left dq k
 have hpk:0<256 ^ k:=Nat.pow_pos dq
 repeat' first|refine Q1 ?_|fail
 refine Qt (A:=[_,_,_,_]) rfl trivial rfl rfl rfl (fun w hk hs=>Qfx w _ _ _ _ _ _ (bG.rd.at hk hs Qb) (hO2.rd.at hk hs Qb) hz1.lt hz2 oq oq oq) fun w v w' _ _ _ hR=>?_
 obtain⟨N3,N4,v3,v4,dD,fE,rfl,hN34,hO3,hO4,hz3,je,hval3,hlt4⟩:=hR
 refine⟨_,hN34,?_⟩
 rw[Vb N3 N4]
 have hzl4:fE.length≤k:=je.bM dq oq
 have hq3:val aI dD≤val aI zs1:=by
  have h1:val aI dD≤val aI zs2*val aI dD:=Nat.le_mul_of_pos_left _ oq
  omega
 have hzl3:dD.length≤k:=hz3.bM dq oq
 have hlaw:=Qef p' q (val aI zs1) (val aI zs2) (val aI dD) (val aI fE) oq (by rw[Va];exact hval3) hlt4
 rw[aP,aY]at hlaw
 have he4:=je.eq_nil dq
 have hlaw1:=hlaw.1
 have hlaw2:=hlaw.2
 clear hlaw
 repeat' first|apply jS|apply jO|apply jN|refine Q1 ?_|refine Q0 ?_|refine Qm ?_|refine Qu (h:=?_)|apply jT
 refine Q9 trivial rfl rfl rfl (fun w hk hs=>Qbe w p l oq) fun w v w' _ _ _ hR=>?_
 rw[hp']at hR
 subst hR
 by_cases hp:p'=true∧0<fE.length
 ·obtain⟨rfl,hp4⟩:=hp
  have hr0:0<val aI fE:=Nat.pos_of_ne_zero fun h=>by rw[he4.2 h]at hp4;exact absurd hp4 aA
  obtain⟨hq1,hq2⟩:=hlaw1 ⟨rfl,hr0⟩
  have hlen:=Q13 je hz2 (Nat.le_of_lt hlt4)
  repeat' first|apply jS|apply jO|apply jN|apply jT|refine Q1 ?_|refine Z9 (h:=?_)|refine Qp ?_|(refine QU (h1:=?_) (h2:=?_)<;>intro hc<;>try omega)|refine QH (h:=fun _=>?_)|refine Q5 rfl ?_
  rename_i b9
  have hO9:bH [(b9,.cells ⟨[.int .i64 1]⟩ 3)] (.slice (some ⟨b9,0,none⟩) 1 1) 1 [1]:=ZH b9 1 [1] _ rfl rfl oq
  refine Qt (A:=[_,_,_,_,_]) rfl trivial rfl rfl rfl (fun w hk hs=>Q5e w _ _ _ _ _ _ (hO3.rd.at hk hs Qb) (hO9.rd.at hk hs Qb) hz3.lt (fun x hx=>by rw[List.mem_singleton]at hx;rw[hx];decide) oq oq) fun w v w' _ _ _ hR=>?_
  obtain⟨N5,zs5,hN5,iy,hz5,dX,hzl5⟩:=hR
  refine⟨N5,hN5,?_⟩
  rw[Qd4]at dX
  repeat' first|apply jO|apply jN|refine Q1 ?_|refine Q0 ?_|apply jT
  refine Qt (A:=[_,_,_,_,_]) rfl trivial rfl rfl rfl (fun w hk hs=>Q4b w _ _ _ _ _ _ (hO2.rd.at hk hs Qb) (hO4.rd.at hk hs Qb) hz2.lt je.lt oq hlen oq) fun w v w' _ _ _ hR=>?_
  obtain⟨N6,zs6,hN6,hO6,hz6,hval6⟩:=hR
  refine⟨N6,hN6,?_⟩
  have hzl6:zs6.length≤k:=hz6.bM dq oq
  repeat' first|apply jS|apply jD|apply jN|refine Q1 ?_|refine Q2 ?_|refine Q0 ?_|refine Q7 ?_|refine Qm ?_|apply jT
  refine Q9 au rfl rfl rfl (fun w hk hs=>Qbe w p l oq) fun w v w' _ _ _ hR=>?_
  rw[hp']at hR
  subst hR
  repeat' first|refine Q0b (h:=?_)|fail
  refine Q9 au rfl rfl rfl (fun w hk hs=>ZS w _ _ zs5 (true != q) (iy.rd.at hk hs Qb) hz5 oq) fun w v w' _ _ _ hR=>?_
  subst hR
  skip
  refine Q9 au rfl rfl rfl (fun w hk hs=>ZS w _ _ zs6 false (hO6.rd.at hk hs Qb) hz6.lt oq) fun w v w' _ _ _ hR=>?_
  subst hR
  repeat' first|apply jN|apply jT|refine Q0 ?_|refine Q6 ?_|refine Q6 ?_|apply jR
  refine ZZ 2 1 rfl rfl rfl rfl rfl rfl rfl (fun a w' st=>⟨st.kp,?_⟩)
  show Value.tuple #[Wv (bC (true != q) (val aI zs5)),Wv (bC false (val aI zs6)),_]=_
  rw[dX,hq1, ← hq2, ← aY,hval6]
  rfl
 have hq:=hlaw2 (fun⟨h1,h2⟩=>hp ⟨h1,by
  refine Nat.pos_of_ne_zero fun h=>?_
  have:=List.eq_nil_of_length_eq_zero h
  rw[this]at h2
  exact absurd h2 (by simp[val])⟩)
 obtain⟨hq1,hq2⟩:=hq
 have hnp:p'=true→fE.length=0:=fun h=>by
  refine Ve fun h'=>hp ⟨h,by omega⟩
 cases p' with
 | false =>
  repeat' first|apply jS|apply jD|apply jN|apply jT|refine Q1 ?_|refine Q2 ?_|refine Q7 ?_|refine Qm ?_|refine Qq ?_|refine Q4 rfl ?_|refine QA ?_|apply jK
  refine Q9 au rfl rfl rfl (fun w hk hs=>Qbe w p l oq) fun w v w' _ _ _ hR=>?_
  rw[hp']at hR
  subst hR
  repeat' first|refine Q0b (h:=?_)|fail
  refine Q9 au rfl rfl rfl (fun w hk hs=>ZS w _ _ dD (false != q) (hO3.rd.at hk hs Qb) hz3.lt oq) fun w v w' _ _ _ hR=>?_
  subst hR
  skip
  refine Q9 au rfl rfl rfl (fun w hk hs=>ZS w _ _ fE false (hO4.rd.at hk hs Qb) je.lt oq) fun w v w' _ _ _ hR=>?_
  subst hR
  repeat' first|apply jN|apply jT|refine Q0 ?_|refine Q6 ?_|refine Q6 ?_|apply jR
  refine ZZ 1 0 rfl rfl rfl rfl rfl rfl rfl (fun a w' st=>⟨st.kp,?_⟩)
  show Value.tuple #[Wv (bC (false != q) (val aI dD)),Wv (bC false (val aI fE)),_]=_
  rw[hq1, ← hq2]
  rfl
 | true =>
  have hz0:=hnp rfl
  repeat' first|apply jS|apply jD|apply jN|apply jT|refine Q1 ?_|refine Q2 ?_|refine Q7 ?_|refine Qm ?_|refine Z9 (h:=?_)|refine Qp ?_|(refine QU (h1:=?_) (h2:=?_)<;>intro hc<;>try omega)|apply jK|refine Q4 rfl ?_
  refine Q9 au rfl rfl rfl (fun w hk hs=>Qbe w p l oq) fun w v w' _ _ _ hR=>?_
  rw[hp']at hR
  subst hR
  repeat' first|refine Q0b (h:=?_)|fail
  refine Q9 au rfl rfl rfl (fun w hk hs=>ZS w _ _ dD (true != q) (hO3.rd.at hk hs Qb) hz3.lt oq) fun w v w' _ _ _ hR=>?_
  subst hR
  skip
  refine Q9 au rfl rfl rfl (fun w hk hs=>ZS w _ _ fE false (hO4.rd.at hk hs Qb) je.lt oq) fun w v w' _ _ _ hR=>?_
  subst hR
  repeat' first|apply jN|apply jT|refine Q0 ?_|refine Q6 ?_|refine Q6 ?_|apply jR
  refine ZZ 1 0 rfl rfl rfl rfl rfl rfl rfl (fun a w' st=>⟨st.kp,?_⟩)
  show Value.tuple #[Wv (bC (true != q) (val aI dD)),Wv (bC false (val aI fE)),_]=_
  rw[hq1, ← hq2]
  rfl


theorem Qb1 {m j:Nat} (h:m<65536 ^ (4-j)) (h0:0<m) (hj:j≤4):j<4∧m / 65536<65536 ^ (4-(j+1)):=by
 have hj4:j<4:=by
  refine Ve fun h1=>?_
  obtain rfl:j=4:=by omega
  simp at h
  omega
 refine⟨hj4,?_⟩
 rw[show 4-j=4-(j+1)+1 by omega,V9]at h
 exact Nat.div_lt_of_lt_mul (by rw[Va];exact h)

theorem Yc (w:World) (n:Int) (h1 : -9223372036854775808≤n) (h2:n<9223372036854775808) :
  Calls Tryz.prog 35 #[iv n] w (aQ fun r w'=>Kp [] w w'∧r=Wv n):=by
 have hm:n.natAbs≤9223372036854775808:=by omega
 have hm2:n.natAbs<18446744073709551616:=by omega
 by_cases hn:n<0
 ·refine Qa [] [] aA [] Tryz.func35 rfl mixed (by kernel_rfl) Tryz.ntmps35 Tryz.results35 rfl ⟨by simp,by simp⟩ aA ?_
  simp only[toS,Qe,Qx,Qo,Qr,ay,Ql,Qy,aB]
  repeat' first|apply jS|apply jO|apply jN|refine Q1 ?_|refine Q0 ?_|refine Qh fun _=>?_|apply jT
  rename_i b2
  refine Qa8 (18446744073709551616-n.natAbs) rfl rfl rfl (by rw[IntKind.wrap_u64];omega) ?_
  repeat' first|apply jS|apply jO|apply jN|apply jT|refine Q1 ?_|refine Q0 ?_|(refine Qg (h1:=?_) (h2:=?_)<;>intro hc<;>try omega)|refine Q5 rfl ?_
  refine Qa5 rfl rfl rfl oq ?_
  rw[show (18446744073709551616-(18446744073709551616-n.natAbs)) % 18446744073709551616=n.natAbs by omega]
  repeat' first|apply jS|apply jN|apply jT|refine Q0 ?_|apply jB
  refine Qn (ι:=Nat × Value × aj × List Nat) ⟨fun z=>[(4,uv z.1),(3,z.2.1),(2,.pointer (some ⟨b2,0,none⟩)),(0,iv n)],fun z=>(b2,.cells #[.bool false,.string ⟨#[]⟩] 75)::(z.2.2.1++[]),
   fun z=>z.2.2.2.length≤4∧z.1<65536 ^ (4-z.2.2.2.length)∧z.1<18446744073709551616∧bH z.2.2.1 z.2.1 z.2.2.2.length z.2.2.2∧(∀ x∈z.2.2.2,x<aI)∧val aI z.2.2.2+aI ^ z.2.2.2.length*z.1=n.natAbs,fun z=>z.1⟩
   (n.natAbs,_,[],[]) ⟨V8 _,by show n.natAbs<65536 ^ 4;omega,hm2,bH.nil,fun _ h=>absurd h List.not_mem_nil,by simp[val]⟩ aC QF (fun z hz=>?_)
  obtain⟨m,vo,N,zs⟩:=z
  obtain⟨hl4,hmp,hm64,hO,hz,hval⟩:=hz
  dsimp only at hl4 hmp hm64 hO hz hval ⊢
  by_cases h0:0<m
  ·obtain⟨hj4,hmp'⟩:=Qb1 hmp h0 hl4
   repeat' first|apply jS|apply jO|apply jN|apply jT|refine Q1 ?_|(refine QU (h1:=?_) (h2:=?_)<;>intro hc<;>try omega)|apply jK|refine Q5 rfl ?_|apply jB
   refine Qa2 (j:=65536) rfl rfl rfl rfl oq ?_
   refine Wj (k':=.i64) ((m % 65536:Nat):Int) rfl rfl rfl (by rw[IntKind.wrap_i64];omega) ?_
   repeat' first|refine QH (h:=fun _=>?_)|fail
   rename_i c2
   refine ZG (A:=[_,_]) hO (ZH c2 1 [m % 65536] _ rfl rfl dq).rd Qb rfl trivial rfl rfl rfl rfl oq (fun v' N' aX=>?_)
   repeat' first|apply jO|apply jN|refine Q1 ?_|refine Q0 ?_|apply jT
   refine Qa3 (j:=65536) rfl rfl rfl rfl oq ?_
   repeat' first|apply jN|refine Q0 ?_|apply jW
   refine Q8 (m / 65536,v',N',zs++[m % 65536]) ⟨by simp only[Vi,Vo];omega,by simp only[Vi,Vo];exact hmp',by dsimp only;omega,by simp only[Vi,Vo];exact aX,ZW hz (Nat.mod_lt _ dq),?_⟩ aW aC QF
   dsimp only
   rw[Y7,Vi,Vo,V9, ← hval,Nat.add_assoc,Vk, ← Vm,Nat.mod_add_div]
  ·repeat' first|apply jS|apply jO|apply jN|apply jT|refine Q1 ?_|(refine Qg (h1:=?_) (h2:=?_)<;>intro hc<;>try omega)|(refine QU (h1:=?_) (h2:=?_)<;>intro hc<;>try omega)|apply jU|apply jE|refine Q4 rfl ?_|apply Qc
   refine Q9 trivial rfl rfl rfl (fun w hk hs=>ZS w _ _ zs true (hO.rd.at hk hs Qb) hz oq) fun w v w' _ _ _ hR=>?_
   subst hR
   repeat' first|apply jN|apply jT|refine Q6 ?_|refine Q6 ?_|apply jR
   obtain rfl:m=0:=by omega
   rw[Nat.mul_zero,Vp]at hval
   exact Z0 0 rfl rfl rfl (fun a w' st=>⟨st.kp,by show Wv (bC true (val aI zs))=_;rw[hval];congr 1;simp only[bC,if_true,Bool.false_eq_true,if_false];omega⟩)
 ·refine Qa [] [] aA [] Tryz.func35 rfl mixed (by kernel_rfl) Tryz.ntmps35 Tryz.results35 rfl ⟨by simp,by simp⟩ aA ?_
  simp only[toS,Qe,Qx,Qo,Qr,ay,Ql,Qy,aB]
  repeat' first|apply jS|apply jO|apply jN|refine Q1 ?_|refine Q0 ?_|refine Qh fun _=>?_|apply jT
  rename_i b2
  refine Qa8 n.natAbs rfl rfl rfl (by rw[IntKind.wrap_u64];omega) ?_
  repeat' first|apply jS|apply jO|apply jN|apply jT|refine Q1 ?_|refine Q0 ?_|(refine Qg (h1:=?_) (h2:=?_)<;>intro hc<;>try omega)|apply jK|refine Q4 rfl ?_|apply jB
  refine Qn (ι:=Nat × Value × aj × List Nat) ⟨fun z=>[(4,uv z.1),(3,z.2.1),(2,.pointer (some ⟨b2,0,none⟩)),(0,iv n)],fun z=>(b2,.cells #[.bool false,.string ⟨#[]⟩] 75)::(z.2.2.1++[]),
   fun z=>z.2.2.2.length≤4∧z.1<65536 ^ (4-z.2.2.2.length)∧z.1<18446744073709551616∧bH z.2.2.1 z.2.1 z.2.2.2.length z.2.2.2∧(∀ x∈z.2.2.2,x<aI)∧val aI z.2.2.2+aI ^ z.2.2.2.length*z.1=n.natAbs,fun z=>z.1⟩
   (n.natAbs,_,[],[]) ⟨V8 _,by show n.natAbs<65536 ^ 4;omega,hm2,bH.nil,fun _ h=>absurd h List.not_mem_nil,by simp[val]⟩ aC QF (fun z hz=>?_)
  obtain⟨m,vo,N,zs⟩:=z
  obtain⟨hl4,hmp,hm64,hO,hz,hval⟩:=hz
  dsimp only at hl4 hmp hm64 hO hz hval ⊢
  by_cases h0:0<m
  ·obtain⟨hj4,hmp'⟩:=Qb1 hmp h0 hl4
   repeat' first|apply jS|apply jO|apply jN|apply jT|refine Q1 ?_|(refine QU (h1:=?_) (h2:=?_)<;>intro hc<;>try omega)|apply jK|refine Q5 rfl ?_|apply jB
   refine Qa2 (j:=65536) rfl rfl rfl rfl oq ?_
   refine Wj (k':=.i64) ((m % 65536:Nat):Int) rfl rfl rfl (by rw[IntKind.wrap_i64];omega) ?_
   repeat' first|refine QH (h:=fun _=>?_)|fail
   rename_i c2
   refine ZG (A:=[_,_]) hO (ZH c2 1 [m % 65536] _ rfl rfl dq).rd Qb rfl trivial rfl rfl rfl rfl oq (fun v' N' aX=>?_)
   repeat' first|apply jO|apply jN|refine Q1 ?_|refine Q0 ?_|apply jT
   refine Qa3 (j:=65536) rfl rfl rfl rfl oq ?_
   repeat' first|apply jN|refine Q0 ?_|apply jW
   refine Q8 (m / 65536,v',N',zs++[m % 65536]) ⟨by simp only[Vi,Vo];omega,by simp only[Vi,Vo];exact hmp',by dsimp only;omega,by simp only[Vi,Vo];exact aX,ZW hz (Nat.mod_lt _ dq),?_⟩ aW aC QF
   dsimp only
   rw[Y7,Vi,Vo,V9, ← hval,Nat.add_assoc,Vk, ← Vm,Nat.mod_add_div]
  ·repeat' first|apply jS|apply jO|apply jN|apply jT|refine Q1 ?_|(refine Qg (h1:=?_) (h2:=?_)<;>intro hc<;>try omega)|(refine QU (h1:=?_) (h2:=?_)<;>intro hc<;>try omega)|apply jU|apply jE|refine Q4 rfl ?_|apply Qc
   refine Q9 trivial rfl rfl rfl (fun w hk hs=>ZS w _ _ zs false (hO.rd.at hk hs Qb) hz oq) fun w v w' _ _ _ hR=>?_
   subst hR
   repeat' first|apply jN|apply jT|refine Q6 ?_|refine Q6 ?_|apply jR
   obtain rfl:m=0:=by omega
   rw[Nat.mul_zero,Vp]at hval
   exact Z0 0 rfl rfl rfl (fun a w' st=>⟨st.kp,by show Wv (bC false (val aI zs))=_;rw[hval];congr 1;simp only[bC,if_true,Bool.false_eq_true,if_false];omega⟩)

end Go.Proofs.YtbofgpenopcfaaaGreatDoor

namespace Go.Proofs.YtbofgpenopcfaaaGreatDoor
open Go Go.RowKit Go.Shelf
set_option linter.unusedSimpArgs false
set_option linter.unusedVariables false
set_option linter.unusedSectionVars false

theorem Qcx {P:Program} {ops:Array Oper} {Q:Exit→Act→World→Prop} {l m i:Nat} {K:Act→World→Prop} {a:Act} {w:World} (hQ:¬LetsOut Q) (hd:YK ops.toList=true) (h:wpOp P ops Q i K a w):wpOpIn (Fence.wide.inRound l) m P ops Q i K a w:=by
 unfold wpOp at h
 unfold wpOpIn
 cases ho:ops[i]? with
 | none=>rw[ho]at h;exact h
 | some o =>
  rw[ho]at h
  simp only at h ⊢
  split at h
  ·rename_i hw
   rw[if_pos hw]
   rcases h with h|⟨_,h⟩
   ·refine⟨fun f _=>trivial,?_⟩
    have hnd:∀ c,o.op≠.defer c:=fun c hc=>by
     have:∀ (os:List Oper),YK os=true→o∈os→False:=fun os=>by
      induction os with
      | nil=>intro _ h;cases h
      | cons x xs ih =>
       intro h1 h2
       simp only[YK,Bool.and_eq_true]at h1
       rcases List.mem_cons.1 h2 with rfl|h2
       ·rw[hc]at h1;exact absurd h1.1 aA
       ·exact ih h1.2 h2
     exact this _ hd (Array.mem_toList_iff.2 (Array.mem_of_getElem? ho))
    rw[Oper.semAt_eq _ _ _ (fun c hc=>absurd hc (hnd c))]
    unfold Oper.wp at h
    exact Q76 h
   ·exact absurd h hQ
  ·rename_i hw
   rw[if_neg hw]
   exact⟨fun f _=>trivial,h⟩

theorem Q4o {P:Program} {ops:Array Oper} {Q:Exit→Act→World→Prop} {md:Region.Mode} {l m:Nat} (hQ:¬LetsOut Q) (hd:YK ops.toList=true):∀ (fuel:Nat) (listed:Array Bool) (a:Act) (w:World),wpAny P md ops Q fuel listed a w→wpAnyIn (Fence.wide.inRound l) m P md ops Q fuel listed a w
 | 0,_,_,_,h=>h
 | fuel+1,_,_,_,h=>⟨h.1,fun i hi=>Qcx hQ hd (wpOp_mono (fun a' w' h'=>Q4o hQ hd fuel _ a' w' h') (h.2 i hi))⟩

theorem Qai {K:Act→World→Prop}:¬LetsOut (Only K):=fun⟨_,_,h⟩=>h

theorem Q1k {c:Cx} {kd:Nat→Op→Kind} {Q:Exit→Act→World→Prop} {id tail l m:Nat} {order:List Nat} {ops:Array Oper} {F:ak} {H Hs:aj} {a:Act} {w:World}
  (hm:c.P.follows .mixedOrders=true) (hd:YK ops.toList=true) (hB:Wq c.P kd ops order tail=true) (st:St c F H a w) (iV:aG Hs w) (h:JL c (Q .normal) (.draw Hs true) (Ql kd ops tail order) F H) :
  (Code.region id ops true).wpIn (Fence.wide.inRound l) m c.P Q a w:=by
 simp only[Wq,Bool.and_eq_true]at hB
 obtain⟨hs,ht,hal,hl,hc,hu⟩:=hB
 have hl:order.length=ops.size:=by simpa using hl
 refine wpIn_mono ?_ (fun e a w h=>Q4i e a w h)
 refine wpIn_region_any hm (Q4o Qai hd _ _ _ _ (Ws (kd:=kd) (S:=Src c Hs) _ _ _ _ ?_))
 have st':St c F H a { w with drawn:=w.drawn+1 }:=⟨st.fr,st.kp.trans (Kp.drew _ _),st.hs.kp (Kp.drew [] w) aA,st.wr⟩
 have hU:∀ i,i<ops.size→iw c.P kd ops i=true→Q1f c.P kd ops (Array.replicate ops.size false) i=true:=fun i hi hx=>by
  have:=List.all_eq_true.1 hu i (List.mem_range.2 hi)
  simpa [hx] using this
 refine sim (Q:=Only (Q .normal)) (K:=Q .normal) hs hU (fun a w h=>h) (fun ch a a' w h=>h.elim) order _ hc ht ops.size true _ H F (fun _=>none) a a _ h ?_ ?_
 ·refine⟨st',fun _=>iV.kp (Kp.drew [] w) aA,⟨rfl,rfl,(fun e ob o d h=>by cases h),fun s _=>rfl⟩,⟨fun e ob h=>(by cases h),fun e ob h=>(by cases h),fun e ob o h=>(by cases h),fun e ob o h=>(by cases h),fun e b o h=>(by cases h),fun e b h=>(by cases h),fun e e' b h=>(by cases h)⟩,
   by simp,by simp,fun j hj=>by simp,fun j hj _=>?_,.inl rfl⟩
  have:=List.all_eq_true.1 hal j (List.mem_range.2 hj)
  simpa using this
 ·exact hl▸List.countP_le_length

theorem Q1j {c:Cx} {Q:Exit→Act→World→Prop} {id l m:Nat} {ops:Array Oper} {ov:List (Nat × Kind)} {F:ak} {H:aj} {a:Act} {w:World}
  (hd:YK ops.toList=true) (st:St c F H a w) (h:JL c (Q .normal) .text (Qe ov ops 0 ops.toList) F H):(Code.region id ops false).wpIn (Fence.wide.inRound l) m c.P Q a w:=by
 obtain⟨kd,hl,he⟩:=Xv ov ops ops.toList 0
 rw[he]at h
 have:=Xc (P:=c.P) (ops:=ops) (Q:=Only (Q .normal)) rfl _ F H h a w st
 rw[List.map_fst_zip oq]at this
 exact wpIn_mono (wpIn_region_list (XG Qai hd this)) (fun e a w h=>Q4i e a w h)

theorem Q38 {P:Program} {F:Fence} {n:Nat} {Q:Exit→Act→World→Prop} {c:Code} {a:Act} {w:World} (I:Nat→Act→World→Prop) (n0:Nat) (h₀:I n0 a w)
  (round:∀ m a w,I m a w→c.wpIn F n P (Exit.then (fun a' w'=>∃ k,k<m∧I k a' w') Q) a w):(Code.loop c).wpIn F n P Q a w:=by
 intro b k cs hro hb hr
 have key:∀ j a w,I j a w →
   ∃ e a' w',Q e a' w'∧ArrivesIn (Machine.fenced P F) P (lone (b.atR a (.code c::.inLoop c::k)) cs w) b k cs e a' w':=by
  intro j
  induction j using Nat.strongRecOn with
  | _ j ih =>
   intro a w hI
   obtain⟨e,a₁,w₁,hq,harr⟩:=round j a w hI b (.inLoop c::k) cs hro hb hr
   cases e with
   | normal =>
    obtain⟨m,hlt,hI₁⟩:=hq
    obtain⟨e₂,a₂,w₂,hq₂,harr₂⟩:=ih m hlt a₁ w₁ hI₁
    exact⟨e₂,a₂,w₂,hq₂,.of_steps (StepsIn.trans harr (.one (fenced_calm hb hr rfl) stepR_inLoop)) harr₂⟩
   | exit id=>exact⟨_,a₁,w₁,hq,.pass (x:=.inLoop c) rfl (fun _ _=>.inl aA) harr⟩
   | goto l=>exact⟨_,a₁,w₁,hq,.pass (x:=.inLoop c) rfl (fun _ _=>.inl aA) harr⟩
   | ret=>exact⟨_,a₁,w₁,hq,.pass (x:=.inLoop c) rfl (fun _ _=>.inl aA) harr⟩
   | panic ch=>exact⟨_,a₁,w₁,hq,.pass (x:=.inLoop c) rfl (fun _ _=>.inl aA) harr⟩
   | outgrown=>exact⟨_,a₁,w₁,hq,.pass (x:=.inLoop c) rfl (fun _ _=>.inl aA) harr⟩
 obtain⟨e,a',w',hq,harr⟩:=key n0 a w h₀
 exact⟨e,a',w',hq,.of_steps (.one (fenced_calm hb hr rfl) stepR_loop) harr⟩

def toB (l m:Nat) (od:List Od):Code→dZ
 | .skip=>.skip
 | .region id ops true=>.opsD (Ql (Qo (ay od id).ov) ops (ay od id).tail (Qy (ay od id) ops.size))
 | .region id ops false=>.ops (Qe (ay od id).ov ops 0 ops.toList)
 | .seq a b=>.seq (toB l m od a) (toB l m od b)
 | .cond c a b=>.cond c (toB l m od a) (toB l m od b)
 | .block id c=>.block id (toB l m od c)
 | .loop c=>.loop (toB l m od c)
 | .exit id=>.exit id
 | .ret=>.ret
 | c=>.rawIn l m c

def okB (P:Program) (od:List Od):Code→Bool
 | .region id ops true=>Wq P (Qo (ay od id).ov) ops (Qy (ay od id) ops.size) (ay od id).tail && YK ops.toList
 | .region _ ops false=>YK ops.toList
 | .seq a b=>okB P od a && okB P od b
 | .cond _ a b=>okB P od a && okB P od b
 | .block _ c=>okB P od c
 | .loop c=>okB P od c
 | _=>true

theorem ZL {c:Cx} (l m:Nat) (od:List Od) (hm:c.P.follows .mixedOrders=true):∀ (s:Code) (Q:Exit→Act→World→Prop) (a:Act) (w:World),
  okB c.P od s=true→(toB l m od s).wp c Q a w→s.wpIn (Fence.wide.inRound l) m c.P Q a w
 | .skip,Q,a,w,_,h=>wpIn_skip h
 | .region id ops false,Q,a,w,hk,h=>by
  obtain⟨F,H,st,h⟩:=h
  exact Q1j hk st h
 | .region id ops true,Q,a,w,hk,h=>by
  obtain⟨F,H,Hs,st,iV,h⟩:=h
  simp only[okB,Bool.and_eq_true]at hk
  exact Q1k hm hk.2 hk.1 st iV h
 | .seq x y,Q,a,w,hk,h=>by
  simp only[okB,Bool.and_eq_true]at hk
  refine wpIn_seq (ZL l m od hm x _ a w hk.1 ?_)
  refine aU.wp_mono' (fun e a w hq=>?_) h
  cases e<;>first|exact hq|exact ZL l m od hm y _ _ _ hk.2 hq
 | .cond x y z,Q,a,w,hk,h=>by
  simp only[okB,Bool.and_eq_true]at hk
  obtain⟨t,hc,h1,h2⟩:=h
  exact wpIn_cond_split hc (fun ht=>ZL l m od hm y _ _ _ hk.1 (h1 ht)) (fun ht=>ZL l m od hm z _ _ _ hk.2 (h2 ht))
 | .block id s,Q,a,w,hk,h=>wpIn_block (ZL l m od hm s _ _ _ hk h)
 | .loop s,Q,a,w,hk,h=>by
  obtain⟨I,⟨n,h0⟩,hr⟩:=h
  exact Q38 I n h0 fun n a w hi=>ZL l m od hm s _ _ _ hk (hr n a w hi)
 | .exit id,Q,a,w,_,h=>wpIn_exit h
 | .ret,Q,a,w,_,h=>wpIn_ret h
 | .scope _,_,_,_,_,h=>h
 | .label _,_,_,_,_,h=>h
 | .goto _,_,_,_,_,h=>h
 | .refuse _,_,_,_,_,h=>h
 | .rangeFunc ..,_,_,_,_,h=>h

def Cells (H:aj):Prop:=∀ p∈H,p.2.isCells=true

theorem Cells.nil:Cells []:=fun _ h=>nomatch h
theorem Cells.cons {H:aj} {b:Nat} {cs:Array Value} {T:TypeId} {fz:Nat × Nat} (h:Cells H):Cells ((b,.cells cs T fz)::H):=fun p hp=>by
 rcases List.mem_cons.1 hp with rfl|hp
 ·rfl
 ·exact h p hp
theorem Cells.app {A B:aj} (h:Cells A) (k:Cells B):Cells (A++B):=fun p hp=>by
 rcases List.mem_append.1 hp with hp|hp
 ·exact h p hp
 ·exact k p hp
theorem aH.cells' {e:TypeId} {sz n:Nat} {N:aj} {v:Value} {cs:List Value} (h:aH e sz N v n cs):Cells N:=by
 obtain⟨_,⟨_,_,rfl⟩|⟨b,cap,cur,_,rfl,_⟩⟩:=h
 ·exact Cells.nil
 ·exact Cells.cons Cells.nil

structure RSt (wb:World) (c:Cx) (H:aj) (W:World):Prop where
 hs:aG H W
 wr:∀ p∈H,c.w0.heap.size≤p.1∨p.1∈c.M
 kp:Kp c.M c.w0 W
 kb:Kp [] wb W
 ge:∀ p∈H,wb.heap.size≤p.1
 cells:Cells H

def RInv {N:Nat} (wb:World) (c:Cx) (n0:Nat) (Iv:List Nat→aj→Prop) (xs:List {i:Nat // i<N}) (W:World):Prop:=n0≤W.heap.size∧∃ H,Iv (xs.map (·.1)) H∧RSt wb c H W

theorem Qbt {N:Nat} {wb:World} {c:Cx} {Iv:List Nat→aj→Prop} {B n0:Nat} (hb:wb.heap.size≤B) (hB:c.w0.heap.size≤B):OwnFrom B (RInv (N:=N) wb c n0 Iv):=by
 rintro xs W W' row ⟨hn0,H,hi,hs,hwr,hk,hkb,hge,hc⟩ hg hr
 have key:∀ (k:Nat) (o:Obj),W.heap[k]?=some o→o.isCells=true→W'.heap[k]?=some o:=fun k o h hc=>by
  refine(hg.block k (Array.getElem?_eq_some_iff.1 h).1 (fun e=>?_)).trans h
  obtain⟨_,o',h1,h2⟩:=hr k e.symm
  rw[h]at h1
  cases h1
  rw[hc]at h2;cases h2
 have kpx:∀ (M:List Nat) (w0:World),w0.heap.size≤B→Kp M w0 W→Kp M w0 W':=fun M w0 h0 hk =>
  ⟨hg.os.trans hk.os,hg.tape.trans hk.tape,hg.output.trans hk.output,V0 hk.size hg.size,fun k hk' hm=>(hg.block k (V6 hk' hk.size) (fun e=>by have:=(hr k e.symm).1;omega)).trans (hk.block k hk' hm)⟩
 exact⟨V0 hn0 hg.size,H,hi,⟨hs.nd,fun p hp=>key _ _ (hs.blk p hp) (hc p hp)⟩,hwr,kpx _ _ hB hk,kpx _ _ hb hkb,hge,hc⟩

def jH:Option Obj→Nat→aj
 | none,_=>[]
 | some o,b=>[(b,o)]
def exOk (n0:Nat) (W:World):Option Obj→Nat→Prop
 | none,_=>True
 | some o,b=>W.heap[b]?=some o∧n0≤b∧o.isCells=true
def AsgX (n n0:Nat) (FA:Nat→ak) (ob:Option Obj) (a:Act) (W:World):Prop:=∃ b,dQ n (FA b) a∧exOk n0 W ob b
def Qbr (n:Nat) (FA:Nat→ak) (ob:Option Obj) (c:Cx):Exit→Act→World→Prop
 | .normal,a,w=>Kp [] c.w0 w∧AsgX n c.w0.heap.size FA ob a w
 | _,_,_=>False
def Q6y (J:aj→Prop) (c:Cx):Exit→Act→World→Prop
 | .normal,a,w=>∃ F H,J H∧Cells H∧St c F H a w
 | _,_,_=>False

theorem Q5g {c:Cx} {F:ak} {FA:Nat→ak} {H:aj} (hM:c.M=[]) (hc:cov F (FA 0)):JX c (Qbr c.n FA none c) .normal F H :=
 ⟨fun a w st=>⟨by have:=st.kp;rwa [hM]at this,0,⟨st.fr.defers,st.fr.size,fun i v hl=>st.fr.fr i v (WB hc i v hl)⟩,trivial⟩⟩
theorem Qcp {c:Cx} {F:ak} {FA:Nat→ak} {H:aj} {b:Nat} {o:Obj} (k:Nat) (hM:c.M=[]) (hk:H[k]?=some (b,o)) (ho:o.isCells=true) (hc:cov F (FA b)):JX c (Qbr c.n FA (some o) c) .normal F H :=
 ⟨fun a w st => ⟨by have := st.kp; rwa [hM] at this, b, ⟨st.fr.defers, st.fr.size, fun i v hl => st.fr.fr i v (WB hc i v hl)⟩, st.hs.blk _ (List.mem_of_getElem? hk), (by
  rcases st.wr _ (List.mem_of_getElem? hk)with h|h
  ·exact h
  ·rw[hM]at h;cases h),ho⟩⟩
theorem Qbv {n n0 B:Nat} {FA:Nat→ak} {ob:Option Obj} {a:Act}:OwnFrom B (fun(_:Unit) W=>AsgX n n0 FA ob a W):=by
 rintro _ W W' row ⟨b,hf,hx⟩ hg hr
 refine⟨b,hf,?_⟩
 cases ob with
 | none=>trivial
 | some o =>
  obtain⟨h,hb,hc⟩:=hx
  refine⟨(hg.block b (Array.getElem?_eq_some_iff.1 h).1 (fun e=>?_)).trans h,hb,hc⟩
  obtain⟨_,o',h1,h2⟩:=hr b e.symm
  rw[h]at h1
  cases h1
  rw[hc]at h2;cases h2
theorem AsgX.le {n n0 n1:Nat} {FA:Nat→ak} {ob:Option Obj} {a:Act} {W:World} (h:AsgX n n0 FA ob a W) (hn:n1≤n0):AsgX n n1 FA ob a W:=by
 obtain⟨b,hf,hx⟩:=h
 refine⟨b,hf,?_⟩
 cases ob with
 | none=>trivial
 | some o=>exact⟨hx.1,V0 hn hx.2.1,hx.2.2⟩
theorem RSt.ex {wb:World} {c:Cx} {H:aj} {W:World} {ob:Option Obj} {b n0:Nat} (h:RSt wb c H W) (hx:exOk n0 W ob b) (h1:wb.heap.size≤n0) (h2:c.w0.heap.size≤n0) (hd:∀ o,ob=some o→∀ p∈H,p.2≠o):RSt wb c (jH ob b++H) W:=by
 cases ob with
 | none=>exact h
 | some o =>
  obtain⟨hb,hn,hc⟩:=hx
  refine⟨h.hs.cons hb (fun hm=>?_),fun p hp=>?_,h.kp,h.kb,fun p hp=>?_,fun p hp=>?_⟩
  ·obtain⟨p,hp,e⟩:=List.mem_map.1 hm
   have:=h.hs.blk p hp
   rw[e,hb]at this
   exact hd o rfl p hp (Option.some.inj this).symm
  all_goals
   rcases List.mem_cons.1 hp with rfl|hp
  ·exact .inl (V0 h2 hn)
  ·exact h.wr p hp
  ·exact V0 h1 hn
  ·exact h.ge p hp
  ·exact hc
  ·exact h.cells p hp
theorem WF {c:Cx} {F:ak} {H H':aj} {J:aj→Prop} (hJ:J H') (hc:Cells H') (hs:HSub H' H):JX c (Q6y J c) .normal F H :=
 ⟨fun a w st=>⟨[],H',hJ,hc,st.part trivial hs⟩⟩

theorem zip2 (p1 p2:Tmp) (u v:Value) (t:Array Value):((#[p1,p2]:Array Tmp).zip #[u,v]).foldl (fun t (p,v)=>t.setIfInBounds p v) t=(t.setIfInBounds p1 u).setIfInBounds p2 v:=by simp

theorem dQ.set' {n:Nat} {F:ak} {a:Act} (h:dQ n F a) {d:Nat} (v:Value) (hd:Nat.blt d n=true):dQ n ((d,v)::F) { a with tmps:=a.tmps.setIfInBounds d v }:=by
 have:=h.put (d:=some d) v (by simpa [Qw] using hd)
 exact this

theorem QK {H:aj} {W:World} (hs:aG H W):∀ k∈keys H,k<W.heap.size:=fun k hk=>by
 obtain⟨p,hp,rfl⟩:=List.mem_map.1 hk
 exact hs.lt hp

theorem Qco {wb:World} {c c2:Cx} {H H':aj} {W':World} {a':Act} {F:ak} (B bx:Nat) (box:Obj) (h:RSt wb c H c2.w0) (hM:c2.M=keys H) (st:St c2 F H' a' W') (hc:Cells H') (hb:(bx,box)∈H) (hb':(bx,box)∈H') :
  KeepsFrom B c2.w0 W'∧KB [bx] c2.w0 W'∧RSt wb c H' W':=by
 have hk:=st.kp
 have hnm:∀ q,q<c2.w0.heap.size→(∀ o,c2.w0.heap[q]?=some o→o.isCells=false)→q∉keys H:=fun q hq ho hm=>by
  obtain⟨p,hp,rfl⟩:=List.mem_map.1 hm
  have h1:=ho _ (h.hs.blk p hp)
  rw[h.cells p hp]at h1;cases h1
 refine⟨⟨hk.size,fun k o _ ho hcl=>(hk.block k (Array.getElem?_eq_some_iff.1 ho).1 ?_).trans ho⟩,fun q hq=>?_,⟨st.hs,fun p hp=>?_,?_,?_,fun p hp=>?_,hc⟩⟩
 ·rw[hM];exact hnm k (Array.getElem?_eq_some_iff.1 ho).1 (fun o' ho'=>by rw[ho]at ho';cases ho';exact hcl)
 ·cases List.mem_singleton.1 hq
  exact(st.hs.blk _ hb').trans (h.hs.blk _ hb).symm
 ·rcases st.wr p hp with h1|h1
  ·exact .inl (V0 h.kp.size h1)
  ·rw[hM]at h1
   obtain⟨q,hq,e⟩:=List.mem_map.1 h1
   rw[← e];exact h.wr q hq
 ·refine⟨hk.os.trans h.kp.os,hk.tape.trans h.kp.tape,hk.output.trans h.kp.output,V0 h.kp.size hk.size,fun q hq hm=>(hk.block q (V6 hq h.kp.size) ?_).trans (h.kp.block q hq hm)⟩
  rw[hM]
  intro hq2
  obtain⟨p,hp,rfl⟩:=List.mem_map.1 hq2
  rcases h.wr p hp with h1|h1
  ·omega
  ·exact hm h1
 ·refine⟨hk.os.trans h.kb.os,hk.tape.trans h.kb.tape,hk.output.trans h.kb.output,V0 h.kb.size hk.size,fun q hq _=>(hk.block q (V6 hq h.kb.size) ?_).trans (h.kb.block q hq aA)⟩
  rw[hM]
  intro hq2
  obtain⟨p,hp,rfl⟩:=List.mem_map.1 hq2
  have:=h.ge p hp
  omega
 ·rcases st.wr p hp with h1|h1
  ·exact V0 h.kb.size h1
  ·rw[hM]at h1
   obtain⟨q,hq,e⟩:=List.mem_map.1 h1
   rw[← e];exact h.ge q hq

theorem Qk3 {N:Nat} {wb:World} {c:Cx} {Iv:List Nat→aj→Prop} {xs:List {i:Nat // i<N}} {B n0 bx:Nat} {box:Obj} {W W':World} (h:RInv wb c n0 Iv xs W) (hbx:∀ k H',Iv k H'→(bx,box)∈H') (hk:Kp [] W W'):KeepsFrom B W W'∧KB [bx] W W'∧RInv wb c n0 Iv xs W':=by
 obtain⟨hn0,H,hi,hs,hwr,hk0,hkb,hge,hc⟩:=h
 have hs':=hs.kp hk aA
 exact⟨⟨hk.size,fun k o _ h _=>(hk.block k (Array.getElem?_eq_some_iff.1 h).1 aA).trans h⟩,fun q hq=>by cases List.mem_singleton.1 hq;exact(hs'.blk _ (hbx _ _ hi)).trans (hs.blk _ (hbx _ _ hi)).symm,
  V0 hn0 hk.size,H,hi,hs',hwr,hk0.trans (hk.mono (fun k hk'=>by cases hk')),hkb.trans hk,hge,hc⟩

theorem St.heap {c:Cx} {F:ak} {H H':aj} {a:Act} {w:World} (h:St c F H a w) (hh:HSub H' H):St c F H' a w :=
 ⟨h.fr,h.kp,hh.aV h.hs,fun p hp=>h.wr p (hh.mem p hp)⟩

section
variable {c:Cx} {Q:Exit→Act→World→Prop} {F:ak} {H:aj} {g:Operand} {p1 p2:Tmp} {assign body tail:Code} {gf:Nat} {lb:Array Value} {u v:Nat→Value} {N bx:Nat} {box:Obj} {fn:Func} {R:Ending→World→Prop}

def Qgj (P:Program) (gf:Nat) (lb:Array Value) (u v:Nat→Value) (N bx:Nat) (box:Obj):Prop :=
 ∀ (n:Nat) (W:World),1≤n→W.heap[bx]?=some box→SeqStopsK Fence.wide n P gf lb (fun i:{i:Nat // i<N}=>#[u i.1,v i.1]) (KB [bx]) (fun ys=>ys.map (·.1)=List.range N) (fun _=>True) N W

theorem Qgd {wb:World} {od:List Od} (hm:c.P.follows .mixedOrders=true) {Iv:List Nat→aj→Prop} (hbx:∀ k H',Iv k H'→(bx,box)∈H') {FA:Nat→ak} {ob:Option Obj} {B n0 l m:Nat} {pre:List {i:Nat // i<N}} {i:{i:Nat // i<N}} {a':Act} {W1:World} (hokb:okB c.P od body=true) (hl:∃ r,W1.heap[l]?=some (.loop r)) (hI:RInv wb c n0 Iv pre W1) (hA:AsgX c.n n0 FA ob a' W1) (hn0:wb.heap.size≤n0) (hn1:c.w0.heap.size≤n0) (hlen:pre.length<N)
  (hd:∀ o,ob=some o→∀ k H',Iv k H'→∀ p∈H',p.2≠o)
  (hbody:∀ b H' hM',Iv (pre.map (·.1)) H'→l∉keys (jH ob b++H')→Kp [] wb W1→(∀ p∈jH ob b++H',wb.heap.size≤p.1)→JC ⟨c.P,c.n,W1,keys (jH ob b++H'),hM'⟩ (Q6y (Iv (pre.map (·.1)++[i.1])) ⟨c.P,c.n,W1,keys (jH ob b++H'),hM'⟩) (toB l m od body) (FA b) (jH ob b++H')) :
  body.wpIn (Fence.wide.inRound l) m c.P (ownPostG B (KB [bx]) (RInv wb c n0 Iv) (fun _ _ _=>False) (pre++[i]) W1) a' W1:=by
 obtain⟨hsz,H0,hi,hR0⟩:=hI
 obtain⟨b,hA,hx⟩:=hA
 have hR:=hR0.ex hx hn0 hn1 (fun o ho=>hd o ho _ _ hi)
 obtain⟨r,hr⟩:=hl
 have hln:l∉keys (jH ob b++H0):=fun hm'=>by
  obtain⟨p,hp,rfl⟩:=List.mem_map.1 hm'
  have h1:=hR.hs.blk p hp
  rw[hr]at h1
  have h2:=hR.cells p hp
  rw[← Option.some.inj h1]at h2;cases h2
 have hM':=QK hR.hs
 refine wpIn_mono (ZL (c:=⟨c.P,c.n,W1,keys (jH ob b++H0),hM'⟩) l m od hm body _ _ _ hokb ((hbody b H0 hM' hi hln hR.kb hR.ge).h _ _ ⟨hA,Kp.refl _ _,hR.hs,fun p hp=>.inr (List.mem_map.2 ⟨p,hp,rfl⟩)⟩)) (fun e a w hq=>?_)
 cases e with
 | normal =>
  obtain⟨F2,H2,hJ,hc2,st2⟩:=hq
  obtain⟨h1,h2,h3⟩:=Qco (c2:=⟨c.P,c.n,W1,keys (jH ob b++H0),hM'⟩) B bx box hR rfl st2 hc2 (List.mem_append_right _ (hbx _ _ hi)) (hbx _ _ hJ)
  exact⟨h1,h2,V0 hsz st2.kp.size,H2,by rw[Vj];exact hJ,h3⟩
 | _=>exact hq.elim

theorem Q4j {od:List Od} (wb:World) (hwb:c.w0=wb) (hm:c.P.follows .mixedOrders=true) (hM:c.M=[]) (hg:ev F g=some (.func (.func gf) #[] lb)) (eg:∀ args w,(callFunc gf args).run c.P w=.ok (.enter gf args) w)
  (it:Qgj c.P gf lb u v N bx box) (Iv:List Nat→aj→Prop) (hbx:∀ k H',Iv k H'→(bx,box)∈H') (hcl:∀ k H',Iv k H'→Cells H') (H0:aj) (h0:Iv [] H0) (hH0:HSub H0 H) (FA:Nat→Nat→ak) (ob:Nat→Option Obj) (hd:∀ i o,ob i=some o→∀ k H',Iv k H'→∀ p∈H',p.2≠o)
  (hp1:Nat.blt p1 c.n=true) (hp2:Nat.blt p2 c.n=true) (hoka:okB c.P od assign=true) (hokb:okB c.P od body=true) (htl:Q77 tail=true) (hQ:∀ a w,tail.wp c.P (bodyPostM Fence.wide 5 c.P fn R) a w→Q .normal a w)
  (hassign:∀ l i W hW,JC ⟨c.P,c.n,W,[],hW⟩ (Qbr c.n (FA i) (ob i) ⟨c.P,c.n,W,[],hW⟩) (toB l 3 od assign) ((p2,v i)::(p1,u i)::F) [])
  (hbody:∀ l i pre b H' W1 hM',i<N→pre.length<N→Iv pre H'→(∃ r,W1.heap[l]?=some (.loop r))→l∉keys (jH (ob i) b++H')→Kp [] wb W1→(∀ p∈jH (ob i) b++H',wb.heap.size≤p.1)→JC ⟨c.P,c.n,W1,keys (jH (ob i) b++H'),hM'⟩ (Q6y (Iv (pre++[i])) ⟨c.P,c.n,W1,keys (jH (ob i) b++H'),hM'⟩) (toB l 3 od body) (FA i b) (jH (ob i) b++H'))
  (hdone:∀ D H',Iv (List.range N) H'→wb.heap.size≤D→JC c (fun e a w=>bodyPostM Fence.wide 5 c.P fn R e (ad [{ target:=.collected D,args:=#[] }] a) w) (toS od tail) F ((D,.deferred (some []))::H')) :
  JC c Q (.raw (.rangeFunc g #[p1,p2] assign body)) F H:=by
 subst hwb
 refine⟨fun a W st=>?_⟩
 obtain⟨tm,df⟩:=a
 obtain rfl:df=[]:=st.fr.defers
 have st0:=st.heap hH0
 have hkp:Kp [] c.w0 W:=by have:=st.kp;rwa [hM]at this
 have hI0:RInv (N:=N) c.w0 c W.heap.size Iv [] W:=⟨V7 _,H0,h0,st0.hs,st0.wr,st.kp,hkp,fun p hp=>(by
  rcases st0.wr p hp with h|h
  ·exact h
  ·rw[hM]at h;cases h),hcl _ _ h0⟩
 have hWs:c.w0.heap.size≤W.heap.size:=st.kp.size
 have hbxW:=st0.hs.blk _ (hbx _ _ h0)
 have hbxlt:bx<W.heap.size:=(Array.getElem?_eq_some_iff.1 hbxW).1
 refine wpIn_wide.1 (wpIn_rangeFunc_ownH (F:=Fence.wide) (n:=5) rfl oq (gf:=gf) (lb:=lb) (st.fr.ev hg) trivial eg
  (it 4 W oq hbxW) KB.trans (fun W' l o o' hl ho _ _ q hq=>?_) (Below.refl _ _) (fun _=>rfl)
  (RInv c.w0 c W.heap.size Iv) (fun _ _ _=>False) (Qbt hWs hWs) (fun _ _ _ _ _ hs _ _=>hs) hI0 (fun i a W'=>AsgX c.n W.heap.size (FA i.1) (ob i.1) a W') (fun _ _=>Qbv) ?assign ?body ?done ?stop)
 ·cases List.mem_singleton.1 hq
  exact World.putObj_heap_other (fun e=>by omega)
 case assign =>
  intro l pre i W1 K hI hK
  have hW1:W.heap.size≤W1.heap.size:=hI.1
  rw[zip2]
  refine wpIn_mono (ZL (c:=⟨c.P,c.n,W1,[],by simp⟩) l 3 od hm assign _ _ _ hoka ((hassign l i.1 W1 aA).h _ _ ⟨?_,Kp.refl _ _,⟨by simp,by simp⟩,fun p hp=>by cases hp⟩)) (fun e a w hq=>?_)
  ·exact(st.fr.set' (u i.1) hp1).set' (v i.1) hp2
  ·cases e with
   | normal =>
    obtain⟨h1,h2,h3⟩:=Qk3 (B:=W.heap.size) hI hbx hq.1
    exact hK _ _ h1 h2 h3 (hq.2.le hW1)
   | _=>exact hq.elim
 case body =>
  intro l pre i a' W1 hl hr hI hA hlen
  exact Qgd hm hbx hokb hr hI hA (V0 hkp.size (V7 _)) hWs hlen (fun o ho k H' hH'=>hd i.1 o ho k H' hH') (fun b H' hM' hi hln hkb hge=>hbody l i.1 _ b H' W1 hM' i.2 (by rw[List.length_map];exact hlen) hi hr hln hkb hge)
 case done =>
  intro D ys W1 hD hys hI hDd
  obtain⟨_,H',hi,hR⟩:=hI
  rw[hys]at hi
  have hD2:c.w0.heap.size≤D:=V0 hWs hD
  have hDn:D∉H'.map (·.1):=fun hm=>by
   obtain⟨p,hp,rfl⟩:=List.mem_map.1 hm
   have h1:=hR.hs.blk p hp
   rw[hDd]at h1
   have h2:=hR.cells p hp
   rw[← Option.some.inj h1]at h2;cases h2
  refine hQ _ _ (Xb (c:=c) od [{ target:=.collected D,args:=#[] }] tail (fun e a w=>bodyPostM Fence.wide 5 c.P fn R e (ad [{ target:=.collected D,args:=#[] }] a) w) _ htl (fun e a w h=>h) { tmps:=tm,defers:=[] } W1 ((hdone D H' hi hD2).h _ _ ⟨st.fr,hR.kp,hR.hs.cons hDd hDn,fun p hp=>?_⟩))
  rcases List.mem_cons.1 hp with rfl|hp
  ·exact .inl hD2
  ·exact hR.wr p hp
 case stop =>
  intro D c pre W1 _ _ h _
  exact h.elim

theorem Qcq {od:List Od} {l0:Nat} (wb:World) (hm:c.P.follows .mixedOrders=true) (hl0:∃ r,c.w0.heap[l0]?=some (.loop r)) (hlM:l0∉c.M) (hg:ev F g=some (.func (.func gf) #[] lb)) (eg:∀ args w,(callFunc gf args).run c.P w=.ok (.enter gf args) w)
  (it:Qgj c.P gf lb u v N bx box) (hkb:Kp [] wb c.w0) (hMb:∀ k∈c.M,wb.heap.size≤k) (Iv:List Nat→aj→Prop) (hbx:∀ k H',Iv k H'→(bx,box)∈H') (hcl:∀ k H',Iv k H'→Cells H') (H0:aj) (h0:Iv [] H0) (hH0:HSub H0 H) (FA:Nat→Nat→ak) (ob:Nat→Option Obj) (hd:∀ i o,ob i=some o→∀ k H',Iv k H'→∀ p∈H',p.2≠o)
  (hp1:Nat.blt p1 c.n=true) (hp2:Nat.blt p2 c.n=true) (hoka:okB c.P od assign=true) (hokb:okB c.P od body=true)
  (hassign:∀ l i W hW,JC ⟨c.P,c.n,W,[],hW⟩ (Qbr c.n (FA i) (ob i) ⟨c.P,c.n,W,[],hW⟩) (toB l 1 od assign) ((p2,v i)::(p1,u i)::F) [])
  (hbody:∀ l i pre b H' W1 hM',i<N→pre.length<N→Iv pre H'→l∉keys (jH (ob i) b++H')→Kp [] wb W1→(∀ p∈jH (ob i) b++H',wb.heap.size≤p.1)→JC ⟨c.P,c.n,W1,keys (jH (ob i) b++H'),hM'⟩ (Q6y (Iv (pre++[i])) ⟨c.P,c.n,W1,keys (jH (ob i) b++H'),hM'⟩) (toB l 1 od body) (FA i b) (jH (ob i) b++H'))
  (hdone:∀ H',Iv (List.range N) H'→JX c Q .normal F H') :
  JC c Q (.rawIn l0 3 (.rangeFunc g #[p1,p2] assign body)) F H:=by
 refine⟨fun a W st=>?_⟩
 obtain⟨tm,df⟩:=a
 obtain rfl:df=[]:=st.fr.defers
 have st0:=st.heap hH0
 obtain⟨r0,hr0⟩:=hl0
 have hr1:W.heap[l0]?=some (.loop r0):=(st.kp.block l0 (Array.getElem?_eq_some_iff.1 hr0).1 hlM).trans hr0
 have hkp:Kp [] wb W:=⟨st.kp.os.trans hkb.os,st.kp.tape.trans hkb.tape,st.kp.output.trans hkb.output,V0 hkb.size st.kp.size,fun q hq _=>(st.kp.block q (V6 hq hkb.size) (fun h=>by have:=hMb q h;omega)).trans (hkb.block q hq aA)⟩
 have hI0:RInv (N:=N) wb c W.heap.size Iv [] W:=⟨V7 _,H0,h0,st0.hs,st0.wr,st.kp,hkp,fun p hp=>(by
  rcases st0.wr p hp with h|h
  ·exact V0 hkb.size h
  ·exact hMb _ h),hcl _ _ h0⟩
 have hWs:c.w0.heap.size≤W.heap.size:=st.kp.size
 have hbxW:=st0.hs.blk _ (hbx _ _ h0)
 have hbxlt:bx<W.heap.size:=(Array.getElem?_eq_some_iff.1 hbxW).1
 refine wpIn_rangeFunc_ownN (F:=Fence.wide.inRound l0) (n:=3) rfl hr1 oq (gf:=gf) (lb:=lb) (st.fr.ev hg) trivial eg
  (SeqStopsK.inRound l0 (it 2 W oq hbxW)) KB.trans (fun W' l o o' hl ho _ _ q hq=>?_) (Below.refl _ _) (fun _=>rfl)
  (RInv wb c W.heap.size Iv) (fun _ _ _=>False) (Qbt hkp.size hWs) (fun _ _ _ _ _ hs _ _=>hs) hI0 (fun i a W'=>AsgX c.n W.heap.size (FA i.1) (ob i.1) a W') (fun _ _=>Qbv) ?assign ?body ?done ?stop
 ·cases List.mem_singleton.1 hq
  exact World.putObj_heap_other (fun e=>by omega)
 case assign =>
  intro l pre i W1 K hI hK
  have hW1:W.heap.size≤W1.heap.size:=hI.1
  rw[zip2]
  refine wpIn_mono (ZL (c:=⟨c.P,c.n,W1,[],by simp⟩) l 1 od hm assign _ _ _ hoka ((hassign l i.1 W1 aA).h _ _ ⟨?_,Kp.refl _ _,⟨by simp,by simp⟩,fun p hp=>by cases hp⟩)) (fun e a w hq=>?_)
  ·exact(st.fr.set' (u i.1) hp1).set' (v i.1) hp2
  ·cases e with
   | normal =>
    obtain⟨h1,h2,h3⟩:=Qk3 (B:=W.heap.size) hI hbx hq.1
    exact hK _ _ h1 h2 h3 (hq.2.le hW1)
   | _=>exact hq.elim
 case body =>
  intro l pre i a' W1 hl hr hI hA hlen
  exact Qgd hm hbx hokb hr hI hA hkp.size hWs hlen (fun o ho k H' hH'=>hd i.1 o ho k H' hH') (fun b H' hM' hi hln hkb hge=>hbody l i.1 _ b H' W1 hM' i.2 (by rw[List.length_map];exact hlen) hi hln hkb hge)
 case done =>
  intro ys W1 hys hI
  obtain⟨_,H',hi,hR⟩:=hI
  rw[hys]at hi
  exact(hdone H' hi).h _ _ ⟨st.fr,hR.kp,hR.hs,hR.wr⟩
 case stop =>
  intro c pre W1 _ h
  exact h.elim

theorem Q8n {D:Nat} (k:Nat) (hD:H[k]?=some (D,.deferred (some []))) (hge:c.w0.heap.size≤D) (hM:c.M=[]) (h:JX c (X9 c.P fn.results R) .ret F (H.eraseIdx k)) :
  JX c (fun e a w=>bodyPostM Fence.wide 5 c.P fn R e (ad [{ target:=.collected D,args:=#[] }] a) w) .ret F H:=by
 refine⟨fun a w st=>?_⟩
 have hK:w.heap[D]?=some (.deferred (some [])):=st.hs.blk _ (List.mem_of_getElem? hD)
 have hd2:a.defers=[]:=st.fr.defers
 have hk2:Kp c.M c.w0 (w.putObj D (.deferred none)):=⟨st.kp.os,st.kp.tape,st.kp.output,by simpa using st.kp.size,fun q hq hm=>(World.putObj_heap_other (fun e=>by subst e;omega)).trans (st.kp.block q hq hm)⟩
 have hkl:k<H.length:=(List.getElem?_eq_some_iff.1 hD).1
 have hsub:HSub (H.eraseIdx k) H:=⟨[(D,.deferred (some []))],by
  have h1:=YU H k hkl
  have h2:H[k]=(D,.deferred (some [])):=(List.getElem?_eq_some_iff.1 hD).2
  rw[h2]at h1
  exact h1.symm.trans (List.perm_append_comm (l₁:=[_]) (l₂:=H.eraseIdx k))⟩
 have st2:=st.heap hsub
 have hne:∀ p∈H.eraseIdx k,p.1≠D:=fun p hp e=>by
  have h1:=YU H k hkl
  have h2:H[k]=(D,.deferred (some [])):=(List.getElem?_eq_some_iff.1 hD).2
  rw[h2]at h1
  have h3:=(h1.map (·.1)).nodup_iff.2 st.hs.nd
  rw[List.map_cons,List.nodup_cons]at h3
  exact h3.1 (List.mem_map.2 ⟨p,hp,e⟩)
 have st3:St c F (H.eraseIdx k) a (w.putObj D (.deferred none)):=⟨st.fr,hk2,⟨st2.hs.nd,fun p hp=>(World.putObj_heap_other (hne p hp)).trans (st2.hs.blk p hp)⟩,st2.wr⟩
 obtain⟨_,v,hv,hR⟩:=h.h _ _ st3
 show LeavesInM Fence.wide 5 _ _ _ _ (a.defers++_) _ _
 rw[hd2]
 exact⟨by simp,.inl ⟨D,_,rfl,run_takeDeferred hK,v,hv,hR⟩⟩
end

set_option linter.unusedSimpArgs false
set_option linter.unusedVariables false
set_option linter.unusedSectionVars false

abbrev WR:=Bool × List UInt8
def xc (x:WR):List Value:=[.bool x.1,sv x.2]
abbrev xv (x:WR):Value:=wv x.1 x.2
def iE (xs:List WR):List Value:=xs.flatMap xc
def wz (z:Int):WR:=(decide (z<0),aS z.natAbs)
abbrev eX:WR:=(false,[])

theorem wz_zero:wz 0=eX:=by
 unfold wz
 rw[show aS (0:Int).natAbs=[] from bF.2 rfl]
 rfl

theorem Q1h:∀ (xs:List WR),(iE xs).length=xs.length*2
 | []=>rfl
 | x::r=>by
  show (xc x++iE r).length=_
  rw[Vi,Q1h r,List.length_cons]
  show 2+r.length*2=_
  omega
theorem Q0o (x:WR) (r:List WR):iE (x::r)=.bool x.1::sv x.2::iE r:=rfl
theorem Q1i (a b:List WR):iE (a++b)=iE a++iE b:=by simp[iE]
theorem Q5i:∀ {xs:List WR} {i:Nat},i<xs.length→(iE xs)[i*2]?=some (.bool (xs.getD i eX).1)∧(iE xs)[i*2+1]?=some (sv (xs.getD i eX).2)
 | [],i,h=>absurd h (Nat.not_lt_zero _)
 | x::r,0,_=>⟨rfl,rfl⟩
 | x::r,i+1,h=>by
  have h':=Q5i (xs:=r) (i:=i) (by simpa using h)
  rw[Q0o,show (i+1)*2=i*2+1+1 by omega]
  simpa using h'
theorem Qcu:∀ {xs:List WR} {i:Nat} {x:WR},i<xs.length→((iE xs).set (i*2) (.bool x.1)).set (i*2+1) (sv x.2)=iE (xs.set i x)
 | [],i,_,h=>absurd h (Nat.not_lt_zero _)
 | y::r,0,x,_=>rfl
 | y::r,i+1,x,h=>by
  have h':=Qcu (xs:=r) (i:=i) (x:=x) (by simpa using h)
  rw[Q0o,show (i+1)*2=i*2+1+1 by omega]
  simp only[List.set_cons_succ]
  rw[h']
  rfl
theorem Q0n:∀ {xs:List WR} {i:Nat},(iE xs).drop (i*2)=iE (xs.drop i)
 | xs,0=>rfl
 | [],i+1=>by simp[iE]
 | x::r,i+1=>by
  rw[Q0o,show (i+1)*2=i*2+1+1 by omega]
  simp only[List.drop_succ_cons]
  exact Q0n
theorem Q0m:∀ {xs:List WR} {i:Nat},(iE xs).take (i*2)=iE (xs.take i)
 | xs,0=>by simp[iE]
 | [],i+1=>by simp[iE]
 | x::r,i+1=>by
  rw[Q0o,show (i+1)*2=i*2+1+1 by omega]
  simp only[List.take_succ_cons]
  rw[Q0m]
  rfl
theorem Q8o:∀ {xs:List WR},∀ u∈iE xs,u.oneCell'=true
 | [],u,h=>nomatch h
 | x :: r, u, h => by
  rw[Q0o]at h
  rcases List.mem_cons.1 h with rfl|h
  ·rfl
  ·rcases List.mem_cons.1 h with rfl|h
   ·rfl
   ·exact Q8o u h

def WX (w:World) (v:Value) (n:Nat) (xs:List WR):Prop:=jc w 2 v n (iE xs)
def jI (c:Cx) (N:aj) (v:Value) (n:Nat) (xs:List WR):Prop:=Rd c N 2 v n (iE xs)
def dG (N:aj) (v:Value) (n:Nat) (xs:List WR):Prop:=aH 75 2 N v n (iE xs)
theorem WX.len {w:World} {v:Value} {n:Nat} {xs:List WR} (h:WX w v n xs):xs.length=n:=by have:=h.1;rw[Q1h]at this;omega
theorem jI.len {c:Cx} {N:aj} {v:Value} {n:Nat} {xs:List WR} (h:jI c N v n xs):xs.length=n:=by have:=h.1;rw[Q1h]at this;omega
theorem dG.len {N:aj} {v:Value} {n:Nat} {xs:List WR} (h:dG N v n xs):xs.length=n:=by have:=h.1;rw[Q1h]at this;omega
theorem WX.mono {w w':World} {v:Value} {n:Nat} {xs:List WR} (h:WX w v n xs) (hk:Kp [] w w'):WX w' v n xs:=jc.mono h hk
theorem WX.rd {c:Cx} {v:Value} {n:Nat} {xs:List WR} (h:WX c.w0 v n xs) (hM:c.M=[]) (N:aj):jI c N v n xs:=jc.rd h hM N
theorem Qp0 {c:Cx} {v:Value} {n:Nat} {xs:List WR} (h:WX c.w0 v n xs) (hM:0<n→(dK v 0).block∉c.M) (N:aj):jI c N v n xs:=Qmv h hM N
theorem jI.at {c:Cx} {N H:aj} {w:World} {v:Value} {n:Nat} {xs:List WR} (h:jI c N v n xs) (hk:Kp c.M c.w0 w) (hs:aG H w) (hN:HSub N H):WX w v n xs:=Rd.at h hk hs hN
theorem dG.rd {c:Cx} {N:aj} {v:Value} {n:Nat} {xs:List WR} (h:dG N v n xs):jI c N v n xs:=aH.rd h
theorem dG.new {N:aj} {v:Value} {n:Nat} {xs:List WR} {w w':World} (h:dG N v n xs) (hn:New N w w'):WX w' v n xs:=New.rd (c:=⟨Tryz.prog,0,w,[],by simp⟩) h hn
theorem dG.form {N:aj} {v:Value} {n:Nat} {xs:List WR} (h:dG N v n xs):∃ A cap,v=.slice A n cap:=by
 obtain⟨_,⟨rfl,rfl,rfl⟩|⟨b,cap,cur,rfl,_⟩⟩:=h
 ·exact⟨_,_,rfl⟩
 ·exact⟨_,_,rfl⟩
theorem WX.form {w:World} {v:Value} {n:Nat} {xs:List WR} (h:WX w v n xs):∃ A cap,v=.slice A n cap:=by
 obtain⟨_,A,cap,rfl,_⟩:=h
 exact⟨_,_,rfl⟩
theorem dG.nil:dG [] (.slice none 0 0) 0 []:=aH.nil _ 2
theorem dG.cells {N:aj} {v:Value} {n:Nat} {xs:List WR} (h:dG N v n xs):Cells N:=aH.cells' h

def WZ (w:World) (v:Value) (n:Nat) (zs:List Int):Prop:=WX w v n (zs.map wz)
def fH (c:Cx) (N:aj) (v:Value) (n:Nat) (zs:List Int):Prop:=jI c N v n (zs.map wz)
def aN (N:aj) (v:Value) (n:Nat) (zs:List Int):Prop:=dG N v n (zs.map wz)
theorem WZ.len {w:World} {v:Value} {n:Nat} {xs:List Int} (h:WZ w v n xs):xs.length=n:=by simpa using WX.len h
theorem fH.len {c:Cx} {N:aj} {v:Value} {n:Nat} {xs:List Int} (h:fH c N v n xs):xs.length=n:=by simpa using jI.len h
theorem aN.len {N:aj} {v:Value} {n:Nat} {xs:List Int} (h:aN N v n xs):xs.length=n:=by simpa using dG.len h
theorem WZ.mono {w w':World} {v:Value} {n:Nat} {xs:List Int} (h:WZ w v n xs) (hk:Kp [] w w'):WZ w' v n xs:=WX.mono h hk
theorem WZ.rd {c:Cx} {v:Value} {n:Nat} {xs:List Int} (h:WZ c.w0 v n xs) (hM:c.M=[]) (N:aj):fH c N v n xs:=WX.rd h hM N
theorem Qoz {c:Cx} {v:Value} {n:Nat} {xs:List Int} (h:WZ c.w0 v n xs) (hM:0<n→(dK v 0).block∉c.M) (N:aj):fH c N v n xs:=Qp0 h hM N
theorem fH.at {c:Cx} {N H:aj} {w:World} {v:Value} {n:Nat} {xs:List Int} (h:fH c N v n xs) (hk:Kp c.M c.w0 w) (hs:aG H w) (hN:HSub N H):WZ w v n xs:=jI.at h hk hs hN
theorem aN.rd {c:Cx} {N:aj} {v:Value} {n:Nat} {xs:List Int} (h:aN N v n xs):fH c N v n xs:=dG.rd h
theorem aN.new {N:aj} {v:Value} {n:Nat} {xs:List Int} {w w':World} (h:aN N v n xs) (hn:New N w w'):WZ w' v n xs:=dG.new h hn
theorem aN.form {N:aj} {v:Value} {n:Nat} {xs:List Int} (h:aN N v n xs):∃ A cap,v=.slice A n cap:=dG.form h
theorem WZ.form {w:World} {v:Value} {n:Nat} {xs:List Int} (h:WZ w v n xs):∃ A cap,v=.slice A n cap:=WX.form h
theorem aN.nil:aN [] (.slice none 0 0) 0 []:=dG.nil
theorem aN.cells {N:aj} {v:Value} {n:Nat} {xs:List Int} (h:aN N v n xs):Cells N:=dG.cells h
theorem Q40 (zs:List Int) (i:Nat):(zs.map wz).getD i eX=wz (zs.getD i 0):=by
 simp only[List.getD,List.getElem?_map]
 cases h:zs[i]? with
 | none=>exact wz_zero.symm
 | some z=>rfl

theorem Q9h {e:TypeId} {N:aj} {n i:Nat} {v:Value} {cs:List Value} (h:aH e 2 N v n cs) (hi:i<n) :
  ∃ b cap cur,v=.slice (some ⟨b,0,none⟩) n cap∧N=[(b,.cells cur e (0,0))]∧i*2+2≤cur.size∧(∀ u u',aH e 2 [(b,.cells (ZB cur (i*2) [u,u']) e (0,0))] v n ((cs.set (i*2) u).set (i*2+1) u')):=by
 obtain⟨hl,⟨rfl,rfl,rfl⟩|⟨b,cap,cur,rfl,rfl,h2,h3,h4,h5⟩⟩:=h
 ·omega
 ·refine⟨b,cap,cur,rfl,rfl,by omega,fun u u'=>⟨by simpa using hl,.inr ⟨b,cap,_,rfl,rfl,h2,h3,?_,?_⟩⟩⟩
  ·rw[Q04];exact h4
  ·rw[ZB,ZB,ZB,Array.toList_setIfInBounds,Array.toList_setIfInBounds, ← h5,List.take_set,List.take_set]

section
variable {c:Cx} {Q:Exit→Act→World→Prop} {m:Mode} {F:ak} {H:aj} {r:List bT} {g:Option (Option Tmp × Bool)} {ns:Bool} {d:Tmp} {ty t t':TypeId} {x y:Operand} {N:aj} {n:Nat} {v:Value}

theorem W7 {e:TypeId} {xs:List WR} [dh c.P t e] (hd:Qw c.n (some d)=true:=by exact rfl) (hg:Qi F g=some true:=by exact rfl) (hx:ev F x=some v:=by exact rfl) (hv:jI c N v n xs:=by(first|assumption|exact WX.rd (by assumption) rfl []|exact dG.rd (by assumption)))
  (h:JO c Q m r ((d,.int .i64 n)::F) H):JO c Q m (⟨some d,.call ⟨.builtin .len,#[x],#[t]⟩,ty,g,.bg,ns⟩::r) F H:=Xy hd hg hx hv h
theorem Zt {e:TypeId} {xs:List Int} [dh c.P t e] (hd:Qw c.n (some d)=true:=by exact rfl) (hg:Qi F g=some true:=by exact rfl) (hx:ev F x=some v:=by exact rfl) (hv:fH c N v n xs:=by(first|assumption|exact WZ.rd (by assumption) rfl []|exact aN.rd (by assumption)))
  (h:JO c Q m r ((d,.int .i64 n)::F) H):JO c Q m (⟨some d,.call ⟨.builtin .len,#[x],#[t]⟩,ty,g,.bg,ns⟩::r) F H:=W7 hd hg hx hv h
theorem Q0w {e:TypeId} {xs:List WR} {j:Nat} {k:IntKind} [dh c.P t e] [dS c.P e 2] (hd:Qw c.n (some d)=true:=by exact rfl) (hg:Qi F g=some true:=by exact rfl) (hx:ev F x=some v:=by exact rfl) (hy:ev F y=some (.int k j):=by exact rfl) (hv:jI c N v n xs:=by(first|assumption|exact WX.rd (by assumption) rfl []|exact dG.rd (by assumption))) (hj:j<n:=by(first|assumption|omega))
  (h:JO c Q m r ((d,.pointer (some (dK v (j*2))))::F) H):JO c Q m (⟨some d,.indexAddr t x y,ty,g,.bg,ns⟩::r) F H:=Qe6 hd hg hx hy hv hj h
theorem QY {e:TypeId} {xs:List Int} {j:Nat} {k:IntKind} [dh c.P t e] [dS c.P e 2] (hd:Qw c.n (some d)=true:=by exact rfl) (hg:Qi F g=some true:=by exact rfl) (hx:ev F x=some v:=by exact rfl) (hy:ev F y=some (.int k j):=by exact rfl) (hv:fH c N v n xs:=by(first|assumption|exact WZ.rd (by assumption) rfl []|exact aN.rd (by assumption))) (hj:j<n:=by(first|assumption|omega))
  (h:JO c Q m r ((d,.pointer (some (dK v (j*2))))::F) H):JO c Q m (⟨some d,.indexAddr t x y,ty,g,.bg,ns⟩::r) F H:=Qe6 hd hg hx hy hv hj h
theorem Qe5 {xs:List WR} {i:Nat} [TN c.P t 2] (hd:Qw c.n (some d)=true:=by exact rfl) (hg:Qi F g=some true:=by exact rfl) (hx:ev F x=some (.pointer (some (dK v (i*2)))):=by exact rfl) (hl:m.live=true:=by exact rfl) (hv:jI c N v n xs:=by(first|assumption|exact WX.rd (by assumption) rfl []|exact dG.rd (by assumption))) (hN:HSub N (m.src H):=by exact Qb) (hi:i<n:=by(first|assumption|omega))
  (h:JO c Q m r ((d,xv (xs.getD i eX))::F) H):JO c Q m (⟨some d,.load t x,ty,g,.ld,ns⟩::r) F H:=by
 have hg2:=Q5i (xs:=xs) (i:=i) (by have:=hv.len;omega)
 refine Qnv hd hg hx hl hv hN oq (us:=#[.bool (xs.getD i eX).1,sv (xs.getD i eX).2]) rfl (fun j hj=>?_) h
 have hj:j<2:=hj
 have:j=0∨j=1:=by omega
 rcases this with rfl|rfl
 ·exact hg2.1
 ·exact hg2.2
theorem Y4 {xs:List Int} {i:Nat} [TN c.P t 2] (hd:Qw c.n (some d)=true:=by exact rfl) (hg:Qi F g=some true:=by exact rfl) (hx:ev F x=some (.pointer (some (dK v (i*2)))):=by exact rfl) (hl:m.live=true:=by exact rfl) (hv:fH c N v n xs:=by(first|assumption|exact WZ.rd (by assumption) rfl []|exact aN.rd (by assumption))) (hN:HSub N (m.src H):=by exact Qb) (hi:i<n:=by(first|assumption|omega))
  (h:JO c Q m r ((d,Wv (xs.getD i 0))::F) H):JO c Q m (⟨some d,.load t x,ty,g,.ld,ns⟩::r) F H :=
 Qe5 hd hg hx hl hv hN hi (by rw[Q40];exact h)
theorem Q7i {xs:List WR} {i:Nat} [T1 c.P t] (hd:Qw c.n (some d)=true:=by exact rfl) (hg:Qi F g=some true:=by exact rfl) (hx:ev F x=some (.pointer (some (dK v (i*2+1)))):=by exact rfl) (hl:m.live=true:=by exact rfl) (hv:jI c N v n xs:=by(first|assumption|exact WX.rd (by assumption) rfl []|exact dG.rd (by assumption))) (hN:HSub N (m.src H):=by exact Qb) (hi:i<n:=by(first|assumption|omega))
  (h:JO c Q m r ((d,sv (xs.getD i eX).2)::F) H):JO c Q m (⟨some d,.load t x,ty,g,.ld,ns⟩::r) F H :=
 Q1q hd hg hx hl hv hN (Q5i (by have:=hv.len;omega)).2 h
theorem Qnu {xs:List WR} {i:Nat} [T1 c.P t] (hd:Qw c.n (some d)=true:=by exact rfl) (hg:Qi F g=some true:=by exact rfl) (hx:ev F x=some (.pointer (some (dK v (i*2+0)))):=by exact rfl) (hl:m.live=true:=by exact rfl) (hv:jI c N v n xs:=by(first|assumption|exact WX.rd (by assumption) rfl []|exact dG.rd (by assumption))) (hN:HSub N (m.src H):=by exact Qb) (hi:i<n:=by(first|assumption|omega))
  (h:JO c Q m r ((d,.bool (xs.getD i eX).1)::F) H):JO c Q m (⟨some d,.load t x,ty,g,.ld,ns⟩::r) F H :=
 Q1q hd hg hx hl hv hN (Q5i (by have:=hv.len;omega)).1 h
theorem Qjl {xs:List Int} {i:Nat} [T1 c.P t] (hd:Qw c.n (some d)=true) (hg:Qi F g=some true) (hx:ev F x=some (.pointer (some (dK v (i*2+1))))) (hl:m.live=true) (hv:fH c N v n xs) (hN:HSub N (m.src H)) (hi:i<n)
  (h:JO c Q m r ((d,sv (aS (xs.getD i 0).natAbs))::F) H):JO c Q m (⟨some d,.load t x,ty,g,.ld,ns⟩::r) F H :=
 Q7i hd hg hx hl hv hN hi (by rw[Q40];exact h)
theorem Qhm {s:TypeId} {f off i:Nat} [FA c.P s f off] {b o len cap:Nat} (hd:Qw c.n (some d)=true) (hg:Qi F g=some true) (hx:ev F x=some (.pointer (some (dK v i))))
  (h:JO c Q m r ((d,(.pointer (some (dK v (i+off)))))::F) H) (hv:v=.slice (some ⟨b,o,none⟩) len cap):JO c Q m (⟨some d,.fieldAddr s x f,ty,g,.bg,ns⟩::r) F H:=by
 subst hv
 exact Q3q hd hg hx (by rw[Nat.add_assoc];exact h)
theorem Wx {s:TypeId} {f off i:Nat} {xs:List WR} [FA c.P s f off] (hd:Qw c.n (some d)=true:=by exact rfl) (hg:Qi F g=some true:=by exact rfl) (hx:ev F x=some (.pointer (some (dK v i))):=by exact rfl) (hv:jI c N v n xs:=by(first|assumption|exact WX.rd (by assumption) rfl []|exact dG.rd (by assumption))) (hn:0<n:=by omega)
  (h:JO c Q m r ((d,(.pointer (some (dK v (i+off)))))::F) H):JO c Q m (⟨some d,.fieldAddr s x f,ty,g,.bg,ns⟩::r) F H:=by
 obtain⟨_,A,cap,rfl,_,hv⟩:=hv
 obtain⟨⟨b,o,rfl⟩,_⟩:=hv hn
 exact Qhm hd hg hx h rfl
theorem Qa9 {s:TypeId} {f off i:Nat} {xs:List Int} [FA c.P s f off] (hd:Qw c.n (some d)=true) (hg:Qi F g=some true) (hx:ev F x=some (.pointer (some (dK v i)))) (hv:fH c N v n xs) (hn:0<n)
  (h:JO c Q m r ((d,(.pointer (some (dK v (i+off)))))::F) H):JO c Q m (⟨some d,.fieldAddr s x f,ty,g,.bg,ns⟩::r) F H:=Wx hd hg hx hv hn h

theorem Qpf {A B:aj} {i:Nat} {u:WR} {xs:List WR} [TN c.P t 2] (hO:dG N v n xs) (hH:H=A++(N++B)) (hg:Qi F g=some true) (hm:m.aO ns r) (hx:ev F x=some (.pointer (some (dK v (i*2))))) (hy:ev F y=some (xv u))
  (hi:i<n) (h:∀ N',dG N' v n (xs.set i u)→JO c Q m.spent r F (A++(N'++B))):JO c Q m (⟨none,.store t x y,ty,g,.seq,ns⟩::r) F H:=by
 have hl:=hO.len
 obtain⟨b,cap,cur,rfl,rfl,h1,h2⟩:=Q9h hO hi
 subst hH
 simp only[Wf,Vq]at hx
 refine Q2r A.length (b:=b) (o:=i*2) (cs:=cur) (T:=75) (l:=[.bool u.1,sv u.2]) (TN.size (P:=c.P) (t:=t) (n:=2)) hg hm hx hy aA rfl rfl rfl h1 ?_
 have:=h _ (by unfold dG;rw[← Qcu oq];exact h2 (.bool u.1) (sv u.2))
 simpa using this
theorem Q0a {A B:aj} {i:Nat} {u:Int} {xs:List Int} [TN c.P t 2] (hO:aN N v n xs) (hH:H=A++(N++B)) (hg:Qi F g=some true) (hm:m.aO ns r) (hx:ev F x=some (.pointer (some (dK v (i*2))))) (hy:ev F y=some (Wv u))
  (hi:i<n) (h:∀ N',aN N' v n (xs.set i u)→JO c Q m.spent r F (A++(N'++B))):JO c Q m (⟨none,.store t x y,ty,g,.seq,ns⟩::r) F H :=
 Qpf (u:=wz u) hO hH hg hm hx hy hi (fun N' h'=>h N' (by unfold aN;rw[List.map_set];exact h'))

theorem Qa1 {e:TypeId} {l h':Nat} {xs:List WR} {lo hi:Option Operand} {vl vh:Option Value} [dh c.P t e] [dS c.P e 2] (hd:Qw c.n (some d)=true) (hg:Qi F g=some true)
  (hx:ev F x=some v) (hv:jI c N v n xs)
  (hlo:(lo.bind (ev F))=vl) (hlo':lo.isSome=vl.isSome) (hl:vl=some (.int .i64 l)∨(vl=none∧l=0)) (hhi:(hi.bind (ev F))=vh) (hhi':hi.isSome=vh.isSome) (hh:vh=some (.int .i64 h')∨(vh=none∧h'=n))
  (hlh:l≤h') (hhl:h'≤n)
  (h:∀ v',jI c N v' (h'-l) ((xs.drop l).take (h'-l))→(∀ i,l<h'→dK v' i=dK v (l*2+i))→JO c Q m r ((d,v')::F) H):JO c Q m (⟨some d,.slice t x lo hi none,ty,g,.bg,ns⟩::r) F H :=
 Qhk hd hg hx hv hlo hlo' hl hhi hhi' hh hlh hhl (fun v' h1 h2=>h v' (by
  unfold jI
  rw[← Q0m, ← Q0n]
  exact h1) h2)
theorem Qhj {e:TypeId} {l h':Nat} {xs:List Int} {lo hi:Option Operand} {vl vh:Option Value} [dh c.P t e] [dS c.P e 2] (hd:Qw c.n (some d)=true) (hg:Qi F g=some true)
  (hx:ev F x=some v) (hv:fH c N v n xs)
  (hlo:(lo.bind (ev F))=vl) (hlo':lo.isSome=vl.isSome) (hl:vl=some (.int .i64 l)∨(vl=none∧l=0)) (hhi:(hi.bind (ev F))=vh) (hhi':hi.isSome=vh.isSome) (hh:vh=some (.int .i64 h')∨(vh=none∧h'=n))
  (hlh:l≤h') (hhl:h'≤n)
  (h:∀ v',fH c N v' (h'-l) ((xs.drop l).take (h'-l))→(∀ i,l<h'→dK v' i=dK v (l*2+i))→JO c Q m r ((d,v')::F) H):JO c Q m (⟨some d,.slice t x lo hi none,ty,g,.bg,ns⟩::r) F H :=
 Qa1 hd hg hx hv hlo hlo' hl hhi hhi' hh hlh hhl (fun v' h1 h2=>h v' (by
  unfold fH
  rw[List.map_take,List.map_drop]
  exact h1) h2)
theorem Qnr {e:TypeId} {i k:Nat} {xs:List WR} {lo hi:Operand} [dh c.P t e] [dS c.P e 2] (hd:Qw c.n (some d)=true) (hg:Qi F g=some true)
  (hx:ev F x=some v) (hv:jI c N v n xs) (hlo:ev F lo=some (nv (i*k))) (hhi:ev F hi=some (nv ((i+1)*k))) (hle:(i+1)*k≤n)
  (h:∀ v',jI c N v' k ((xs.drop (i*k)).take k)→(∀ j,j<k→dK v' (j*2)=dK v ((i*k+j)*2))→JO c Q m r ((d,v')::F) H):JO c Q m (⟨some d,.slice t x (some lo) (some hi) none,ty,g,.bg,ns⟩::r) F H:=by
 have e1:(i+1)*k-i*k=k:=by rw[Vl];omega
 refine Qa1 (l:=i*k) (h':=(i+1)*k) hd hg hx hv hlo rfl (.inl rfl) hhi rfl (.inl rfl) (V1 k oq) hle (fun v' h1 h2=>h v' (by rw[e1]at h1;exact h1) (fun j hj=>by
  rw[h2 _ (by rw[Vl];omega),Vl]))
theorem Qnq {e:TypeId} {i k:Nat} {xs:List Int} {lo hi:Operand} [dh c.P t e] [dS c.P e 2] (hd:Qw c.n (some d)=true) (hg:Qi F g=some true)
  (hx:ev F x=some v) (hv:fH c N v n xs) (hlo:ev F lo=some (nv (i*k))) (hhi:ev F hi=some (nv ((i+1)*k))) (hle:(i+1)*k≤n)
  (h:∀ v',fH c N v' k ((xs.drop (i*k)).take k)→(∀ j,j<k→dK v' (j*2)=dK v ((i*k+j)*2))→JO c Q m r ((d,v')::F) H):JO c Q m (⟨some d,.slice t x (some lo) (some hi) none,ty,g,.bg,ns⟩::r) F H :=
 Qnr hd hg hx hv hlo hhi hle (fun v' h1 h2=>h v' (by unfold fH;rw[List.map_take,List.map_drop];exact h1) h2)

theorem Qec {A B N2:aj} {v2:Value} {k:Nat} {xs ys:List WR} [dh c.P t 75] [TE c.P 75 2 24 #[.bool false,.string ⟨#[]⟩]] (hO:dG N v n xs) (h2:jI c N2 v2 k ys) (eH:HSub N2 H) (hH:H=A++(N++B)) (hm:m.aO ns r) (hd:Qw c.n (some d)=true) (hg:Qi F g=some true) (hx:ev F x=some v) (hy:ev F y=some v2)
  (hb:n+k≤1000000000) (h:∀ v' N',dG N' v' (n+k) (xs++ys)→JO c Q m.spent r ((d,v')::F) (A++(N'++B))) :
  JO c Q m (⟨some d,.call ⟨.builtin .append,#[x,y],#[t,t]⟩,ty,g,.seq,ns⟩::r) F H :=
 X6 (e:=75) (sz:=2) (bytes:=24) (zc:=#[.bool false,.string ⟨#[]⟩]) (xs:=iE xs) (news:=iE ys) (n:=n) (mm:=k) rfl hO h2 eH hH hm hd hg hx hy (fun u hu=>Q8o u hu) (by simp only[maxLen];omega) oq (fun v' N' h'=>h v' N' (by unfold dG;rw[Q1i];exact h'))
theorem Qcb {A B N2 Hs:aj} {v2:Value} {k:Nat} {xs ys:List WR} [dh c.P t 75] [TE c.P 75 2 24 #[.bool false,.string ⟨#[]⟩]] (hO:dG N v n xs) (h2:jI c N2 v2 k ys) (eH:HSub N2 H) (hH:H=A++(N++B)) (hm:HSub Hs (A++B)) (hd:Qw c.n (some d)=true) (hg:Qi F g=some true) (hx:ev F x=some v) (hy:ev F y=some v2)
  (hb:n+k≤1000000000) (h:∀ v' N',dG N' v' (n+k) (xs++ys)→JO c Q (.draw Hs true) r ((d,v')::F) (A++(N'++B))) :
  JO c Q (.draw Hs true) (⟨some d,.call ⟨.builtin .append,#[x,y],#[t,t]⟩,ty,g,.seq,ns⟩::r) F H :=
 Qee (e:=75) (sz:=2) (bytes:=24) (zc:=#[.bool false,.string ⟨#[]⟩]) (xs:=iE xs) (news:=iE ys) (n:=n) (mm:=k) rfl hO h2 eH hH hm hd hg hx hy (fun u hu=>Q8o u hu) (by simp only[maxLen];omega) oq (fun v' N' h'=>h v' N' (by unfold dG;rw[Q1i];exact h'))
theorem Zi {A B N2:aj} {v2:Value} {k:Nat} {xs ys:List Int} [dh c.P t 75] [TE c.P 75 2 24 #[.bool false,.string ⟨#[]⟩]] (hO:aN N v n xs) (h2:fH c N2 v2 k ys) (eH:HSub N2 H) (hH:H=A++(N++B)) (hm:m.aO ns r) (hd:Qw c.n (some d)=true) (hg:Qi F g=some true) (hx:ev F x=some v) (hy:ev F y=some v2)
  (hb:n+k≤1000000000) (h:∀ v' N',aN N' v' (n+k) (xs++ys)→JO c Q m.spent r ((d,v')::F) (A++(N'++B))) :
  JO c Q m (⟨some d,.call ⟨.builtin .append,#[x,y],#[t,t]⟩,ty,g,.seq,ns⟩::r) F H :=
 Qec hO h2 eH hH hm hd hg hx hy hb (fun v' N' h'=>h v' N' (by unfold aN;rw[Vj];exact h'))
theorem Qca {A B N2 Hs:aj} {v2:Value} {k:Nat} {xs ys:List Int} [dh c.P t 75] [TE c.P 75 2 24 #[.bool false,.string ⟨#[]⟩]] (hO:aN N v n xs) (h2:fH c N2 v2 k ys) (eH:HSub N2 H) (hH:H=A++(N++B)) (hm:HSub Hs (A++B)) (hd:Qw c.n (some d)=true) (hg:Qi F g=some true) (hx:ev F x=some v) (hy:ev F y=some v2)
  (hb:n+k≤1000000000) (h:∀ v' N',aN N' v' (n+k) (xs++ys)→JO c Q (.draw Hs true) r ((d,v')::F) (A++(N'++B))) :
  JO c Q (.draw Hs true) (⟨some d,.call ⟨.builtin .append,#[x,y],#[t,t]⟩,ty,g,.seq,ns⟩::r) F H :=
 Qcb hO h2 eH hH hm hd hg hx hy hb (fun v' N' h'=>h v' N' (by unfold aN;rw[Vj];exact h'))
end

section
variable {c:Cx} {Q:Exit→Act→World→Prop} {m:Mode} {F:ak} {H:aj} {r:List bT} {g:Option (Option Tmp × Bool)} {ns:Bool} {d:Tmp} {ty t:TypeId} {x y:Operand}
end

theorem Qct:∀ n:Nat,iE ((tab n fun _=>(0:Int)).map wz)=(Zb #[.bool false,.string ⟨#[]⟩] (n*2)).toList
 | 0=>by simp[tab,iE,Zb]
 | n + 1 => by
  have h1:(tab (n+1) fun _=>(0:Int))=tab n (fun _=>0)++[0]:=by simp[tab,List.range_succ]
  have h2:∀ k,(Zb #[Value.bool false,.string ⟨#[]⟩] (k*2)).toList=(List.range (k*2)).map fun i=>#[Value.bool false,Value.string ⟨#[]⟩][i % 2]!:=fun k=>by
   unfold Zb
   rw[Array.toList_map,Array.toList_range]
   rfl
  rw[h1,Vj,Q1i,Qct n,h2,h2,show (n+1)*2=n*2+1+1 by omega,List.range_succ,List.range_succ,Vj,Vj,Vb]
  congr 1
  show xc (wz 0)=[#[Value.bool false,Value.string ⟨#[]⟩][(n*2) % 2]!,#[Value.bool false,Value.string ⟨#[]⟩][(n*2+1) % 2]!]
  rw[wz_zero,show (n*2) % 2=0 by omega,show (n*2+1) % 2=1 by omega]
  rfl
theorem Q55 (b n:Nat) (hn:n≤maxLen):aN [(b,.cells (Zb #[.bool false,.string ⟨#[]⟩] (n*2)) 75)] (.slice (some ⟨b,0,none⟩) n n) n (tab n fun _=>0):=by
 have h:=aH.mk' (e:=75) (sz:=2) (n:=n) (b:=b) (cs:=Zb #[.bool false,.string ⟨#[]⟩] (n*2)) (by unfold Zb;simp) hn
 unfold aN dG
 rw[Qct]
 exact h


def iK (q:Prop) (v:Value):Prop:=∃ b:Bool,v=.bool b∧(b=true↔q)
theorem iK.t {q:Prop} (h:q):iK q (.bool true):=⟨true,rfl,by simp[h]⟩
theorem Xa {q:Prop} (h:¬q):iK q (.bool false):=⟨false,rfl,by simp[h]⟩
theorem iK.d {q:Prop} [Decidable q]:iK q (.bool (decide q)):=⟨_,rfl,by simp⟩

def iC (x:WR):Bool:=(decide (x.2=[]) && x.1) || (match x.2 with|[]=>false|a::_=>decide (a=0))

theorem Q4l {l:List UInt8} (h:l.dropWhile (· == 0)=l):∀ a r,l=a::r→a≠0:=by
 rintro a r rfl rfl
 rw[List.dropWhile]at h
 simp only[BEq.rfl]at h
 have h1:(r.dropWhile (· == 0)).length≤r.length:=(List.dropWhile_sublist _).length_le
 rw[h,List.length_cons]at h1
 omega
theorem Qi6 (n:Nat):(aS n).dropWhile (· == 0)=aS n:=by rw[Q65,Q8k]
theorem Qlt (z:Int):iC (wz z)=false:=by
 unfold iC wz
 simp only
 by_cases h:z=0
 ·subst h
  rw[show aS (0:Int).natAbs=[] from bF.2 rfl]
  rfl
 ·have h1:aS z.natAbs≠[]:=fun e=>h (by have:=bF.1 e;omega)
  rw[decide_eq_false h1]
  cases hm:aS z.natAbs with
  | nil=>exact absurd hm h1
  | cons a r =>
   have:=Q4l (Qi6 z.natAbs) a r hm
   simp[this]
theorem Qlu {x:WR} (h:iC x=false):∃ z,x=wz z:=by
 obtain⟨p,l⟩:=x
 unfold iC at h
 simp only[Bool.or_eq_false_iff]at h
 obtain⟨h1,h2⟩:=h
 cases l with
 | nil =>
  have hp:p=false:=by simpa using h1
  subst hp
  exact⟨0,wz_zero.symm⟩
 | cons a r =>
  have ha:a≠0:=by simpa using h2
  have hf:(a::r).dropWhile (· == 0)=a::r:=by
   rw[List.dropWhile]
   have:(a == 0)=false:=by simpa using ha
   rw[this]
  rw[Q65]at hf
  have hn:bV (bf (a::r))≠0:=fun e=>by
   rw[e,bF.2 rfl]at hf
   cases hf
  refine⟨bC p (bV (bf (a::r))),?_⟩
  unfold wz
  rw[Qds,YY,hf]
  simp[hn]
theorem Q7y:∀ {xs:List WR},(∀ x∈xs,iC x=false)→∃ zs:List Int,xs=zs.map wz
 | [],_=>⟨[],rfl⟩
 | x::r,h=>by
  obtain⟨z,rfl⟩:=Qlu (h x aA)
  obtain⟨zs,rfl⟩:=Q7y (xs:=r) (fun y hy=>h y (by simp[hy]))
  exact⟨z::zs,rfl⟩
theorem Qmx {a b:Int} (h:wz a=wz b):a=b:=by
 unfold wz at h
 simp only[Prod.mk.injEq,decide_eq_decide]at h
 have:=Qi5 h.2
 omega
theorem Q58:∀ {a b:List Int},a.map wz=b.map wz→a=b
 | [],[],_=>rfl
 | [],_::_,h=>by cases h
 | _::_,[],h=>by cases h
 | x::a,y::b,h=>by
  simp only[List.map_cons,List.cons.injEq]at h
  rw[Qmx h.1,Q58 h.2]

structure XM where
 R:Int
 C:Int
 E:List WR
structure ZM where
 r:Nat
 c:Nat
 e:List Int
def ZM.xm (m:ZM):XM:=⟨m.r,m.c,m.e.map wz⟩
structure gJ (m:ZM):Prop where
 r:m.r≤200
 c:m.c≤200
 len:m.e.length=m.r*m.c
def RX (a:XM):Prop:=∃ m,gJ m∧a=m.xm
def IsX (w:World) (v:Value) (a:XM):Prop:=∃ E,v=.agg #[iv a.R,iv a.C,E]∧WX w E a.E.length a.E
def jw (w:World) (v:Value) (m:ZM):Prop:=∃ E,v=.agg #[nv m.r,nv m.c,E]∧WZ w E m.e.length m.e
def gB (N:aj) (v:Value) (m:ZM):Prop:=∃ E,v=.agg #[nv m.r,nv m.c,E]∧aN N E m.e.length m.e
theorem IsX.mono {w w':World} {v:Value} {a:XM} (h:IsX w v a) (hk:Kp [] w w'):IsX w' v a:=by
 obtain⟨E,rfl,h⟩:=h
 exact⟨E,rfl,h.mono hk⟩
theorem jw.mono {w w':World} {v:Value} {m:ZM} (h:jw w v m) (hk:Kp [] w w'):jw w' v m:=by
 obtain⟨E,rfl,h⟩:=h
 exact⟨E,rfl,h.mono hk⟩
theorem jw.x {w:World} {v:Value} {m:ZM} (h:jw w v m):IsX w v m.xm:=by
 obtain⟨E,rfl,h⟩:=h
 exact⟨E,rfl,by unfold WZ at h;simpa [ZM.xm] using h⟩
theorem gB.new {N:aj} {v:Value} {m:ZM} {w w':World} (h:gB N v m) (hn:New N w w'):jw w' v m:=by
 obtain⟨E,rfl,h⟩:=h
 exact⟨E,rfl,h.new hn⟩
theorem gB.mk' {N:aj} {r c n:Nat} {E:Value} {e:List Int} (h:aN N E n e):gB N (.agg #[nv r,nv c,E]) ⟨r,c,e⟩:=⟨E,rfl,by have:=h.len;subst this;exact h⟩
def Qpa:Value:=.agg #[iv 0,iv 0,.slice none 0 0]
def Q5h (m:ZM) (w:World) (v:Value) (w':World):Prop:=∃ N,New N w w'∧gB N v m
def Qgl (m:ZM) (b:Bool) (w:World) (v:Value) (w':World):Prop:=∃ N u,v=.tuple #[u,.bool b]∧New N w w'∧gB N u m
def zM:ZM:=⟨0,0,[]⟩
theorem gB.zero:gB [] Qpa zM:=⟨_,rfl,aN.nil⟩
theorem gJ.le {m:ZM} (h:gJ m):m.e.length≤40000:=by rw[h.len];exact Vn h.r h.c
theorem gJ.rx {m:ZM} (h:gJ m):RX m.xm:=⟨m,h,rfl⟩
theorem rcZ {r c:Nat} (hr:r≤200) (hc:c≤200):r*c≤40000:=Vn hr hc

theorem Qg2 (r c:Int) (w:World):Calls Tryz.prog 95 #[.int .i64 r,.int .i64 c] w (aQ fun v w'=>Kp [] w w'∧iK (0≤r∧r≤200∧0≤c∧c≤200) v):=by
 refine Qa [] [] aA [] Tryz.func95 rfl mixed (by kernel_rfl) Tryz.ntmps95 Tryz.results95 rfl ⟨by simp,by simp⟩ aA ?_
 simp only[toS,Qe,Qx,Qo,Qr,ay,Ql,Qy,aB]
 repeat' first|apply jS|apply jO|apply jN|apply jT|refine Q1 ?_|refine Q0 ?_|refine Q1p (h:=?_)|refine Q8w (h:=?_)|refine Qp ?_|refine Qq ?_|(refine Xo (h1:=?_) (h2:=?_)<;>intro hc<;>try omega)|(refine Zs (h1:=?_) (h2:=?_)<;>intro hc<;>try omega)|refine QA ?_|apply jR
 all_goals first
  | exact Qj rfl (fun a w st=>⟨st.kp,iK.t (by split at * <;> omega)⟩)
  | exact Qj rfl (fun a w st=>⟨st.kp,Xa (by split at * <;> omega)⟩)

theorem Qm5 (w:World) (x:WR):Calls Tryz.prog 58 #[xv x] w (aQ fun v w'=>Kp [] w w'∧v=.bool (decide (x.2=[]))):=by
 refine Qa [] [] aA [] Tryz.func58 rfl mixed (by kernel_rfl) Tryz.ntmps58 Tryz.results58 rfl ⟨by simp,by simp⟩ aA ?_
 simp only[toS,Qe,Qx,Qo,Qr,ay,Ql,Qy,aB]
 repeat' first|apply jS|apply jO|apply jN|apply jT|refine Q2 ?_|refine Q0 ?_|refine Q7 ?_|refine Qea (h:=?_)|refine QM (h:=fun _=>?_)|apply jR
 exact Qj rfl (fun a w st=>⟨st.kp,rfl⟩)
theorem Qex {z:Int}:aS z.natAbs=[]↔z=0:=by rw[bF];omega
theorem Qfp (w:World) (z:Int):Calls Tryz.prog 58 #[Wv z] w (aQ fun v w'=>Kp [] w w'∧v=.bool (decide (z=0))):=by
 have h:=Qm5 w (wz z)
 have e:(decide ((wz z).2=[]):Bool)=decide (z=0):=by
  rw[decide_eq_decide];exact Qex
 rw[e]at h
 exact h

theorem Q8e (w:World) (x:WR):Calls Tryz.prog 151 #[xv x] w (aQ fun v w'=>Kp [] w w'∧v=.bool (iC x)):=by
 obtain⟨p,l⟩:=x
 cases l with
 | nil =>
  cases p
  ·refine Qa [] [] aA [] Tryz.func151 rfl mixed (by kernel_rfl) Tryz.ntmps151 Tryz.results151 rfl ⟨by simp,by simp⟩ aA ?_
   simp only[toS,Qe,Qx,Qo,Qr,ay,Ql,Qy,aB]
   repeat' first|apply jS|apply jO|apply jN|apply jT|refine Q1 ?_|refine Q2 ?_|refine Q0 ?_|refine Q7 ?_|refine Qp ?_|refine Qq ?_|refine Qe9 (h:=?_)|refine Qa6 (h:=?_)|refine QM (h:=fun _=>?_)|refine QA ?_|apply jR
   exact Qj rfl (fun a w st=>⟨st.kp,rfl⟩)
  ·refine Qa [] [] aA [] Tryz.func151 rfl mixed (by kernel_rfl) Tryz.ntmps151 Tryz.results151 rfl ⟨by simp,by simp⟩ aA ?_
   simp only[toS,Qe,Qx,Qo,Qr,ay,Ql,Qy,aB]
   repeat' first|apply jS|apply jO|apply jN|apply jT|refine Q1 ?_|refine Q2 ?_|refine Q0 ?_|refine Q7 ?_|refine Qp ?_|refine Qe9 (h:=?_)|refine QM (h:=fun _=>?_)|refine QA ?_|apply jR
   exact Qj rfl (fun a w st=>⟨st.kp,rfl⟩)
 | cons a r =>
  refine Qa [] [] aA [] Tryz.func151 rfl mixed (by kernel_rfl) Tryz.ntmps151 Tryz.results151 rfl ⟨by simp,by simp⟩ aA ?_
  simp only[toS,Qe,Qx,Qo,Qr,ay,Ql,Qy,aB]
  repeat' first|apply jS|apply jO|apply jN|apply jT|refine Q1 ?_|refine Q2 ?_|refine Q0 ?_|refine Q7 ?_|refine Qp ?_|refine Qq ?_|refine Q0c (h:=?_)|refine Qjm (h:=?_)|refine Qe4 (h:=?_)|(refine Zm (h1:=?_) (h2:=?_)<;>intro hc<;>try omega)|refine QM (h:=fun _=>?_)|refine QA ?_|apply jR
  ·exact Qj rfl (fun _ w st=>⟨st.kp,by have:a=0:=UInt8.toNat.inj (by simpa using hc);subst this;rfl⟩)
  ·exact Qj rfl (fun _ w st=>⟨st.kp,by have:a≠0:=fun e=>hc (by subst e;rfl);simp[iC,this]⟩)

theorem Q8h {f:FuncId} [TF Tryz.prog f] {fst cap:Array Value} (pred:WR→Bool) (w:World) (E:Value) (n:Nat) (xs:List WR) (hE:WX w E n xs) (hn:n<9223372036854775807)
  (hcl:∀ x w',Kp [] w w'→Calls Tryz.prog f (fst++#[xv x]++cap) w' (aQ fun v w''=>Kp [] w' w''∧v=.bool (pred x))) :
  Calls Tryz.prog 172 #[E,.func (.func f) fst cap] w (aQ fun v w'=>Kp [] w w'∧∃ i:Int,v=iv i∧(0≤i↔∃ x∈xs,pred x=true)):=by
 refine Qa [] [] aA [] Tryz.func172 rfl mixed (by kernel_rfl) Tryz.ntmps172 Tryz.results172 rfl ⟨by simp,by simp⟩ aA ?_
 simp only[toS,Qe,Qx,Qo,Qr,ay,Ql,Qy,aB]
 have hR:=WX.rd (c:=⟨Tryz.prog,19,w,[],by simp⟩) hE rfl []
 repeat' first|apply jS|apply jO|apply jN|apply jT|refine Q1 ?_|refine Q0 ?_|refine W7 (h:=?_)|apply jB
 refine Qn (ι:=Nat) ⟨fun k=>[(8,nv k),(7,nv n),(0,E),(1,.func (.func f) fst cap)],fun _=>[],fun k=>k≤n∧∀ i,i<k→pred (xs.getD i eX)=false,fun k=>n-k⟩ 0 ⟨by omega,fun i h=>by omega⟩ ⟨rfl,rfl,rfl,rfl,trivial⟩ (HSub.nil _) (fun k hk=>?_)
 obtain⟨hkn,hpr⟩:=hk
 dsimp only
 repeat' first|apply jS|apply jO|apply jN|apply jT|refine Q1 ?_|refine Q0 ?_|refine Q0w (h:=?_)|refine Qe5 (h:=?_)|(refine Qg (h1:=?_) (h2:=?_)<;>intro hc<;>try omega)|apply jU|apply jK|apply jE|apply jR|refine Q5 rfl ?_|refine Q4 rfl ?_|apply jB|apply Qc
 ·refine Qhp trivial rfl rfl rfl rfl (fun w' hk _=>hcl _ w' hk) fun w v w' _ _ _ hv=>?_
  subst hv
  cases hp:pred (xs.getD k eX)
  ·repeat' first|apply jO|apply jN|apply jT|refine Q1 ?_|refine Qd ?_|apply jK|refine Q4 rfl ?_|apply jW
   refine Q8 (k+1) ⟨by omega,fun i h=>?_⟩ aW ⟨rfl,rfl,rfl,rfl,trivial⟩ (HSub.nil _)
   rcases Nat.lt_or_ge i k with h'|h'
   ·exact hpr i h'
   ·have:i=k:=by omega
    subst this;exact hp
  ·repeat' first|apply jS|apply jO|apply jN|apply jT|refine Q1 ?_|refine Q0 ?_|apply jV|apply jR|refine Q5 rfl ?_|apply Qz
   exact Qj rfl (fun a w' st=>⟨st.kp,k,rfl,⟨fun _=>⟨_,QV (by rw[hR.len];omega),hp⟩,fun _=>by omega⟩⟩)
 ·exact Qj rfl (fun a w' st=>⟨st.kp,-1,rfl,⟨fun h=>by omega,fun⟨x,hx,hp⟩=>by
   obtain⟨i,hi,rfl⟩:=List.mem_iff_getElem.1 hx
   have:=hpr i (by rw[hR.len]at hi;omega)
   simp only[List.getD,List.getElem?_eq_getElem hi,Option.getD_some]at this
   rw[this]at hp;cases hp⟩⟩)

theorem Q4f {f:FuncId} [TF Tryz.prog f] {fst cap:Array Value} (pred:WR→Bool) (w:World) (E:Value) (n:Nat) (xs:List WR) (hE:WX w E n xs) (hn:n<9223372036854775807)
  (hcl:∀ x w',Kp [] w w'→Calls Tryz.prog f (fst++#[xv x]++cap) w' (aQ fun v w''=>Kp [] w' w''∧v=.bool (pred x))) :
  Calls Tryz.prog 150 #[E,.func (.func f) fst cap] w (aQ fun v w'=>Kp [] w w'∧iK (∃ x∈xs,pred x=true) v):=by
 refine Qa [] [] aA [] Tryz.func150 rfl mixed (by kernel_rfl) Tryz.ntmps150 Tryz.results150 rfl ⟨by simp,by simp⟩ aA ?_
 simp only[toS,Qe,Qx,Qo,Qr,ay,Ql,Qy,aB]
 repeat' first|apply jS|apply jO|apply jN|refine Q1 ?_|refine Q0 ?_|apply jT
 refine Q9 trivial rfl rfl rfl (fun w' hk _=>Q8h pred w' E n xs (hE.mono hk) hn (fun x w'' hk'=>hcl x w'' (hk.trans hk'))) fun w v w' _ _ _ hv=>?_
 obtain⟨i,rfl,hi⟩:=hv
 repeat' first|apply jN|apply jT|refine Q0 ?_|(refine Zs (h1:=?_) (h2:=?_)<;>intro hc<;>try omega)|apply jR
 all_goals refine Qj rfl (fun a w' st=>⟨st.kp,?_⟩)
 ·exact iK.t (hi.1 oq)
 ·exact Xa (fun h=>hc (hi.2 h))

def Canon (xs:List WR):Prop:=∃ zs:List Int,xs=zs.map wz
theorem Q48 {xs:List WR}:Canon xs↔¬∃ x∈xs,iC x=true:=by
 constructor
 ·rintro⟨zs,rfl⟩ ⟨x,hx,hb⟩
  obtain⟨z,_,rfl⟩:=List.mem_map.1 hx
  rw[Qlt]at hb;cases hb
 ·intro h
  exact Q7y fun x hx=>by
   cases hb:iC x with
   | false=>rfl
   | true=>exact absurd ⟨x,hx,hb⟩ h

theorem Q9c (w:World) (E:Value) (n:Nat) (xs:List WR) (hE:WX w E n xs) (hn:n<9223372036854775807) :
  Calls Tryz.prog 96 #[E] w (aQ fun v w'=>Kp [] w w'∧iK (Canon xs) v):=by
 refine Qa [] [] aA [] Tryz.func96 rfl mixed (by kernel_rfl) Tryz.ntmps96 Tryz.results96 rfl ⟨by simp,by simp⟩ aA ?_
 simp only[toS,Qe,Qx,Qo,Qr,ay,Ql,Qy,aB]
 repeat' first|apply jS|apply jO|apply jN|refine Q1 ?_|refine Q0 ?_|apply jT
 refine Q9 trivial rfl rfl rfl (fun w' hk _=>Q4f (f:=151) (fst:=#[]) (cap:=#[]) iC w' E n xs (hE.mono hk) hn (fun x w'' _=>Q8e w'' x)) fun w v w' _ _ _ hv=>?_
 obtain⟨b,rfl,hb⟩:=hv
 repeat' first|apply jN|apply jT|refine Q0 ?_|refine QG ?_|apply jR
 refine Qj rfl (fun a w' st=>⟨st.kp,_,rfl,?_⟩)
 rw[Q48, ← hb]
 cases b<;>simp

theorem Qk5 {r c:Nat} {E:List WR} (hr:r≤200) (hc:c≤200):RX ⟨r,c,E⟩↔E.length=r*c∧Canon E:=by
 constructor
 ·rintro⟨⟨r',c',e⟩,hm,he⟩
  simp only[ZM.xm,XM.mk.injEq]at he
  obtain⟨h2,h3,rfl⟩:=he
  have h2:r=r':=by omega
  have h3:c=c':=by omega
  subst h2 h3
  exact⟨by simpa using hm.len,e,rfl⟩
 ·rintro⟨hl,zs,rfl⟩
  exact⟨⟨r,c,zs⟩,⟨hr,hc,by simpa using hl⟩,rfl⟩
theorem RX.fits {a:XM} (h:RX a):0≤a.R∧a.R≤200∧0≤a.C∧a.C≤200:=by
 obtain⟨m,hm,rfl⟩:=h
 have h1:=hm.r
 have h2:=hm.c
 simp only[ZM.xm]
 omega

theorem Q24 (w:World) (v:Value) (a:XM) (ha:IsX w v a) (hl:a.E.length<9223372036854775807):Calls Tryz.prog 44 #[v] w (aQ fun v w'=>Kp [] w w'∧iK (RX a) v):=by
 obtain⟨E,rfl,hE⟩:=ha
 by_cases hf:0≤a.R∧a.R≤200∧0≤a.C∧a.C≤200
 ·obtain⟨R,C,xs⟩:=a
  obtain⟨h1,h2,h3,h4⟩:=hf
  dsimp only at *
  obtain⟨r,rfl⟩:=Int.eq_ofNat_of_zero_le h1
  obtain⟨c,rfl⟩:=Int.eq_ofNat_of_zero_le h3
  have hr:r≤200:=by omega
  have hc:c≤200:=by omega
  have hrc:=rcZ hr hc
  have hiff:=Qk5 (E:=xs) hr hc
  refine Qa [] [] aA [] Tryz.func44 rfl mixed (by kernel_rfl) Tryz.ntmps44 Tryz.results44 rfl ⟨by simp,by simp⟩ aA ?_
  simp only[toS,Qe,Qx,Qo,Qr,ay,Ql,Qy,aB]
  have hR:=WX.rd (c:=⟨Tryz.prog,24,w,[],by simp⟩) hE rfl []
  repeat' first|apply jS|apply jO|apply jN|refine Q2 ?_|refine Q0 ?_|refine Q7 ?_|refine QM (h:=fun _=>?_)|apply jT
  refine Q9 trivial rfl rfl rfl (fun w _ _=>Qg2 r c w) fun w v w' _ _ _ hv=>?_
  obtain⟨b',rfl,hb⟩:=hv
  obtain rfl:=hb.2 ⟨h1,h2,h3,h4⟩
  repeat' first|apply jN|apply jT|refine Q1 ?_|refine Q2 ?_|refine Q0 ?_|refine Q7 ?_|refine W7 (h:=?_)|refine Z1 (h:=?_)|refine Qp ?_|refine Qq ?_|(refine Zm (h1:=?_) (h2:=?_)<;>intro hc<;>try omega)|refine QA ?_|apply jR
  ·refine Q9 trivial rfl rfl rfl (fun w' hk hs=>Q9c w' E _ _ (hE.mono hk) hl) fun w v w' _ _ _ hv=>?_
   obtain⟨b',rfl,hb⟩:=hv
   repeat' first|apply jN|apply jT|refine Q0 ?_|refine Qp ?_|apply jR
   exact Qj rfl (fun a w' st=>⟨st.kp,b',rfl,hb.trans ⟨fun h=>hiff.2 ⟨by omega,h⟩,fun h=>(hiff.1 h).2⟩⟩)
  ·exact Qj rfl (fun a w' st=>⟨st.kp,Xa (fun h=>hc (by have:=(hiff.1 h).1;omega))⟩)
 ·refine Qa [] [] aA [] Tryz.func44 rfl mixed (by kernel_rfl) Tryz.ntmps44 Tryz.results44 rfl ⟨by simp,by simp⟩ aA ?_
  simp only[toS,Qe,Qx,Qo,Qr,ay,Ql,Qy,aB]
  repeat' first|apply jS|apply jO|apply jN|refine Q2 ?_|refine Q0 ?_|refine Q7 ?_|refine QM (h:=fun _=>?_)|apply jT
  refine Q9 trivial rfl rfl rfl (fun w _ _=>Qg2 a.R a.C w) fun w v w' _ _ _ hv=>?_
  obtain⟨b',rfl,hb⟩:=hv
  cases b' with
  | true=>exact absurd (hb.1 rfl) hf
  | false =>
   repeat' first|apply jN|apply jT|refine Q1 ?_|refine Q0 ?_|refine Qq ?_|refine QA ?_|apply jR
   exact Qj rfl (fun a w' st=>⟨st.kp,Xa (fun h=>hf h.fits)⟩)

def Alike (a b:XM):Prop:=RX a∧RX b∧a.R=b.R∧a.C=b.C

theorem Qme (w:World) (v u:Value) (a b:XM) (ha:IsX w v a) (hb:IsX w u b) (hl:a.E.length<1000000000) (hl':b.E.length<1000000000):Calls Tryz.prog 118 #[v,u] w (aQ fun v w'=>Kp [] w w'∧iK (Alike a b) v):=by
 obtain⟨E,rfl,hE⟩:=ha
 obtain⟨E',rfl,hE'⟩:=hb
 refine Qa [] [] aA [] Tryz.func118 rfl mixed (by kernel_rfl) Tryz.ntmps118 Tryz.results118 rfl ⟨by simp,by simp⟩ aA ?_
 simp only[toS,Qe,Qx,Qo,Qr,ay,Ql,Qy,aB]
 repeat' first|apply jS|apply jO|apply jN|refine Q0 ?_|refine Qm ?_|refine QM (h:=fun _=>?_)|apply jT
 refine Q9 trivial rfl rfl rfl (fun w hk _=>Q24 w _ a ⟨E,rfl,hE.mono hk⟩ oq) fun w v w' _ _ _ hR=>?_
 obtain⟨b',rfl,hb⟩:=hR
 cases b'
 ·repeat' first|apply jN|apply jT|refine Q1 ?_|refine Q0 ?_|refine Qq ?_|refine QA ?_|apply jR
  exact Qj rfl (fun a w' st=>⟨st.kp,Xa (fun h=>by cases hb.2 h.1)⟩)
 ·repeat' first|refine Q1 ?_|refine Qm ?_|fail
  refine Q9 trivial rfl rfl rfl (fun w hk _=>Q24 w _ b ⟨E',rfl,hE'.mono hk⟩ oq) fun w v w' _ _ _ hR=>?_
  obtain⟨b',rfl,hb'⟩:=hR
  cases b'
  ·repeat' first|apply jN|apply jT|refine Q1 ?_|refine Q0 ?_|refine Qp ?_|refine Qq ?_|refine QA ?_|apply jR
   exact Qj rfl (fun a w' st=>⟨st.kp,Xa (fun h=>by cases hb'.2 h.2.1)⟩)
  ·repeat' first|apply jN|apply jT|refine Q1 ?_|refine Q2 ?_|refine Q0 ?_|refine Q7 ?_|refine Qp ?_|refine Qq ?_|(refine Zm (h1:=?_) (h2:=?_)<;>intro hc<;>try omega)|refine QA ?_|apply jR
   all_goals first
    | exact Qj rfl (fun a w' st=>⟨st.kp,iK.t ⟨hb.1 rfl,hb'.1 rfl,by omega,by omega⟩⟩)
    | exact Qj rfl (fun a w' st=>⟨st.kp,Xa fun h=>by have h1:=h.2.2.1;have h2:=h.2.2.2;omega⟩)

set_option linter.unusedSimpArgs false
set_option linter.unusedVariables false
set_option linter.unusedSectionVars false

section

abbrev Mi:=Nat→Nat→Int

def eF:Nat→(Nat→Int)→Int
 | 0,_=>0
 | n+1,f=>eF n f+f n

theorem Zx:∀ {n:Nat} {f g:Nat→Int},(∀ i,i<n→f i=g i)→eF n f=eF n g
 | 0,_,_,_=>rfl
 | n+1,f,g,h=>by rw[eF,eF,Zx (fun i hi=>h i oq),h n oq]
theorem Q9u:∀ {n:Nat} {f:Nat→Int},(∀ i,i<n→f i=0)→eF n f=0
 | 0,_,_=>rfl
 | n+1,f,h=>by rw[eF,Q9u (fun i hi=>h i oq),h n oq];grind
theorem Q3d:∀ {n:Nat} {f g:Nat→Int},eF n (fun i=>f i+g i)=eF n f+eF n g
 | 0,_,_=>by simp only[eF];grind
 | n+1,f,g=>by simp only[eF];rw[Q3d];grind
theorem Q2o:∀ {n:Nat} {f:Nat→Int} (x:Int),eF n (fun i=>x*f i)=x*eF n f
 | 0,_,x=>by simp only[eF];grind
 | n+1,f,x=>by simp only[eF];rw[Q2o];grind
theorem Xm:∀ {n k:Nat} {f:Nat→Int},k<n→(∀ i,i<n→i≠k→f i=0)→eF n f=f k
 | 0,k,_,h,_=>by omega
 | n+1,k,f,h,h'=>by
  rw[eF]
  by_cases hk:k=n
  ·subst hk;rw[Q9u (fun i hi=>h' i oq oq)];grind
  ·rw[Xm (k:=k) oq (fun i hi hne=>h' i oq hne),h' n oq oq];grind
theorem Qdn:∀ {n k:Nat} {f:Nat→Int},k≤n→(∀ i,k≤i→i<n→f i=0)→eF n f=eF k f
 | 0, k, f, h, _ => by obtain rfl : k = 0 := by omega
                       rfl
 | n+1,k,f,h,h'=>by
  by_cases hk:k=n+1
  ·subst hk;rfl
  ·rw[eF,Qdn (k:=k) oq (fun i a b=>h' i a oq),h' n oq oq];grind
def iW (n:Nat) (A B:Mi):Mi:=fun i j=>eF n fun k=>A i k*B k j
def fO:Mi:=fun i j=>if i=j then 1 else 0
theorem Q93 {r:Nat} {A:Mi} {i j:Nat} (hj:j<r):iW r A fO i j=A i j:=by
 unfold iW fO
 rw[Xm hj (fun k _ hk=>by rw[if_neg hk];grind)]
 rw[if_pos rfl];grind
end


def sk (i a:Nat):Nat:=if a<i then a else a+1
def sg (i:Nat):Int:=if i % 2=0 then 1 else -1
def dn:Nat→Mi→Int
 | 0,_=>1
 | n+1,A=>eF (n+1) fun i=>sg i*A i 0*dn n (fun a b=>A (sk i a) (b+1))

theorem Zn:∀ {n:Nat} {A B:Mi},(∀ i,i<n→∀ j,j<n→A i j=B i j)→dn n A=dn n B
 | 0,_,_,_=>rfl
 | n+1,A,B,h=>by
  rw[dn,dn]
  refine Zx fun i hi=>?_
  rw[h i hi 0 oq,Zn (n:=n) (fun a ha b hb=>h (sk i a) (by unfold sk;split<;>omega) (b+1) oq)]

def QL (A:Mi) (r:Nat) (f:Nat→Int):Mi:=fun i j=>if i=r then f j else A i j
theorem setRow_self (A:Mi) (r:Nat) (f:Nat→Int) (j:Nat):QL A r f r j=f j:=if_pos rfl
theorem QR {A:Mi} {r i:Nat} (h:i≠r) (f:Nat→Int) (j:Nat):QL A r f i j=A i j:=if_neg h

def unsk (i r:Nat):Nat:=if r<i then r else r-1
theorem Qka {n i r:Nat} (hi:i<n+1) (hr:r<n+1) (h:r≠i):unsk i r<n:=by unfold unsk;split<;>omega
theorem Qnj {i r a:Nat} (h:r≠i):sk i a=r↔a=unsk i r:=by unfold sk unsk;split<;>split<;>omega

theorem Q3z {A:Mi} {r i:Nat} {f:Nat→Int} (h:r≠i):(fun a b=>QL A r f (sk i a) (b+1))=QL (fun a b=>A (sk i a) (b+1)) (unsk i r) (fun b=>f (b+1)):=by
 funext a b
 unfold QL
 by_cases h1:sk i a=r
 ·rw[if_pos h1,if_pos ((Qnj h).1 h1)]
 ·rw[if_neg h1,if_neg (fun e=>h1 ((Qnj h).2 e))]
theorem Xr {A:Mi} {i:Nat} {f:Nat→Int}:(fun a b=>QL A i f (sk i a) (b+1))=fun a b=>A (sk i a) (b+1):=by
 funext a b
 exact QR (by unfold sk;split<;>omega) _ _

theorem YN:∀ {n:Nat} {A:Mi} {r:Nat} {f g:Nat→Int} (t:Int),r<n→dn n (QL A r fun j=>f j+t*g j)=dn n (QL A r f)+t*dn n (QL A r g)
 | 0,_,_,_,_,_,h=>absurd h (Nat.not_lt_zero _)
 | n + 1, A, r, f, g, t, h => by
  rw[dn,dn,dn, ← Q2o, ← Q3d]
  refine Zx fun i hi=>?_
  by_cases hir:r=i
  ·subst hir
   rw[Xr,Xr,Xr,setRow_self,setRow_self,setRow_self]
   grind
  ·rw[Q3z hir,Q3z hir,Q3z hir,QR (Ne.symm hir),QR (Ne.symm hir),QR (Ne.symm hir),YN (f:=fun b=>f (b+1)) (g:=fun b=>g (b+1)) t (Qka hi h hir)]
   grind

theorem Q9v:∀ {n r:Nat} {f:Nat→Int},r+1<n→(∀ i,i<n→i≠r→i≠r+1→f i=0)→f r+f (r+1)=0→eF n f=0
 | 0,_,_,h,_,_=>by omega
 | n + 1, r, f, h, h', h2 => by
  rw[eF]
  by_cases hk:r+1=n
  ·subst hk
   rw[Xm (k:=r) oq (fun i hi hne=>h' i oq hne oq)]
   exact h2
  ·rw[Q9v (r:=r) oq (fun i hi=>h' i oq) h2,h' n oq oq oq]
   rfl
theorem Qkm (r:Nat):sg (r+1) = -sg r:=by
 unfold sg
 rcases Nat.mod_two_eq_zero_or_one r with h|h
 ·rw[if_neg oq,if_pos h]
 ·rw[if_pos oq,if_neg oq];rfl
theorem Q6n:∀ {n:Nat} {A:Mi} {r:Nat},r+1<n→(∀ j,A r j=A (r+1) j)→dn n A=0
 | 0,_,_,h,_=>by omega
 | n + 1, A, r, h, he => by
  rw[dn]
  refine Q9v h (fun i hi h1 h2=>?_) ?_
  ·have:dn n (fun a b=>A (sk i a) (b+1))=0:=by
    by_cases hir:i<r
    ·refine Q6n (r:=r-1) oq (fun j=>?_)
     show A (sk i (r-1)) (j+1)=A (sk i (r-1+1)) (j+1)
     rw[show sk i (r-1)=r by unfold sk;split<;>omega,show sk i (r-1+1)=r+1 by unfold sk;split<;>omega]
     exact he _
    ·refine Q6n (r:=r) oq (fun j=>?_)
     show A (sk i r) (j+1)=A (sk i (r+1)) (j+1)
     rw[show sk i r=r by unfold sk;split<;>omega,show sk i (r+1)=r+1 by unfold sk;split<;>omega]
     exact he _
   rw[this,Int.mul_zero]
  ·have:dn n (fun a b=>A (sk (r+1) a) (b+1))=dn n (fun a b=>A (sk r a) (b+1)):=Zn fun a _ b _=>by
    by_cases har:a=r
    ·subst har
     rw[show sk (a+1) a=a by unfold sk;split<;>omega,show sk a a=a+1 by unfold sk;split<;>omega]
     exact he _
    ·rw[show sk (r+1) a=sk r a by unfold sk;split<;>split<;>omega]
   rw[this,Qkm,he 0]
   grind

def swp (A:Mi) (r s:Nat):Mi:=fun i j=>if i=r then A s j else if i=s then A r j else A i j
theorem Zl {A:Mi} {r s:Nat} (h:r≠s) (f g:Nat→Int):QL (QL A r f) s g=QL (QL A s g) r f:=by
 funext i j
 unfold QL
 by_cases h1:i=s
 ·subst h1;rw[if_pos rfl,if_neg (Ne.symm h),if_pos rfl]
 ·rw[if_neg h1]
  by_cases h2:i=r
  ·rw[if_pos h2,if_pos h2]
  ·rw[if_neg h2,if_neg h2,if_neg h1]
theorem ZX (A:Mi) (r:Nat):QL A r (A r)=A:=by
 funext i j
 unfold QL
 by_cases h:i=r
 ·rw[if_pos h,h]
 ·rw[if_neg h]
theorem Qde {A:Mi} {r s:Nat} (h:r≠s):swp A r s=QL (QL A r (A s)) s (A r):=by
 funext i j
 unfold swp QL
 by_cases h1:i=r
 ·subst h1;rw[if_pos rfl,if_neg h,if_pos rfl]
 ·rw[if_neg h1]
  by_cases h2:i=s
  ·rw[if_pos h2,if_pos h2]
  ·rw[if_neg h2,if_neg h2,if_neg h1]
theorem Qlz {n:Nat} {A:Mi} {r:Nat} (h:r+1<n) (u v:Nat→Int):dn n (QL (QL A r v) (r+1) u) = -dn n (QL (QL A r u) (r+1) v):=by
 have hz:∀ f,dn n (QL (QL A r f) (r+1) f)=0:=fun f=>Q6n h fun j=>by
  rw[setRow_self,QR oq,setRow_self]
 have hne:r≠r+1:=by omega
 have h0:=hz (fun j=>u j+1*v j)
 rw[YN 1 h,Zl hne,Zl hne,YN 1 oq,YN 1 oq, ← Zl hne, ← Zl hne, ← Zl hne, ← Zl hne,hz u,hz v]at h0
 omega
theorem Qm0 {n:Nat} {A:Mi} {r:Nat} (h:r+1<n):dn n (swp A r (r+1)) = -dn n A:=by
 rw[Qde oq,Qlz h]
 have:QL (QL A r (A r)) (r+1) (A (r+1))=A:=by rw[ZX,ZX]
 rw[this]

theorem Q99:∀ {d n:Nat} {A:Mi} {r s:Nat},s=r+1+d→s<n→(∀ j,A r j=A s j)→dn n A=0
 | 0,n,A,r,s,h,hs,he=>by
  obtain rfl:s=r+1:=by omega
  exact Q6n hs he
 | d + 1, n, A, r, s, h, hs, he => by
  obtain⟨q,rfl⟩:∃ q,s=q+1:=⟨s-1,by omega⟩
  have h1:=Qm0 (A:=A) (r:=q) hs
  have h2:dn n (swp A q (q+1))=0:=Q99 (d:=d) (r:=r) (s:=q) oq oq (fun j=>by
   unfold swp
   rw[if_neg oq,if_neg oq,if_pos rfl]
   exact he j)
  omega
theorem XU {n:Nat} {A:Mi} {r s:Nat} (hr:r<n) (hs:s<n) (h:r≠s) (he:∀ j,A r j=A s j):dn n A=0:=by
 rcases Nat.lt_or_gt_of_ne h with h1|h1
 ·exact Q99 (d:=s-r-1) oq hs he
 ·exact Q99 (d:=r-s-1) oq hr (fun j=>(he j).symm)
theorem Q1b {n:Nat} {A:Mi} {r s:Nat} (t:Int) (hr:r<n) (hs:s<n) (h:r≠s):dn n (QL A r fun j=>A r j+t*A s j)=dn n A:=by
 rw[YN t hr,ZX,XU (A:=QL A r (A s)) hr hs h (fun j=>by rw[setRow_self,QR (Ne.symm h)]),Int.mul_zero,Int.add_zero]
theorem WA {n:Nat} {A:Mi} {r s:Nat} (hr:r<n) (hs:s<n) (h:r≠s):dn n (swp A r s) = -dn n A:=by
 have hz:∀ f,dn n (QL (QL A r f) s f)=0:=fun f=>XU hr hs h fun j=>by
  rw[setRow_self,QR h,setRow_self]
 have h0:=hz (fun j=>A r j+1*A s j)
 rw[YN 1 hs,Zl h,Zl h,YN 1 hr,YN 1 hr, ← Zl h, ← Zl h, ← Zl h, ← Zl h,hz (A r),hz (A s)]at h0
 have h1:QL (QL A r (A r)) s (A s)=A:=by rw[ZX,ZX]
 rw[h1, ← Qde h]at h0
 omega
theorem Q21:∀ {m n:Nat} {A:Mi} {r:Nat} {t:Nat→Int} {g:Nat→Nat→Int},r<n→dn n (QL A r fun j=>eF m fun k=>t k*g k j)=eF m fun k=>t k*dn n (QL A r (g k))
 | 0,n,A,r,t,g,h=>by
  have h1:=YN (A:=A) (f:=fun _=>0) (g:=fun _=>0) 1 h
  have h2:(fun j:Nat=>(0:Int)+1*0)=fun _=>0:=by funext j;rfl
  rw[h2]at h1
  show dn n (QL A r fun _=>0)=0
  omega
 | m+1,n,A,r,t,g,h=>by
  have h1:=YN (A:=A) (f:=fun j=>eF m fun k=>t k*g k j) (g:=g m) (t m) h
  rw[Q21 h]at h1
  exact h1
def prd:Nat→(Nat→Int)→Int
 | 0,_=>1
 | n+1,f=>f 0*prd n fun i=>f (i+1)
theorem Q6m:∀ {n:Nat} {A:Mi},(∀ i j,j<i→i<n→A i j=0)→dn n A=prd n fun i=>A i i
 | 0,_,_=>rfl
 | n + 1, A, h => by
  rw[dn,prd,Xm (k:=0) oq (fun i hi hne=>by rw[h i 0 oq hi];grind)]
  have e:(fun a b=>A (sk 0 a) (b+1))=fun a b=>A (a+1) (b+1):=by
   funext a b
   rw[show sk 0 a=a+1 by unfold sk;rfl]
  rw[e,Q6m (A:=fun a b=>A (a+1) (b+1)) (fun i j hij hi=>h (i+1) (j+1) oq oq)]
  show sg 0*_*_=_
  rw[show sg 0=1 from rfl,Int.one_mul]


inductive Red (n:Nat):Mi→Mi→Prop
 | refl (A):Red n A A
 | add {A B} (r s:Nat) (t:Int):r<n→s<n→r≠s→Red n (QL A r fun j=>A r j+t*A s j) B→Red n A B
 | swap {A B} (r s:Nat):r<n→s<n→r≠s→Red n (swp A r s) B→Red n A B
theorem Red.trans {n:Nat} {A B C:Mi} (h:Red n A B) (h':Red n B C):Red n A C:=by
 induction h with
 | refl=>exact h'
 | add r s t hr hs hn _ ih=>exact .add r s t hr hs hn (ih h')
 | swap r s hr hs hn _ ih=>exact .swap r s hr hs hn (ih h')

theorem clear1 {n k i:Nat} (hk:k<n) (hi:i<n) (hki:k≠i):∀ (m:Nat) (A:Mi),(A i k).natAbs≤m →
  ∃ B,Red n A B∧B i k=0∧(∀ a,a≠k→a≠i→∀ j,B a j=A a j)∧(∀ j,A k j=0→A i j=0→B k j=0∧B i j=0)
 | 0,A,h=>⟨A,.refl A,by omega,fun _ _ _ _=>rfl,fun _ h1 h2=>⟨h1,h2⟩⟩
 | m + 1, A, h => by
  by_cases h0:A i k=0
  ·exact⟨A,.refl A,h0,fun _ _ _ _=>rfl,fun _ h1 h2=>⟨h1,h2⟩⟩
  ·let A1:=QL A k fun j=>A k j+(-(A k k / A i k))*A i j
   let A2:=swp A1 k i
   have e1:∀ j,A1 k j=A k j+(-(A k k / A i k))*A i j:=fun j=>setRow_self _ _ _ _
   have e2:∀ a,a≠k→∀ j,A1 a j=A a j:=fun a ha j=>QR ha _ _
   have f1:∀ j,A2 i j=A1 k j:=fun j=>by
    show swp A1 k i i j=_
    unfold swp
    rw[if_neg (Ne.symm hki),if_pos rfl]
   have f2:∀ j,A2 k j=A i j:=fun j=>by
    show swp A1 k i k j=_
    unfold swp
    rw[if_pos rfl,e2 i (Ne.symm hki)]
   have f3:∀ a,a≠k→a≠i→∀ j,A2 a j=A a j:=fun a h1 h2 j=>by
    show swp A1 k i a j=_
    unfold swp
    rw[if_neg h1,if_neg h2,e2 a h1]
   have hm:A2 i k=A k k % A i k:=by
    rw[f1,e1]
    have:=Int.mul_ediv_add_emod (A k k) (A i k)
    have h3 : -(A k k / A i k)*A i k = -(A i k*(A k k / A i k)):=by rw[Int.neg_mul,Int.mul_comm]
    omega
   have hlt:(A2 i k).natAbs≤m:=by
    have h1:=Int.emod_nonneg (A k k) h0
    have h2:=Int.emod_lt (A k k) h0
    rw[hm]
    omega
   obtain⟨B,b1,b2,b3,b4⟩:=clear1 hk hi hki m A2 hlt
   refine⟨B,.add k i _ hk hi hki (.swap k i hk hi hki b1),b2,fun a h1 h2 j=>(b3 a h1 h2 j).trans (f3 a h1 h2 j),fun j h1 h2=>b4 j ?_ ?_⟩
   ·rw[f2,h2]
   ·rw[f1,e1,h1,h2];simp
theorem Qjx {n k:Nat} (hk:k<n):∀ (d:Nat) (A:Mi),k+1+d≤n→(∀ i j,j<k→k≤i→i<n→A i j=0) →
  ∃ B,Red n A B∧(∀ i,k<i→i<k+1+d→B i k=0)∧(∀ a,a<k→∀ j,B a j=A a j)∧(∀ i j,j<k→k≤i→i<n→B i j=0)
 | 0,A,_,h=>⟨A,.refl A,fun i h1 h2=>by omega,fun _ _ _=>rfl,h⟩
 | d + 1, A, hd, h => by
  obtain⟨B,b1,b2,b3,b4⟩:=Qjx hk d A oq h
  obtain⟨C,c1,c2,c3,c4⟩:=clear1 hk (show k+1+d<n by omega) (show k≠k+1+d by omega) _ B (V7 _)
  refine⟨C,b1.trans c1,fun i h1 h2=>?_,fun a ha j=>?_,fun i j hj hki hin=>?_⟩
  ·by_cases hi:i=k+1+d
   ·subst hi;exact c2
   ·rw[c3 i oq hi];exact b2 i h1 oq
  ·rw[c3 a oq oq,b3 a ha]
  ·have h5:=c4 j (b4 k j hj (V7 _) hk) (b4 (k+1+d) j hj oq oq)
   by_cases h6:i=k
   ·rw[h6];exact h5.1
   ·by_cases h7:i=k+1+d
    ·rw[h7];exact h5.2
    ·rw[c3 i h6 h7];exact b4 i j hj hki hin
theorem Q1x (n:Nat):∀ (k:Nat) (A:Mi),k≤n→∃ T,Red n A T∧∀ j,j<k→∀ i,j<i→i<n→T i j=0
 | 0,A,_=>⟨A,.refl A,fun j h=>absurd h (Nat.not_lt_zero _)⟩
 | k + 1, A, h => by
  obtain⟨T,t1,t2⟩:=Q1x n k A oq
  obtain⟨B,b1,b2,b3,b4⟩:=Qjx (show k<n by omega) (n-(k+1)) T oq (fun i j hj hki hin=>t2 j hj i oq hin)
  refine⟨B,t1.trans b1,fun j hj i hji hin=>?_⟩
  by_cases hjk:j=k
  ·subst hjk;exact b2 i hji oq
  ·by_cases hik:k≤i
   ·exact b4 i j oq hik hin
   ·rw[b3 i oq];exact t2 j oq i hji hin


theorem Q62:∀ {n:Nat} {f:Nat→Int},prd (n+1) f=prd n f*f n
 | 0,f=>by show f 0*1=1*f 0;grind
 | n+1,f=>by
  rw[prd,Q62 (n:=n),prd]
  grind
theorem Qlh {n:Nat} {A B:Mi} {r s:Nat} {t:Int}:iW n (QL A r fun j=>A r j+t*A s j) B=QL (iW n A B) r fun j=>iW n A B r j+t*iW n A B s j:=by
 funext i j
 by_cases h:i=r
 ·subst h
  rw[setRow_self]
  unfold iW
  rw[← Q2o, ← Q3d]
  refine Zx fun k _=>?_
  rw[setRow_self]
  grind
 ·rw[QR h]
  unfold iW
  exact Zx fun k _=>by rw[QR h]
theorem Qnz {n:Nat} {A B:Mi} {r s:Nat}:iW n (swp A r s) B=swp (iW n A B) r s:=by
 funext i j
 unfold swp iW
 by_cases h1:i=r
 ·simp only[h1,if_true]
 ·by_cases h2:i=s
  ·subst h2
   simp only[if_neg h1,if_true]
  ·simp only[if_neg h1,if_neg h2]

theorem Qb4 {n:Nat} {T B:Mi} (hT:∀ i j,j<i→i<n→T i j=0):∀ m,m≤n→dn n (fun i j=>if i<m then eF n (fun k=>T i k*B k j) else B i j)=prd m (fun i=>T i i)*dn n B
 | 0,_=>by
  show dn n _=1*_
  rw[Int.one_mul]
  exact Zn fun i _ j _=>if_neg (Nat.not_lt_zero _)
 | m + 1, h => by
  have ih:=Qb4 (B:=B) hT m oq
  generalize hC:(fun i j=>if i<m then eF n (fun k=>T i k*B k j) else B i j:Mi)=C at ih
  have e:(fun i j=>if i<m+1 then eF n (fun k=>T i k*B k j) else B i j:Mi)=QL C m fun j=>eF n fun k=>T m k*B k j:=by
   subst hC
   funext i j
   unfold QL
   by_cases h1:i=m
   ·subst h1;rw[if_pos oq,if_pos rfl]
   ·rw[if_neg h1]
    by_cases h2:i<m
    ·show (if i<m+1 then _ else _)=if i<m then _ else _
     rw[if_pos oq,if_pos h2]
    ·show (if i<m+1 then _ else _)=if i<m then _ else _
     rw[if_neg oq,if_neg h2]
  have hrow:∀ k,m≤k→∀ j,C k j=B k j:=fun k hk j=>by subst hC;exact if_neg oq
  rw[e,Q21 oq,Xm (k:=m) oq (fun k hk hne=>?_)]
  ·have h2:QL C m (B m)=C:=by
    have:C m=B m:=funext fun j=>hrow m (V7 _) j
    rw[← this,ZX]
   rw[h2,ih,Q62]
   grind
  ·by_cases hkm:k<m
   ·rw[hT m k hkm oq,Int.zero_mul]
   ·rw[XU (A:=QL C m (B k)) (show m<n by omega) hk (Ne.symm hne) (fun j=>by rw[setRow_self,QR hne,hrow k oq]),Int.mul_zero]

theorem Qjv {n:Nat} {A B:Mi}:dn n (iW n A B)=dn n A*dn n B:=by
 obtain⟨T,hR,hT⟩:=Q1x n n A (V7 _)
 have hT':∀ i j,j<i→i<n→T i j=0:=fun i j hji hi=>hT j oq i hji hi
 have hb:dn n (iW n T B)=dn n T*dn n B:=by
  rw[Q6m hT', ← Qb4 hT' n (V7 _)]
  exact Zn fun i hi j _=>by rw[if_pos hi];rfl
 clear hT hT'
 induction hR with
 | refl=>exact hb
 | add r s t hr hs hn _ ih =>
  have:=ih hb
  rw[Qlh,Q1b t hr hs hn,Q1b t hr hs hn]at this
  exact this
 | swap r s hr hs hn _ ih =>
  have:=ih hb
  rw[Qnz,WA hr hs hn,WA hr hs hn,Int.neg_mul]at this
  omega


def tr (A:Mi):Mi:=fun i j=>A j i
theorem Qfh:∀ {n:Nat},dn n fO=1:=by
 intro n
 rw[Q6m (fun i j h _=>by unfold fO;rw[if_neg oq])]
 have:∀ m,prd m (fun i=>fO i i)=1:=fun m=>by
  induction m with
  | zero=>rfl
  | succ m ih=>rw[Q62,ih];show (1:Int)*(if m=m then 1 else 0)=1;rw[if_pos rfl];rfl
 exact this n
theorem Qfg {n:Nat} {L:Mi} (hL:∀ i j,i<j→j<n→L i j=0):∀ d m,m+d=n→dn n (fun i j=>if m≤i then L i j else fO i j)=prd d (fun i=>L (m+i) (m+i))
 | 0,m,h=>by
  rw[Zn (B:=fO) (fun i hi j _=>if_neg oq),Qfh]
  rfl
 | d + 1, m, h => by
  have ih:=Qfg hL d (m+1) oq
  generalize hC:(fun i j=>if m+1≤i then L i j else fO i j:Mi)=C at ih
  have hrow:∀ k,k<m+1→∀ j,C k j=fO k j:=fun k hk j=>by subst hC;exact if_neg oq
  have e:dn n (fun i j=>if m≤i then L i j else fO i j:Mi)=dn n (QL C m fun j=>eF n fun k=>L m k*fO k j):=Zn fun i hi j hj=>by
   subst hC
   unfold QL
   by_cases h1:i=m
   ·subst h1
    rw[if_pos (V7 _),if_pos rfl]
    exact(Q93 (A:=L) (r:=n) hj).symm
   ·rw[if_neg h1]
    by_cases h2:m≤i
    ·show _=if m+1≤i then _ else _
     rw[if_pos h2,if_pos oq]
    ·show _=if m+1≤i then _ else _
     rw[if_neg h2,if_neg oq]
  rw[e,Q21 oq,Xm (k:=m) oq (fun k hk hne=>?_)]
  ·have h2:QL C m (fO m)=C:=by
    have:C m=fO m:=funext fun j=>hrow m oq j
    rw[← this,ZX]
   rw[h2,ih,prd]
   show L m m*_=L m m*_
   congr 2
   funext i
   rw[show m+1+i=m+(i+1) by omega]
  ·by_cases hkm:m<k
   ·rw[hL m k hkm hk,Int.zero_mul]
   ·rw[XU (A:=QL C m (fO k)) (show m<n by omega) hk (Ne.symm hne) (fun j=>by rw[setRow_self,QR hne,hrow k oq]),Int.mul_zero]

theorem Qju {n:Nat} {A:Mi}:dn n (tr A)=dn n A:=by
 obtain⟨T,hR,hT⟩:=Q1x n n A (V7 _)
 have hT':∀ i j,j<i→i<n→T i j=0:=fun i j hji hi=>hT j oq i hji hi
 have hb:dn n (tr T)=dn n T:=by
  have h1:=Qfg (L:=tr T) (n:=n) (fun i j hij hj=>hT' j i hij hj) n 0 oq
  rw[Q6m hT']
  have e:(fun i j=>if 0≤i then tr T i j else fO i j:Mi)=tr T:=by
   funext i j
   exact if_pos (V8 _)
  rw[e]at h1
  rw[h1]
  have:∀ i,tr T (0+i) (0+i)=T i i:=fun i=>by rw[Vq];rfl
  simp only[this]
 clear hT hT'
 induction hR with
 | refl=>exact hb
 | @add A B r s t hr hs hn _ ih =>
  have h0:=ih hb
  rw[Q1b t hr hs hn]at h0
  rw[← h0]
  have e1:dn n (tr (QL A r fun j=>A r j+t*A s j))=dn n (iW n (tr A) (QL fO s fun j=>fO s j+t*fO r j)):=Zn fun i hi j hj=>by
   show QL A r _ j i=_
   have h2:iW n (tr A) (QL fO s fun j=>fO s j+t*fO r j) i j=iW n (tr A) fO i j+t*(tr A i s*fO r j):=by
    unfold iW
    have h3:∀ k,k<n→tr A i k*QL fO s (fun j=>fO s j+t*fO r j) k j=tr A i k*fO k j+(if k=s then t*(tr A i s*fO r j) else 0):=fun k _=>by
     by_cases hk:k=s
     ·subst hk;rw[setRow_self,if_pos rfl];grind
     ·rw[QR hk,if_neg hk,Int.add_zero]
    rw[Zx h3,Q3d,Xm (f:=fun k=>if k=s then t*(tr A i s*fO r j) else 0) hs (fun k _ hk=>if_neg hk),if_pos rfl]
   rw[h2,Q93 hj]
   by_cases hj2:j=r
   ·subst hj2
    rw[setRow_self]
    unfold tr fO
    rw[if_pos rfl];grind
   ·rw[QR hj2]
    unfold tr fO
    rw[if_neg (Ne.symm hj2)];grind
  rw[e1,Qjv,Q1b t hs hr (Ne.symm hn),Qfh,Int.mul_one]
 | @swap A B r s hr hs hn _ ih =>
  have h0:=ih hb
  rw[WA hr hs hn]at h0
  have e1:dn n (tr (swp A r s))=dn n (iW n (tr A) (swp fO r s)):=Zn fun i hi j hj=>by
   show swp A r s j i=_
   have h2:iW n (tr A) (swp fO r s) i j=iW n (tr A) fO i (if j=r then s else if j=s then r else j):=by
    unfold iW
    refine Zx fun k _=>?_
    congr 1
    unfold swp fO
    by_cases hj1:j=r<;>by_cases hj2:j=s<;>by_cases hk1:k=r<;>by_cases hk2:k=s<;>grind
   rw[h2,Q93 (by split<;>(try split)<;>omega)]
   unfold swp tr
   by_cases hj1:j=r
   ·rw[if_pos hj1,if_pos hj1]
   ·rw[if_neg hj1,if_neg hj1]
    by_cases hj2:j=s
    ·rw[if_pos hj2,if_pos hj2]
    ·rw[if_neg hj2,if_neg hj2]
  rw[e1,Qjv,WA hr hs hn,Qfh]at h0
  omega


theorem Q6l {n r:Nat} {A:Mi} {f:Nat→Int} (hr:r<n) (hf:∀ j,j<n→f j=0):dn n (QL A r f)=0:=by
 have h:=Q21 (m:=0) (A:=A) (t:=fun _=>0) (g:=fun _ _=>0) hr
 rw[Zn (B:=QL A r fun j=>eF 0 fun k=>(fun _=>(0:Int)) k*(fun _ _=>(0:Int)) k j) ?_,h]
 ·rfl
 ·intro i hi j hj
  unfold QL
  split
  ·rw[hf j hj];rfl
  ·rfl

theorem cramer {n:Nat} {A:Mi} {g:Nat→Int} (hd:dn n A≠0) (h:∀ j,j<n→eF n (fun t=>g t*A t j)=0):∀ r,r<n→g r=0:=fun r hr=>by
 have h1:=Q6l (A:=A) (f:=fun j=>eF n fun t=>g t*A t j) hr h
 rw[Q21 hr,Xm hr (fun t ht hne=>?_),ZX]at h1
 ·rcases Int.mul_eq_zero.1 h1 with h2|h2
  ·exact h2
  ·exact absurd h2 hd
 ·rw[XU hr ht (Ne.symm hne) (fun j=>by rw[setRow_self,QR hne]),Int.mul_zero]

def unit (t:Nat):Nat→Int:=fun b=>if t=b then 1 else 0

theorem Qh9 {n b:Nat} {f:Nat→Int} (hb:b<n):eF n (fun t=>f t*unit t b)=f b:=by
 rw[Xm hb (fun i _ hne=>by unfold unit;rw[if_neg hne,Int.mul_zero])]
 unfold unit
 rw[if_pos rfl,Int.mul_one]

theorem Q84 {n r:Nat} {A:Mi} {f:Nat→Int} (hr:r<n):dn n (QL A r f)=eF n fun t=>f t*dn n (QL A r (unit t)):=by
 rw[← Q21 hr]
 refine Zn fun i _ j hj=>?_
 unfold QL
 split
 ·exact(Qh9 hj).symm
 ·rfl

theorem Qb5:∀ {n:Nat} {M:Mi},(∀ j,j<n+1→M n j=unit n j)→dn (n+1) M=dn n M
 | 0,M,h=>by
  rw[dn]
  show eF 0 _+sg 0*M 0 0*1=1
  rw[h 0 oq]
  rfl
 | n+1,M,h=>by
  rw[dn,dn,eF,h 0 oq]
  have e:unit (n+1) 0=0:=if_neg oq
  rw[e,Int.mul_zero,Int.zero_mul,Int.add_zero]
  refine Zx fun i hi=>?_
  rw[Qb5 (n:=n) (fun j hj=>?_)]
  have:sk i n=n+1:=by unfold sk;rw[if_neg oq]
  rw[this,h (j+1) oq]
  unfold unit
  by_cases hj:n=j
  ·rw[if_pos hj,if_pos oq]
  ·rw[if_neg hj,if_neg oq]

def bd (k:Nat) (A:Mi) (i j:Nat):Mi:=fun a b=>A (if a<k then a else i) (if b<k then b else j)
def bm (k:Nat) (A:Mi) (i j:Nat):Int:=dn (k+1) (bd k A i j)

theorem Qov {k i j:Nat} {A:Mi} (hi:i<k):bm k A i j=0:=by
 unfold bm
 refine XU (r:=i) (s:=k) oq oq oq (fun b=>?_)
 unfold bd
 rw[if_pos hi,if_neg (Nat.lt_irrefl k)]

theorem Qmr {n k:Nat} {A:Mi} (hk:k<n) (hd:dn k A≠0) (h:∀ i,k≤i→i<n→bm k A i k=0):dn n A=0:=by
 refine Ve fun hn=>?_
 have hn':dn n (tr A)≠0:=by rw[Qju];exact hn
 have hrow:∀ i,bm k A i k=eF (k+1) (fun t=>A i t*dn (k+1) (QL (bd k A 0 k) k (unit t))):=fun i=>by
  unfold bm
  rw[← Q84 (f:=fun t=>A i t) oq]
  refine Zn fun a ha b hb=>?_
  have hbk:(if b<k then b else k)=b:=by split<;>omega
  by_cases hak:a=k
  ·subst hak
   rw[setRow_self]
   unfold bd
   rw[if_neg (Nat.lt_irrefl a),hbk]
  ·rw[QR hak]
   have hak':a<k:=by omega
   unfold bd
   rw[if_pos hak',if_pos hak']
 have hz:=cramer (g:=fun t=>if t<k+1 then dn (k+1) (QL (bd k A 0 k) k (unit t)) else 0) hn' (fun i hi=>by
  rw[Qdn (k:=k+1) oq (fun t ht _=>by rw[if_neg oq,Int.zero_mul])]
  have h1:bm k A i k=0:=by
   by_cases hik:i<k
   ·exact Qov hik
   ·exact h i oq hi
  rw[hrow]at h1
  rw[← h1]
  refine Zx fun t ht=>?_
  rw[if_pos ht]
  unfold tr
  exact Int.mul_comm _ _) k hk
 rw[if_pos oq,Qb5 (fun j _=>setRow_self _ _ _ _)]at hz
 refine hd ?_
 rw[← hz]
 refine Zn fun a ha b hb=>?_
 rw[QR oq]
 unfold bd
 rw[if_pos ha,if_pos hb]

structure Bar (n:Nat) (A:Mi) (k:Nat) (M:Mi) (last:Int):Prop where
 eqd:last=dn k A
 ne:last≠0
 eq:∀ i j,k≤i→i<n→k≤j→j<n→M i j=bm k A i j

theorem Qp7 {n k:Nat} {A M:Mi} {last:Int} (h:Bar n A k M last) (hk:k<n) (hz:∀ i,k≤i→i<n→M i k=0):dn n A=0 :=
 Qmr hk (by rw[← h.eqd];exact h.ne) fun i hi hin=>by rw[← h.eq i k hi hin (V7 _) hk];exact hz i hi hin

theorem Qp8 {n:Nat} {A M:Mi} {last:Int} (h:Bar n A n M last):last=dn n A:=h.eqd

theorem Q6z {k i i' j:Nat} {A A':Mi} (s:Int) (h1:∀ a,a<k→∀ b,A' a b=A a b) (h2:∀ b,A' i b=s*A i' b):bm k A' i j=s*bm k A i' j:=by
 unfold bm
 have h:=YN (A:=bd k A i' j) (r:=k) (f:=fun _=>0) (g:=bd k A i' j k) s (Nat.lt_succ_self k)
 rw[ZX,Q6l (Nat.lt_succ_self k) (fun _ _=>rfl),Int.zero_add]at h
 rw[← h]
 refine Zn fun a ha b hb=>?_
 by_cases hak:a=k
 ·subst hak
  rw[setRow_self,Int.zero_add]
  unfold bd
  rw[if_neg (Nat.lt_irrefl a),if_neg (Nat.lt_irrefl a),h2]
 ·rw[QR hak]
  have hak':a<k:=by omega
  unfold bd
  rw[if_pos hak',if_pos hak']
  exact h1 a hak' _

theorem Bar.swap {n k q:Nat} {A M M':Mi} {last:Int} (s:Int) (h:Bar n A k M last) (hk:k<q) (hq:q<n) (h1:∀ j,j<n→M' k j=s*M q j) (h2:∀ j,j<n→M' q j=M k j) (h3:∀ i j,i<n→j<n→i≠k→i≠q→M' i j=M i j) :
  Bar n (QL (swp A k q) k (fun j=>s*A q j)) k M' last∧dn n (QL (swp A k q) k (fun j=>s*A q j)) = -(s*dn n A):=by
 have hA:∀ a,a<k→∀ b,QL (swp A k q) k (fun j=>s*A q j) a b=A a b:=fun a ha b=>by
  rw[QR oq]
  unfold swp
  rw[if_neg oq,if_neg oq]
 refine⟨⟨?_,h.ne,fun i j hi hin hj hjn=>?_⟩,?_⟩
 ·rw[h.eqd]
  exact Zn fun a ha b _=>(hA a ha b).symm
 ·by_cases hik:i=k
  ·subst hik
   rw[h1 j hjn,h.eq q j oq hq hj hjn,Q6z (i':=q) s hA (fun b=>setRow_self _ _ _ _)]
  ·by_cases hiq:i=q
   ·subst hiq
    rw[h2 j hjn,h.eq k j (V7 _) oq hj hjn,Q6z (i':=k) 1 hA (fun b=>by
     rw[QR hik];unfold swp;rw[if_neg hik,if_pos rfl,Int.one_mul]),Int.one_mul]
   ·rw[h3 i j hin hjn hik hiq,h.eq i j hi hin hj hjn,Q6z (i':=i) 1 hA (fun b=>by
     rw[QR hik];unfold swp;rw[if_neg hik,if_neg hiq,Int.one_mul]),Int.one_mul]
 ·have h4:=YN (n:=n) (A:=swp A k q) (r:=k) (f:=fun _=>0) (g:=swp A k q k) s oq
  rw[ZX,Q6l oq (fun _ _=>rfl),Int.zero_add,WA oq hq oq]at h4
  rw[← Int.mul_neg, ← h4]
  refine Zn fun a ha b hb=>?_
  by_cases hak:a=k
  ·subst hak
   rw[setRow_self,setRow_self,Int.zero_add]
   unfold swp
   rw[if_pos rfl]
  ·rw[QR hak,QR hak]

set_option linter.unusedSimpArgs false
set_option linter.unusedVariables false
set_option linter.unusedSectionVars false

theorem Yn {r c i j:Nat} (hi:i<r) (hj:j<c):i*c+j<r*c:=by
 have h:(i+1)*c≤r*c:=V1 c hi
 rw[Vl,Nat.one_mul]at h;omega
theorem Qj2 {c i j:Nat} (hj:j<c):(i*c+j) / c=i:=by
 rw[Va,Nat.mul_add_div oq,Nat.div_eq_of_lt hj,Vp]
theorem Qj1 {c i j:Nat} (hj:j<c):(i*c+j) % c=j:=by
 rw[Va,Nat.mul_add_mod,Nat.mod_eq_of_lt hj]
theorem Q2l {r c k:Nat} (h:k<r*c):k / c<r∧k % c<c∧k=(k / c)*c+k % c:=by
 have hc:0<c:=by
  rcases Nat.eq_zero_or_pos c with h0|h0
  ·subst h0;omega
  ·exact h0
 refine⟨(Nat.div_lt_iff_lt_mul hc).2 h,Nat.mod_lt _ hc,?_⟩
 rw[Va,Nat.div_add_mod]
theorem Q9j {r c i:Nat} (hi:i<r):(i+1)*c≤r*c:=V1 c oq

def enz (c:Nat) (xs:List Int) (i j:Nat):Int:=xs.getD (i*c+j) 0
def ZM.at (m:ZM):Mi:=fun i j=>enz m.c m.e i j
def bP (r c:Nat) (g:Mi):List Int:=tab (r*c) fun k=>g (k / c) (k % c)
theorem Q5r (r c:Nat) (g:Mi):(bP r c g).length=r*c:=by simp[bP,tab]
theorem Q1y {r c i j:Nat} {g:Mi} (hi:i<r) (hj:j<c):enz c (bP r c g) i j=g i j:=by
 unfold enz bP
 rw[Q5s (Yn hi hj),Qj2 hj,Qj1 hj]
theorem Zz {r c i j:Nat} {g:Mi} (hi:i<r) (hj:j<c):(bP r c g).getD (i*c+j) 0=g i j:=Q1y hi hj
theorem Qk {r c:Nat} {g g':Mi} (h:∀ i j,i<r→j<c→g i j=g' i j):bP r c g=bP r c g':=YF fun k hk=>by
 obtain⟨h1,h2,_⟩:=Q2l hk
 exact h _ _ h1 h2
theorem Y3 {r c i j:Nat} {x:Int} {g:Mi} (hj:j<c):(bP r c g).set (i*c+j) x=bP r c (fun a b=>if a=i∧b=j then x else g a b):=by
 unfold bP
 rw[Qdb]
 refine YF fun k hk=>?_
 obtain⟨h1,h2,h3⟩:=Q2l hk
 by_cases h:k=i*c+j
 ·have:k / c=i∧k % c=j:=by subst h;exact⟨Qj2 hj,Qj1 hj⟩
  rw[if_pos h]
  exact(if_pos this).symm
 ·rw[if_neg h]
  refine(if_neg ?_).symm
  rintro⟨e1,e2⟩
  rw[e1,e2]at h3
  exact h h3
theorem Qj9 {r c:Nat} {xs:List Int} (hl:xs.length=r*c):bP r c (enz c xs)=xs:=by
 unfold bP
 rw[YF (g':=fun i=>xs.getD i 0)]
 ·exact Qn6 hl
 ·intro k hk
  obtain⟨_,_,h3⟩:=Q2l hk
  unfold enz
  rw[← h3]
theorem Q5p (r c:Nat):bP r c (fun _ _=>0)=tab (r*c) fun _=>0:=rfl

def zof (r c:Nat) (g:Mi):ZM:=⟨r,c,bP r c g⟩
theorem XZ {r c:Nat} {g:Mi} (hr:r≤200) (hc:c≤200):gJ (zof r c g):=⟨hr,hc,Q5r r c g⟩
theorem Qj3 {r c i j:Nat} {g:Mi} (hi:i<r) (hj:j<c):(zof r c g).at i j=g i j:=Q1y hi hj
theorem Qdy {c i j:Nat} {xs:List Int} (hj:j<c):((xs.drop (i*c)).take c).getD j 0=enz c xs i j:=by
 unfold enz
 simp only[List.getD,List.getElem?_take_of_lt hj,List.getElem?_drop]

def gu (K:Nat) (m:ZM):Prop:=∀ i,(m.e.getD i 0).natAbs<256 ^ K
theorem gu.mono {K K':Nat} {m:ZM} (h:gu K m) (hk:K≤K'):gu K' m:=fun i=>V6 (h i) (V4 dq hk)
theorem gu.at {K:Nat} {m:ZM} (h:gu K m) (i j:Nat):(m.at i j).natAbs<256 ^ K:=h _
theorem gu.of {K r c:Nat} {g:Mi} (h:∀ i j,i<r→j<c→(g i j).natAbs<256 ^ K):gu K (zof r c g):=fun k=>by
 rcases Nat.lt_or_ge k (r*c)with hk|hk
 ·obtain⟨h1,h2,h3⟩:=Q2l hk
  show ((bP r c g).getD k 0).natAbs<_
  rw[h3,Zz h1 h2]
  exact h _ _ h1 h2
 ·show ((bP r c g).getD k 0).natAbs<_
  simp only[List.getD,List.getElem?_eq_none (show (bP r c g).length≤k by rw[Q5r];exact hk),Option.getD_none]
  exact Nat.pow_pos dq
theorem pos256 (K:Nat):0<256 ^ K:=Nat.pow_pos dq

def addZ (m n:ZM):ZM:=zof m.r m.c fun i j=>m.at i j+n.at i j
def subZ (m n:ZM):ZM:=zof m.r m.c fun i j=>m.at i j-n.at i j
def mulZ (m n:ZM):ZM:=zof m.r n.c (iW m.c m.at n.at)
def trZ (m:ZM):ZM:=zof m.c m.r (tr m.at)
def Qpj (m:ZM) (i j r c:Nat):ZM:=zof r c fun a b=>m.at (i+a) (j+b)
def fF (n:Nat):ZM:=zof n n fO
def Qp9 (r c:Nat):ZM:=zof r c fun _ _=>0

theorem Qjf {B:Nat}:∀ {n:Nat} {f:Nat→Int},(∀ i,i<n→(f i).natAbs≤B)→(eF n f).natAbs≤n*B
 | 0,f,_=>by simp[eF]
 | n+1,f,h=>by
  rw[eF]
  have h1:=Qjf (n:=n) (f:=f) (fun i hi=>h i oq)
  have h2:=h n oq
  have h3:=Int.natAbs_add_le (eF n f) (f n)
  rw[Vl,Nat.one_mul]
  omega
theorem W9 {x y:Int} {K L:Nat} (hx:x.natAbs<256 ^ K) (hy:y.natAbs<256 ^ L):(x*y).natAbs<256 ^ (K+L):=by
 rw[Int.natAbs_mul,Nat.pow_add]
 exact Nat.mul_lt_mul'' hx hy
theorem Qow {x y:Int} {K:Nat} (hx:x.natAbs<256 ^ K) (hy:y.natAbs<256 ^ K):(x+y).natAbs<256 ^ (K+1):=by
 have h:=Int.natAbs_add_le x y
 rw[V9];omega
theorem Qnf {x y:Int} {K:Nat} (hx:x.natAbs<256 ^ K) (hy:y.natAbs<256 ^ K):(x-y).natAbs<256 ^ (K+1):=by
 rw[V9];omega
theorem Z2 {x:Int} {K L:Nat} (h:x.natAbs<256 ^ K) (hk:K≤L):x.natAbs<256 ^ L:=V6 h (V4 dq hk)
theorem gu.add {K:Nat} {m n:ZM} (h:gu K m) (h':gu K n):gu (K+1) (addZ m n):=gu.of fun i j _ _=>Qow (h.at i j) (h'.at i j)
theorem gu.sub {K:Nat} {m n:ZM} (h:gu K m) (h':gu K n):gu (K+1) (subZ m n):=gu.of fun i j _ _=>Qnf (h.at i j) (h'.at i j)
theorem Qpu {K:Nat} {m:ZM} (h:gu K m):gu K (trZ m):=gu.of fun i j _ _=>h.at j i
theorem gu.part {K:Nat} {m:ZM} (h:gu K m) (i j r c:Nat):gu K (Qpj m i j r c):=gu.of fun a b _ _=>h.at _ _
theorem gu.zero (r c:Nat):gu 0 (Qp9 r c):=gu.of fun i j _ _=>by decide

end Go.Proofs.YtbofgpenopcfaaaGreatDoor

