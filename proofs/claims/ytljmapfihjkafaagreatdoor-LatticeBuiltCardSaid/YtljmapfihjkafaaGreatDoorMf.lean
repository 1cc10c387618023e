import Derived.Test.YtljmapfihjkafaaGreatDoorMe
import Derived.Laws.StructEq
import Derived.Test.YtljmapfihjkafaaGreatDoorMd
set_option maxHeartbeats 16000000
namespace Go.Proofs.YtljmapfihjkafaaGreatDoor
open Go Go.RowKit
set_option linter.unusedSimpArgs false
set_option linter.unusedVariables false
set_option linter.unusedSectionVars false

theorem RdY.blk {c:Cx} {b cap n:Nat} {xs:List Nat} {rest:List Value} {T:TypeId} {fz:Nat × Nat} (hl:xs.length=n) (hc:n≤cap):RdY c [(b,.cells (Qo2 xs rest) T fz)] (.slice (some ⟨b,0,none⟩) n cap) n xs:=by
 refine⟨by simp[hl],_,cap,rfl,hc,fun h0=>⟨⟨b,0,rfl⟩,fun w hw j u hu=>?_⟩⟩
 rw[Ww,Vu]
 refine QP (hw.2.blk (b,_) (Vh ..)) ?_
 have e:(Qo2 xs rest)[j]?=(xs.map yv++rest)[j]?:=by simp[Qo2]
 rw[e,List.getElem?_append_left (List.getElem?_eq_some_iff.1 hu).1]
 exact hu

section
variable {c:Cx} {Q:Exit→Act→World→Prop} {m:Mode} {F:ak} {H:aj} {r:List dA} {g:Option (Option Tmp × Bool)} {ns:Bool} {d:Tmp} {ty t t':TypeId} {x y:Operand} {l:List UInt8} {i:Nat}
end

def body:List UInt8→List UInt8
 | x::l=>if x == 45 then l else x::l
 | []=>[]

theorem WY.hd {w:World} {A:Option Addr} {n k cap:Nat} {xs:List Nat} (hv:WY w (.slice A n cap) n xs) (hk:k≤n):WY w (.slice A k cap) k (xs.take k):=by
 have hl:=hv.len
 obtain⟨h1,A',cap',h2,h3,h4⟩:=hv
 simp only[Value.slice.injEq]at h2
 obtain⟨rfl,_,rfl⟩:=h2
 refine⟨by simp;omega,A,cap,rfl,by omega,fun h0=>⟨(h4 oq).1,fun j u hu=>?_⟩⟩
 obtain⟨⟨b,o,rfl⟩,h5⟩:=h4 oq
 refine h5 j u ?_
 rw[List.map_take,List.getElem?_take]at hu
 split at hu
 ·exact hu
 ·cases hu
theorem WY.cap {w:World} {A:Option Addr} {n cap:Nat} {xs:List Nat} (h:WY w (.slice A n cap) n xs):n≤cap:=by
 obtain⟨_,A',cap',h2,h3,_⟩:=h
 simp only[Value.slice.injEq]at h2
 obtain⟨_,_,rfl⟩:=h2
 exact h3

section
variable {c:Cx} {Q:Exit→Act→World→Prop} {m:Mode} {F:ak} {H:aj} {r:List dA} {g:Option (Option Tmp × Bool)} {ns:Bool} {d:Tmp} {ty t t':TypeId} {x y:Operand}
end


class TWide (P:Program) (t:TypeId):Prop where
 guard:P.eqGuardType P.depth t=false
 eql:∀ (w:World) (p q:Bool) (l m:List UInt8),(Op.equalIn 10000 t (wv p l) (wv q m)).run P w=.ok (p == q && decide (l=m)) w

instance:TWide Tryz.prog 35:=⟨Tryz.eqGuardType35,fun w p q l m=>by
 have hf:Tryz.prog.underlying 35=some (.struct (Tryz.prog.fieldsOf 35)):=by rw[Program.fieldsOf,Tryz.underlying35]
 rw[run_equalIn_agg w 9999 35 _ _ hf Tryz.stoodInHeld35]
 simp only[Program.fieldsOf,Tryz.underlying35]
 have h4:∀ (w:World) (xs:Array Value) (a b:Value),xs=#[a,b]→(part 4 xs 0).run Tryz.prog w=.ok a w:=by
  intro w xs a b e
  subst e
  simp[part,isAgg,run_underlying Tryz.underlying4,Sem.run_bind]
 have h9:∀ (w:World) (xs:Array Value) (a b:Value),xs=#[a,b]→(part 9 xs 1).run Tryz.prog w=.ok b w:=by
  intro w xs a b e
  subst e
  simp[part,isAgg,run_underlying Tryz.underlying9,Sem.run_bind]
 have g1:=h4 w #[.bool p,sv l] _ _ rfl
 have g2:=h4 w #[.bool q,sv m] _ _ rfl
 have g3:=h9 w #[.bool p,sv l] _ _ rfl
 have g4:=h9 w #[.bool q,sv m] _ _ rfl
 have g5:=run_equalIn_bool' (P:=Tryz.prog) w 9998 4 p q Tryz.underlying4
 have g6:=run_equalIn_string (P:=Tryz.prog) w 9998 9 ⟨l.toArray⟩ ⟨m.toArray⟩ Tryz.underlying9
 rw[Q14,Q14]at g6
 have hlm:(l == m)=decide (l=m):=by
  by_cases h:l=m
  ·simp[h]
  ·simp[h]
 rw[hlm]at g6
 simp only[Op.eqFields]
 rw[if_pos dq,if_pos dq]
 simp only[Sem.run_bind,g1,g2,g3,g4,g5,g6,Result.andThen_ok]
 cases hpq:(p == q)with
 | false=>simp
 | true =>
  simp only[Bool.not_true,Bool.false_eq_true,if_false,Sem.run_bind,g3,g4,g6,Result.andThen_ok,Bool.true_and]
  cases decide (l=m)<;>simp⟩

section
variable {c:Cx} {Q:Exit→Act→World→Prop} {m:Mode} {F:ak} {H:aj} {r:List dA} {g:Option (Option Tmp × Bool)} {ns:Bool} {d:Tmp} {ty t t':TypeId} {x y:Operand}
end

theorem dR.i64 {n:Int} (h1 : -9223372036854775808≤n) (h2:n<9223372036854775808):dR (Wv n) n 8:=Qi (by
 have:n.natAbs≤9223372036854775808:=by omega
 exact V5 this dq)


abbrev aO:Nat:=65536

theorem bP.hd {N:aj} {A:Option Addr} {n k cap:Nat} {xs:List Nat} (h:bP N (.slice A n cap) n xs) (hk:k≤n):bP N (.slice A k cap) k (xs.take k):=by
 have hl:=h.len
 obtain⟨h1,⟨h2,h3,h4⟩|⟨b,cap',cur,h2,h3,h4,h5,h6,h7⟩⟩:=h
 ·subst h4
  subst h3
  obtain rfl:k=0:=by omega
  have h0:xs=[]:=List.eq_nil_of_length_eq_zero hl
  subst h0
  rw[h2]
  exact bP.nil
 ·simp only[Value.slice.injEq,true_and]at h2
  obtain⟨rfl,rfl⟩:=h2
  refine⟨by simp;omega,.inr ⟨b,cap,cur,rfl,h3,by omega,h5,h6,?_⟩⟩
  rw[Nat.mul_one]at h7 ⊢
  rw[List.map_take, ← h7,List.take_take,Nat.min_eq_left hk]

def NewR (w w':World) (v:Value) (z m:Nat):Prop:=∃ N zs,New N w w'∧bP N v zs.length zs∧(∀ x∈zs,x<aO)∧val aO zs=z∧zs.length≤m
def NewD (w w':World) (v:Value) (z:Nat):Prop:=∃ N zs,New N w w'∧bP N v zs.length zs∧dG aO zs∧val aO zs=z

theorem Yh (b:Nat) (l:List Nat) (x:Nat):val b (l++[x])=val b l+b ^ l.length*x:=by
 rw[Xa,val,val,Nat.mul_zero,Vt]
theorem Y1 {b:Nat} {l:List Nat} {x:Nat} (h:∀ y∈l,y<b) (hx:x<b):∀ y∈l++[x],y<b:=fun y hy=>by
 rcases List.mem_append.1 hy with h1|h1
 ·exact h y h1
 ·rw[List.mem_singleton.1 h1];exact hx
theorem Q2m (l:List Nat) (m:Nat) (h0:0<m) (h:m≤l.length):bW (l.take m)=l.getD (m-1) 0+256*bW (l.take (m-1)):=by
 have:=Qa2 l (m-1) oq
 rwa [show m-1+1=m by omega]at this
theorem Qhy {P a b x V:Nat}:V+P*(a+256*b)+P*65536*x=V+P*(a+256*(b+256*x)):=by
 rw[Vn,Nat.add_assoc, ← Vp]
 congr 2
 omega

theorem X7 (w:World) (p:Bool) (l:List UInt8) (hl:l.length≤31000000000000) :
  Calls Tryz.prog 69 #[wv p l] w (aP fun v w'=>Kp [] w w'∧NewD w w' v (bW (dQ l))):=by
 have hbl:=Q8e l
 refine Q9 [] [] au [] Tryz.func69 rfl mixed (by kernel_rfl) Tryz.ntmps69 Tryz.results69 rfl ⟨by simp,by simp⟩ au ?_
 simp only[toS,Qd,Qt,Qk,Ql,ay,Qg,QA,aC]
 repeat' first|apply jS|apply jO|apply jN|apply jT|refine Q1 ?_|refine Q3 ?_|refine Q0 ?_|refine Qb ?_|refine Q2t (h:=?_)|refine QB fun _=>?_|apply jB
 rename_i b1
 refine Qp (ι:=Int × Value × aj × List Nat) ⟨fun z=>[(5,iv z.1),(3,z.2.1),(1,.pointer (some ⟨b1,0,none⟩))],fun z=>(b1,.cells #[.bool p,sv l] 35)::(z.2.2.1++[]),
  fun z=>z.1=l.length-2*z.2.2.2.length ∧ -2≤z.1∧bP z.2.2.1 z.2.1 z.2.2.2.length z.2.2.2∧(∀ x∈z.2.2.2,x<aO)∧val aO z.2.2.2+aO ^ z.2.2.2.length*bW ((dQ l).take z.1.toNat)=bW (dQ l),fun z=>(z.1+2).toNat⟩
  ((l.length : Int), _, [], []) ⟨by simp, by simp, bP.nil, fun _ h => absurd h List.not_mem_nil, by
   dsimp only
   rw[Int.toNat_natCast,Vf oq]
   simp[val]⟩ aF (by exact HSub.at 0 rfl (HSub.nil _)) (fun z hz=>?_)
 obtain⟨i,v,N,zs⟩:=z
 obtain⟨hi,hi2,hO,hz,hval⟩:=hz
 dsimp only at hi hi2 hO hz hval ⊢
 by_cases hin:0<i
 ·obtain⟨m,rfl⟩:∃ m:Nat,i=m:=⟨i.toNat,by omega⟩
  rw[Int.toNat_natCast]at hval
  have hm0:0<m:=by omega
  have hml:m≤l.length:=by omega
  have hd1:(dQ l).getD (m-1) 0<256:=Qj6
  have hd2:(dQ l).getD (m-2) 0<256:=Qj6
  by_cases hm1:1<m
  ·repeat' first|apply jS|apply jO|apply jN|apply jT|refine Q1 ?_|refine Q3 ?_|refine Q0 ?_|refine Qb ?_|refine ZK (i:=256) (h:=?_)|refine Zf (h:=?_)|refine YS (h:=?_)|refine Q8x (h:=?_)|refine Qgp (h:=?_)|refine Qc9 (h:=?_)|(refine Zg (h1:=?_) (h2:=?_)<;>intro hc<;>try omega)|refine QG (h:=fun _=>?_)|apply jK|refine Q8 rfl ?_|apply jB
   rename_i b2
   refine ZD (A:=[_,_]) hO (Yn b2 1 [(dQ l).getD (m-1) 0+256*(dQ l).getD (m-2) 0] _ rfl rfl dq).rd Q6 rfl trivial rfl rfl rfl rfl oq (fun v' N' aU=>?_)
   repeat' first|apply jO|apply jN|apply jT|refine Q1 ?_|refine Q0 ?_|refine Q8x (h:=?_)|apply jW
   refine Qa (((m-2:Nat):Int),v',N',zs++[(dQ l).getD (m-1) 0+256*(dQ l).getD (m-2) 0]) ⟨by simp only[Vk,Vs];omega,by dsimp only;omega,by rw[Vk];exact aU,Y1 hz (by show _<65536;omega),?_⟩ aY aF QK
   dsimp only
   rw[Yh,Vk,Vs,Int.toNat_natCast, ← hval,Q2m _ m hm0 oq,Q2m _ (m-1) oq oq,show m-1-1=m-2 by omega,Va]
   exact Qhy
  ·repeat' first|apply jS|apply jO|apply jN|apply jT|refine Q1 ?_|refine Q3 ?_|refine Q0 ?_|refine Qb ?_|refine YS (h:=?_)|refine Qgp (h:=?_)|refine Qc9 (h:=?_)|(refine Zg (h1:=?_) (h2:=?_)<;>intro hc<;>try omega)|refine QG (h:=fun _=>?_)|apply jK|refine Q8 rfl ?_|refine Q4 rfl ?_|apply jB
   rename_i b2
   refine ZD (A:=[_,_]) hO (Yn b2 1 [(dQ l).getD (m-1) 0] _ rfl rfl dq).rd Q6 rfl trivial rfl rfl rfl rfl oq (fun v' N' aU=>?_)
   repeat' first|apply jO|apply jN|apply jT|refine Q1 ?_|refine Q0 ?_|refine Xp (h:=?_)|apply jW
   refine Qa ((m:Int)-2,v',N',zs++[(dQ l).getD (m-1) 0]) ⟨by simp only[Vk,Vs];omega,by dsimp only;omega,by rw[Vk];exact aU,Y1 hz (by show _<65536;omega),?_⟩ aY aF QK
   dsimp only
   obtain rfl:m=1:=by omega
   rw[Yh,Vk,Vs,show ((1:Nat):Int)-2 = -1 from rfl,show (-1:Int).toNat=0 from rfl,List.take_zero,Q01,Nat.mul_zero,Vt, ← hval,Q2m _ 1 dq oq,Nat.sub_self,List.take_zero,Q01,Nat.mul_zero,Vt]
 ·repeat' first|apply jS|apply jO|apply jN|apply jT|refine Q1 ?_|(refine Zg (h1:=?_) (h2:=?_)<;>intro hc<;>try omega)|apply jU|apply jE|refine Q4 rfl ?_|apply Qe
  obtain⟨A,cap,rfl⟩:=hO.form
  refine Q5 trivial rfl rfl rfl (fun w hk hs=>Q6p w _ _ _ _ (hO.rd.at hk hs Q6) oq) fun w v w' _ _ _ hR=>?_
  obtain⟨q,hq,rfl,hnq⟩:=hR
  repeat' first|apply jN|apply jT|refine Q0 ?_|apply jR
  have hown:=hO.hd hq
  rw[← hnq]at hown
  have iR:(nrm zs).length=q:=hown.len
  refine Qn rfl (fun a w' st=>⟨st.kp,N,nrm zs,st.aS rfl Q6,by rw[iR];exact hown,dG.of hz,?_⟩)
  rw[show i.toNat=0 by omega,List.take_zero,Q01,Nat.mul_zero,Vt]at hval
  rw[Zx,hval]


theorem Q7s {l:List Nat} {i:Nat} (h:¬i<l.length):l.getD i 0=0:=by rw[List.getD,List.getElem?_eq_none oq];rfl

theorem Qmt (w:World) (v u:Value) (n k:Nat) (xs ys:List Nat) (hv:WN w v n xs) (hu:WN w u k ys) (hx:∀ x∈xs,x<aO) (hy:∀ x∈ys,x<aO) (hn:n≤16000000000000) (hk:k≤16000000000000) :
  Calls Tryz.prog 100 #[v,u] w (aP fun v w'=>Kp [] w w'∧NewR w w' v (val aO xs+val aO ys) (max n k+1)):=by
 have hlx:=hv.len
 have hly:=hu.len
 obtain⟨M,hM1,hM2,hM3⟩:∃ M,n≤M∧k≤M∧(M=n∨M=k):=⟨max n k,by omega,by omega,by omega⟩
 refine Q9 [] [] au [] Tryz.func100 rfl mixed (by kernel_rfl) Tryz.ntmps100 Tryz.results100 rfl ⟨by simp,by simp⟩ au ?_
 simp only[toS,Qd,Qt,Qk,Ql,ay,Qg,QA,aC]
 repeat' first|apply jS|apply jO|apply jN|apply jT|refine Q0 ?_|apply jB
 refine Qp (ι:=Nat × Nat × Value × aj × List Nat) ⟨fun z=>[(7,nv z.1),(6,nv z.2.1),(5,z.2.2.1),(0,v),(1,u)],fun z=>z.2.2.2.1++[],
  fun z=>z.2.2.2.2.length=z.1∧(z.1≤M∨z.1=M+1∧z.2.1=0)∧z.2.1≤1∧bP z.2.2.2.1 z.2.2.1 z.1 z.2.2.2.2∧(∀ x∈z.2.2.2.2,x<aO)∧val aO z.2.2.2.2+aO ^ z.1*z.2.1=val aO (xs.take z.1)+val aO (ys.take z.1),fun z=>M+2-z.1⟩
  (0,0,_,[],[]) ⟨rfl,.inl (V9 _),V9 _,bP.nil,fun _ h=>absurd h List.not_mem_nil,by simp[val]⟩ aF (by exact HSub.nil _) (fun z hz=>?_)
 obtain⟨i,c,vo,N,zs⟩:=z
 obtain⟨hlz,hi,hc1,hO,hz,hval⟩:=hz
 dsimp only at hlz hi hc1 hO hz hval ⊢
 have hxi:xs.getD i 0<65536:=QF (b:=aO) dq hx i
 have hyi:ys.getD i 0<65536:=QF (b:=aO) dq hy i
 by_cases hin:i<n
 ·by_cases hik:i<k
  ·repeat' first|apply jS|apply jO|apply jN|apply jT|refine Q1 ?_|refine Q0 ?_|refine Y9 (h:=?_)|refine Wd (h:=?_)|refine Zs (h:=?_)|refine Q0e (j:=65536) (h:=?_)|refine Zf (h:=?_)|refine QD (h:=?_)|(refine Qs (h1:=?_) (h2:=?_)<;>intro hc<;>try omega)|refine QG (h:=fun _=>?_)|apply jK|refine Q8 rfl ?_|refine QU (h:=?_)|apply jB
   rename_i b2
   refine ZD (A:=[_]) hO (Yn b2 1 [(c+xs.getD i 0+ys.getD i 0) % 65536] _ rfl rfl dq).rd Q6 rfl trivial rfl rfl rfl rfl oq (fun v' N' aU=>?_)
   repeat' first|apply jO|apply jN|apply jT|refine Q1 ?_|refine Q0 ?_|refine Ws (j:=65536) (h:=?_)|refine Qj ?_|apply jW
   refine Qa (i+1,(c+xs.getD i 0+ys.getD i 0) / 65536,v',N',zs++[(c+xs.getD i 0+ys.getD i 0) % 65536]) ⟨by simp only[Vk,Vs];omega,by dsimp only;omega,by dsimp only;omega,aU,Y1 hz (Nat.mod_lt _ dq),?_⟩ aY aF QK
   dsimp only
   rw[Yh,hlz,QL,QL,Va]
   have h:=YU (b:=aO) (P:=aO ^ i) (c:=c) (s:=c+xs.getD i 0+ys.getD i 0) (x:=xs.getD i 0) (y:=ys.getD i 0) oq hval
   rw[Nat.add_add_add_comm, ← Nat.add_assoc]
   exact h
  ·have hy0:ys.getD i 0=0:=Q7s oq
   repeat' first|apply jS|apply jO|apply jN|apply jT|refine Q1 ?_|refine Q0 ?_|refine Y9 (h:=?_)|refine Wd (h:=?_)|refine Zs (h:=?_)|refine Q0e (j:=65536) (h:=?_)|refine Zf (h:=?_)|refine QD (h:=?_)|(refine Qs (h1:=?_) (h2:=?_)<;>intro hc<;>try omega)|refine QG (h:=fun _=>?_)|apply jK|refine Q8 rfl ?_|refine Q4 rfl ?_|refine QU (h:=?_)|apply jB
   rename_i b2
   refine ZD (A:=[_]) hO (Yn b2 1 [(c+xs.getD i 0) % 65536] _ rfl rfl dq).rd Q6 rfl trivial rfl rfl rfl rfl oq (fun v' N' aU=>?_)
   repeat' first|apply jO|apply jN|apply jT|refine Q1 ?_|refine Q0 ?_|refine Ws (j:=65536) (h:=?_)|refine Qj ?_|apply jW
   refine Qa (i+1,(c+xs.getD i 0) / 65536,v',N',zs++[(c+xs.getD i 0) % 65536]) ⟨by simp only[Vk,Vs];omega,by dsimp only;omega,by dsimp only;omega,aU,Y1 hz (Nat.mod_lt _ dq),?_⟩ aY aF QK
   dsimp only
   rw[Yh,hlz,QL,QL,Va]
   have h:=YU (b:=aO) (P:=aO ^ i) (c:=c) (s:=c+xs.getD i 0) (x:=xs.getD i 0) (y:=ys.getD i 0) oq hval
   rw[Nat.add_add_add_comm, ← Nat.add_assoc]
   exact h
 ·have hx0:xs.getD i 0=0:=Q7s oq
  by_cases hik:i<k
  ·repeat' first|apply jS|apply jO|apply jN|apply jT|refine Q1 ?_|refine Q0 ?_|refine Y9 (h:=?_)|refine Wd (h:=?_)|refine Zs (h:=?_)|refine Q0e (j:=65536) (h:=?_)|refine Zf (h:=?_)|refine QD (h:=?_)|refine QC (h:=?_)|(refine Qs (h1:=?_) (h2:=?_)<;>intro hc<;>try omega)|refine QG (h:=fun _=>?_)|apply jK|refine Q8 rfl ?_|refine Q4 rfl ?_|refine QU (h:=?_)|apply jB
   rename_i b2
   refine ZD (A:=[_]) hO (Yn b2 1 [(c+ys.getD i 0) % 65536] _ rfl rfl dq).rd Q6 rfl trivial rfl rfl rfl rfl oq (fun v' N' aU=>?_)
   repeat' first|apply jO|apply jN|apply jT|refine Q1 ?_|refine Q0 ?_|refine Ws (j:=65536) (h:=?_)|refine Qj ?_|apply jW
   refine Qa (i+1,(c+ys.getD i 0) / 65536,v',N',zs++[(c+ys.getD i 0) % 65536]) ⟨by simp only[Vk,Vs];omega,by dsimp only;omega,by dsimp only;omega,aU,Y1 hz (Nat.mod_lt _ dq),?_⟩ aY aF QK
   dsimp only
   rw[Yh,hlz,QL,QL,Va]
   have h:=YU (b:=aO) (P:=aO ^ i) (c:=c) (s:=c+ys.getD i 0) (x:=xs.getD i 0) (y:=ys.getD i 0) oq hval
   rw[Nat.add_add_add_comm, ← Nat.add_assoc]
   exact h
  ·have hy0:ys.getD i 0=0:=Q7s oq
   by_cases hc0:0<c
   ·repeat' first|apply jS|apply jO|apply jN|apply jT|refine Q1 ?_|refine Q0 ?_|refine Zs (h:=?_)|refine Q0e (j:=65536) (h:=?_)|refine QC (h:=?_)|(refine Qs (h1:=?_) (h2:=?_)<;>intro hc<;>try omega)|(refine Zg (h1:=?_) (h2:=?_)<;>intro hc<;>try omega)|refine QG (h:=fun _=>?_)|apply jK|refine Q8 rfl ?_|refine Q4 rfl ?_|apply jB
    rename_i b2
    refine ZD (A:=[_]) hO (Yn b2 1 [(c) % 65536] _ rfl rfl dq).rd Q6 rfl trivial rfl rfl rfl rfl oq (fun v' N' aU=>?_)
    repeat' first|apply jO|apply jN|apply jT|refine Q1 ?_|refine Q0 ?_|refine Ws (j:=65536) (h:=?_)|refine Qj ?_|apply jW
    refine Qa (i+1,(c) / 65536,v',N',zs++[(c) % 65536]) ⟨by simp only[Vk,Vs];omega,by dsimp only;omega,by dsimp only;omega,aU,Y1 hz (Nat.mod_lt _ dq),?_⟩ aY aF QK
    dsimp only
    rw[Yh,hlz,QL,QL,Va]
    have h:=YU (b:=aO) (P:=aO ^ i) (c:=c) (s:=c) (x:=xs.getD i 0) (y:=ys.getD i 0) oq hval
    rw[Nat.add_add_add_comm, ← Nat.add_assoc]
    exact h
   ·repeat' first|apply jS|apply jO|apply jN|apply jT|refine Q1 ?_|refine Q0 ?_|refine Zs (h:=?_)|refine QC (h:=?_)|(refine Qs (h1:=?_) (h2:=?_)<;>intro hc<;>try omega)|(refine Zg (h1:=?_) (h2:=?_)<;>intro hc<;>try omega)|apply jU|apply jE|apply jR|refine Q4 rfl ?_|apply Qe
    obtain rfl:c=0:=by omega
    rw[Nat.mul_zero,Vt,Vf oq,Vf oq]at hval
    exact Qn rfl (fun a w' st=>⟨st.kp,N,zs,st.aS rfl Q6,by rw[hlz];exact hO,hz,hval,by omega⟩)


theorem WJ {b P c x y d c' v a a':Nat} (hs:d+(c+y)=x+b*c') (h:v+a=a'+P*c):v+P*d+(a+P*y)=(a'+P*x)+P*b*c':=by
 have e:P*d+(P*c+P*y)=P*x+P*b*c':=by rw[← Vp, ← Vp,hs,Vp,Vn]
 omega

theorem Q5f (w:World) (v u:Value) (n k:Nat) (xs ys:List Nat) (hv:WN w v n xs) (hu:WN w u k ys) (hx:∀ x∈xs,x<aO) (hy:∀ x∈ys,x<aO) (hn:n≤16000000000000) (hkn:k≤n) (hle:val aO ys≤val aO xs) :
  Calls Tryz.prog 102 #[v,u] w (aP fun v w'=>Kp [] w w'∧NewD w w' v (val aO xs-val aO ys)):=by
 have hlx:=hv.len
 have hly:=hu.len
 refine Q9 [] [] au [] Tryz.func102 rfl mixed (by kernel_rfl) Tryz.ntmps102 Tryz.results102 rfl ⟨by simp,by simp⟩ au ?_
 simp only[toS,Qd,Qt,Qk,Ql,ay,Qg,QA,aC]
 repeat' first|apply jS|apply jO|apply jN|apply jT|refine Q0 ?_|apply jB
 refine Qp (ι:=Nat × Nat × Value × aj × List Nat) ⟨fun z=>[(7,nv z.1),(6,nv z.2.1),(5,z.2.2.1),(0,v),(1,u)],fun z=>z.2.2.2.1++[],
  fun z=>z.2.2.2.2.length=z.1∧z.1≤n∧z.2.1≤1∧bP z.2.2.2.1 z.2.2.1 z.1 z.2.2.2.2∧(∀ x∈z.2.2.2.2,x<aO)∧val aO z.2.2.2.2+val aO (ys.take z.1)=val aO (xs.take z.1)+aO ^ z.1*z.2.1,fun z=>n-z.1⟩
  (0,0,_,[],[]) ⟨rfl,V9 _,V9 _,bP.nil,fun _ h=>absurd h List.not_mem_nil,by simp[val]⟩ aF (by exact HSub.nil _) (fun z hz=>?_)
 obtain⟨i,c,vo,N,zs⟩:=z
 obtain⟨hlz,hi,hc1,hO,hz,hval⟩:=hz
 dsimp only at hlz hi hc1 hO hz hval ⊢
 have hxi:xs.getD i 0<65536:=QF (b:=aO) dq hx i
 have hyi:ys.getD i 0<65536:=QF (b:=aO) dq hy i
 by_cases hin:i<n
 ·by_cases hik:i<k
  ·by_cases hd:xs.getD i 0<c+ys.getD i 0
   ·have hD:∃ q:Nat,q=xs.getD i 0+65536-(c+ys.getD i 0)∧q<65536:=⟨_,rfl,by omega⟩
    obtain⟨q,hq,hq2⟩:=hD
    repeat' first|apply jS|apply jO|apply jN|apply jT|refine Q1 ?_|refine Q0 ?_|refine Y9 (h:=?_)|refine Wd (h:=?_)|refine Zs (h:=?_)|refine Qgt (h:=?_)|refine Xp (h:=?_)|(refine Qs (h1:=?_) (h2:=?_)<;>intro hc<;>try omega)|refine QG (h:=fun _=>?_)|apply jK|refine Q8 rfl ?_|apply jB
    have e:Value.int .i64 ((xs.getD i 0:Int)-c-(ys.getD i 0:Int)+65536)=nv q:=by
     show iv _=iv _
     congr 1
     omega
    rw[e]
    rename_i b2
    refine ZD (A:=[_]) hO (Yn b2 1 [q] _ rfl rfl dq).rd Q6 rfl trivial rfl rfl rfl rfl oq (fun v' N' aU=>?_)
    repeat' first|apply jO|apply jN|apply jT|refine Q1 ?_|refine Q0 ?_|refine Qj ?_|apply jW
    refine Qa (i+1,1,v',N',zs++[q]) ⟨by simp only[Vk,Vs];omega,by dsimp only;omega,by dsimp only;omega,aU,Y1 hz hq2,?_⟩ aY aF QK
    dsimp only
    rw[Yh,hlz,QL,QL,Va]
    exact WJ (b:=aO) (c:=c) (c':=1) (by show q+_=_+65536*_;omega) hval
   ·have hD:∃ q:Nat,q=xs.getD i 0-(c+ys.getD i 0)∧q<65536:=⟨_,rfl,by omega⟩
    obtain⟨q,hq,hq2⟩:=hD
    repeat' first|apply jS|apply jO|apply jN|apply jT|refine Q1 ?_|refine Q0 ?_|refine Y9 (h:=?_)|refine Wd (h:=?_)|refine Zs (h:=?_)|refine Wq (h:=?_)|(refine Qs (h1:=?_) (h2:=?_)<;>intro hc<;>try omega)|refine QG (h:=fun _=>?_)|apply jK|refine Q8 rfl ?_|refine Q4 rfl ?_|apply jB
    have e:Value.int .i64 ((xs.getD i 0-c-ys.getD i 0:Nat):Int)=nv q:=by
     show iv _=iv _
     congr 1
     omega
    rw[e]
    rename_i b2
    refine ZD (A:=[_]) hO (Yn b2 1 [q] _ rfl rfl dq).rd Q6 rfl trivial rfl rfl rfl rfl oq (fun v' N' aU=>?_)
    repeat' first|apply jO|apply jN|apply jT|refine Q1 ?_|refine Q0 ?_|refine Qj ?_|apply jW
    refine Qa (i+1,0,v',N',zs++[q]) ⟨by simp only[Vk,Vs];omega,by dsimp only;omega,by dsimp only;omega,aU,Y1 hz hq2,?_⟩ aY aF QK
    dsimp only
    rw[Yh,hlz,QL,QL,Va]
    exact WJ (b:=aO) (c:=c) (c':=0) (by show q+_=_+65536*_;omega) hval
  ·have hy0:ys.getD i 0=0:=Q7s oq
   by_cases hd:xs.getD i 0<c
   ·have hD:∃ q:Nat,q=xs.getD i 0+65536-(c+0)∧q<65536:=⟨_,rfl,by omega⟩
    obtain⟨q,hq,hq2⟩:=hD
    repeat' first|apply jS|apply jO|apply jN|apply jT|refine Q1 ?_|refine Q0 ?_|refine Y9 (h:=?_)|refine Wd (h:=?_)|refine Zs (h:=?_)|refine Qgt (h:=?_)|refine Xp (h:=?_)|(refine Qs (h1:=?_) (h2:=?_)<;>intro hc<;>try omega)|refine QG (h:=fun _=>?_)|apply jK|refine Q8 rfl ?_|refine Q4 rfl ?_|apply jB
    have e:Value.int .i64 ((xs.getD i 0:Int)-c+65536)=nv q:=by
     show iv _=iv _
     congr 1
     omega
    rw[e]
    rename_i b2
    refine ZD (A:=[_]) hO (Yn b2 1 [q] _ rfl rfl dq).rd Q6 rfl trivial rfl rfl rfl rfl oq (fun v' N' aU=>?_)
    repeat' first|apply jO|apply jN|apply jT|refine Q1 ?_|refine Q0 ?_|refine Qj ?_|apply jW
    refine Qa (i+1,1,v',N',zs++[q]) ⟨by simp only[Vk,Vs];omega,by dsimp only;omega,by dsimp only;omega,aU,Y1 hz hq2,?_⟩ aY aF QK
    dsimp only
    rw[Yh,hlz,QL,QL,Va]
    exact WJ (b:=aO) (c:=c) (c':=1) (by show q+_=_+65536*_;omega) hval
   ·have hD:∃ q:Nat,q=xs.getD i 0-(c+0)∧q<65536:=⟨_,rfl,by omega⟩
    obtain⟨q,hq,hq2⟩:=hD
    repeat' first|apply jS|apply jO|apply jN|apply jT|refine Q1 ?_|refine Q0 ?_|refine Y9 (h:=?_)|refine Wd (h:=?_)|refine Zs (h:=?_)|refine Wq (h:=?_)|(refine Qs (h1:=?_) (h2:=?_)<;>intro hc<;>try omega)|refine QG (h:=fun _=>?_)|apply jK|refine Q8 rfl ?_|refine Q4 rfl ?_|apply jB
    have e:Value.int .i64 ((xs.getD i 0-c:Nat):Int)=nv q:=by
     show iv _=iv _
     congr 1
     omega
    rw[e]
    rename_i b2
    refine ZD (A:=[_]) hO (Yn b2 1 [q] _ rfl rfl dq).rd Q6 rfl trivial rfl rfl rfl rfl oq (fun v' N' aU=>?_)
    repeat' first|apply jO|apply jN|apply jT|refine Q1 ?_|refine Q0 ?_|refine Qj ?_|apply jW
    refine Qa (i+1,0,v',N',zs++[q]) ⟨by simp only[Vk,Vs];omega,by dsimp only;omega,by dsimp only;omega,aU,Y1 hz hq2,?_⟩ aY aF QK
    dsimp only
    rw[Yh,hlz,QL,QL,Va]
    exact WJ (b:=aO) (c:=c) (c':=0) (by show q+_=_+65536*_;omega) hval
 ·repeat' first|apply jS|apply jO|apply jN|apply jT|refine Q1 ?_|refine Zs (h:=?_)|(refine Qs (h1:=?_) (h2:=?_)<;>intro hc<;>try omega)|apply jU|apply jE|refine Q4 rfl ?_|apply Qe
  obtain rfl:i=n:=by omega
  rw[Vf oq,Vf oq]at hval
  have hc0:c=0:=by
   rcases Nat.eq_zero_or_pos c with h|h
   ·exact h
   ·have h1:aO ^ i≤aO ^ i*c:=Nat.le_mul_of_pos_right _ h
    have h2:=Wp hz
    rw[hlz]at h2
    omega
  subst hc0
  rw[Nat.mul_zero,Vt]at hval
  obtain⟨A,cap,rfl⟩:=hO.form
  refine Q5 trivial rfl rfl rfl (fun w hk hs=>Q6p w _ _ _ _ (hO.rd.at hk hs Q6) oq) fun w v w' _ _ _ hR=>?_
  obtain⟨q,hq,rfl,hnq⟩:=hR
  repeat' first|apply jN|apply jT|refine Q0 ?_|apply jR
  have hown:=hO.hd hq
  rw[← hnq]at hown
  have iR:(nrm zs).length=q:=hown.len
  refine Qn rfl (fun a w' st=>⟨st.kp,N,nrm zs,st.aS rfl Q6,by rw[iR];exact hown,dG.of hz,?_⟩)
  rw[Zx]
  omega


theorem Q1v (w:World) (v u:Value) (n k:Nat) (xs ys:List Nat) (hv:WN w v n xs) (hu:WN w u k ys) (hx:dG aO xs) (hy:dG aO ys) (hn:n≤16000000000000) (hk:k≤16000000000000) :
  Calls Tryz.prog 101 #[v,u] w (aP fun v w'=>Kp [] w w'∧v=iv (fF (val aO xs) (val aO ys))):=by
 have hlx:=hv.len
 have hly:=hu.len
 refine Q9 [⟨8,1,[],[]⟩,⟨9,1,[],[]⟩] [] au [] Tryz.func101 rfl mixed (by kernel_rfl) Tryz.ntmps101 Tryz.results101 rfl ⟨by simp,by simp⟩ au ?_
 simp only[toS,Qd,Qt,Qk,Ql,ay,Qg,QA,aC]
 rcases Nat.lt_trichotomy n k with h|h|h
 ·have hcc:=YX dq hx hy oq
  repeat' first|apply jS|apply jO|apply jN|apply jT|refine Q1 ?_|refine Q0 ?_|refine Zs (h:=?_)|(refine Qs (h1:=?_) (h2:=?_)<;>intro hc<;>try omega)|(refine Ze (h1:=?_) (h2:=?_)<;>intro hc<;>try omega)|apply jV|apply jR|refine Q8 rfl ?_
  exact Qn rfl (fun a w' st=>⟨st.kp,by unfold fF;rw[if_pos hcc]⟩)
 ·repeat' first|apply jS|apply jO|apply jN|apply jT|refine Q1 ?_|refine Q0 ?_|refine Zs (h:=?_)|refine Xp (h:=?_)|(refine Ze (h1:=?_) (h2:=?_)<;>intro hc<;>try omega)|apply jK|refine Q4 rfl ?_|apply jB
  refine Qp (ι:=Nat) ⟨fun q=>[(5,iv ((q:Int)-1)),(0,v),(1,u)],fun _=>[],fun q=>q≤n∧xs.drop q=ys.drop q,fun q=>q⟩ n ⟨V8 _,by rw[List.drop_eq_nil_of_le oq,List.drop_eq_nil_of_le oq]⟩ aF Qy (fun q hq=>?_)
  obtain⟨hqn,hd⟩:=hq
  dsimp only at hqn hd ⊢
  rcases q with _|q
  ·repeat' first|apply jS|apply jO|apply jN|apply jT|refine Q1 ?_|refine Q0 ?_|(refine Yx (h1:=?_) (h2:=?_)<;>intro hc<;>try omega)|apply jU|apply jE|apply jR|refine Q4 rfl ?_|apply Qe
   have:xs=ys:=hd
   exact Qn rfl (fun a w' st=>⟨st.kp,by unfold fF;rw[this,if_neg (Nat.lt_irrefl _),if_neg (Nat.lt_irrefl _)]⟩)
  ·have hiv:iv (((q+1:Nat):Int)-1)=nv q:=by
    show iv _=iv _
    congr 1
    omega
   rw[hiv]
   rcases Nat.lt_trichotomy (xs.getD q 0) (ys.getD q 0)with h1|h1|h1
   ·have hcc:=Q6y (b:=aO) oq oq hx.lt h1 hd
    repeat' first|apply jS|apply jO|apply jD|apply jN|apply jT|refine Q1 ?_|refine Q0 ?_|refine Y9 (h:=?_)|refine Wd (h:=?_)|(refine Qs (h1:=?_) (h2:=?_)<;>intro hc<;>try omega)|(refine Yx (h1:=?_) (h2:=?_)<;>intro hc<;>try omega)|(refine Ze (h1:=?_) (h2:=?_)<;>intro hc<;>try omega)|apply jV|apply jK|apply jR|refine Q8 rfl ?_|apply jB|apply QT
    exact Qn rfl (fun a w' st=>⟨st.kp,by unfold fF;rw[if_pos hcc]⟩)
   ·repeat' first|apply jS|apply jO|apply jD|apply jN|apply jT|refine Q1 ?_|refine Q0 ?_|refine Y9 (h:=?_)|refine Wd (h:=?_)|refine Xp (h:=?_)|(refine Yx (h1:=?_) (h2:=?_)<;>intro hc<;>try omega)|(refine Ze (h1:=?_) (h2:=?_)<;>intro hc<;>try omega)|apply jK|refine Q8 rfl ?_|refine Q4 rfl ?_|apply jB|apply jW
    refine Qa q ⟨by omega,?_⟩ aY aF Qy
    rw[List.drop_eq_getElem_cons (show q<xs.length by omega),List.drop_eq_getElem_cons (show q<ys.length by omega),hd]
    have e:xs[q]'oq=ys[q]'oq:=by
     simpa [List.getD,List.getElem?_eq_getElem (show q<xs.length by omega),List.getElem?_eq_getElem (show q<ys.length by omega)] using h1
    rw[e]
   ·have hcc:=Q6y (b:=aO) oq oq hy.lt h1 hd.symm
    repeat' first|apply jS|apply jO|apply jD|apply jN|apply jT|refine Q1 ?_|refine Q0 ?_|refine Y9 (h:=?_)|refine Wd (h:=?_)|(refine Qs (h1:=?_) (h2:=?_)<;>intro hc<;>try omega)|(refine Yx (h1:=?_) (h2:=?_)<;>intro hc<;>try omega)|(refine Ze (h1:=?_) (h2:=?_)<;>intro hc<;>try omega)|apply jV|apply jK|apply jR|refine Q8 rfl ?_|refine Q4 rfl ?_|apply jB|apply QT
    exact Qn rfl (fun a w' st=>⟨st.kp,by unfold fF;rw[if_neg oq,if_pos hcc]⟩)
 ·have hcc:=YX dq hy hx oq
  repeat' first|apply jS|apply jO|apply jN|apply jT|refine Q1 ?_|refine Q0 ?_|refine Zs (h:=?_)|(refine Qs (h1:=?_) (h2:=?_)<;>intro hc<;>try omega)|(refine Ze (h1:=?_) (h2:=?_)<;>intro hc<;>try omega)|apply jV|apply jK|apply jR|refine Q8 rfl ?_|refine Q4 rfl ?_
  exact Qn rfl (fun a w' st=>⟨st.kp,by unfold fF;rw[if_neg oq,if_pos hcc]⟩)


theorem Qat {x y:Nat} (hx:x<65536) (hy:y<65536):x*y≤4294836225:=by
 have:=Vr (show x≤65535 by omega) (show y≤65535 by omega)
 omega

theorem Qik (w:World) (v u:Value) (n k:Nat) (xs ys:List Nat) (hv:WN w v n xs) (hu:WN w u k ys) (hx:∀ x∈xs,x<aO) (hy:∀ x∈ys,x<aO) (hn:n≤8500000000000) (hk:k≤8500000000000) :
  Calls Tryz.prog 68 #[v,u] w (aP fun v w'=>Kp [] w w'∧∃ N zs,New N w w'∧bP N v zs.length zs∧dG aO zs∧val aO zs=val aO xs*val aO ys∧zs.length≤n+k):=by
 have hlx:=hv.len
 have hly:=hu.len
 refine Q9 [⟨9,1,[],[]⟩] [] au [] Tryz.func68 rfl mixed (by kernel_rfl) Tryz.ntmps68 Tryz.results68 rfl ⟨by simp,by simp⟩ au ?_
 simp only[toS,Qd,Qt,Qk,Ql,ay,Qg,QA,aC]
 repeat' first|apply jS|apply jO|apply jN|refine Q1 ?_|refine Q0 ?_|refine Zs (h:=?_)|refine Zf (h:=?_)|apply jT
 refine Yv (n:=n+k) rfl rfl rfl rfl rfl oq oq (fun b5=>?_)
 have hO:=Q93 b5 (n+k) (by simp only[maxLen];omega)
 repeat' first|apply jS|apply jO|apply jN|apply jT|refine Q0 ?_|apply jB
 refine Qp (ι:=Nat × aj × List Nat) ⟨fun z=>[(6,nv z.1),(5,.slice (some ⟨b5,0,none⟩) (n+k) (n+k)),(0,v),(1,u)],fun z=>z.2.1++[],
  fun z=>z.1≤n∧bP z.2.1 (.slice (some ⟨b5,0,none⟩) (n+k) (n+k)) (n+k) z.2.2∧(∀ x∈z.2.2,x<aO)∧val aO z.2.2=val aO (xs.take z.1)*val aO ys∧∀ j,z.1+k≤j→z.2.2.getD j 0=0,fun z=>n-z.1⟩
  (0,_,_) ⟨V9 _,hO,fun x hx=>by obtain⟨a,_,rfl⟩:=List.mem_map.1 hx;decide,by show val aO (tab (n+k) fun _=>0)=_;rw[Wu];simp[val],fun j _=>Xu _ j⟩ aF Qy (fun z hz=>?_)
 clear hO
 obtain⟨i,N,zs⟩:=z
 obtain⟨hi,hO,hz,hval,hzero⟩:=hz
 dsimp only at hi hO hz hval hzero ⊢
 have hlz:=hO.len
 by_cases hin:i<n
 ·have hxi:xs.getD i 0<65536:=QF (b:=aO) dq hx i
  repeat' first|apply jS|apply jO|apply jN|apply jT|refine Q1 ?_|refine Q0 ?_|refine Zs (h:=?_)|(refine Qs (h1:=?_) (h2:=?_)<;>intro hc<;>try omega)|apply jK|refine Q8 rfl ?_|apply jB
  refine Qp (ι:=Nat × Nat × aj × List Nat) ⟨fun y=>[(8,nv y.1),(7,nv y.2.1),(6,nv i),(5,.slice (some ⟨b5,0,none⟩) (n+k) (n+k)),(0,v),(1,u)],fun y=>y.2.2.1++[],
   fun y=>y.1≤k∧bP y.2.2.1 (.slice (some ⟨b5,0,none⟩) (n+k) (n+k)) (n+k) y.2.2.2∧(∀ x∈y.2.2.2,x<aO)∧y.2.1<65536∧val aO y.2.2.2+aO ^ (i+y.1)*y.2.1=val aO (xs.take i)*val aO ys+aO ^ i*(xs.getD i 0*val aO (ys.take y.1))∧∀ j,i+k≤j→y.2.2.2.getD j 0=0,fun y=>k-y.1⟩
   (0,0,_,_) ⟨V9 _,hO,hz,by show (0:Nat)<65536;decide,by simp[hval,val],hzero⟩ aF Qy (fun y hyy=>?_)
  clear hO hz hval hzero hlz
  obtain⟨q,c,M,us⟩:=y
  obtain⟨hq,hO,hz,hc1,hval,hzero⟩:=hyy
  dsimp only at hq hO hz hc1 hval hzero ⊢
  have hlz:=hO.len
  by_cases hqk:q<k
  ·have hyq:ys.getD q 0<65536:=QF (b:=aO) dq hy q
   have huq:us.getD (i+q) 0<65536:=QF (b:=aO) dq hz (i+q)
   have hxy:=Qat hxi hyq
   repeat' first|apply jS|apply jO|apply jD|apply jN|apply jT|refine Q1 ?_|refine Q0 ?_|refine Y9 (h:=?_)|refine Wd (h:=?_)|refine Zs (h:=?_)|refine Q0e (j:=65536) (h:=?_)|refine Zf (h:=?_)|refine ZK (h:=?_)|(refine Qs (h1:=?_) (h2:=?_)<;>intro hc<;>try omega)|apply jK|refine Q8 rfl ?_|apply jB
   refine Qk3 (A:=[]) hO rfl rfl trivial rfl rfl oq (fun M' aU=>?_)
   repeat' first|apply jO|apply jN|apply jT|refine Q1 ?_|refine Q0 ?_|refine Ws (j:=65536) (h:=?_)|refine Qj ?_|apply jW
   refine Qa (q+1,_,M',_) ⟨by dsimp only;omega,aU,YR hz (Nat.mod_lt _ dq),?_,?_,fun j hj=>?_⟩ aY aF Qy
   ·dsimp only;omega
   ·dsimp only
    have e:=XB (b:=aO) (l:=us) (j:=i+q) (u:=(us.getD (i+q) 0+xs.getD i 0*ys.getD q 0+c) % aO) oq
    have:=Q9a e rfl hval
    rw[QL,Vp,Vp, ← Nat.add_assoc (_*_), ← Nat.add_assoc i q 1,Va]
    have e3:aO ^ i*(xs.getD i 0*(aO ^ q*ys.getD q 0))=aO ^ (i+q)*(xs.getD i 0*ys.getD q 0):=by
     rw[Nat.pow_add]
     simp only[Nat.mul_left_comm,Vn]
    rw[e3]
    exact this
   ·dsimp only at hj ⊢
    rw[getD_set_ne oq]
    exact hzero j oq
  ·obtain rfl:q=k:=by omega
   repeat' first|apply jS|apply jO|apply jN|apply jT|refine Q1 ?_|refine Y9 (h:=?_)|refine Zs (h:=?_)|refine Zf (h:=?_)|(refine Qs (h1:=?_) (h2:=?_)<;>intro hc<;>try omega)|apply jU|apply jE|refine Q4 rfl ?_|apply Qe
   refine Qk3 (A:=[]) hO rfl rfl trivial rfl rfl oq (fun M' aU=>?_)
   repeat' first|apply jO|apply jN|apply jT|refine Q1 ?_|refine Q0 ?_|refine Qj ?_|apply jW
   refine Qa (i+1,M',_) ⟨by dsimp only;omega,aU,YR hz hc1,?_,fun j hj=>?_⟩ aY aF Qy
   ·dsimp only
    have e:=XB (b:=aO) (l:=us) (j:=i+q) (u:=c) oq
    rw[hzero (i+q) (V8 _),Nat.mul_zero,Vt,hval]at e
    rw[e,QL,Vo,Vf (l:=ys) (i:=q) oq,Vn]
   ·dsimp only at hj ⊢
    rw[getD_set_ne oq]
    exact hzero j oq
 ·repeat' first|apply jS|apply jO|apply jN|apply jT|refine Q1 ?_|refine Zs (h:=?_)|(refine Qs (h1:=?_) (h2:=?_)<;>intro hc<;>try omega)|apply jU|apply jE|refine Q4 rfl ?_|apply Qe
  refine Q5 trivial rfl rfl rfl (fun w hk hs=>Q6p w _ _ _ _ (hO.rd.at hk hs Q6) oq) fun w v w' _ _ _ hR=>?_
  obtain⟨q,hq,rfl,hnq⟩:=hR
  repeat' first|apply jN|apply jT|refine Q0 ?_|apply jR
  have hown:=hO.hd hq
  rw[← hnq]at hown
  have iR:(nrm zs).length=q:=hown.len
  refine Qn rfl (fun a w' st=>⟨st.kp,N,nrm zs,st.aS rfl Q6,by rw[iR];exact hown,dG.of hz,?_,by rw[iR];exact hq⟩)
  rw[Zx,hval,Vf oq]


theorem c_by (w:World) (v:Value) (n:Nat) (xs:List Nat) (d:Nat) (hv:WN w v n xs) (hx:∀ x∈xs,x<aO) (hn:n≤8400000000000) (hd:d<aO) :
  Calls Tryz.prog 160 #[v,nv d] w (aP fun v w'=>Kp [] w w'∧∃ N zs,New N w w'∧bP N v zs.length zs∧dG aO zs∧val aO zs=val aO xs*d∧zs.length≤n+1):=by
 have hlx:=hv.len
 refine Q9 [] [] au [] Tryz.func160 rfl mixed (by kernel_rfl) Tryz.ntmps160 Tryz.results160 rfl ⟨by simp,by simp⟩ au ?_
 simp only[toS,Qd,Qt,Qk,Ql,ay,Qg,QA,aC]
 repeat' first|apply jS|apply jO|apply jN|refine Q1 ?_|refine Q0 ?_|refine QG (h:=fun _=>?_)|apply jT
 rename_i b1
 have hL:bP [(b1,.cells ⟨[nv d]⟩ 3)] (.slice (some ⟨b1,0,none⟩) 1 1) 1 [d]:=Yn b1 1 [d] _ rfl rfl dq
 refine Qf (A:=[]) rfl trivial rfl rfl rfl (fun w hk hs=>Qik w _ _ _ _ xs [d] (hv.mono hk) (hL.rd.at hk hs Q6) hx (fun x hx=>by rw[List.mem_singleton.1 hx];exact hd) oq dq) fun w v w' _ _ _ hR=>?_
 obtain⟨N1,zs1,hN1,bT,hz1,aV,hl1⟩:=hR
 refine⟨N1,hN1,?_⟩
 repeat' first|apply jN|apply jT|refine Q0 ?_|apply jR
 exact Qn rfl (fun a w' st=>⟨st.kp,N1,zs1,st.aS rfl Q6,bT,hz1,by rw[aV,val,val,Nat.mul_zero,Vt],hl1⟩)

theorem Q1k {l r:List Nat} (hl:dG aO l) (hr:dG aO r) (h:val aO l≤val aO r):l.length≤r.length:=by
 refine Vg fun h2=>?_
 have:=YX (b:=aO) dq hr hl oq
 omega
theorem Q84 {a b:Nat}:fF a b≤0↔a≤b:=by
 unfold fF
 split
 ·simp_all;omega
 ·split<;>simp_all
theorem Q67 {R x r D y V low b:Nat} (h1:R=x+b*r) (h2:D=y*V+r) (h3:y*low≤R):x+b*D=y*(low+b*V)+(R-y*low):=by
 have e1:b*D=b*(y*V)+b*r:=by rw[h2,Vp]
 have e2:y*(low+b*V)=y*low+b*(y*V):=by rw[Vp,Nat.mul_left_comm y b V]
 omega

def Qsw (X Y:Nat) (w:World) (r:Value) (w':World):Prop:=∃ N1 N2 v1 v2 qs rs,r=.tuple #[v1,v2]∧New (N1++N2) w w'∧bP N1 v1 qs.length qs∧bP N2 v2 rs.length rs∧dG aO qs∧dG aO rs∧X=Y*val aO qs+val aO rs∧val aO rs<Y

theorem Qps (w:World) (v u:Value) (n k:Nat) (xs ys:List Nat) (hv:WN w v n xs) (hu:WN w u k ys) (hx:∀ x∈xs,x<aO) (hy:dG aO ys) (h0:0<val aO ys) (hn:n≤8000000000000) (hk:k≤8000000000000) :
  Calls Tryz.prog 144 #[v,u] w (aP fun r w'=>Kp [] w w'∧Qsw (val aO xs) (val aO ys) w r w'):=by
 have hlx:=hv.len
 have hly:=hu.len
 refine Q9 [] [] au [] Tryz.func144 rfl mixed (by kernel_rfl) Tryz.ntmps144 Tryz.results144 rfl ⟨by simp,by simp⟩ au ?_
 simp only[toS,Qd,Qt,Qk,Ql,ay,Qg,QA,aC]
 repeat' first|apply jS|apply jO|apply jN|refine Q1 ?_|refine Q0 ?_|refine Zs (h:=?_)|apply jT
 refine Yv (n:=n) rfl rfl rfl rfl rfl oq oq (fun b5=>?_)
 have hO:=Q93 b5 n (by simp only[maxLen];omega)
 repeat' first|apply jS|apply jO|apply jN|apply jT|refine Q1 ?_|refine Q0 ?_|refine Zs (h:=?_)|refine Xp (h:=?_)|apply jB
 refine Qp (ι:=Nat × Value × aj × List Nat × aj × List Nat) ⟨fun z=>[(8,iv ((z.1:Int)-1)),(7,z.2.1),(6,.slice (some ⟨b5,0,none⟩) n n),(0,v),(1,u)],fun z=>z.2.2.1++(z.2.2.2.2.1++[]),
  fun z=>z.1≤n∧bP z.2.2.1 z.2.1 z.2.2.2.1.length z.2.2.2.1∧dG aO z.2.2.2.1∧bP z.2.2.2.2.1 (.slice (some ⟨b5,0,none⟩) n n) n z.2.2.2.2.2∧(∀ x∈z.2.2.2.2.2,x<aO)∧val aO z.2.2.2.1<val aO ys∧val aO (xs.drop z.1)=val aO ys*val aO (z.2.2.2.2.2.drop z.1)+val aO z.2.2.2.1,fun z=>z.1⟩
  (n, .slice none 0 0, [], [], _, _) ⟨V8 _, bP.nil, dG.nil _, hO, fun x hx => by obtain ⟨a, _, rfl⟩ := List.mem_map.1 hx; decide, h0, by
   dsimp only
   rw[Z6 oq,Z6 au,Nat.mul_zero];rfl⟩ aF Qy (fun z hz=>?_)
 clear hO
 obtain⟨m,vr,Nr,rs,Nq,qs⟩:=z
 obtain⟨hm,hOr,hzr,hOq,hzq,hlt,hval⟩:=hz
 dsimp only at hm hOr hzr hOq hzq hlt hval ⊢
 have hlq:=hOq.len
 have hrl:rs.length≤k:=by have:=Q1k hzr hy (Nat.le_of_lt hlt);omega
 rcases m with _|i
 ·repeat' first|apply jS|apply jO|apply jN|apply jT|refine Q1 ?_|(refine Yx (h1:=?_) (h2:=?_)<;>intro hc<;>try omega)|apply jU|apply jE|refine Q4 rfl ?_|apply Qe
  refine Q5 trivial rfl rfl rfl (fun w hk hs=>Q6p w _ _ _ _ (hOq.rd.at hk hs Q6) oq) fun w v w' _ _ _ hR=>?_
  obtain⟨q,hq,rfl,hnq⟩:=hR
  repeat' first|apply jN|apply jT|refine Q1 ?_|refine Q0 ?_|apply jR
  have hown:=hOq.hd hq
  rw[← hnq]at hown
  have iR:(nrm qs).length=q:=hown.len
  refine YH rfl rfl (fun a w' st=>⟨st.kp,Nq,Nr,_,_,nrm qs,rs,rfl,st.aS rfl ?_,by rw[iR];exact hown,hOr,dG.of hzq,hzr,?_,hlt⟩)
  ·exact⟨[],by simpa using List.perm_append_comm⟩
  ·rw[List.drop_zero,List.drop_zero]at hval
   rw[Zx,hval]
 ·have hiv:iv (((i+1:Nat):Int)-1)=nv i:=by
   show iv _=iv _
   congr 1
   omega
  rw[hiv]
  have hxi:xs.getD i 0<65536:=QF (b:=aO) dq hx i
  generalize hxe:xs.getD i 0=x at hxi
  have hxv:val aO (xs.drop i)=x+65536*val aO (xs.drop (i+1)):=by rw[Za (show i<xs.length by omega),hxe]
  repeat' first|apply jS|apply jO|apply jN|apply jT|refine Q1 ?_|refine Y9 (h:=?_)|refine Wd (h:=?_)|(refine Yx (h1:=?_) (h2:=?_)<;>intro hc<;>try omega)|refine QG (h:=fun _=>?_)|apply jK|refine Q8 rfl ?_|apply jB
  rename_i b2
  rw[hxe]
  refine ZD (A:=[]) (N:=[(b2,_)]) (Yn b2 1 [x] _ rfl rfl dq) hOr.rd Q6 rfl trivial rfl rfl rfl rfl oq (fun v' N' aU=>?_)
  obtain⟨A',cap',rfl⟩:=aU.form
  skip
  refine Q5 trivial rfl rfl rfl (fun w hk hs=>Q6p w _ _ _ _ (aU.rd.at hk hs Q6) oq) fun w v w' _ _ _ hR=>?_
  obtain⟨q,hq,rfl,hnq⟩:=hR
  have hR1:=aU.hd hq
  rw[← hnq]at hR1
  have hz1:dG aO (nrm ([x]++rs)):=dG.of fun y hy2=>by
   rcases List.mem_append.1 hy2 with h|h
   ·rw[List.mem_singleton.1 h];exact hxi
   ·exact hzr.lt y h
  have hv1:val aO (nrm ([x]++rs))=x+65536*val aO rs:=by rw[Zx];rfl
  have hq1:=hR1.len
  generalize nrm ([x]++rs)=r1 at hR1 hz1 hv1 hq1
  have hbig:val aO r1<val aO ys*65536:=by omega
  clear hnq
  repeat' first|apply jS|apply jO|apply jN|refine Q1 ?_|refine Q0 ?_|apply jT
  refine Q5 trivial rfl rfl rfl (fun w hk hs=>Q1v w _ _ _ _ r1 ys (hR1.rd.at hk hs Q6) (hu.mono hk) hz1 hy oq oq) fun w v w' _ _ _ hR=>?_
  subst hR
  by_cases hcmp:val aO r1<val aO ys
  ·have hc0:=YM.2 hcmp
   repeat' first|apply jS|apply jO|apply jN|apply jT|refine Q0 ?_|(refine Qs (h1:=?_) (h2:=?_)<;>intro hc<;>try omega)|refine Q8 rfl ?_|apply jB
   refine Qp (ι:=Nat × Nat) ⟨fun z=>[(10,nv z.2),(9,nv z.1),(8,nv i),(7,.slice A' q cap'),(6,.slice (some ⟨b5,0,none⟩) n n),(0,v),(1,u)],fun _=>N'++(Nq++[]),
    fun z=>z.1<z.2∧z.2≤65536∧val aO ys*z.1≤val aO r1∧val aO r1<val aO ys*z.2,fun z=>z.2-z.1⟩ (0,1) ⟨by decide,by decide,by rw[Nat.mul_zero];exact V9 _,by rw[Nat.mul_one];exact hcmp⟩ aF QK (fun z hz=>?_)
   obtain⟨low,high⟩:=z
   obtain⟨hlh,hhb,hlow,hhigh⟩:=hz
   dsimp only at hlh hhb hlow hhigh ⊢
   by_cases hgo:1<high-low
   ·repeat' first|apply jS|apply jO|apply jN|apply jT|refine Q1 ?_|refine Q0 ?_|refine Ws (j:=2) (h:=?_)|refine Zf (h:=?_)|refine Wq (h:=?_)|(refine Zg (h1:=?_) (h2:=?_)<;>intro hc<;>try omega)|apply jK|refine Q8 rfl ?_|apply jB
    have hmb:(low+high) / 2<65536:=by omega
    refine Qf (A:=[]) rfl trivial rfl rfl rfl (fun w hk hs=>c_by w _ _ ys ((low+high) / 2) (hu.mono hk) hy.lt oq hmb) fun w v w' _ _ _ hR=>?_
    obtain⟨N3,dK,hN3,hO3,hz3,hval3,hl3⟩:=hR
    refine⟨N3,hN3,?_⟩
    repeat' first|refine Q1 ?_|fail
    refine Q5 trivial rfl rfl rfl (fun w hk hs=>Q1v w _ _ _ _ dK r1 (hO3.rd.at hk hs Q6) (hR1.rd.at hk hs Q6) hz3 hz1 oq oq) fun w v w' _ _ _ hR=>?_
    subst hR
    by_cases hle:val aO dK≤val aO r1
    ·have hc9:=Q84.2 hle
     repeat' first|apply jO|apply jN|apply jT|refine Q1 ?_|refine Q0 ?_|(refine Q7f (h1:=?_) (h2:=?_)<;>intro hc<;>try omega)|refine Q8 rfl ?_|apply jW
     refine Qa ((low+high) / 2,high) ⟨by dsimp only;omega,hhb,by rw[← hval3];exact hle,hhigh⟩ aY aF QK
    ·have hc9:¬fF (val aO dK) (val aO r1)≤0:=fun h=>hle (Q84.1 h)
     repeat' first|apply jO|apply jN|apply jT|refine Q1 ?_|refine Q0 ?_|(refine Q7f (h1:=?_) (h2:=?_)<;>intro hc<;>try omega)|refine Q4 rfl ?_|apply jW
     refine Qa (low,(low+high) / 2) ⟨by dsimp only;omega,by dsimp only;omega,hlow,by dsimp only;rw[← hval3];omega⟩ aY aF QK
   ·repeat' first|apply jS|apply jO|apply jN|apply jT|refine Q1 ?_|refine Y9 (h:=?_)|refine Wq (h:=?_)|(refine Zg (h1:=?_) (h2:=?_)<;>intro hc<;>try omega)|apply jU|apply jE|refine Q4 rfl ?_|apply Qe
    refine Qk3 (A:=N') hOq rfl rfl trivial rfl rfl oq (fun Nq' iI=>?_)
    repeat' first|apply jO|apply jN|refine Q1 ?_|apply jT
    refine Qf (A:=[]) rfl trivial rfl rfl rfl (fun w hk hs=>c_by w _ _ ys low (hu.mono hk) hy.lt oq (by show low<65536;omega)) fun w v w' _ _ _ hR=>?_
    obtain⟨N4,gJ,hN4,hO4,hz4,hval4,hl4⟩:=hR
    refine⟨N4,hN4,?_⟩
    skip
    have hle4:val aO gJ≤val aO r1:=by rw[hval4];exact hlow
    have hll4:=Q1k hz4 hz1 hle4
    refine Qf (A:=[]) rfl trivial rfl rfl rfl (fun w hk hs=>Q5f w _ _ _ _ r1 gJ (hR1.rd.at hk hs Q6) (hO4.rd.at hk hs Q6) hz1.lt hz4.lt oq oq hle4) fun w v w' _ _ _ hR=>?_
    obtain⟨N5,zs5,jh,iL,hz5,dW⟩:=hR
    refine⟨N5,jh,?_⟩
    have hhl:high=low+1:=by omega
    subst hhl
    rw[Vp,Nat.mul_one]at hhigh
    repeat' first|apply jO|apply jN|apply jT|refine Q1 ?_|refine Q0 ?_|refine Xp (h:=?_)|apply jW
    refine Qa (i,_,N5,zs5,Nq',qs.set i low) ⟨by dsimp only;omega,iL,hz5,iI,YR hzq (by show low<65536;omega),by dsimp only;omega,?_⟩ aY aF QK
    dsimp only
    rw[hxv,Za (l:=qs.set i low) (show i<(qs.set i low).length by simp;omega),QO oq,Wn,dW,hval4]
    exact Q67 hv1 hval hlow
  ·have hc0:¬fF (val aO r1) (val aO ys)<0:=fun h=>hcmp (YM.1 h)
   repeat' first|apply jS|apply jN|apply jT|(refine Qs (h1:=?_) (h2:=?_)<;>intro hc<;>try omega)|apply jK|refine Q4 rfl ?_|apply jB
   refine Qp (ι:=Nat × Nat) ⟨fun z=>[(10,nv z.2),(9,nv z.1),(8,nv i),(7,.slice A' q cap'),(6,.slice (some ⟨b5,0,none⟩) n n),(0,v),(1,u)],fun _=>N'++(Nq++[]),
    fun z=>z.1<z.2∧z.2≤65536∧val aO ys*z.1≤val aO r1∧val aO r1<val aO ys*z.2,fun z=>z.2-z.1⟩ (0,65536) ⟨by decide,by decide,by rw[Nat.mul_zero];exact V9 _,hbig⟩ aF QK (fun z hz=>?_)
   obtain⟨low,high⟩:=z
   obtain⟨hlh,hhb,hlow,hhigh⟩:=hz
   dsimp only at hlh hhb hlow hhigh ⊢
   by_cases hgo:1<high-low
   ·repeat' first|apply jS|apply jO|apply jN|apply jT|refine Q1 ?_|refine Q0 ?_|refine Ws (j:=2) (h:=?_)|refine Zf (h:=?_)|refine Wq (h:=?_)|(refine Zg (h1:=?_) (h2:=?_)<;>intro hc<;>try omega)|apply jK|refine Q8 rfl ?_|apply jB
    have hmb:(low+high) / 2<65536:=by omega
    refine Qf (A:=[]) rfl trivial rfl rfl rfl (fun w hk hs=>c_by w _ _ ys ((low+high) / 2) (hu.mono hk) hy.lt oq hmb) fun w v w' _ _ _ hR=>?_
    obtain⟨N3,dK,hN3,hO3,hz3,hval3,hl3⟩:=hR
    refine⟨N3,hN3,?_⟩
    repeat' first|refine Q1 ?_|fail
    refine Q5 trivial rfl rfl rfl (fun w hk hs=>Q1v w _ _ _ _ dK r1 (hO3.rd.at hk hs Q6) (hR1.rd.at hk hs Q6) hz3 hz1 oq oq) fun w v w' _ _ _ hR=>?_
    subst hR
    by_cases hle:val aO dK≤val aO r1
    ·have hc9:=Q84.2 hle
     repeat' first|apply jO|apply jN|apply jT|refine Q1 ?_|refine Q0 ?_|(refine Q7f (h1:=?_) (h2:=?_)<;>intro hc<;>try omega)|refine Q8 rfl ?_|apply jW
     refine Qa ((low+high) / 2,high) ⟨by dsimp only;omega,hhb,by rw[← hval3];exact hle,hhigh⟩ aY aF QK
    ·have hc9:¬fF (val aO dK) (val aO r1)≤0:=fun h=>hle (Q84.1 h)
     repeat' first|apply jO|apply jN|apply jT|refine Q1 ?_|refine Q0 ?_|(refine Q7f (h1:=?_) (h2:=?_)<;>intro hc<;>try omega)|refine Q4 rfl ?_|apply jW
     refine Qa (low,(low+high) / 2) ⟨by dsimp only;omega,by dsimp only;omega,hlow,by dsimp only;rw[← hval3];omega⟩ aY aF QK
   ·repeat' first|apply jS|apply jO|apply jN|apply jT|refine Q1 ?_|refine Y9 (h:=?_)|refine Wq (h:=?_)|(refine Zg (h1:=?_) (h2:=?_)<;>intro hc<;>try omega)|apply jU|apply jE|refine Q4 rfl ?_|apply Qe
    refine Qk3 (A:=N') hOq rfl rfl trivial rfl rfl oq (fun Nq' iI=>?_)
    repeat' first|apply jO|apply jN|refine Q1 ?_|apply jT
    refine Qf (A:=[]) rfl trivial rfl rfl rfl (fun w hk hs=>c_by w _ _ ys low (hu.mono hk) hy.lt oq (by show low<65536;omega)) fun w v w' _ _ _ hR=>?_
    obtain⟨N4,gJ,hN4,hO4,hz4,hval4,hl4⟩:=hR
    refine⟨N4,hN4,?_⟩
    skip
    have hle4:val aO gJ≤val aO r1:=by rw[hval4];exact hlow
    have hll4:=Q1k hz4 hz1 hle4
    refine Qf (A:=[]) rfl trivial rfl rfl rfl (fun w hk hs=>Q5f w _ _ _ _ r1 gJ (hR1.rd.at hk hs Q6) (hO4.rd.at hk hs Q6) hz1.lt hz4.lt oq oq hle4) fun w v w' _ _ _ hR=>?_
    obtain⟨N5,zs5,jh,iL,hz5,dW⟩:=hR
    refine⟨N5,jh,?_⟩
    have hhl:high=low+1:=by omega
    subst hhl
    rw[Vp,Nat.mul_one]at hhigh
    repeat' first|apply jO|apply jN|apply jT|refine Q1 ?_|refine Q0 ?_|refine Xp (h:=?_)|apply jW
    refine Qa (i,_,N5,zs5,Nq',qs.set i low) ⟨by dsimp only;omega,iL,hz5,iI,YR hzq (by show low<65536;omega),by dsimp only;omega,?_⟩ aY aF QK
    dsimp only
    rw[hxv,Za (l:=qs.set i low) (show i<(qs.set i low).length by simp;omega),QO oq,Wn,dW,hval4]
    exact Q67 hv1 hval hlow


theorem WN.hd {w:World} {A:Option Addr} {n k cap:Nat} {xs:List Nat} (hv:WN w (.slice A n cap) n xs) (hk:k≤n):WN w (.slice A k cap) k (xs.take k):=by
 have hl:=hv.len
 obtain⟨h1,A',cap',h2,h3,h4⟩:=hv
 simp only[Value.slice.injEq]at h2
 obtain⟨rfl,_,rfl⟩:=h2
 refine⟨by simp;omega,A,cap,rfl,by omega,fun h0=>⟨(h4 oq).1,fun j u hu=>?_⟩⟩
 obtain⟨⟨b,o,rfl⟩,h5⟩:=h4 oq
 refine h5 j u ?_
 rw[List.map_take,List.getElem?_take]at hu
 split at hu
 ·exact hu
 ·cases hu
theorem lead {p:Bool} {l:List UInt8} {V:Nat} (h1:(dQ l).getD 0 0≠0) (h2:bW (dQ l)=V):wv p l=Wv (bQ p V):=by
 have hl:l.dropWhile (· == 0)=l:=by
  cases l with
  | nil=>rfl
  | cons a l =>
   have:(a == 0)=false:=by
    simp only[beq_eq_false_iff_ne]
    intro e
    subst e
    exact h1 rfl
   rw[List.dropWhile,this]
 have hm:=Q7p (l:=l)
 rw[hl,h2]at hm
 rw[Qje, ← hm]
 have hne:l≠[]:=fun e=>by subst e;exact h1 rfl
 rw[decide_eq_true hne,Bool.and_true]

theorem Q6f {l:List Nat} {x:Nat} (h:l.getD 0 0≠0):(l++[x]).getD 0 0≠0:=by
 cases l with
 | nil=>exact absurd rfl h
 | cons a l=>exact h
theorem Qql {l:List Nat} {i:Nat} (h:nrm l=l) (hi:l.length=i+1):l.getD i 0≠0:=by
 intro h0
 have e:l=l.take i++[0]:=by
  conv=>lhs;rw[← List.take_append_drop i l,List.drop_eq_getElem_cons (show i<l.length by omega),List.drop_eq_nil_of_le oq]
  rw[List.getD,List.getElem?_eq_getElem (show i<l.length by omega)]at h0
  rw[show l[i]'oq=0 from h0]
 have h2:=congrArg List.length h
 rw[e,Q4r]at h2
 have h3:∀ r:List Nat,(nrm r).length≤r.length:=fun r=>by
  induction r with
  | nil=>exact V8 _
  | cons x r ih =>
   rw[nrm]
   cases hn:nrm r with
   | nil=>by_cases hx:x=0<;>simp[hx]
   | cons y s=>rw[hn]at ih;simp at ih ⊢;exact ih
 have h4:=h3 (l.take i)
 simp at h2 h4
 omega

theorem YG (w:World) (v:Value) (n:Nat) (xs:List Nat) (p:Bool) (hv:WN w v n xs) (hx:∀ x∈xs,x<aO) (hn:n≤17000000000000) :
  Calls Tryz.prog 55 #[.bool p,v] w (aP fun r w'=>Kp [] w w'∧r=Wv (bQ p (val aO xs))):=by
 obtain⟨A,cap,rfl⟩:=hv.form
 refine Q9 [⟨11,0,[],[(2,.seq)]⟩] [] au [] Tryz.func55 rfl mixed (by kernel_rfl) Tryz.ntmps55 Tryz.results55 rfl ⟨by simp,by simp⟩ au ?_
 simp only[toS,Qd,Qt,Qk,Ql,ay,Qg,QA,aC]
 repeat' first|apply jS|apply jO|apply jN|refine Q1 ?_|refine Qc fun _=>?_|apply jT
 rename_i b4
 refine Q5 trivial rfl rfl rfl (fun w hk hs=>Q6p w _ _ _ _ (hv.mono hk) oq) fun w v w' _ _ _ hR=>?_
 obtain⟨k,hkn,rfl,hnk⟩:=hR
 have hvk:=hv.hd hkn
 rw[← hnk]at hvk
 have hlk:(nrm xs).length=k:=hvk.len
 have hval0:val aO xs=val aO (nrm xs):=(Zx _ _).symm
 have hxl:∀ x∈nrm xs,x<aO:=fun x h=>hx x (Q4s x h)
 have hnn:=Qh5 xs
 rw[hval0]
 generalize nrm xs=zs at hvk hlk hxl hnn
 by_cases hk0:k=0
 ·repeat' first|apply jS|apply jO|apply jN|apply jT|refine Q1 ?_|refine Q0 ?_|refine YB (h:=?_)|refine Q2 ?_|(refine Z9 (h1:=?_) (h2:=?_)<;>intro hc<;>try omega)|refine Zh (h:=?_)|refine Q2 ?_|apply jV|apply jR|refine Q8 rfl ?_
  obtain rfl:zs=[]:=List.eq_nil_of_length_eq_zero oq
  exact QQ 0 rfl rfl rfl (fun a w' st=>⟨st.kp,by rw[show val aO []=0 from rfl,Wc];rfl⟩)
 ·repeat' first|apply jS|apply jO|apply jN|apply jT|refine Q1 ?_|refine Q0 ?_|refine YB (h:=?_)|refine YS (h:=?_)|(refine Z9 (h1:=?_) (h2:=?_)<;>intro hc<;>try omega)|apply jK|refine Q4 rfl ?_|apply jB
  have e0:Value.int .i64 ((k-1:Nat):Int)=iv ((k:Int)-1):=by
   show iv _=iv _
   congr 1
   omega
  rw[e0]
  refine Qp (ι:=Nat × Value × aj × List Nat) ⟨fun z=>[(6,iv ((z.1:Int)-1)),(5,z.2.1),(4,.pointer (some ⟨b4,0,none⟩)),(1,.slice A k cap),(0,.bool p)],fun z=>(b4,.cells #[.bool false,.string ⟨#[]⟩] 35)::(z.2.2.1++[]),
   fun z=>z.1≤k∧fE z.2.2.1 z.2.1 z.2.2.2.length z.2.2.2∧(∀ x∈z.2.2.2,x<256)∧z.2.2.2.length≤2*(k-z.1)∧bW z.2.2.2=val aO (zs.drop z.1)∧(z.1<k→z.2.2.2.getD 0 0≠0)∧(z.1=k→z.2.2.2=[]),fun z=>z.1⟩
   (k,_,[],[]) ⟨V8 _,fE.nil,fun _ h=>absurd h List.not_mem_nil,by simp,by dsimp only;rw[Z6 oq];rfl,fun h=>absurd h (Nat.lt_irrefl _),fun _=>rfl⟩ aF QK (fun z hz=>?_)
  obtain⟨m,vb,Nb,bs⟩:=z
  obtain⟨hm,hO,hbs,hbl,hval,hhd,hnil⟩:=hz
  dsimp only at hm hO hbs hbl hval hhd hnil ⊢
  rcases m with _|i
  ·repeat' first|apply jS|apply jO|apply jN|apply jT|refine Q1 ?_|(refine Yx (h1:=?_) (h2:=?_)<;>intro hc<;>try omega)|apply jU|apply jE|refine Q4 rfl ?_|apply Qe
   refine Qgf hbs hO.rd Q6 trivial rfl rfl rfl (fun l hl=>?_)
   repeat' first|apply jN|apply jT|refine Q2 ?_|refine Zh (h:=?_)|refine Q2 ?_|apply jR
   rw[List.drop_zero]at hval
   have hfin:=lead (p:=p) (l:=l) (V:=val aO zs) (by rw[hl];exact hhd oq) (by rw[hl];exact hval)
   exact QQ 0 rfl rfl rfl (fun a w' st=>⟨st.kp,hfin⟩)
  ·have hiv:iv (((i+1:Nat):Int)-1)=nv i:=by
    show iv _=iv _
    congr 1
    omega
   rw[hiv]
   have hxi:zs.getD i 0<65536:=QF (b:=aO) dq hxl i
   have hxv:val aO (zs.drop i)=zs.getD i 0+65536*val aO (zs.drop (i+1)):=Za (show i<zs.length by omega)
   by_cases h1:i<k-1
   ·repeat' first|apply jS|apply jO|apply jN|apply jT|refine Q1 ?_|refine Y9 (h:=?_)|refine Wd (h:=?_)|refine YB (h:=?_)|refine Ws (j:=256) (h:=?_)|refine YS (h:=?_)|refine QD (h:=?_)|refine Q5z (h:=?_)|(refine Qs (h1:=?_) (h2:=?_)<;>intro hc<;>try omega)|(refine Yx (h1:=?_) (h2:=?_)<;>intro hc<;>try omega)|refine QG (h:=fun _=>?_)|apply jK|refine Q8 rfl ?_|refine QU (h:=?_)|apply jB
    rename_i c2
    refine XQ (A:=[_,_]) hO (WP c2 1 [zs.getD i 0 / 256 % 256] _ rfl rfl dq).rd Q6 rfl trivial rfl rfl rfl rfl oq (fun v1 N1 bT=>?_)
    repeat' first|apply jO|apply jN|refine Q1 ?_|refine Q0 ?_|refine Y9 (h:=?_)|refine Wd (h:=?_)|refine Q0e (j:=256) (h:=?_)|refine Q5z (h:=?_)|refine QG (h:=fun _=>?_)|apply jT
    rename_i c3
    refine XQ (A:=[_,_,_]) bT (WP c3 1 [zs.getD i 0 % 256 % 256] _ rfl rfl dq).rd Q6 rfl trivial rfl rfl rfl rfl oq (fun v2 N2 hO2=>?_)
    repeat' first|apply jO|apply jN|apply jT|refine Q1 ?_|refine Q0 ?_|refine Xp (h:=?_)|apply jW
    refine Qa (i,v2,N2,(bs++[zs.getD i 0 / 256 % 256])++[zs.getD i 0 % 256 % 256]) ⟨by dsimp only;omega,by simp only[Vk,Vs];exact hO2,Y1 (Y1 hbs (Nat.mod_lt _ dq)) (Nat.mod_lt _ dq),by simp only[Vk,Vs];omega,?_,fun _=>?_,fun h=>?_⟩ aY aF QK
    ·dsimp only
     rw[Yf,Yf,hval,hxv]
     omega
    ·exact Q6f (Q6f (hhd oq))
    ·dsimp only at h;omega
   ·have htop:=Qql hnn (i:=i) oq
    obtain rfl:=hnil oq
    by_cases h2:256≤zs.getD i 0
    ·repeat' first|apply jS|apply jO|apply jN|apply jT|refine Q1 ?_|refine Y9 (h:=?_)|refine Wd (h:=?_)|refine YB (h:=?_)|refine Ws (j:=256) (h:=?_)|refine YS (h:=?_)|refine QC (h:=?_)|refine Q5z (h:=?_)|(refine Qs (h1:=?_) (h2:=?_)<;>intro hc<;>try omega)|(refine Yx (h1:=?_) (h2:=?_)<;>intro hc<;>try omega)|refine QG (h:=fun _=>?_)|apply jK|refine Q8 rfl ?_|apply jB
     rename_i c2
     refine XQ (A:=[_,_]) hO (WP c2 1 [zs.getD i 0 / 256 % 256] _ rfl rfl dq).rd Q6 rfl trivial rfl rfl rfl rfl oq (fun v1 N1 bT=>?_)
     repeat' first|apply jO|apply jN|refine Q1 ?_|refine Q0 ?_|refine Y9 (h:=?_)|refine Wd (h:=?_)|refine Q0e (j:=256) (h:=?_)|refine Q5z (h:=?_)|refine QG (h:=fun _=>?_)|apply jT
     rename_i c3
     refine XQ (A:=[_,_,_]) bT (WP c3 1 [zs.getD i 0 % 256 % 256] _ rfl rfl dq).rd Q6 rfl trivial rfl rfl rfl rfl oq (fun v2 N2 hO2=>?_)
     repeat' first|apply jO|apply jN|apply jT|refine Q1 ?_|refine Q0 ?_|refine Xp (h:=?_)|apply jW
     refine Qa (i,v2,N2,([]++[zs.getD i 0 / 256 % 256])++[zs.getD i 0 % 256 % 256]) ⟨by dsimp only;omega,by simp only[Vk,Vs];exact hO2,Y1 (Y1 hbs (Nat.mod_lt _ dq)) (Nat.mod_lt _ dq),by simp only[Vk,Vs];omega,?_,fun _=>?_,fun h=>?_⟩ aY aF QK
     ·dsimp only
      rw[Yf,Yf,hval,hxv]
      omega
     ·show zs.getD i 0 / 256 % 256≠0;omega
     ·dsimp only at h;omega
    ·repeat' first|apply jS|apply jO|apply jN|apply jT|refine Q1 ?_|refine Y9 (h:=?_)|refine Wd (h:=?_)|refine YB (h:=?_)|refine Q0e (j:=256) (h:=?_)|refine YS (h:=?_)|refine QC (h:=?_)|refine Q5z (h:=?_)|(refine Qs (h1:=?_) (h2:=?_)<;>intro hc<;>try omega)|(refine Yx (h1:=?_) (h2:=?_)<;>intro hc<;>try omega)|refine QG (h:=fun _=>?_)|apply jK|refine Q8 rfl ?_|refine Q4 rfl ?_|apply jB
     rename_i c3
     refine XQ (A:=[_,_]) hO (WP c3 1 [zs.getD i 0 % 256 % 256] _ rfl rfl dq).rd Q6 rfl trivial rfl rfl rfl rfl oq (fun v2 N2 hO2=>?_)
     repeat' first|apply jO|apply jN|apply jT|refine Q1 ?_|refine Q0 ?_|refine Xp (h:=?_)|apply jW
     refine Qa (i,v2,N2,[]++[zs.getD i 0 % 256 % 256]) ⟨by dsimp only;omega,by simp only[Vk,Vs];exact hO2,Y1 hbs (Nat.mod_lt _ dq),by simp only[Vk,Vs];omega,?_,fun _=>?_,fun h=>?_⟩ aY aF QK
     ·dsimp only
      rw[Q01]at hval
      rw[Yf,Q01,hxv]
      omega
     ·show zs.getD i 0 % 256 % 256≠0;omega
     ·dsimp only at h;omega


theorem Yr {zs:List Nat} {l:List UInt8} {k:Nat} (hz:dG aO zs) (hv:val aO zs=bW (dQ l)) (hl:l.length≤k):zs.length≤(k+1) / 2:=by
 refine hz.bV dq ?_
 rw[hv,show aO=256 ^ 2 from rfl, ← Nat.pow_mul]
 exact QX oq

theorem Q33 (w:World) (v:Value) (a:Int) (k:Nat) (hv:dR v a k) (hk:k≤30000000000000) :
  Calls Tryz.prog 79 #[v] w (aP fun r w'=>Kp [] w w'∧r=Wv (-a)):=by
 obtain⟨p,l,rfl,hl1,rfl⟩:=hv
 refine Q9 [⟨1,1,[],[]⟩] [] au [] Tryz.func79 rfl mixed (by kernel_rfl) Tryz.ntmps79 Tryz.results79 rfl ⟨by simp,by simp⟩ au ?_
 simp only[toS,Qd,Qt,Qk,Ql,ay,Qg,QA,aC]
 repeat' first|apply jS|apply jO|apply jD|apply jN|refine Q3 ?_|refine Qb ?_|refine Q7 ?_|refine QV (h:=?_)|refine Qc fun _=>?_|refine QB fun _=>?_|apply jT
 refine Qf (A:=[_,_]) rfl trivial rfl rfl rfl (fun w hk hs=>X7 w p l oq) fun w v w' _ _ _ hR=>?_
 obtain⟨N1,zs1,hN1,bT,hz1,aV⟩:=hR
 refine⟨N1,hN1,?_⟩
 have hzl1:=Yr hz1 aV hl1
 skip
 refine Q5 trivial rfl rfl rfl (fun w hk hs=>YG w _ _ zs1 (!p) (bT.rd.at hk hs Q6) hz1.lt oq) fun w v w' _ _ _ hR=>?_
 subst hR
 repeat' first|apply jN|apply jT|refine Q2 ?_|refine Q2 ?_|apply jR
 exact QQ 0 rfl rfl rfl (fun a w' st=>⟨st.kp,by show Wv (bQ (!p) (val aO zs1))=_;rw[aV,Qg0]⟩)

theorem Y5 (w:World) (v:Value) (a:Int) (k:Nat) (hv:dR v a k) (hk:k≤30000000000000) :
  Calls Tryz.prog 33 #[v] w (aP fun r w'=>Kp [] w w'∧r=iv a.sign):=by
 obtain⟨p,l,rfl,hl1,rfl⟩:=hv
 refine Q9 [] [] au [] Tryz.func33 rfl mixed (by kernel_rfl) Tryz.ntmps33 Tryz.results33 rfl ⟨by simp,by simp⟩ au ?_
 simp only[toS,Qd,Qt,Qk,Ql,ay,Qg,QA,aC]
 repeat' first|apply jS|apply jO|apply jN|refine Q0 ?_|refine Q7 ?_|refine QB fun _=>?_|apply jT
 refine Qf (A:=[_]) rfl trivial rfl rfl rfl (fun w hk hs=>X7 w p l oq) fun w v w' _ _ _ hR=>?_
 obtain⟨N1,zs1,hN1,bT,hz1,aV⟩:=hR
 refine⟨N1,hN1,?_⟩
 have hzl1:=Yr hz1 aV hl1
 have he:=hz1.eq_nil dq
 rw[aV]at he
 by_cases h0:zs1.length=0
 ·have h1:=he.1 (List.eq_nil_of_length_eq_zero h0)
  rw[h1,Wc]
  repeat' first|apply jS|apply jO|apply jN|apply jT|refine Q0 ?_|refine Zs (h:=?_)|(refine Z9 (h1:=?_) (h2:=?_)<;>intro hc<;>try omega)|apply jV|apply jR|refine Q8 rfl ?_
  exact Qn rfl (fun a w' st=>⟨st.kp,rfl⟩)
 ·have h1:bW (dQ l)≠0:=fun h=>h0 (by rw[he.2 h];rfl)
  cases p with
  | false =>
   have h2:(bQ false (bW (dQ l))).sign=1:=Int.sign_eq_one_of_pos (by simp[bQ];omega)
   rw[h2]
   repeat' first|apply jS|apply jO|apply jN|apply jT|refine Q3 ?_|refine Q0 ?_|refine Qb ?_|refine Zs (h:=?_)|(refine Z9 (h1:=?_) (h2:=?_)<;>intro hc<;>try omega)|apply jK|apply jR|refine Q4 rfl ?_
   exact Qn rfl (fun a w' st=>⟨st.kp,rfl⟩)
  | true =>
   have h2:(bQ true (bW (dQ l))).sign = -1:=Int.sign_eq_neg_one_of_neg (by simp[bQ];omega)
   rw[h2]
   repeat' first|apply jS|apply jO|apply jN|apply jT|refine Q3 ?_|refine Q0 ?_|refine Qb ?_|refine Zs (h:=?_)|(refine Z9 (h1:=?_) (h2:=?_)<;>intro hc<;>try omega)|apply jV|apply jK|apply jR|refine Q8 rfl ?_|refine Q4 rfl ?_
   exact Qn rfl (fun a w' st=>⟨st.kp,rfl⟩)

theorem Q5h (w:World) (v u:Value) (a b:Int) (k:Nat) (hv:dR v a k) (hu:dR u b k) (hk:k≤30000000000000) :
  Calls Tryz.prog 51 #[v,u] w (aP fun r w'=>Kp [] w w'∧r=Wv (a+b)):=by
 obtain⟨p,l,rfl,hl1,rfl⟩:=hv
 obtain⟨q,l',rfl,hl2,rfl⟩:=hu
 refine Q9 [⟨4,2,[],[]⟩,⟨6,2,[],[]⟩,⟨7,2,[],[]⟩] [] au [] Tryz.func51 rfl mixed (by kernel_rfl) Tryz.ntmps51 Tryz.results51 rfl ⟨by simp,by simp⟩ au ?_
 simp only[toS,Qd,Qt,Qk,Ql,ay,Qg,QA,aC]
 repeat' first|apply jS|apply jO|apply jN|refine Q7 ?_|refine Qc fun _=>?_|refine QB fun _=>?_|apply jT
 refine Qf (A:=[_,_,_]) rfl trivial rfl rfl rfl (fun w hk hs=>X7 w p l oq) fun w v w' _ _ _ hR=>?_
 obtain⟨N1,zs1,hN1,bT,hz1,aV⟩:=hR
 refine⟨N1,hN1,?_⟩
 have hzl1:=Yr hz1 aV hl1
 repeat' first|apply jS|apply jO|apply jN|refine Q0 ?_|refine Q7 ?_|apply jT
 refine Qf (A:=[_,_,_]) rfl trivial rfl rfl rfl (fun w hk hs=>X7 w q l' oq) fun w v w' _ _ _ hR=>?_
 obtain⟨N2,zs2,fA,hO2,hz2,bJ⟩:=hR
 refine⟨N2,fA,?_⟩
 have hzl2:=Yr hz2 bJ hl2
 by_cases hpq:p=q
 ·subst hpq
  repeat' first|apply jS|apply jO|apply jD|apply jN|apply jT|refine Q1 ?_|refine Q3 ?_|refine Q0 ?_|refine Qb ?_|refine Qma (h:=?_)|refine Q8 rfl ?_
  refine Qf (A:=[_,_,_]) rfl trivial rfl rfl rfl (fun w hk hs=>Qmt w _ _ _ _ _ _ (bT.rd.at hk hs Q6) (hO2.rd.at hk hs Q6) hz1.lt hz2.lt oq oq) fun w v w' _ _ _ hR=>?_
  obtain⟨N3,dK,hN3,hO3,hz3,hval3,hzl3⟩:=hR
  refine⟨N3,hN3,?_⟩
  rw[aV,bJ]at hval3
  skip
  refine Q5 trivial rfl rfl rfl (fun w hk hs=>YG w _ _ dK p (hO3.rd.at hk hs Q6) hz3 oq) fun w v w' _ _ _ hR=>?_
  subst hR
  repeat' first|apply jN|apply jT|refine Q2 ?_|refine Q2 ?_|apply jV|apply jR
  exact QQ 0 rfl rfl rfl (fun a w' st=>⟨st.kp,by show Wv (bQ p (val aO dK))=_;rw[hval3,Qg3]⟩)
 have hpq':(p == q)=false:=by simpa using hpq
 repeat' first|apply jS|apply jO|apply jN|refine Q3 ?_|refine Q0 ?_|refine Qb ?_|refine Qoa (h:=?_)|apply jT
 rw[hpq']
 repeat' first|apply jS|apply jO|apply jT|refine Q1 ?_|apply jK|refine Q4 rfl ?_
 refine Q5 trivial rfl rfl rfl (fun w hk hs=>Q1v w _ _ _ _ _ _ (bT.rd.at hk hs Q6) (hO2.rd.at hk hs Q6) hz1 hz2 oq oq) fun w v w' _ _ _ hR=>?_
 subst hR
 by_cases hlt:val aO zs1<val aO zs2
 ·have hneg:=YM.2 hlt
  have hlen:zs1.length≤zs2.length:=by
   refine Vg fun h=>?_
   have:=YX (b:=aO) dq hz2 hz1 oq
   omega
  repeat' first|apply jS|apply jD|apply jN|apply jT|refine Q1 ?_|refine Q3 ?_|refine Qb ?_|(refine Yx (h1:=?_) (h2:=?_)<;>intro hc<;>try omega)|apply jK|refine Q4 rfl ?_
  refine Qf (A:=[_,_,_]) rfl trivial rfl rfl rfl (fun w hk hs=>Q5f w _ _ _ _ _ _ (hO2.rd.at hk hs Q6) (bT.rd.at hk hs Q6) hz2.lt hz1.lt oq hlen (Nat.le_of_lt hlt)) fun w v w' _ _ _ hR=>?_
  obtain⟨N3,dK,hN3,hO3,hz3,hval3⟩:=hR
  refine⟨N3,hN3,?_⟩
  have hzl3:dK.length≤(k+1) / 2:=hz3.bV dq (V5 (show val aO dK≤val aO zs2 by omega) (by rw[bJ,show aO=256 ^ 2 from rfl, ← Nat.pow_mul];exact QX oq))
  rw[aV,bJ]at hval3
  rw[aV,bJ]at hlt
  skip
  refine Q5 trivial rfl rfl rfl (fun w hk hs=>YG w _ _ dK q (hO3.rd.at hk hs Q6) hz3.lt oq) fun w v w' _ _ _ hR=>?_
  subst hR
  repeat' first|apply jN|apply jT|refine Q2 ?_|refine Q2 ?_|apply jR
  exact QQ 0 rfl rfl rfl (fun a w' st=>⟨st.kp,by show Wv (bQ q (val aO dK))=_;rw[← Qbz hpq hlt,hval3]⟩)
 ·have hneg:¬fF (val aO zs1) (val aO zs2)<0:=fun h=>hlt (YM.1 h)
  have hlen:zs2.length≤zs1.length:=by
   refine Vg fun h=>hlt ?_
   exact YX (b:=aO) dq hz1 hz2 oq
  repeat' first|apply jS|apply jD|apply jN|apply jT|refine Q1 ?_|refine Q3 ?_|refine Qb ?_|(refine Yx (h1:=?_) (h2:=?_)<;>intro hc<;>try omega)|refine Q8 rfl ?_
  refine Qf (A:=[_,_,_]) rfl trivial rfl rfl rfl (fun w hk hs=>Q5f w _ _ _ _ _ _ (bT.rd.at hk hs Q6) (hO2.rd.at hk hs Q6) hz1.lt hz2.lt oq hlen oq) fun w v w' _ _ _ hR=>?_
  obtain⟨N3,dK,hN3,hO3,hz3,hval3⟩:=hR
  refine⟨N3,hN3,?_⟩
  have hzl3:dK.length≤(k+1) / 2:=hz3.bV dq (V5 (show val aO dK≤val aO zs1 by omega) (by rw[aV,show aO=256 ^ 2 from rfl, ← Nat.pow_mul];exact QX oq))
  rw[aV,bJ]at hval3
  rw[aV,bJ]at hlt
  skip
  refine Q5 trivial rfl rfl rfl (fun w hk hs=>YG w _ _ dK p (hO3.rd.at hk hs Q6) hz3.lt oq) fun w v w' _ _ _ hR=>?_
  subst hR
  repeat' first|apply jN|apply jT|refine Q2 ?_|refine Q2 ?_|apply jV|apply jR
  exact QQ 0 rfl rfl rfl (fun a w' st=>⟨st.kp,by show Wv (bQ p (val aO dK))=_;rw[← Qby hpq hlt,hval3]⟩)

theorem Qmy (w:World) (v u:Value) (a b:Int) (k:Nat) (hv:dR v a k) (hu:dR u b k) (hk:k≤30000000000000) :
  Calls Tryz.prog 40 #[v,u] w (aP fun r w'=>Kp [] w w'∧r=Wv (a-b)):=by
 have hZ:dR (Wv (-b)) (-b) k:=Qi (by rw[Int.natAbs_neg];exact hu.lt)
 obtain⟨p,l,rfl,hl1,rfl⟩:=hv
 obtain⟨q,l',rfl,hl2,rfl⟩:=hu
 refine Q9 [⟨1,1,[],[]⟩] [] au [] Tryz.func40 rfl mixed (by kernel_rfl) Tryz.ntmps40 Tryz.results40 rfl ⟨by simp,by simp⟩ au ?_
 simp only[toS,Qd,Qt,Qk,Ql,ay,Qg,QA,aC]
 repeat' first|apply jS|apply jO|apply jD|apply jN|refine Q7 ?_|refine Qc fun _=>?_|refine QB fun _=>?_|apply jT
 refine Q5 trivial rfl rfl rfl (fun w hk' hs=>Q33 w _ _ k ⟨q,l',rfl,hl2,rfl⟩ hk) fun w v w' _ _ _ hR=>?_
 subst hR
 skip
 refine Q5 trivial rfl rfl rfl (fun w hk' hs=>Q5h w _ _ _ _ k ⟨p,l,rfl,hl1,rfl⟩ hZ hk) fun w v w' _ _ _ hR=>?_
 subst hR
 repeat' first|apply jN|apply jT|refine Q2 ?_|refine Q2 ?_|apply jR
 exact QQ 0 rfl rfl rfl (fun a w' st=>⟨st.kp,by rw[Int.sub_eq_add_neg];rfl⟩)

theorem Qj2 (w:World) (v u:Value) (a b:Int) (k:Nat) (hv:dR v a k) (hu:dR u b k) (hk:k≤29999999999999) :
  Calls Tryz.prog 20 #[v,u] w (aP fun r w'=>Kp [] w w'∧r=iv (a-b).sign):=by
 have hZ:dR (Wv (a-b)) (a-b) (k+1):=by
  rw[Int.sub_eq_add_neg]
  exact dR.add hv.lt (by rw[Int.natAbs_neg];exact hu.lt)
 obtain⟨p,l,rfl,hl1,rfl⟩:=hv
 obtain⟨q,l',rfl,hl2,rfl⟩:=hu
 refine Q9 [] [] au [] Tryz.func20 rfl mixed (by kernel_rfl) Tryz.ntmps20 Tryz.results20 rfl ⟨by simp,by simp⟩ au ?_
 simp only[toS,Qd,Qt,Qk,Ql,ay,Qg,QA,aC]
 repeat' first|apply jS|apply jO|apply jN|refine Q0 ?_|refine Q7 ?_|refine QB fun _=>?_|apply jT
 refine Q5 trivial rfl rfl rfl (fun w hk' hs=>Qmy w _ _ _ _ k ⟨p,l,rfl,hl1,rfl⟩ ⟨q,l',rfl,hl2,rfl⟩ oq) fun w v w' _ _ _ hR=>?_
 subst hR
 skip
 refine Q5 trivial rfl rfl rfl (fun w hk' hs=>Y5 w _ _ (k+1) hZ oq) fun w v w' _ _ _ hR=>?_
 subst hR
 repeat' first|apply jN|apply jT|refine Q0 ?_|apply jR
 exact Qn rfl (fun a w' st=>⟨st.kp,rfl⟩)

theorem Q9z (w:World) (v u:Value) (a b:Int) (k:Nat) (hv:dR v a k) (hu:dR u b k) (hk:k≤15000000000000) :
  Calls Tryz.prog 31 #[v,u] w (aP fun r w'=>Kp [] w w'∧r=Wv (a*b)):=by
 obtain⟨p,l,rfl,hl1,rfl⟩:=hv
 obtain⟨q,l',rfl,hl2,rfl⟩:=hu
 refine Q9 [⟨1,1,[0,1,2,3,4,5,7,6,8,9,10,11],[]⟩] [] au [] Tryz.func31 rfl mixed (by kernel_rfl) Tryz.ntmps31 Tryz.results31 rfl ⟨by simp,by simp⟩ au ?_
 simp only[toS,Qd,Qt,Qk,Ql,ay,Qg,QA,aC]
 repeat' first|apply jS|apply jO|apply jD|apply jN|refine Q3 ?_|refine Qb ?_|refine Q7 ?_|refine Q4g (h:=?_)|refine Qc fun _=>?_|refine QB fun _=>?_|apply jT
 refine Qf (A:=[_,_,_]) rfl trivial rfl rfl rfl (fun w hk hs=>X7 w p l oq) fun w v w' _ _ _ hR=>?_
 obtain⟨N1,zs1,hN1,bT,hz1,aV⟩:=hR
 refine⟨N1,hN1,?_⟩
 have hzl1:=Yr hz1 aV hl1
 skip
 refine Qf (A:=[_,_,_]) rfl trivial rfl rfl rfl (fun w hk hs=>X7 w q l' oq) fun w v w' _ _ _ hR=>?_
 obtain⟨N2,zs2,fA,hO2,hz2,bJ⟩:=hR
 refine⟨N2,fA,?_⟩
 have hzl2:=Yr hz2 bJ hl2
 skip
 refine Qf (A:=[_,_,_]) rfl trivial rfl rfl rfl (fun w hk hs=>Qik w _ _ _ _ _ _ (bT.rd.at hk hs Q6) (hO2.rd.at hk hs Q6) hz1.lt hz2.lt oq oq) fun w v w' _ _ _ hR=>?_
 obtain⟨N3,dK,hN3,hO3,hz3,hval3,hzl4⟩:=hR
 refine⟨N3,hN3,?_⟩
 rw[aV,bJ]at hval3
 have hzl3:dK.length≤k+k:=by
  refine hz3.bV dq ?_
  rw[hval3,Nat.pow_add]
  have h1:=V7 (QX hl1) (Nat.pow_le_pow_left (show 256≤aO by decide) k)
  have h2:=V7 (QX hl2) (Nat.pow_le_pow_left (show 256≤aO by decide) k)
  exact Nat.mul_lt_mul_of_lt_of_le h1 (Nat.le_of_lt h2) (Nat.pow_pos dq)
 skip
 refine Q5 trivial rfl rfl rfl (fun w hk hs=>YG w _ _ dK (p != q) (hO3.rd.at hk hs Q6) hz3.lt oq) fun w v w' _ _ _ hR=>?_
 subst hR
 repeat' first|apply jN|apply jT|refine Q2 ?_|refine Q2 ?_|apply jR
 exact QQ 0 rfl rfl rfl (fun a w' st=>⟨st.kp,by show Wv (bQ (p != q) (val aO dK))=_;rw[hval3,Qg2]⟩)


theorem Qdm (w:World) (p:Bool) (l:List UInt8) (hl:l.length≤31000000000000) :
  Calls Tryz.prog 145 #[wv p l] w (aP fun v w'=>Kp [] w w'∧v=.bool (p && decide (bW (dQ l)≠0))):=by
 cases p with
 | false =>
  refine Q9 [] [] au [] Tryz.func145 rfl mixed (by kernel_rfl) Tryz.ntmps145 Tryz.results145 rfl ⟨by simp,by simp⟩ au ?_
  simp only[toS,Qd,Qt,Qk,Ql,ay,Qg,QA,aC]
  repeat' first|apply jS|apply jO|apply jN|apply jT|refine Q1 ?_|refine Q3 ?_|refine Q0 ?_|refine Qb ?_|refine QC (h:=?_)|refine QB fun _=>?_|refine QU (h:=?_)|apply jR
  exact Qn rfl (fun a w' st=>⟨st.kp,rfl⟩)
 | true =>
  refine Q9 [] [] au [] Tryz.func145 rfl mixed (by kernel_rfl) Tryz.ntmps145 Tryz.results145 rfl ⟨by simp,by simp⟩ au ?_
  simp only[toS,Qd,Qt,Qk,Ql,ay,Qg,QA,aC]
  repeat' first|apply jS|apply jO|apply jN|refine Q1 ?_|refine Q3 ?_|refine Q0 ?_|refine Qb ?_|refine Q7 ?_|refine QB fun _=>?_|apply jT
  refine Qf (A:=[_]) rfl aA rfl rfl rfl (fun w hk hs=>X7 w true l hl) fun w v w' _ _ _ hR=>?_
  obtain⟨N1,zs1,hN1,bT,hz1,aV⟩:=hR
  refine⟨N1,hN1,?_⟩
  have he:=hz1.eq_nil dq
  rw[aV]at he
  by_cases h0:zs1.length=0
  ·have h1:=he.1 (List.eq_nil_of_length_eq_zero h0)
   rw[h1]
   repeat' first|apply jN|apply jT|refine Q0 ?_|refine Zs (h:=?_)|refine QD (h:=?_)|(refine Zg (h1:=?_) (h2:=?_)<;>intro hc<;>try omega)|apply jR
   exact Qn rfl (fun a w' st=>⟨st.kp,rfl⟩)
  ·have h1:bW (dQ l)≠0:=fun h=>h0 (by rw[he.2 h];rfl)
   rw[decide_eq_true h1]
   repeat' first|apply jN|apply jT|refine Q0 ?_|refine Zs (h:=?_)|refine QD (h:=?_)|(refine Zg (h1:=?_) (h2:=?_)<;>intro hc<;>try omega)|apply jR
   exact Qn rfl (fun a w' st=>⟨st.kp,rfl⟩)

theorem Qf3:val aO [1]=1:=rfl
theorem Qju (p:Bool) (X:Nat):∃ p',(p && decide (X≠0))=p'∧bQ p X=bQ p' X:=by
 refine⟨_,rfl,?_⟩
 by_cases h:X=0
 ·subst h;rw[Wc,Wc]
 ·rw[decide_eq_true h,Bool.and_true]

theorem Qdp (w:World) (v u:Value) (a b:Int) (k:Nat) (hv:dR v a k) (hu:dR u b k) (hk:k≤15000000000000) :
  Calls Tryz.prog 120 #[v,u] w (aP fun r w'=>Kp [] w w'∧r=if b=0 then .tuple #[Wv 0,Wv 0,.bool false] else .tuple #[Wv (a / b),Wv (a % b),.bool true]):=by
 obtain⟨p,l,rfl,hl1,rfl⟩:=hv
 obtain⟨q,l',rfl,hl2,rfl⟩:=hu
 obtain⟨p',hp',hps⟩:=Qju p (bW (dQ l))
 rw[hps]
 refine Q9 [⟨8,3,[0,2,3,5,7,1,4,6,8,9,10,11],[]⟩] [] au [] Tryz.func120 rfl mixed (by kernel_rfl) Tryz.ntmps120 Tryz.results120 rfl ⟨by simp,by simp⟩ au ?_
 simp only[toS,Qd,Qt,Qk,Ql,ay,Qg,QA,aC]
 repeat' first|apply jS|apply jO|apply jN|refine Q0 ?_|refine Q7 ?_|refine Qc fun _=>?_|refine QB fun _=>?_|apply jT
 refine Qf (A:=[_,_,_,_]) rfl aA rfl rfl rfl (fun w hk hs=>X7 w q l' oq) fun w v w' _ _ _ hR=>?_
 obtain⟨N2,zs2,fA,hO2,hz2,bJ⟩:=hR
 refine⟨N2,fA,?_⟩
 have hzl2:=Yr hz2 bJ hl2
 have he:=hz2.eq_nil dq
 rw[bJ]at he
 by_cases h0:zs2.length=0
 ·have h1:=he.1 (List.eq_nil_of_length_eq_zero h0)
  rw[h1,if_pos (Wc q)]
  repeat' first|apply jS|apply jO|apply jN|apply jT|refine Q1 ?_|refine Q0 ?_|refine Zs (h:=?_)|refine Q2 ?_|(refine Z9 (h1:=?_) (h2:=?_)<;>intro hc<;>try omega)|refine Zh (h:=?_)|refine Q2 ?_|apply jV|apply jR|refine Q8 rfl ?_
  exact Y7 1 0 rfl rfl rfl rfl rfl rfl rfl (fun a w' st=>⟨st.kp,rfl⟩)
 have hy0:bW (dQ l')≠0:=fun h=>h0 (by rw[he.2 h];rfl)
 rw[if_neg (fun h=>hy0 ((Q4c _ _).1 h))]
 repeat' first|apply jS|apply jO|apply jN|apply jT|refine Q1 ?_|refine Q0 ?_|refine Q7 ?_|refine Zs (h:=?_)|(refine Z9 (h1:=?_) (h2:=?_)<;>intro hc<;>try omega)|apply jK|refine Q4 rfl ?_
 refine Qf (A:=[_,_,_,_]) rfl aA rfl rfl rfl (fun w hk hs=>X7 w p l oq) fun w v w' _ _ _ hR=>?_
 obtain⟨N1,zs1,hN1,bT,hz1,aV⟩:=hR
 refine⟨N1,hN1,?_⟩
 have hzl1:=Yr hz1 aV hl1
 have hv1:val aO zs1<256 ^ k:=by rw[aV];exact QX hl1
 have hv2:val aO zs2<256 ^ k:=by rw[bJ];exact QX hl2
 have hpw:256 ^ k≤aO ^ k:=Nat.pow_le_pow_left dq k
 have hpk:0<256 ^ k:=Nat.pow_pos dq
 repeat' first|refine Q1 ?_|fail
 refine Qf (A:=[_,_,_,_]) rfl trivial rfl rfl rfl (fun w hk hs=>Qps w _ _ _ _ _ _ (bT.rd.at hk hs Q6) (hO2.rd.at hk hs Q6) hz1.lt hz2 oq oq oq) fun w v w' _ _ _ hR=>?_
 obtain⟨N3,N4,v3,v4,dK,gJ,rfl,hN34,hO3,hO4,hz3,hz4,hval3,hlt4⟩:=hR
 refine⟨_,hN34,?_⟩
 rw[Vd N3 N4]
 have hzl4:gJ.length≤k:=hz4.bV dq oq
 have hq3:val aO dK≤val aO zs1:=by
  have h1:val aO dK≤val aO zs2*val aO dK:=Nat.le_mul_of_pos_left _ oq
  omega
 have hzl3:dK.length≤k:=hz3.bV dq oq
 have hlaw:=Qgu p' q (val aO zs1) (val aO zs2) (val aO dK) (val aO gJ) oq (by rw[Vc];exact hval3) hlt4
 rw[aV,bJ]at hlaw
 have he4:=hz4.eq_nil dq
 have hlaw1:=hlaw.1
 have hlaw2:=hlaw.2
 clear hlaw
 repeat' first|apply jS|apply jO|apply jN|refine Q1 ?_|refine Q0 ?_|refine Q7 ?_|refine Qv (h:=?_)|apply jT
 refine Q5 trivial rfl rfl rfl (fun w hk hs=>Qdm w p l oq) fun w v w' _ _ _ hR=>?_
 rw[hp']at hR
 subst hR
 by_cases hp:p'=true∧0<gJ.length
 ·obtain⟨rfl,hp4⟩:=hp
  have hr0:0<val aO gJ:=Nat.pos_of_ne_zero fun h=>by rw[he4.2 h]at hp4;exact absurd hp4 au
  obtain⟨hq1,hq2⟩:=hlaw1 ⟨rfl,hr0⟩
  have hlen:=Q1k hz4 hz2 (Nat.le_of_lt hlt4)
  repeat' first|apply jS|apply jO|apply jN|apply jT|refine Q1 ?_|refine Zs (h:=?_)|refine QD (h:=?_)|(refine Zg (h1:=?_) (h2:=?_)<;>intro hc<;>try omega)|refine QG (h:=fun _=>?_)|refine Q8 rfl ?_
  rename_i b9
  have hO9:bP [(b9,.cells ⟨[.int .i64 1]⟩ 3)] (.slice (some ⟨b9,0,none⟩) 1 1) 1 [1]:=Yn b9 1 [1] _ rfl rfl oq
  refine Qf (A:=[_,_,_,_,_]) rfl trivial rfl rfl rfl (fun w hk hs=>Qmt w _ _ _ _ _ _ (hO3.rd.at hk hs Q6) (hO9.rd.at hk hs Q6) hz3.lt (fun x hx=>by rw[List.mem_singleton]at hx;rw[hx];decide) oq oq) fun w v w' _ _ _ hR=>?_
  obtain⟨N5,zs5,jh,iL,hz5,dW,hzl5⟩:=hR
  refine⟨N5,jh,?_⟩
  rw[Qf3]at dW
  repeat' first|apply jO|apply jN|refine Q1 ?_|refine Q0 ?_|apply jT
  refine Qf (A:=[_,_,_,_,_]) rfl trivial rfl rfl rfl (fun w hk hs=>Q5f w _ _ _ _ _ _ (hO2.rd.at hk hs Q6) (hO4.rd.at hk hs Q6) hz2.lt hz4.lt oq hlen oq) fun w v w' _ _ _ hR=>?_
  obtain⟨N6,zs6,hN6,gY,hz6,hval6⟩:=hR
  refine⟨N6,hN6,?_⟩
  have hzl6:zs6.length≤k:=hz6.bV dq oq
  repeat' first|apply jS|apply jD|apply jN|refine Q1 ?_|refine Q3 ?_|refine Q0 ?_|refine Qb ?_|refine Q7 ?_|apply jT
  refine Q5 aA rfl rfl rfl (fun w hk hs=>Qdm w p l oq) fun w v w' _ _ _ hR=>?_
  rw[hp']at hR
  subst hR
  repeat' first|refine Q4g (h:=?_)|fail
  refine Q5 aA rfl rfl rfl (fun w hk hs=>YG w _ _ zs5 (true != q) (iL.rd.at hk hs Q6) hz5 oq) fun w v w' _ _ _ hR=>?_
  subst hR
  skip
  refine Q5 aA rfl rfl rfl (fun w hk hs=>YG w _ _ zs6 false (gY.rd.at hk hs Q6) hz6.lt oq) fun w v w' _ _ _ hR=>?_
  subst hR
  repeat' first|apply jN|apply jT|refine Q0 ?_|refine Q2 ?_|refine Q2 ?_|apply jR
  refine Y7 2 1 rfl rfl rfl rfl rfl rfl rfl (fun a w' st=>⟨st.kp,?_⟩)
  show Value.tuple #[Wv (bQ (true != q) (val aO zs5)),Wv (bQ false (val aO zs6)),_]=_
  rw[dW,hq1, ← hq2, ← bJ,hval6]
  rfl
 have hq:=hlaw2 (fun⟨h1,h2⟩=>hp ⟨h1,by
  refine Nat.pos_of_ne_zero fun h=>?_
  have:=List.eq_nil_of_length_eq_zero h
  rw[this]at h2
  exact absurd h2 (by simp[val])⟩)
 obtain⟨hq1,hq2⟩:=hq
 have hnp:p'=true→gJ.length=0:=fun h=>by
  refine Vg fun h'=>hp ⟨h,by omega⟩
 cases p' with
 | false =>
  repeat' first|apply jS|apply jD|apply jN|apply jT|refine Q1 ?_|refine Q3 ?_|refine Qb ?_|refine Q7 ?_|refine QC (h:=?_)|refine Q4 rfl ?_|refine QU (h:=?_)|apply jK
  refine Q5 aA rfl rfl rfl (fun w hk hs=>Qdm w p l oq) fun w v w' _ _ _ hR=>?_
  rw[hp']at hR
  subst hR
  repeat' first|refine Q4g (h:=?_)|fail
  refine Q5 aA rfl rfl rfl (fun w hk hs=>YG w _ _ dK (false != q) (hO3.rd.at hk hs Q6) hz3.lt oq) fun w v w' _ _ _ hR=>?_
  subst hR
  skip
  refine Q5 aA rfl rfl rfl (fun w hk hs=>YG w _ _ gJ false (hO4.rd.at hk hs Q6) hz4.lt oq) fun w v w' _ _ _ hR=>?_
  subst hR
  repeat' first|apply jN|apply jT|refine Q0 ?_|refine Q2 ?_|refine Q2 ?_|apply jR
  refine Y7 1 0 rfl rfl rfl rfl rfl rfl rfl (fun a w' st=>⟨st.kp,?_⟩)
  show Value.tuple #[Wv (bQ (false != q) (val aO dK)),Wv (bQ false (val aO gJ)),_]=_
  rw[hq1, ← hq2]
  rfl
 | true =>
  have hz0:=hnp rfl
  repeat' first|apply jS|apply jD|apply jN|apply jT|refine Q1 ?_|refine Q3 ?_|refine Qb ?_|refine Q7 ?_|refine Zs (h:=?_)|refine QD (h:=?_)|(refine Zg (h1:=?_) (h2:=?_)<;>intro hc<;>try omega)|apply jK|refine Q4 rfl ?_
  refine Q5 aA rfl rfl rfl (fun w hk hs=>Qdm w p l oq) fun w v w' _ _ _ hR=>?_
  rw[hp']at hR
  subst hR
  repeat' first|refine Q4g (h:=?_)|fail
  refine Q5 aA rfl rfl rfl (fun w hk hs=>YG w _ _ dK (true != q) (hO3.rd.at hk hs Q6) hz3.lt oq) fun w v w' _ _ _ hR=>?_
  subst hR
  skip
  refine Q5 aA rfl rfl rfl (fun w hk hs=>YG w _ _ gJ false (hO4.rd.at hk hs Q6) hz4.lt oq) fun w v w' _ _ _ hR=>?_
  subst hR
  repeat' first|apply jN|apply jT|refine Q0 ?_|refine Q2 ?_|refine Q2 ?_|apply jR
  refine Y7 1 0 rfl rfl rfl rfl rfl rfl rfl (fun a w' st=>⟨st.kp,?_⟩)
  show Value.tuple #[Wv (bQ (true != q) (val aO dK)),Wv (bQ false (val aO gJ)),_]=_
  rw[hq1, ← hq2]
  rfl

end Go.Proofs.YtljmapfihjkafaaGreatDoor

