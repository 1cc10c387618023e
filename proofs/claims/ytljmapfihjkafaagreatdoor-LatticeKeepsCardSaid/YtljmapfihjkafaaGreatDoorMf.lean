import Derived.Test.YtljmapfihjkafaaGreatDoorMe
import Derived.Laws.StructEq
import Derived.Test.YtljmapfihjkafaaGreatDoorMd
set_option maxHeartbeats 16000000
namespace Go.Proofs.YtljmapfihjkafaaGreatDoor
open Go Go.RowKit
set_option linter.unusedSimpArgs false
set_option linter.unusedVariables false
set_option linter.unusedSectionVars false

theorem RdY.blk {c:Cx} {b cap n:Nat} {xs:List Nat} {rest:List Value} {T:TypeId} {fz:Nat × Nat} (hl:xs.length=n) (hc:n≤cap):RdY c [(b,.cells (rowCY xs rest) T fz)] (.slice (some ⟨b,0,none⟩) n cap) n xs:=by
 refine⟨by simp[hl],_,cap,rfl,hc,fun h0=>⟨⟨b,0,rfl⟩,fun w hw j u hu=>?_⟩⟩
 rw[XA,Nat.zero_add]
 refine QF (hw.2.blk (b,_) (List.mem_cons_self ..)) ?_
 have e:(rowCY xs rest)[j]?=(xs.map yv++rest)[j]?:=by simp[rowCY]
 rw[e,List.getElem?_append_left (List.getElem?_eq_some_iff.1 hu).1]
 exact hu

section
variable {c:Cx} {Q:Exit→Act→World→Prop} {m:Mode} {F:SFrame} {H:SHeap} {r:List SOp} {g:Option (Option Tmp × Bool)} {ns:Bool} {d:Tmp} {ty t t':TypeId} {x y:Operand} {l:List UInt8} {i:Nat}
end

def body:List UInt8→List UInt8
 | x::l=>if x == 45 then l else x::l
 | []=>[]

theorem WY.hd {w:World} {A:Option Addr} {n k cap:Nat} {xs:List Nat} (hv:WY w (.slice A n cap) n xs) (hk:k≤n):WY w (.slice A k cap) k (xs.take k):=by
 have hl:=hv.len
 obtain⟨h1,A',cap',h2,h3,h4⟩:=hv
 simp only[Value.slice.injEq]at h2
 obtain⟨rfl,_,rfl⟩:=h2
 refine⟨by simp;omega,A,cap,rfl,by omega,fun h0=>⟨(h4 oq).1,fun j u hu=>?_⟩⟩
 obtain⟨⟨b,o,rfl⟩,h5⟩:=h4 oq
 refine h5 j u ?_
 rw[List.map_take,List.getElem?_take]at hu
 split at hu
 ·exact hu
 ·cases hu
theorem WY.cap {w:World} {A:Option Addr} {n cap:Nat} {xs:List Nat} (h:WY w (.slice A n cap) n xs):n≤cap:=by
 obtain⟨_,A',cap',h2,h3,_⟩:=h
 simp only[Value.slice.injEq]at h2
 obtain⟨_,_,rfl⟩:=h2
 exact h3

section
variable {c:Cx} {Q:Exit→Act→World→Prop} {m:Mode} {F:SFrame} {H:SHeap} {r:List SOp} {g:Option (Option Tmp × Bool)} {ns:Bool} {d:Tmp} {ty t t':TypeId} {x y:Operand}
end


class TWide (P:Program) (t:TypeId):Prop where
 guard:P.eqGuardType P.depth t=false
 eql:∀ (w:World) (p q:Bool) (l m:List UInt8),(Op.equalIn 10000 t (wv p l) (wv q m)).run P w=.ok (p == q && decide (l=m)) w

instance:TWide Tryz.prog 35:=⟨Tryz.eqGuardType35,fun w p q l m=>by
 have hf:Tryz.prog.underlying 35=some (.struct (Tryz.prog.fieldsOf 35)):=by rw[Program.fieldsOf,Tryz.underlying35]
 rw[run_equalIn_agg w 9999 35 _ _ hf Tryz.stoodInHeld35]
 simp only[Program.fieldsOf,Tryz.underlying35]
 have h4:∀ (w:World) (xs:Array Value) (a b:Value),xs=#[a,b]→(part 4 xs 0).run Tryz.prog w=.ok a w:=by
  intro w xs a b e
  subst e
  simp[part,isAgg,run_underlying Tryz.underlying4,Sem.run_bind]
 have h9:∀ (w:World) (xs:Array Value) (a b:Value),xs=#[a,b]→(part 9 xs 1).run Tryz.prog w=.ok b w:=by
  intro w xs a b e
  subst e
  simp[part,isAgg,run_underlying Tryz.underlying9,Sem.run_bind]
 have g1:=h4 w #[.bool p,sv l] _ _ rfl
 have g2:=h4 w #[.bool q,sv m] _ _ rfl
 have g3:=h9 w #[.bool p,sv l] _ _ rfl
 have g4:=h9 w #[.bool q,sv m] _ _ rfl
 have g5:=run_equalIn_bool' (P:=Tryz.prog) w 9998 4 p q Tryz.underlying4
 have g6:=run_equalIn_string (P:=Tryz.prog) w 9998 9 ⟨l.toArray⟩ ⟨m.toArray⟩ Tryz.underlying9
 rw[Wu,Wu]at g6
 have hlm:(l == m)=decide (l=m):=by
  by_cases h:l=m
  ·simp[h]
  ·simp[h]
 rw[hlm]at g6
 simp only[Op.eqFields]
 rw[if_pos dq,if_pos dq]
 simp only[Sem.run_bind,g1,g2,g3,g4,g5,g6,Result.andThen_ok]
 cases hpq:(p == q)with
 | false=>simp
 | true =>
  simp only[Bool.not_true,Bool.false_eq_true,if_false,Sem.run_bind,g3,g4,g6,Result.andThen_ok,Bool.true_and]
  cases decide (l=m)<;>simp⟩

section
variable {c:Cx} {Q:Exit→Act→World→Prop} {m:Mode} {F:SFrame} {H:SHeap} {r:List SOp} {g:Option (Option Tmp × Bool)} {ns:Bool} {d:Tmp} {ty t t':TypeId} {x y:Operand}
theorem Qpf {p q:Bool} {l k:List UInt8} [hT:TWide c.P t] (hd:dstOk c.n (some d)=true) (hg:guardF F g=some true) (hx:ev F x=some (wv p l)) (hy:ev F y=some (wv q k))
  (h:JO c Q m r ((d,.bool (!(p == q && decide (l=k))))::F) H):JO c Q m (⟨some d,.binOp .neq t x y t',ty,g,.mov,ns⟩::r) F H :=
 Zz hd hg (fun a w fr=>by
  simp only[execOp,fr.ev hx,fr.ev hy,Sem.run_bind,run_eqGuard_agg w .neq t x y _ _ hT.guard,Result.andThen_ok,run_neq_struct,hT.eql,Sem.run_pure]) h
end

theorem IsZ.i64 {n:Int} (h1 : -9223372036854775808≤n) (h2:n<9223372036854775808):IsZ (Wv n) n 8:=Qf (by
 have:n.natAbs≤9223372036854775808:=by omega
 exact Nat.lt_of_le_of_lt this dq)


abbrev B16:Nat:=65536

theorem OwnN.hd {N:SHeap} {A:Option Addr} {n k cap:Nat} {xs:List Nat} (h:OwnN N (.slice A n cap) n xs) (hk:k≤n):OwnN N (.slice A k cap) k (xs.take k):=by
 have hl:=h.len
 obtain⟨h1,⟨h2,h3,h4⟩|⟨b,cap',cur,h2,h3,h4,h5,h6,h7⟩⟩:=h
 ·subst h4
  subst h3
  obtain rfl:k=0:=by omega
  have h0:xs=[]:=List.eq_nil_of_length_eq_zero hl
  subst h0
  rw[h2]
  exact OwnN.nil
 ·simp only[Value.slice.injEq,true_and]at h2
  obtain⟨rfl,rfl⟩:=h2
  refine⟨by simp;omega,.inr ⟨b,cap,cur,rfl,h3,by omega,h5,h6,?_⟩⟩
  rw[Nat.mul_one]at h7 ⊢
  rw[List.map_take, ← h7,List.take_take,Nat.min_eq_left hk]

def NewR (w w':World) (v:Value) (z m:Nat):Prop:=∃ N zs,New N w w'∧OwnN N v zs.length zs∧(∀ x∈zs,x<B16)∧val B16 zs=z∧zs.length≤m
def NewD (w w':World) (v:Value) (z:Nat):Prop:=∃ N zs,New N w w'∧OwnN N v zs.length zs∧Dig B16 zs∧val B16 zs=z

theorem ZQ (b:Nat) (l:List Nat) (x:Nat):val b (l++[x])=val b l+b ^ l.length*x:=by
 rw[Yw,val,val,Nat.mul_zero,Nat.add_zero]
theorem Zw {b:Nat} {l:List Nat} {x:Nat} (h:∀ y∈l,y<b) (hx:x<b):∀ y∈l++[x],y<b:=fun y hy=>by
 rcases List.mem_append.1 hy with h1|h1
 ·exact h y h1
 ·rw[List.mem_singleton.1 h1];exact hx
theorem Q0k (l:List Nat) (m:Nat) (h0:0<m) (h:m≤l.length):bval (l.take m)=l.getD (m-1) 0+256*bval (l.take (m-1)):=by
 have:=Q7k l (m-1) oq
 rwa [show m-1+1=m by omega]at this
theorem Qeu {P a b x V:Nat}:V+P*(a+256*b)+P*65536*x=V+P*(a+256*(b+256*x)):=by
 rw[Nat.mul_assoc,Nat.add_assoc, ← Nat.mul_add]
 congr 2
 omega

theorem Yu (w:World) (p:Bool) (l:List UInt8) (hl:l.length≤6000000000000) :
  Calls Tryz.prog 69 #[wv p l] w (Ret fun v w'=>Kp [] w w'∧NewD w w' v (bval (bts l))):=by
 have hbl:=Q5z l
 refine Q9 [] [] spq [] Tryz.func69 rfl mixed (by kernel_rfl) Tryz.ntmps69 Tryz.results69 rfl ⟨by simp,by simp⟩ spq ?_
 simp only[toS,textOps,toSOp,kindAt,kindOf,odAt,sopsAt,ordOf,zipF]
 repeat' first|apply jS|apply jO|apply jN|apply jT|refine Q1 ?_|refine Q3 ?_|refine Q0 ?_|refine Qb ?_|refine Q0q (h:=?_)|refine Qt fun _=>?_|apply jB
 rename_i b1
 refine Qi (ι:=Int × Value × SHeap × List Nat) ⟨fun z=>[(5,iv z.1),(3,z.2.1),(1,.pointer (some ⟨b1,0,none⟩))],fun z=>(b1,.cells #[.bool p,sv l] 35)::(z.2.2.1++[]),
  fun z=>z.1=l.length-2*z.2.2.2.length ∧ -2≤z.1∧OwnN z.2.2.1 z.2.1 z.2.2.2.length z.2.2.2∧(∀ x∈z.2.2.2,x<B16)∧val B16 z.2.2.2+B16 ^ z.2.2.2.length*bval ((bts l).take z.1.toNat)=bval (bts l),fun z=>(z.1+2).toNat⟩
  ((l.length:Int),_,[],[]) ⟨by simp,by simp,OwnN.nil,fun _ h=>absurd h List.not_mem_nil,by
   dsimp only
   rw[Int.toNat_natCast,List.take_of_length_le oq]
   simp[val]⟩ cqq (by exact HSub.at 0 rfl (HSub.nil _)) (fun z hz=>?_)
 obtain⟨i,v,N,zs⟩:=z
 obtain⟨hi,hi2,hO,hz,hval⟩:=hz
 dsimp only at hi hi2 hO hz hval ⊢
 by_cases hin:0<i
 ·obtain⟨m,rfl⟩:∃ m:Nat,i=m:=⟨i.toNat,by omega⟩
  rw[Int.toNat_natCast]at hval
  have hm0:0<m:=by omega
  have hml:m≤l.length:=by omega
  have hd1:(bts l).getD (m-1) 0<256:=Qg1
  have hd2:(bts l).getD (m-2) 0<256:=Qg1
  by_cases hm1:1<m
  ·repeat' first|apply jS|apply jO|apply jN|apply jT|refine Q1 ?_|refine Q3 ?_|refine Q0 ?_|refine Qb ?_|refine Zy (i:=256) (h:=?_)|refine Z6 (h:=?_)|refine Yk (h:=?_)|refine Q6g (h:=?_)|refine Qdo (h:=?_)|refine Q9p (h:=?_)|(refine Z3 (h1:=?_) (h2:=?_)<;>intro hc<;>try (exfalso;omega))|refine QA (h:=fun _=>?_)|apply jK|refine Q8 rfl ?_|apply jB
   rename_i b2
   refine Zc (A:=[_,_]) hO (ZU b2 1 [(bts l).getD (m-1) 0+256*(bts l).getD (m-2) 0] _ rfl rfl dq).rd Q5 rfl trivial rfl rfl rfl rfl oq (fun v' N' hO'=>?_)
   repeat' first|apply jO|apply jN|apply jT|refine Q1 ?_|refine Q0 ?_|refine Q6g (h:=?_)|apply jW
   refine Qa (((m-2:Nat):Int),v',N',zs++[(bts l).getD (m-1) 0+256*(bts l).getD (m-2) 0]) ⟨by simp only[List.length_append,List.length_singleton];omega,by dsimp only;omega,by rw[List.length_append];exact hO',Zw hz (by show _<65536;omega),?_⟩ dgq cqq Qz
   dsimp only
   rw[ZQ,List.length_append,List.length_singleton,Int.toNat_natCast, ← hval,Q0k _ m hm0 oq,Q0k _ (m-1) oq oq,show m-1-1=m-2 by omega,Nat.pow_succ]
   exact Qeu
  ·repeat' first|apply jS|apply jO|apply jN|apply jT|refine Q1 ?_|refine Q3 ?_|refine Q0 ?_|refine Qb ?_|refine Yk (h:=?_)|refine Qdo (h:=?_)|refine Q9p (h:=?_)|(refine Z3 (h1:=?_) (h2:=?_)<;>intro hc<;>try (exfalso;omega))|refine QA (h:=fun _=>?_)|apply jK|refine Q8 rfl ?_|refine Q4 rfl ?_|apply jB
   rename_i b2
   refine Zc (A:=[_,_]) hO (ZU b2 1 [(bts l).getD (m-1) 0] _ rfl rfl dq).rd Q5 rfl trivial rfl rfl rfl rfl oq (fun v' N' hO'=>?_)
   repeat' first|apply jO|apply jN|apply jT|refine Q1 ?_|refine Q0 ?_|refine YM (h:=?_)|apply jW
   refine Qa ((m:Int)-2,v',N',zs++[(bts l).getD (m-1) 0]) ⟨by simp only[List.length_append,List.length_singleton];omega,by dsimp only;omega,by rw[List.length_append];exact hO',Zw hz (by show _<65536;omega),?_⟩ dgq cqq Qz
   dsimp only
   obtain rfl:m=1:=by omega
   rw[ZQ,List.length_append,List.length_singleton,show ((1:Nat):Int)-2 = -1 from rfl,show (-1:Int).toNat=0 from rfl,List.take_zero,XZ,Nat.mul_zero,Nat.add_zero, ← hval,Q0k _ 1 dq oq,Nat.sub_self,List.take_zero,XZ,Nat.mul_zero,Nat.add_zero]
 ·repeat' first|apply jS|apply jO|apply jN|apply jT|refine Q1 ?_|(refine Z3 (h1:=?_) (h2:=?_)<;>intro hc<;>try (exfalso;omega))|apply jU|apply jE|refine Q4 rfl ?_|refine Qe ?_
  obtain⟨A,cap,rfl⟩:=hO.form
  refine Q6 trivial rfl rfl rfl (fun w hk hs=>Q4g w _ _ _ _ (hO.rd.at hk hs Q5) oq) fun w v w' _ _ _ hR=>?_
  obtain⟨q,hq,rfl,hnq⟩:=hR
  repeat' first|apply jN|apply jT|refine Q0 ?_|apply jR
  have hown:=hO.hd hq
  rw[← hnq]at hown
  have hql:(nrm zs).length=q:=hown.len
  refine Qh rfl (fun a w' st=>⟨st.kp,N,nrm zs,st.newOf rfl Q5,by rw[hql];exact hown,Dig.of hz,?_⟩)
  rw[show i.toNat=0 by omega,List.take_zero,XZ,Nat.mul_zero,Nat.add_zero]at hval
  rw[Zb,hval]


theorem Q5f {l:List Nat} {i:Nat} (h:¬i<l.length):l.getD i 0=0:=by rw[List.getD,List.getElem?_eq_none oq];rfl

theorem Qjj (w:World) (v u:Value) (n k:Nat) (xs ys:List Nat) (hv:WN w v n xs) (hu:WN w u k ys) (hx:∀ x∈xs,x<B16) (hy:∀ x∈ys,x<B16) (hn:n≤4500000000000) (hk:k≤4500000000000) :
  Calls Tryz.prog 100 #[v,u] w (Ret fun v w'=>Kp [] w w'∧NewR w w' v (val B16 xs+val B16 ys) (n+k+1)):=by
 have hlx:=hv.len
 have hly:=hu.len
 obtain⟨M,hM1,hM2,hM3⟩:∃ M,n≤M∧k≤M∧(M=n∨M=k):=⟨max n k,by omega,by omega,by omega⟩
 refine Q9 [] [] spq [] Tryz.func100 rfl mixed (by kernel_rfl) Tryz.ntmps100 Tryz.results100 rfl ⟨by simp,by simp⟩ spq ?_
 simp only[toS,textOps,toSOp,kindAt,kindOf,odAt,sopsAt,ordOf,zipF]
 repeat' first|apply jS|apply jO|apply jN|apply jT|refine Q0 ?_|apply jB
 refine Qi (ι:=Nat × Nat × Value × SHeap × List Nat) ⟨fun z=>[(7,nv z.1),(6,nv z.2.1),(5,z.2.2.1),(0,v),(1,u)],fun z=>z.2.2.2.1++[],
  fun z=>z.2.2.2.2.length=z.1∧(z.1≤M∨z.1=M+1∧z.2.1=0)∧z.2.1≤1∧OwnN z.2.2.2.1 z.2.2.1 z.1 z.2.2.2.2∧(∀ x∈z.2.2.2.2,x<B16)∧val B16 z.2.2.2.2+B16 ^ z.1*z.2.1=val B16 (xs.take z.1)+val B16 (ys.take z.1),fun z=>M+2-z.1⟩
  (0,0,_,[],[]) ⟨rfl,.inl (Nat.zero_le _),Nat.zero_le _,OwnN.nil,fun _ h=>absurd h List.not_mem_nil,by simp[val]⟩ cqq (by exact HSub.nil _) (fun z hz=>?_)
 obtain⟨i,c,vo,N,zs⟩:=z
 obtain⟨hlz,hi,hc1,hO,hz,hval⟩:=hz
 dsimp only at hlz hi hc1 hO hz hval ⊢
 have hxi:xs.getD i 0<65536:=Qy (b:=B16) dq hx i
 have hyi:ys.getD i 0<65536:=Qy (b:=B16) dq hy i
 by_cases hin:i<n
 ·by_cases hik:i<k
  ·repeat' first|apply jS|apply jO|apply jN|apply jT|refine Q1 ?_|refine Q0 ?_|refine ZI (h:=?_)|refine Xn (h:=?_)|refine Z8 (h:=?_)|refine Wd (j:=65536) (h:=?_)|refine Z6 (h:=?_)|refine Ql ?_|(refine Qk (h1:=?_) (h2:=?_)<;>intro hc<;>try (exfalso;omega))|refine QA (h:=fun _=>?_)|apply jK|refine Q8 rfl ?_|refine QJ (h:=?_)|apply jB
   rename_i b2
   refine Zc (A:=[_]) hO (ZU b2 1 [(c+xs.getD i 0+ys.getD i 0) % 65536] _ rfl rfl dq).rd Q5 rfl trivial rfl rfl rfl rfl oq (fun v' N' hO'=>?_)
   repeat' first|apply jO|apply jN|apply jT|refine Q1 ?_|refine Q0 ?_|refine Xy (j:=65536) (h:=?_)|refine Qg ?_|apply jW
   refine Qa (i+1,(c+xs.getD i 0+ys.getD i 0) / 65536,v',N',zs++[(c+xs.getD i 0+ys.getD i 0) % 65536]) ⟨by simp only[List.length_append,List.length_singleton];omega,by dsimp only;omega,by dsimp only;omega,hO',Zw hz (Nat.mod_lt _ dq),?_⟩ dgq cqq Qz
   dsimp only
   rw[ZQ,hlz,QD,QD,Nat.pow_succ]
   have h:=Yl (b:=B16) (P:=B16 ^ i) (c:=c) (s:=c+xs.getD i 0+ys.getD i 0) (x:=xs.getD i 0) (y:=ys.getD i 0) oq hval
   rw[Nat.add_add_add_comm, ← Nat.add_assoc]
   exact h
  ·have hy0:ys.getD i 0=0:=Q5f oq
   repeat' first|apply jS|apply jO|apply jN|apply jT|refine Q1 ?_|refine Q0 ?_|refine ZI (h:=?_)|refine Xn (h:=?_)|refine Z8 (h:=?_)|refine Wd (j:=65536) (h:=?_)|refine Z6 (h:=?_)|refine Ql ?_|(refine Qk (h1:=?_) (h2:=?_)<;>intro hc<;>try (exfalso;omega))|refine QA (h:=fun _=>?_)|apply jK|refine Q8 rfl ?_|refine Q4 rfl ?_|refine QJ (h:=?_)|apply jB
   rename_i b2
   refine Zc (A:=[_]) hO (ZU b2 1 [(c+xs.getD i 0) % 65536] _ rfl rfl dq).rd Q5 rfl trivial rfl rfl rfl rfl oq (fun v' N' hO'=>?_)
   repeat' first|apply jO|apply jN|apply jT|refine Q1 ?_|refine Q0 ?_|refine Xy (j:=65536) (h:=?_)|refine Qg ?_|apply jW
   refine Qa (i+1,(c+xs.getD i 0) / 65536,v',N',zs++[(c+xs.getD i 0) % 65536]) ⟨by simp only[List.length_append,List.length_singleton];omega,by dsimp only;omega,by dsimp only;omega,hO',Zw hz (Nat.mod_lt _ dq),?_⟩ dgq cqq Qz
   dsimp only
   rw[ZQ,hlz,QD,QD,Nat.pow_succ]
   have h:=Yl (b:=B16) (P:=B16 ^ i) (c:=c) (s:=c+xs.getD i 0) (x:=xs.getD i 0) (y:=ys.getD i 0) oq hval
   rw[Nat.add_add_add_comm, ← Nat.add_assoc]
   exact h
 ·have hx0:xs.getD i 0=0:=Q5f oq
  by_cases hik:i<k
  ·repeat' first|apply jS|apply jO|apply jN|apply jT|refine Q1 ?_|refine Q0 ?_|refine ZI (h:=?_)|refine Xn (h:=?_)|refine Z8 (h:=?_)|refine Wd (j:=65536) (h:=?_)|refine Z6 (h:=?_)|refine Ql ?_|refine Qx (h:=?_)|(refine Qk (h1:=?_) (h2:=?_)<;>intro hc<;>try (exfalso;omega))|refine QA (h:=fun _=>?_)|apply jK|refine Q8 rfl ?_|refine Q4 rfl ?_|refine QJ (h:=?_)|apply jB
   rename_i b2
   refine Zc (A:=[_]) hO (ZU b2 1 [(c+ys.getD i 0) % 65536] _ rfl rfl dq).rd Q5 rfl trivial rfl rfl rfl rfl oq (fun v' N' hO'=>?_)
   repeat' first|apply jO|apply jN|apply jT|refine Q1 ?_|refine Q0 ?_|refine Xy (j:=65536) (h:=?_)|refine Qg ?_|apply jW
   refine Qa (i+1,(c+ys.getD i 0) / 65536,v',N',zs++[(c+ys.getD i 0) % 65536]) ⟨by simp only[List.length_append,List.length_singleton];omega,by dsimp only;omega,by dsimp only;omega,hO',Zw hz (Nat.mod_lt _ dq),?_⟩ dgq cqq Qz
   dsimp only
   rw[ZQ,hlz,QD,QD,Nat.pow_succ]
   have h:=Yl (b:=B16) (P:=B16 ^ i) (c:=c) (s:=c+ys.getD i 0) (x:=xs.getD i 0) (y:=ys.getD i 0) oq hval
   rw[Nat.add_add_add_comm, ← Nat.add_assoc]
   exact h
  ·have hy0:ys.getD i 0=0:=Q5f oq
   by_cases hc0:0<c
   ·repeat' first|apply jS|apply jO|apply jN|apply jT|refine Q1 ?_|refine Q0 ?_|refine Z8 (h:=?_)|refine Wd (j:=65536) (h:=?_)|refine Qx (h:=?_)|(refine Qk (h1:=?_) (h2:=?_)<;>intro hc<;>try (exfalso;omega))|(refine Z3 (h1:=?_) (h2:=?_)<;>intro hc<;>try (exfalso;omega))|refine QA (h:=fun _=>?_)|apply jK|refine Q8 rfl ?_|refine Q4 rfl ?_|apply jB
    rename_i b2
    refine Zc (A:=[_]) hO (ZU b2 1 [(c) % 65536] _ rfl rfl dq).rd Q5 rfl trivial rfl rfl rfl rfl oq (fun v' N' hO'=>?_)
    repeat' first|apply jO|apply jN|apply jT|refine Q1 ?_|refine Q0 ?_|refine Xy (j:=65536) (h:=?_)|refine Qg ?_|apply jW
    refine Qa (i+1,(c) / 65536,v',N',zs++[(c) % 65536]) ⟨by simp only[List.length_append,List.length_singleton];omega,by dsimp only;omega,by dsimp only;omega,hO',Zw hz (Nat.mod_lt _ dq),?_⟩ dgq cqq Qz
    dsimp only
    rw[ZQ,hlz,QD,QD,Nat.pow_succ]
    have h:=Yl (b:=B16) (P:=B16 ^ i) (c:=c) (s:=c) (x:=xs.getD i 0) (y:=ys.getD i 0) oq hval
    rw[Nat.add_add_add_comm, ← Nat.add_assoc]
    exact h
   ·repeat' first|apply jS|apply jO|apply jN|apply jT|refine Q1 ?_|refine Q0 ?_|refine Z8 (h:=?_)|refine Qx (h:=?_)|(refine Qk (h1:=?_) (h2:=?_)<;>intro hc<;>try (exfalso;omega))|(refine Z3 (h1:=?_) (h2:=?_)<;>intro hc<;>try (exfalso;omega))|apply jU|apply jE|apply jR|refine Q4 rfl ?_|refine Qe ?_
    obtain rfl:c=0:=by omega
    rw[Nat.mul_zero,Nat.add_zero,List.take_of_length_le oq,List.take_of_length_le oq]at hval
    exact Qh rfl (fun a w' st=>⟨st.kp,N,zs,st.newOf rfl Q5,by rw[hlz];exact hO,hz,hval,by omega⟩)


theorem XO {b P c x y d c' v a a':Nat} (hs:d+(c+y)=x+b*c') (h:v+a=a'+P*c):v+P*d+(a+P*y)=(a'+P*x)+P*b*c':=by
 have e:P*d+(P*c+P*y)=P*x+P*b*c':=by rw[← Nat.mul_add, ← Nat.mul_add,hs,Nat.mul_add,Nat.mul_assoc]
 omega

theorem Q3c (w:World) (v u:Value) (n k:Nat) (xs ys:List Nat) (hv:WN w v n xs) (hu:WN w u k ys) (hx:∀ x∈xs,x<B16) (hy:∀ x∈ys,x<B16) (hn:n≤4500000000000) (hkn:k≤n) (hle:val B16 ys≤val B16 xs) :
  Calls Tryz.prog 102 #[v,u] w (Ret fun v w'=>Kp [] w w'∧NewD w w' v (val B16 xs-val B16 ys)):=by
 have hlx:=hv.len
 have hly:=hu.len
 refine Q9 [] [] spq [] Tryz.func102 rfl mixed (by kernel_rfl) Tryz.ntmps102 Tryz.results102 rfl ⟨by simp,by simp⟩ spq ?_
 simp only[toS,textOps,toSOp,kindAt,kindOf,odAt,sopsAt,ordOf,zipF]
 repeat' first|apply jS|apply jO|apply jN|apply jT|refine Q0 ?_|apply jB
 refine Qi (ι:=Nat × Nat × Value × SHeap × List Nat) ⟨fun z=>[(7,nv z.1),(6,nv z.2.1),(5,z.2.2.1),(0,v),(1,u)],fun z=>z.2.2.2.1++[],
  fun z=>z.2.2.2.2.length=z.1∧z.1≤n∧z.2.1≤1∧OwnN z.2.2.2.1 z.2.2.1 z.1 z.2.2.2.2∧(∀ x∈z.2.2.2.2,x<B16)∧val B16 z.2.2.2.2+val B16 (ys.take z.1)=val B16 (xs.take z.1)+B16 ^ z.1*z.2.1,fun z=>n-z.1⟩
  (0,0,_,[],[]) ⟨rfl,Nat.zero_le _,Nat.zero_le _,OwnN.nil,fun _ h=>absurd h List.not_mem_nil,by simp[val]⟩ cqq (by exact HSub.nil _) (fun z hz=>?_)
 obtain⟨i,c,vo,N,zs⟩:=z
 obtain⟨hlz,hi,hc1,hO,hz,hval⟩:=hz
 dsimp only at hlz hi hc1 hO hz hval ⊢
 have hxi:xs.getD i 0<65536:=Qy (b:=B16) dq hx i
 have hyi:ys.getD i 0<65536:=Qy (b:=B16) dq hy i
 by_cases hin:i<n
 ·by_cases hik:i<k
  ·by_cases hd:xs.getD i 0<c+ys.getD i 0
   ·have hD:∃ q:Nat,q=xs.getD i 0+65536-(c+ys.getD i 0)∧q<65536:=⟨_,rfl,by omega⟩
    obtain⟨q,hq,hq2⟩:=hD
    repeat' first|apply jS|apply jO|apply jN|apply jT|refine Q1 ?_|refine Q0 ?_|refine ZI (h:=?_)|refine Xn (h:=?_)|refine Z8 (h:=?_)|refine Qds (h:=?_)|refine YM (h:=?_)|(refine Qk (h1:=?_) (h2:=?_)<;>intro hc<;>try (exfalso;omega))|refine QA (h:=fun _=>?_)|apply jK|refine Q8 rfl ?_|apply jB
    have e:Value.int .i64 ((xs.getD i 0:Int)-c-(ys.getD i 0:Int)+65536)=nv q:=by
     show iv _=iv _
     congr 1
     omega
    rw[e]
    rename_i b2
    refine Zc (A:=[_]) hO (ZU b2 1 [q] _ rfl rfl dq).rd Q5 rfl trivial rfl rfl rfl rfl oq (fun v' N' hO'=>?_)
    repeat' first|apply jO|apply jN|apply jT|refine Q1 ?_|refine Q0 ?_|refine Qg ?_|apply jW
    refine Qa (i+1,1,v',N',zs++[q]) ⟨by simp only[List.length_append,List.length_singleton];omega,by dsimp only;omega,by dsimp only;omega,hO',Zw hz hq2,?_⟩ dgq cqq Qz
    dsimp only
    rw[ZQ,hlz,QD,QD,Nat.pow_succ]
    exact XO (b:=B16) (c:=c) (c':=1) (by show q+_=_+65536*_;omega) hval
   ·have hD:∃ q:Nat,q=xs.getD i 0-(c+ys.getD i 0)∧q<65536:=⟨_,rfl,by omega⟩
    obtain⟨q,hq,hq2⟩:=hD
    repeat' first|apply jS|apply jO|apply jN|apply jT|refine Q1 ?_|refine Q0 ?_|refine ZI (h:=?_)|refine Xn (h:=?_)|refine Z8 (h:=?_)|refine Xw (h:=?_)|(refine Qk (h1:=?_) (h2:=?_)<;>intro hc<;>try (exfalso;omega))|refine QA (h:=fun _=>?_)|apply jK|refine Q8 rfl ?_|refine Q4 rfl ?_|apply jB
    have e:Value.int .i64 ((xs.getD i 0-c-ys.getD i 0:Nat):Int)=nv q:=by
     show iv _=iv _
     congr 1
     omega
    rw[e]
    rename_i b2
    refine Zc (A:=[_]) hO (ZU b2 1 [q] _ rfl rfl dq).rd Q5 rfl trivial rfl rfl rfl rfl oq (fun v' N' hO'=>?_)
    repeat' first|apply jO|apply jN|apply jT|refine Q1 ?_|refine Q0 ?_|refine Qg ?_|apply jW
    refine Qa (i+1,0,v',N',zs++[q]) ⟨by simp only[List.length_append,List.length_singleton];omega,by dsimp only;omega,by dsimp only;omega,hO',Zw hz hq2,?_⟩ dgq cqq Qz
    dsimp only
    rw[ZQ,hlz,QD,QD,Nat.pow_succ]
    exact XO (b:=B16) (c:=c) (c':=0) (by show q+_=_+65536*_;omega) hval
  ·have hy0:ys.getD i 0=0:=Q5f oq
   by_cases hd:xs.getD i 0<c
   ·have hD:∃ q:Nat,q=xs.getD i 0+65536-(c+0)∧q<65536:=⟨_,rfl,by omega⟩
    obtain⟨q,hq,hq2⟩:=hD
    repeat' first|apply jS|apply jO|apply jN|apply jT|refine Q1 ?_|refine Q0 ?_|refine ZI (h:=?_)|refine Xn (h:=?_)|refine Z8 (h:=?_)|refine Qds (h:=?_)|refine YM (h:=?_)|(refine Qk (h1:=?_) (h2:=?_)<;>intro hc<;>try (exfalso;omega))|refine QA (h:=fun _=>?_)|apply jK|refine Q8 rfl ?_|refine Q4 rfl ?_|apply jB
    have e:Value.int .i64 ((xs.getD i 0:Int)-c+65536)=nv q:=by
     show iv _=iv _
     congr 1
     omega
    rw[e]
    rename_i b2
    refine Zc (A:=[_]) hO (ZU b2 1 [q] _ rfl rfl dq).rd Q5 rfl trivial rfl rfl rfl rfl oq (fun v' N' hO'=>?_)
    repeat' first|apply jO|apply jN|apply jT|refine Q1 ?_|refine Q0 ?_|refine Qg ?_|apply jW
    refine Qa (i+1,1,v',N',zs++[q]) ⟨by simp only[List.length_append,List.length_singleton];omega,by dsimp only;omega,by dsimp only;omega,hO',Zw hz hq2,?_⟩ dgq cqq Qz
    dsimp only
    rw[ZQ,hlz,QD,QD,Nat.pow_succ]
    exact XO (b:=B16) (c:=c) (c':=1) (by show q+_=_+65536*_;omega) hval
   ·have hD:∃ q:Nat,q=xs.getD i 0-(c+0)∧q<65536:=⟨_,rfl,by omega⟩
    obtain⟨q,hq,hq2⟩:=hD
    repeat' first|apply jS|apply jO|apply jN|apply jT|refine Q1 ?_|refine Q0 ?_|refine ZI (h:=?_)|refine Xn (h:=?_)|refine Z8 (h:=?_)|refine Xw (h:=?_)|(refine Qk (h1:=?_) (h2:=?_)<;>intro hc<;>try (exfalso;omega))|refine QA (h:=fun _=>?_)|apply jK|refine Q8 rfl ?_|refine Q4 rfl ?_|apply jB
    have e:Value.int .i64 ((xs.getD i 0-c:Nat):Int)=nv q:=by
     show iv _=iv _
     congr 1
     omega
    rw[e]
    rename_i b2
    refine Zc (A:=[_]) hO (ZU b2 1 [q] _ rfl rfl dq).rd Q5 rfl trivial rfl rfl rfl rfl oq (fun v' N' hO'=>?_)
    repeat' first|apply jO|apply jN|apply jT|refine Q1 ?_|refine Q0 ?_|refine Qg ?_|apply jW
    refine Qa (i+1,0,v',N',zs++[q]) ⟨by simp only[List.length_append,List.length_singleton];omega,by dsimp only;omega,by dsimp only;omega,hO',Zw hz hq2,?_⟩ dgq cqq Qz
    dsimp only
    rw[ZQ,hlz,QD,QD,Nat.pow_succ]
    exact XO (b:=B16) (c:=c) (c':=0) (by show q+_=_+65536*_;omega) hval
 ·repeat' first|apply jS|apply jO|apply jN|apply jT|refine Q1 ?_|refine Z8 (h:=?_)|(refine Qk (h1:=?_) (h2:=?_)<;>intro hc<;>try (exfalso;omega))|apply jU|apply jE|refine Q4 rfl ?_|refine Qe ?_
  obtain rfl:i=n:=by omega
  rw[List.take_of_length_le oq,List.take_of_length_le oq]at hval
  have hc0:c=0:=by
   rcases Nat.eq_zero_or_pos c with h|h
   ·exact h
   ·have h1:B16 ^ i≤B16 ^ i*c:=Nat.le_mul_of_pos_right _ h
    have h2:=Xv hz
    rw[hlz]at h2
    omega
  subst hc0
  rw[Nat.mul_zero,Nat.add_zero]at hval
  obtain⟨A,cap,rfl⟩:=hO.form
  refine Q6 trivial rfl rfl rfl (fun w hk hs=>Q4g w _ _ _ _ (hO.rd.at hk hs Q5) oq) fun w v w' _ _ _ hR=>?_
  obtain⟨q,hq,rfl,hnq⟩:=hR
  repeat' first|apply jN|apply jT|refine Q0 ?_|apply jR
  have hown:=hO.hd hq
  rw[← hnq]at hown
  have hql:(nrm zs).length=q:=hown.len
  refine Qh rfl (fun a w' st=>⟨st.kp,N,nrm zs,st.newOf rfl Q5,by rw[hql];exact hown,Dig.of hz,?_⟩)
  rw[Zb]
  omega


theorem WQ (w:World) (v u:Value) (n k:Nat) (xs ys:List Nat) (hv:WN w v n xs) (hu:WN w u k ys) (hx:Dig B16 xs) (hy:Dig B16 ys) (hn:n≤4500000000000) (hk:k≤4500000000000) :
  Calls Tryz.prog 101 #[v,u] w (Ret fun v w'=>Kp [] w w'∧v=iv (cmpV (val B16 xs) (val B16 ys))):=by
 have hlx:=hv.len
 have hly:=hu.len
 refine Q9 [⟨8,1,[],[]⟩,⟨9,1,[],[]⟩] [] spq [] Tryz.func101 rfl mixed (by kernel_rfl) Tryz.ntmps101 Tryz.results101 rfl ⟨by simp,by simp⟩ spq ?_
 simp only[toS,textOps,toSOp,kindAt,kindOf,odAt,sopsAt,ordOf,zipF]
 rcases Nat.lt_trichotomy n k with h|h|h
 ·have hcc:=Yn dq hx hy oq
  repeat' first|apply jS|apply jO|apply jN|apply jT|refine Q1 ?_|refine Q0 ?_|refine Z8 (h:=?_)|(refine Qk (h1:=?_) (h2:=?_)<;>intro hc<;>try (exfalso;omega))|(refine Z5 (h1:=?_) (h2:=?_)<;>intro hc<;>try (exfalso;omega))|apply jV|apply jR|refine Q8 rfl ?_
  exact Qh rfl (fun a w' st=>⟨st.kp,by unfold cmpV;rw[if_pos hcc]⟩)
 ·repeat' first|apply jS|apply jO|apply jN|apply jT|refine Q1 ?_|refine Q0 ?_|refine Z8 (h:=?_)|refine YM (h:=?_)|(refine Z5 (h1:=?_) (h2:=?_)<;>intro hc<;>try (exfalso;omega))|apply jK|refine Q4 rfl ?_|apply jB
  refine Qi (ι:=Nat) ⟨fun q=>[(5,iv ((q:Int)-1)),(0,v),(1,u)],fun _=>[],fun q=>q≤n∧xs.drop q=ys.drop q,fun q=>q⟩ n ⟨Nat.le_refl _,by rw[List.drop_eq_nil_of_le oq,List.drop_eq_nil_of_le oq]⟩ cqq Qr (fun q hq=>?_)
  obtain⟨hqn,hd⟩:=hq
  dsimp only at hqn hd ⊢
  rcases q with _|q
  ·repeat' first|apply jS|apply jO|apply jN|apply jT|refine Q1 ?_|refine Q0 ?_|(refine Y1 (h1:=?_) (h2:=?_)<;>intro hc<;>try (exfalso;omega))|apply jU|apply jE|apply jR|refine Q4 rfl ?_|refine Qe ?_
   have:xs=ys:=hd
   exact Qh rfl (fun a w' st=>⟨st.kp,by unfold cmpV;rw[this,if_neg (Nat.lt_irrefl _),if_neg (Nat.lt_irrefl _)]⟩)
  ·have hiv:iv (((q+1:Nat):Int)-1)=nv q:=by
    show iv _=iv _
    congr 1
    omega
   rw[hiv]
   rcases Nat.lt_trichotomy (xs.getD q 0) (ys.getD q 0)with h1|h1|h1
   ·have hcc:=Q4p (b:=B16) oq oq hx.lt h1 hd
    repeat' first|apply jS|apply jO|apply jD|apply jN|apply jT|refine Q1 ?_|refine Q0 ?_|refine ZI (h:=?_)|refine Xn (h:=?_)|(refine Qk (h1:=?_) (h2:=?_)<;>intro hc<;>try (exfalso;omega))|(refine Y1 (h1:=?_) (h2:=?_)<;>intro hc<;>try (exfalso;omega))|(refine Z5 (h1:=?_) (h2:=?_)<;>intro hc<;>try (exfalso;omega))|apply jV|apply jK|apply jR|refine Q8 rfl ?_|apply jB|refine QH ?_
    exact Qh rfl (fun a w' st=>⟨st.kp,by unfold cmpV;rw[if_pos hcc]⟩)
   ·repeat' first|apply jS|apply jO|apply jD|apply jN|apply jT|refine Q1 ?_|refine Q0 ?_|refine ZI (h:=?_)|refine Xn (h:=?_)|refine YM (h:=?_)|(refine Y1 (h1:=?_) (h2:=?_)<;>intro hc<;>try (exfalso;omega))|(refine Z5 (h1:=?_) (h2:=?_)<;>intro hc<;>try (exfalso;omega))|apply jK|refine Q8 rfl ?_|refine Q4 rfl ?_|apply jB|apply jW
    refine Qa q ⟨by omega,?_⟩ dgq cqq Qr
    rw[List.drop_eq_getElem_cons (show q<xs.length by omega),List.drop_eq_getElem_cons (show q<ys.length by omega),hd]
    have e:xs[q]'oq=ys[q]'oq:=by
     simpa [List.getD,List.getElem?_eq_getElem (show q<xs.length by omega),List.getElem?_eq_getElem (show q<ys.length by omega)] using h1
    rw[e]
   ·have hcc:=Q4p (b:=B16) oq oq hy.lt h1 hd.symm
    repeat' first|apply jS|apply jO|apply jD|apply jN|apply jT|refine Q1 ?_|refine Q0 ?_|refine ZI (h:=?_)|refine Xn (h:=?_)|(refine Qk (h1:=?_) (h2:=?_)<;>intro hc<;>try (exfalso;omega))|(refine Y1 (h1:=?_) (h2:=?_)<;>intro hc<;>try (exfalso;omega))|(refine Z5 (h1:=?_) (h2:=?_)<;>intro hc<;>try (exfalso;omega))|apply jV|apply jK|apply jR|refine Q8 rfl ?_|refine Q4 rfl ?_|apply jB|refine QH ?_
    exact Qh rfl (fun a w' st=>⟨st.kp,by unfold cmpV;rw[if_neg oq,if_pos hcc]⟩)
 ·have hcc:=Yn dq hy hx oq
  repeat' first|apply jS|apply jO|apply jN|apply jT|refine Q1 ?_|refine Q0 ?_|refine Z8 (h:=?_)|(refine Qk (h1:=?_) (h2:=?_)<;>intro hc<;>try (exfalso;omega))|(refine Z5 (h1:=?_) (h2:=?_)<;>intro hc<;>try (exfalso;omega))|apply jV|apply jK|apply jR|refine Q8 rfl ?_|refine Q4 rfl ?_
  exact Qh rfl (fun a w' st=>⟨st.kp,by unfold cmpV;rw[if_neg oq,if_pos hcc]⟩)


theorem Q8b {x y:Nat} (hx:x<65536) (hy:y<65536):x*y≤4294836225:=by
 have:=Nat.mul_le_mul (show x≤65535 by omega) (show y≤65535 by omega)
 omega

theorem Qfe (w:World) (v u:Value) (n k:Nat) (xs ys:List Nat) (hv:WN w v n xs) (hu:WN w u k ys) (hx:∀ x∈xs,x<B16) (hy:∀ x∈ys,x<B16) (hn:n≤4500000000000) (hk:k≤4500000000000) :
  Calls Tryz.prog 68 #[v,u] w (Ret fun v w'=>Kp [] w w'∧∃ N zs,New N w w'∧OwnN N v zs.length zs∧Dig B16 zs∧val B16 zs=val B16 xs*val B16 ys∧zs.length≤n+k):=by
 have hlx:=hv.len
 have hly:=hu.len
 refine Q9 [⟨9,1,[],[]⟩] [] spq [] Tryz.func68 rfl mixed (by kernel_rfl) Tryz.ntmps68 Tryz.results68 rfl ⟨by simp,by simp⟩ spq ?_
 simp only[toS,textOps,toSOp,kindAt,kindOf,odAt,sopsAt,ordOf,zipF]
 repeat' first|apply jS|apply jO|apply jN|refine Q1 ?_|refine Q0 ?_|refine Z8 (h:=?_)|refine Z6 (h:=?_)|apply jT
 refine Y7 (n:=n+k) rfl rfl rfl rfl rfl oq oq (fun b5=>?_)
 have hO:=Q6m b5 (n+k) (by simp only[maxLen];omega)
 repeat' first|apply jS|apply jO|apply jN|apply jT|refine Q0 ?_|apply jB
 refine Qi (ι:=Nat × SHeap × List Nat) ⟨fun z=>[(6,nv z.1),(5,.slice (some ⟨b5,0,none⟩) (n+k) (n+k)),(0,v),(1,u)],fun z=>z.2.1++[],
  fun z=>z.1≤n∧OwnN z.2.1 (.slice (some ⟨b5,0,none⟩) (n+k) (n+k)) (n+k) z.2.2∧(∀ x∈z.2.2,x<B16)∧val B16 z.2.2=val B16 (xs.take z.1)*val B16 ys∧∀ j,z.1+k≤j→z.2.2.getD j 0=0,fun z=>n-z.1⟩
  (0,_,_) ⟨Nat.zero_le _,hO,fun x hx=>by obtain⟨a,_,rfl⟩:=List.mem_map.1 hx;decide,by show val B16 (tab (n+k) fun _=>0)=_;rw[Xz];simp[val],fun j _=>YR _ j⟩ cqq Qr (fun z hz=>?_)
 clear hO
 obtain⟨i,N,zs⟩:=z
 obtain⟨hi,hO,hz,hval,hzero⟩:=hz
 dsimp only at hi hO hz hval hzero ⊢
 have hlz:=hO.len
 by_cases hin:i<n
 ·have hxi:xs.getD i 0<65536:=Qy (b:=B16) dq hx i
  repeat' first|apply jS|apply jO|apply jN|apply jT|refine Q1 ?_|refine Q0 ?_|refine Z8 (h:=?_)|(refine Qk (h1:=?_) (h2:=?_)<;>intro hc<;>try (exfalso;omega))|apply jK|refine Q8 rfl ?_|apply jB
  refine Qi (ι:=Nat × Nat × SHeap × List Nat) ⟨fun y=>[(8,nv y.1),(7,nv y.2.1),(6,nv i),(5,.slice (some ⟨b5,0,none⟩) (n+k) (n+k)),(0,v),(1,u)],fun y=>y.2.2.1++[],
   fun y=>y.1≤k∧OwnN y.2.2.1 (.slice (some ⟨b5,0,none⟩) (n+k) (n+k)) (n+k) y.2.2.2∧(∀ x∈y.2.2.2,x<B16)∧y.2.1<65536∧val B16 y.2.2.2+B16 ^ (i+y.1)*y.2.1=val B16 (xs.take i)*val B16 ys+B16 ^ i*(xs.getD i 0*val B16 (ys.take y.1))∧∀ j,i+k≤j→y.2.2.2.getD j 0=0,fun y=>k-y.1⟩
   (0,0,_,_) ⟨Nat.zero_le _,hO,hz,by show (0:Nat)<65536;decide,by simp[hval,val],hzero⟩ cqq Qr (fun y hyy=>?_)
  clear hO hz hval hzero hlz
  obtain⟨q,c,M,us⟩:=y
  obtain⟨hq,hO,hz,hc1,hval,hzero⟩:=hyy
  dsimp only at hq hO hz hc1 hval hzero ⊢
  have hlz:=hO.len
  by_cases hqk:q<k
  ·have hyq:ys.getD q 0<65536:=Qy (b:=B16) dq hy q
   have huq:us.getD (i+q) 0<65536:=Qy (b:=B16) dq hz (i+q)
   have hxy:=Q8b hxi hyq
   repeat' first|apply jS|apply jO|apply jD|apply jN|apply jT|refine Q1 ?_|refine Q0 ?_|refine ZI (h:=?_)|refine Xn (h:=?_)|refine Z8 (h:=?_)|refine Wd (j:=65536) (h:=?_)|refine Z6 (h:=?_)|refine Zy (h:=?_)|(refine Qk (h1:=?_) (h2:=?_)<;>intro hc<;>try (exfalso;omega))|apply jK|refine Q8 rfl ?_|apply jB
   refine Qgy (A:=[]) hO rfl rfl trivial rfl rfl oq (fun M' hO'=>?_)
   repeat' first|apply jO|apply jN|apply jT|refine Q1 ?_|refine Q0 ?_|refine Xy (j:=65536) (h:=?_)|refine Qg ?_|apply jW
   refine Qa (q+1,_,M',_) ⟨by dsimp only;omega,hO',Yj hz (Nat.mod_lt _ dq),?_,?_,fun j hj=>?_⟩ dgq cqq Qr
   ·dsimp only;omega
   ·dsimp only
    have e:=YY (b:=B16) (l:=us) (j:=i+q) (u:=(us.getD (i+q) 0+xs.getD i 0*ys.getD q 0+c) % B16) oq
    have:=Q6t e rfl hval
    rw[QD,Nat.mul_add,Nat.mul_add, ← Nat.add_assoc (_*_), ← Nat.add_assoc i q 1,Nat.pow_succ]
    have e3:B16 ^ i*(xs.getD i 0*(B16 ^ q*ys.getD q 0))=B16 ^ (i+q)*(xs.getD i 0*ys.getD q 0):=by
     rw[Nat.pow_add]
     simp only[Nat.mul_left_comm,Nat.mul_assoc]
    rw[e3]
    exact this
   ·dsimp only at hj ⊢
    rw[getD_set_ne oq]
    exact hzero j oq
  ·obtain rfl:q=k:=by omega
   repeat' first|apply jS|apply jO|apply jN|apply jT|refine Q1 ?_|refine ZI (h:=?_)|refine Z8 (h:=?_)|refine Z6 (h:=?_)|(refine Qk (h1:=?_) (h2:=?_)<;>intro hc<;>try (exfalso;omega))|apply jU|apply jE|refine Q4 rfl ?_|refine Qe ?_
   refine Qgy (A:=[]) hO rfl rfl trivial rfl rfl oq (fun M' hO'=>?_)
   repeat' first|apply jO|apply jN|apply jT|refine Q1 ?_|refine Q0 ?_|refine Qg ?_|apply jW
   refine Qa (i+1,M',_) ⟨by dsimp only;omega,hO',Yj hz hc1,?_,fun j hj=>?_⟩ dgq cqq Qr
   ·dsimp only
    have e:=YY (b:=B16) (l:=us) (j:=i+q) (u:=c) oq
    rw[hzero (i+q) (Nat.le_refl _),Nat.mul_zero,Nat.add_zero,hval]at e
    rw[e,QD,Nat.add_mul,List.take_of_length_le (l:=ys) (i:=q) oq,Nat.mul_assoc]
   ·dsimp only at hj ⊢
    rw[getD_set_ne oq]
    exact hzero j oq
 ·repeat' first|apply jS|apply jO|apply jN|apply jT|refine Q1 ?_|refine Z8 (h:=?_)|(refine Qk (h1:=?_) (h2:=?_)<;>intro hc<;>try (exfalso;omega))|apply jU|apply jE|refine Q4 rfl ?_|refine Qe ?_
  refine Q6 trivial rfl rfl rfl (fun w hk hs=>Q4g w _ _ _ _ (hO.rd.at hk hs Q5) oq) fun w v w' _ _ _ hR=>?_
  obtain⟨q,hq,rfl,hnq⟩:=hR
  repeat' first|apply jN|apply jT|refine Q0 ?_|apply jR
  have hown:=hO.hd hq
  rw[← hnq]at hown
  have hql:(nrm zs).length=q:=hown.len
  refine Qh rfl (fun a w' st=>⟨st.kp,N,nrm zs,st.newOf rfl Q5,by rw[hql];exact hown,Dig.of hz,?_,by rw[hql];exact hq⟩)
  rw[Zb,hval,List.take_of_length_le oq]


theorem c_by (w:World) (v:Value) (n:Nat) (xs:List Nat) (d:Nat) (hv:WN w v n xs) (hx:∀ x∈xs,x<B16) (hn:n≤4400000000000) (hd:d<B16) :
  Calls Tryz.prog 160 #[v,nv d] w (Ret fun v w'=>Kp [] w w'∧∃ N zs,New N w w'∧OwnN N v zs.length zs∧Dig B16 zs∧val B16 zs=val B16 xs*d∧zs.length≤n+1):=by
 have hlx:=hv.len
 refine Q9 [] [] spq [] Tryz.func160 rfl mixed (by kernel_rfl) Tryz.ntmps160 Tryz.results160 rfl ⟨by simp,by simp⟩ spq ?_
 simp only[toS,textOps,toSOp,kindAt,kindOf,odAt,sopsAt,ordOf,zipF]
 repeat' first|apply jS|apply jO|apply jN|refine Q1 ?_|refine Q0 ?_|refine QA (h:=fun _=>?_)|apply jT
 rename_i b1
 have hL:OwnN [(b1,.cells ⟨[nv d]⟩ 3)] (.slice (some ⟨b1,0,none⟩) 1 1) 1 [d]:=ZU b1 1 [d] _ rfl rfl dq
 refine Qd (A:=[]) rfl trivial rfl rfl rfl (fun w hk hs=>Qfe w _ _ _ _ xs [d] (hv.mono hk) (hL.rd.at hk hs Q5) hx (fun x hx=>by rw[List.mem_singleton.1 hx];exact hd) oq dq) fun w v w' _ _ _ hR=>?_
 obtain⟨N1,zs1,hN1,hO1,hz1,hval1,hl1⟩:=hR
 refine⟨N1,hN1,?_⟩
 repeat' first|apply jN|apply jT|refine Q0 ?_|apply jR
 exact Qh rfl (fun a w' st=>⟨st.kp,N1,zs1,st.newOf rfl Q5,hO1,hz1,by rw[hval1,val,val,Nat.mul_zero,Nat.add_zero],hl1⟩)

theorem WK {l r:List Nat} (hl:Dig B16 l) (hr:Dig B16 r) (h:val B16 l≤val B16 r):l.length≤r.length:=by
 refine Decidable.byContradiction fun h2=>?_
 have:=Yn (b:=B16) dq hr hl oq
 omega
theorem Q5p {a b:Nat}:cmpV a b≤0↔a≤b:=by
 unfold cmpV
 split
 ·simp_all;omega
 ·split<;>simp_all
theorem Q40 {R x r D y V low b:Nat} (h1:R=x+b*r) (h2:D=y*V+r) (h3:y*low≤R):x+b*D=y*(low+b*V)+(R-y*low):=by
 have e1:b*D=b*(y*V)+b*r:=by rw[h2,Nat.mul_add]
 have e2:y*(low+b*V)=y*low+b*(y*V):=by rw[Nat.mul_add,Nat.mul_left_comm y b V]
 omega

def GivesO (X Y:Nat) (w:World) (r:Value) (w':World):Prop:=∃ N1 N2 v1 v2 qs rs,r=.tuple #[v1,v2]∧New (N1++N2) w w'∧OwnN N1 v1 qs.length qs∧OwnN N2 v2 rs.length rs∧Dig B16 qs∧Dig B16 rs∧X=Y*val B16 qs+val B16 rs∧val B16 rs<Y

theorem Qmi (w:World) (v u:Value) (n k:Nat) (xs ys:List Nat) (hv:WN w v n xs) (hu:WN w u k ys) (hx:∀ x∈xs,x<B16) (hy:Dig B16 ys) (h0:0<val B16 ys) (hn:n≤2100000000000) (hk:k≤2100000000000) :
  Calls Tryz.prog 144 #[v,u] w (Ret fun r w'=>Kp [] w w'∧GivesO (val B16 xs) (val B16 ys) w r w'):=by
 have hlx:=hv.len
 have hly:=hu.len
 refine Q9 [] [] spq [] Tryz.func144 rfl mixed (by kernel_rfl) Tryz.ntmps144 Tryz.results144 rfl ⟨by simp,by simp⟩ spq ?_
 simp only[toS,textOps,toSOp,kindAt,kindOf,odAt,sopsAt,ordOf,zipF]
 repeat' first|apply jS|apply jO|apply jN|refine Q1 ?_|refine Q0 ?_|refine Z8 (h:=?_)|apply jT
 refine Y7 (n:=n) rfl rfl rfl rfl rfl oq oq (fun b5=>?_)
 have hO:=Q6m b5 n (by simp only[maxLen];omega)
 repeat' first|apply jS|apply jO|apply jN|apply jT|refine Q1 ?_|refine Q0 ?_|refine Z8 (h:=?_)|refine YM (h:=?_)|apply jB
 refine Qi (ι:=Nat × Value × SHeap × List Nat × SHeap × List Nat) ⟨fun z=>[(8,iv ((z.1:Int)-1)),(7,z.2.1),(6,.slice (some ⟨b5,0,none⟩) n n),(0,v),(1,u)],fun z=>z.2.2.1++(z.2.2.2.2.1++[]),
  fun z=>z.1≤n∧OwnN z.2.2.1 z.2.1 z.2.2.2.1.length z.2.2.2.1∧Dig B16 z.2.2.2.1∧OwnN z.2.2.2.2.1 (.slice (some ⟨b5,0,none⟩) n n) n z.2.2.2.2.2∧(∀ x∈z.2.2.2.2.2,x<B16)∧val B16 z.2.2.2.1<val B16 ys∧val B16 (xs.drop z.1)=val B16 ys*val B16 (z.2.2.2.2.2.drop z.1)+val B16 z.2.2.2.1,fun z=>z.1⟩
  (n,.slice none 0 0,[],[],_,_) ⟨Nat.le_refl _,OwnN.nil,Dig.nil _,hO,fun x hx=>by obtain⟨a,_,rfl⟩:=List.mem_map.1 hx;decide,h0,by
   dsimp only
   rw[QS oq,QS spq,Nat.mul_zero];rfl⟩ cqq Qr (fun z hz=>?_)
 clear hO
 obtain⟨m,vr,Nr,rs,Nq,qs⟩:=z
 obtain⟨hm,hOr,hzr,hOq,hzq,hlt,hval⟩:=hz
 dsimp only at hm hOr hzr hOq hzq hlt hval ⊢
 have hlq:=hOq.len
 have hrl:rs.length≤k:=by have:=WK hzr hy (Nat.le_of_lt hlt);omega
 rcases m with _|i
 ·repeat' first|apply jS|apply jO|apply jN|apply jT|refine Q1 ?_|(refine Y1 (h1:=?_) (h2:=?_)<;>intro hc<;>try (exfalso;omega))|apply jU|apply jE|refine Q4 rfl ?_|refine Qe ?_
  refine Q6 trivial rfl rfl rfl (fun w hk hs=>Q4g w _ _ _ _ (hOq.rd.at hk hs Q5) oq) fun w v w' _ _ _ hR=>?_
  obtain⟨q,hq,rfl,hnq⟩:=hR
  repeat' first|apply jN|apply jT|refine Q1 ?_|refine Q0 ?_|apply jR
  have hown:=hOq.hd hq
  rw[← hnq]at hown
  have hql:(nrm qs).length=q:=hown.len
  refine Yp rfl rfl (fun a w' st=>⟨st.kp,Nq,Nr,_,_,nrm qs,rs,rfl,st.newOf rfl ?_,by rw[hql];exact hown,hOr,Dig.of hzq,hzr,?_,hlt⟩)
  ·exact⟨[],by simpa using List.perm_append_comm⟩
  ·rw[List.drop_zero,List.drop_zero]at hval
   rw[Zb,hval]
 ·have hiv:iv (((i+1:Nat):Int)-1)=nv i:=by
   show iv _=iv _
   congr 1
   omega
  rw[hiv]
  have hxi:xs.getD i 0<65536:=Qy (b:=B16) dq hx i
  generalize hxe:xs.getD i 0=x at hxi
  have hxv:val B16 (xs.drop i)=x+65536*val B16 (xs.drop (i+1)):=by rw[QW (show i<xs.length by omega),hxe]
  repeat' first|apply jS|apply jO|apply jN|apply jT|refine Q1 ?_|refine ZI (h:=?_)|refine Xn (h:=?_)|(refine Y1 (h1:=?_) (h2:=?_)<;>intro hc<;>try (exfalso;omega))|refine QA (h:=fun _=>?_)|apply jK|refine Q8 rfl ?_|apply jB
  rename_i b2
  rw[hxe]
  refine Zc (A:=[]) (N:=[(b2,_)]) (ZU b2 1 [x] _ rfl rfl dq) hOr.rd Q5 rfl trivial rfl rfl rfl rfl oq (fun v' N' hO'=>?_)
  obtain⟨A',cap',rfl⟩:=hO'.form
  skip
  refine Q6 trivial rfl rfl rfl (fun w hk hs=>Q4g w _ _ _ _ (hO'.rd.at hk hs Q5) oq) fun w v w' _ _ _ hR=>?_
  obtain⟨q,hq,rfl,hnq⟩:=hR
  have hR1:=hO'.hd hq
  rw[← hnq]at hR1
  have hz1:Dig B16 (nrm ([x]++rs)):=Dig.of fun y hy2=>by
   rcases List.mem_append.1 hy2 with h|h
   ·rw[List.mem_singleton.1 h];exact hxi
   ·exact hzr.lt y h
  have hv1:val B16 (nrm ([x]++rs))=x+65536*val B16 rs:=by rw[Zb];rfl
  have hq1:=hR1.len
  generalize nrm ([x]++rs)=r1 at hR1 hz1 hv1 hq1
  have hbig:val B16 r1<val B16 ys*65536:=by omega
  clear hnq
  repeat' first|apply jS|apply jO|apply jN|refine Q1 ?_|refine Q0 ?_|apply jT
  refine Q6 trivial rfl rfl rfl (fun w hk hs=>WQ w _ _ _ _ r1 ys (hR1.rd.at hk hs Q5) (hu.mono hk) hz1 hy oq oq) fun w v w' _ _ _ hR=>?_
  subst hR
  by_cases hcmp:val B16 r1<val B16 ys
  ·have hc0:=Ye.2 hcmp
   repeat' first|apply jS|apply jO|apply jN|apply jT|refine Q0 ?_|(refine Qk (h1:=?_) (h2:=?_)<;>intro hc<;>try (exfalso;omega))|refine Q8 rfl ?_|apply jB
   refine Qi (ι:=Nat × Nat) ⟨fun z=>[(10,nv z.2),(9,nv z.1),(8,nv i),(7,.slice A' q cap'),(6,.slice (some ⟨b5,0,none⟩) n n),(0,v),(1,u)],fun _=>N'++(Nq++[]),
    fun z=>z.1<z.2∧z.2≤65536∧val B16 ys*z.1≤val B16 r1∧val B16 r1<val B16 ys*z.2,fun z=>z.2-z.1⟩ (0,1) ⟨by decide,by decide,by rw[Nat.mul_zero];exact Nat.zero_le _,by rw[Nat.mul_one];exact hcmp⟩ cqq Qz (fun z hz=>?_)
   obtain⟨low,high⟩:=z
   obtain⟨hlh,hhb,hlow,hhigh⟩:=hz
   dsimp only at hlh hhb hlow hhigh ⊢
   by_cases hgo:1<high-low
   ·repeat' first|apply jS|apply jO|apply jN|apply jT|refine Q1 ?_|refine Q0 ?_|refine Xy (j:=2) (h:=?_)|refine Z6 (h:=?_)|refine Xw (h:=?_)|(refine Z3 (h1:=?_) (h2:=?_)<;>intro hc<;>try (exfalso;omega))|apply jK|refine Q8 rfl ?_|apply jB
    have hmb:(low+high) / 2<65536:=by omega
    refine Qd (A:=[]) rfl trivial rfl rfl rfl (fun w hk hs=>c_by w _ _ ys ((low+high) / 2) (hu.mono hk) hy.lt oq hmb) fun w v w' _ _ _ hR=>?_
    obtain⟨N3,zs3,hN3,hO3,hz3,hval3,hl3⟩:=hR
    refine⟨N3,hN3,?_⟩
    repeat' first|refine Q1 ?_|fail
    refine Q6 trivial rfl rfl rfl (fun w hk hs=>WQ w _ _ _ _ zs3 r1 (hO3.rd.at hk hs Q5) (hR1.rd.at hk hs Q5) hz3 hz1 oq oq) fun w v w' _ _ _ hR=>?_
    subst hR
    by_cases hle:val B16 zs3≤val B16 r1
    ·have hc9:=Q5p.2 hle
     repeat' first|apply jO|apply jN|apply jT|refine Q1 ?_|refine Q0 ?_|(refine Q52 (h1:=?_) (h2:=?_)<;>intro hc<;>try (exfalso;omega))|refine Q8 rfl ?_|apply jW
     refine Qa ((low+high) / 2,high) ⟨by dsimp only;omega,hhb,by rw[← hval3];exact hle,hhigh⟩ dgq cqq Qz
    ·have hc9:¬cmpV (val B16 zs3) (val B16 r1)≤0:=fun h=>hle (Q5p.1 h)
     repeat' first|apply jO|apply jN|apply jT|refine Q1 ?_|refine Q0 ?_|(refine Q52 (h1:=?_) (h2:=?_)<;>intro hc<;>try (exfalso;omega))|refine Q4 rfl ?_|apply jW
     refine Qa (low,(low+high) / 2) ⟨by dsimp only;omega,by dsimp only;omega,hlow,by dsimp only;rw[← hval3];omega⟩ dgq cqq Qz
   ·repeat' first|apply jS|apply jO|apply jN|apply jT|refine Q1 ?_|refine ZI (h:=?_)|refine Xw (h:=?_)|(refine Z3 (h1:=?_) (h2:=?_)<;>intro hc<;>try (exfalso;omega))|apply jU|apply jE|refine Q4 rfl ?_|refine Qe ?_
    refine Qgy (A:=N') hOq rfl rfl trivial rfl rfl oq (fun Nq' hOq'=>?_)
    repeat' first|apply jO|apply jN|refine Q1 ?_|apply jT
    refine Qd (A:=[]) rfl trivial rfl rfl rfl (fun w hk hs=>c_by w _ _ ys low (hu.mono hk) hy.lt oq (by show low<65536;omega)) fun w v w' _ _ _ hR=>?_
    obtain⟨N4,zs4,hN4,hO4,hz4,hval4,hl4⟩:=hR
    refine⟨N4,hN4,?_⟩
    skip
    have hle4:val B16 zs4≤val B16 r1:=by rw[hval4];exact hlow
    have hll4:=WK hz4 hz1 hle4
    refine Qd (A:=[]) rfl trivial rfl rfl rfl (fun w hk hs=>Q3c w _ _ _ _ r1 zs4 (hR1.rd.at hk hs Q5) (hO4.rd.at hk hs Q5) hz1.lt hz4.lt oq oq hle4) fun w v w' _ _ _ hR=>?_
    obtain⟨N5,zs5,hN5,hO5,hz5,hval5⟩:=hR
    refine⟨N5,hN5,?_⟩
    have hhl:high=low+1:=by omega
    subst hhl
    rw[Nat.mul_add,Nat.mul_one]at hhigh
    repeat' first|apply jO|apply jN|apply jT|refine Q1 ?_|refine Q0 ?_|refine YM (h:=?_)|apply jW
    refine Qa (i,_,N5,zs5,Nq',qs.set i low) ⟨by dsimp only;omega,hO5,hz5,hOq',Yj hzq (by show low<65536;omega),by dsimp only;omega,?_⟩ dgq cqq Qz
    dsimp only
    rw[hxv,QW (l:=qs.set i low) (show i<(qs.set i low).length by simp;omega),QE oq,Xu,hval5,hval4]
    exact Q40 hv1 hval hlow
  ·have hc0:¬cmpV (val B16 r1) (val B16 ys)<0:=fun h=>hcmp (Ye.1 h)
   repeat' first|apply jS|apply jN|apply jT|(refine Qk (h1:=?_) (h2:=?_)<;>intro hc<;>try (exfalso;omega))|apply jK|refine Q4 rfl ?_|apply jB
   refine Qi (ι:=Nat × Nat) ⟨fun z=>[(10,nv z.2),(9,nv z.1),(8,nv i),(7,.slice A' q cap'),(6,.slice (some ⟨b5,0,none⟩) n n),(0,v),(1,u)],fun _=>N'++(Nq++[]),
    fun z=>z.1<z.2∧z.2≤65536∧val B16 ys*z.1≤val B16 r1∧val B16 r1<val B16 ys*z.2,fun z=>z.2-z.1⟩ (0,65536) ⟨by decide,by decide,by rw[Nat.mul_zero];exact Nat.zero_le _,hbig⟩ cqq Qz (fun z hz=>?_)
   obtain⟨low,high⟩:=z
   obtain⟨hlh,hhb,hlow,hhigh⟩:=hz
   dsimp only at hlh hhb hlow hhigh ⊢
   by_cases hgo:1<high-low
   ·repeat' first|apply jS|apply jO|apply jN|apply jT|refine Q1 ?_|refine Q0 ?_|refine Xy (j:=2) (h:=?_)|refine Z6 (h:=?_)|refine Xw (h:=?_)|(refine Z3 (h1:=?_) (h2:=?_)<;>intro hc<;>try (exfalso;omega))|apply jK|refine Q8 rfl ?_|apply jB
    have hmb:(low+high) / 2<65536:=by omega
    refine Qd (A:=[]) rfl trivial rfl rfl rfl (fun w hk hs=>c_by w _ _ ys ((low+high) / 2) (hu.mono hk) hy.lt oq hmb) fun w v w' _ _ _ hR=>?_
    obtain⟨N3,zs3,hN3,hO3,hz3,hval3,hl3⟩:=hR
    refine⟨N3,hN3,?_⟩
    repeat' first|refine Q1 ?_|fail
    refine Q6 trivial rfl rfl rfl (fun w hk hs=>WQ w _ _ _ _ zs3 r1 (hO3.rd.at hk hs Q5) (hR1.rd.at hk hs Q5) hz3 hz1 oq oq) fun w v w' _ _ _ hR=>?_
    subst hR
    by_cases hle:val B16 zs3≤val B16 r1
    ·have hc9:=Q5p.2 hle
     repeat' first|apply jO|apply jN|apply jT|refine Q1 ?_|refine Q0 ?_|(refine Q52 (h1:=?_) (h2:=?_)<;>intro hc<;>try (exfalso;omega))|refine Q8 rfl ?_|apply jW
     refine Qa ((low+high) / 2,high) ⟨by dsimp only;omega,hhb,by rw[← hval3];exact hle,hhigh⟩ dgq cqq Qz
    ·have hc9:¬cmpV (val B16 zs3) (val B16 r1)≤0:=fun h=>hle (Q5p.1 h)
     repeat' first|apply jO|apply jN|apply jT|refine Q1 ?_|refine Q0 ?_|(refine Q52 (h1:=?_) (h2:=?_)<;>intro hc<;>try (exfalso;omega))|refine Q4 rfl ?_|apply jW
     refine Qa (low,(low+high) / 2) ⟨by dsimp only;omega,by dsimp only;omega,hlow,by dsimp only;rw[← hval3];omega⟩ dgq cqq Qz
   ·repeat' first|apply jS|apply jO|apply jN|apply jT|refine Q1 ?_|refine ZI (h:=?_)|refine Xw (h:=?_)|(refine Z3 (h1:=?_) (h2:=?_)<;>intro hc<;>try (exfalso;omega))|apply jU|apply jE|refine Q4 rfl ?_|refine Qe ?_
    refine Qgy (A:=N') hOq rfl rfl trivial rfl rfl oq (fun Nq' hOq'=>?_)
    repeat' first|apply jO|apply jN|refine Q1 ?_|apply jT
    refine Qd (A:=[]) rfl trivial rfl rfl rfl (fun w hk hs=>c_by w _ _ ys low (hu.mono hk) hy.lt oq (by show low<65536;omega)) fun w v w' _ _ _ hR=>?_
    obtain⟨N4,zs4,hN4,hO4,hz4,hval4,hl4⟩:=hR
    refine⟨N4,hN4,?_⟩
    skip
    have hle4:val B16 zs4≤val B16 r1:=by rw[hval4];exact hlow
    have hll4:=WK hz4 hz1 hle4
    refine Qd (A:=[]) rfl trivial rfl rfl rfl (fun w hk hs=>Q3c w _ _ _ _ r1 zs4 (hR1.rd.at hk hs Q5) (hO4.rd.at hk hs Q5) hz1.lt hz4.lt oq oq hle4) fun w v w' _ _ _ hR=>?_
    obtain⟨N5,zs5,hN5,hO5,hz5,hval5⟩:=hR
    refine⟨N5,hN5,?_⟩
    have hhl:high=low+1:=by omega
    subst hhl
    rw[Nat.mul_add,Nat.mul_one]at hhigh
    repeat' first|apply jO|apply jN|apply jT|refine Q1 ?_|refine Q0 ?_|refine YM (h:=?_)|apply jW
    refine Qa (i,_,N5,zs5,Nq',qs.set i low) ⟨by dsimp only;omega,hO5,hz5,hOq',Yj hzq (by show low<65536;omega),by dsimp only;omega,?_⟩ dgq cqq Qz
    dsimp only
    rw[hxv,QW (l:=qs.set i low) (show i<(qs.set i low).length by simp;omega),QE oq,Xu,hval5,hval4]
    exact Q40 hv1 hval hlow


theorem WN.hd {w:World} {A:Option Addr} {n k cap:Nat} {xs:List Nat} (hv:WN w (.slice A n cap) n xs) (hk:k≤n):WN w (.slice A k cap) k (xs.take k):=by
 have hl:=hv.len
 obtain⟨h1,A',cap',h2,h3,h4⟩:=hv
 simp only[Value.slice.injEq]at h2
 obtain⟨rfl,_,rfl⟩:=h2
 refine⟨by simp;omega,A,cap,rfl,by omega,fun h0=>⟨(h4 oq).1,fun j u hu=>?_⟩⟩
 obtain⟨⟨b,o,rfl⟩,h5⟩:=h4 oq
 refine h5 j u ?_
 rw[List.map_take,List.getElem?_take]at hu
 split at hu
 ·exact hu
 ·cases hu
theorem lead {p:Bool} {l:List UInt8} {V:Nat} (h1:(bts l).getD 0 0≠0) (h2:bval (bts l)=V):wv p l=Wv (sgn p V):=by
 have hl:l.dropWhile (· == 0)=l:=by
  cases l with
  | nil=>rfl
  | cons a l =>
   have:(a == 0)=false:=by
    simp only[beq_eq_false_iff_ne]
    intro e
    subst e
    exact h1 rfl
   rw[List.dropWhile,this]
 have hm:=Q5a (l:=l)
 rw[hl,h2]at hm
 rw[Qga, ← hm]
 have hne:l≠[]:=fun e=>by subst e;exact h1 rfl
 rw[decide_eq_true hne,Bool.and_true]

theorem Q47 {l:List Nat} {x:Nat} (h:l.getD 0 0≠0):(l++[x]).getD 0 0≠0:=by
 cases l with
 | nil=>exact absurd rfl h
 | cons a l=>exact h
theorem Qn5 {l:List Nat} {i:Nat} (h:nrm l=l) (hi:l.length=i+1):l.getD i 0≠0:=by
 intro h0
 have e:l=l.take i++[0]:=by
  conv=>lhs;rw[← List.take_append_drop i l,List.drop_eq_getElem_cons (show i<l.length by omega),List.drop_eq_nil_of_le oq]
  rw[List.getD,List.getElem?_eq_getElem (show i<l.length by omega)]at h0
  rw[show l[i]'oq=0 from h0]
 have h2:=congrArg List.length h
 rw[e,Q2r]at h2
 have h3:∀ r:List Nat,(nrm r).length≤r.length:=fun r=>by
  induction r with
  | nil=>exact Nat.le_refl _
  | cons x r ih =>
   rw[nrm]
   cases hn:nrm r with
   | nil=>by_cases hx:x=0<;>simp[hx]
   | cons y s=>rw[hn]at ih;simp at ih ⊢;exact ih
 have h4:=h3 (l.take i)
 simp at h2 h4
 omega

theorem Yb (w:World) (v:Value) (n:Nat) (xs:List Nat) (p:Bool) (hv:WN w v n xs) (hx:∀ x∈xs,x<B16) (hn:n≤2100000000000) :
  Calls Tryz.prog 55 #[.bool p,v] w (Ret fun r w'=>Kp [] w w'∧r=Wv (sgn p (val B16 xs))):=by
 obtain⟨A,cap,rfl⟩:=hv.form
 refine Q9 [⟨11,0,[],[(2,.seq)]⟩] [] spq [] Tryz.func55 rfl mixed (by kernel_rfl) Tryz.ntmps55 Tryz.results55 rfl ⟨by simp,by simp⟩ spq ?_
 simp only[toS,textOps,toSOp,kindAt,kindOf,odAt,sopsAt,ordOf,zipF]
 repeat' first|apply jS|apply jO|apply jN|refine Q1 ?_|refine Qc fun _=>?_|apply jT
 rename_i b4
 refine Q6 trivial rfl rfl rfl (fun w hk hs=>Q4g w _ _ _ _ (hv.mono hk) oq) fun w v w' _ _ _ hR=>?_
 obtain⟨k,hkn,rfl,hnk⟩:=hR
 have hvk:=hv.hd hkn
 rw[← hnk]at hvk
 have hlk:(nrm xs).length=k:=hvk.len
 have hval0:val B16 xs=val B16 (nrm xs):=(Zb _ _).symm
 have hxl:∀ x∈nrm xs,x<B16:=fun x h=>hx x (Q2s x h)
 have hnn:=Qe4 xs
 rw[hval0]
 generalize nrm xs=zs at hvk hlk hxl hnn
 by_cases hk0:k=0
 ·repeat' first|apply jS|apply jO|apply jN|apply jT|refine Q1 ?_|refine Q0 ?_|refine Y5 (h:=?_)|refine Q2 ?_|(refine QU (h1:=?_) (h2:=?_)<;>intro hc<;>try (exfalso;omega))|refine Zu (h:=?_)|refine Q2 ?_|apply jV|apply jR|refine Q8 rfl ?_
  obtain rfl:zs=[]:=List.eq_nil_of_length_eq_zero oq
  exact QG 0 rfl rfl rfl (fun a w' st=>⟨st.kp,by rw[show val B16 []=0 from rfl,Xm];rfl⟩)
 ·repeat' first|apply jS|apply jO|apply jN|apply jT|refine Q1 ?_|refine Q0 ?_|refine Y5 (h:=?_)|refine Yk (h:=?_)|(refine QU (h1:=?_) (h2:=?_)<;>intro hc<;>try (exfalso;omega))|apply jK|refine Q4 rfl ?_|apply jB
  have e0:Value.int .i64 ((k-1:Nat):Int)=iv ((k:Int)-1):=by
   show iv _=iv _
   congr 1
   omega
  rw[e0]
  refine Qi (ι:=Nat × Value × SHeap × List Nat) ⟨fun z=>[(6,iv ((z.1:Int)-1)),(5,z.2.1),(4,.pointer (some ⟨b4,0,none⟩)),(1,.slice A k cap),(0,.bool p)],fun z=>(b4,.cells #[.bool false,.string ⟨#[]⟩] 35)::(z.2.2.1++[]),
   fun z=>z.1≤k∧OwnY z.2.2.1 z.2.1 z.2.2.2.length z.2.2.2∧(∀ x∈z.2.2.2,x<256)∧z.2.2.2.length≤2*(k-z.1)∧bval z.2.2.2=val B16 (zs.drop z.1)∧(z.1<k→z.2.2.2.getD 0 0≠0)∧(z.1=k→z.2.2.2=[]),fun z=>z.1⟩
   (k,_,[],[]) ⟨Nat.le_refl _,OwnY.nil,fun _ h=>absurd h List.not_mem_nil,by simp,by dsimp only;rw[QS oq];rfl,fun h=>absurd h (Nat.lt_irrefl _),fun _=>rfl⟩ cqq Qz (fun z hz=>?_)
  obtain⟨m,vb,Nb,bs⟩:=z
  obtain⟨hm,hO,hbs,hbl,hval,hhd,hnil⟩:=hz
  dsimp only at hm hO hbs hbl hval hhd hnil ⊢
  rcases m with _|i
  ·repeat' first|apply jS|apply jO|apply jN|apply jT|refine Q1 ?_|(refine Y1 (h1:=?_) (h2:=?_)<;>intro hc<;>try (exfalso;omega))|apply jU|apply jE|refine Q4 rfl ?_|refine Qe ?_
   refine Qdc hbs hO.rd Q5 trivial rfl rfl rfl (fun l hl=>?_)
   repeat' first|apply jN|apply jT|refine Q2 ?_|refine Zu (h:=?_)|refine Q2 ?_|apply jR
   rw[List.drop_zero]at hval
   have hfin:=lead (p:=p) (l:=l) (V:=val B16 zs) (by rw[hl];exact hhd oq) (by rw[hl];exact hval)
   exact QG 0 rfl rfl rfl (fun a w' st=>⟨st.kp,hfin⟩)
  ·have hiv:iv (((i+1:Nat):Int)-1)=nv i:=by
    show iv _=iv _
    congr 1
    omega
   rw[hiv]
   have hxi:zs.getD i 0<65536:=Qy (b:=B16) dq hxl i
   have hxv:val B16 (zs.drop i)=zs.getD i 0+65536*val B16 (zs.drop (i+1)):=QW (show i<zs.length by omega)
   by_cases h1:i<k-1
   ·repeat' first|apply jS|apply jO|apply jN|apply jT|refine Q1 ?_|refine ZI (h:=?_)|refine Xn (h:=?_)|refine Y5 (h:=?_)|refine Xy (j:=256) (h:=?_)|refine Yk (h:=?_)|refine Ql ?_|refine Q3t (h:=?_)|(refine Qk (h1:=?_) (h2:=?_)<;>intro hc<;>try (exfalso;omega))|(refine Y1 (h1:=?_) (h2:=?_)<;>intro hc<;>try (exfalso;omega))|refine QA (h:=fun _=>?_)|apply jK|refine Q8 rfl ?_|refine QJ (h:=?_)|apply jB
    rename_i c2
    refine X7 (A:=[_,_]) hO (XU c2 1 [zs.getD i 0 / 256 % 256] _ rfl rfl dq).rd Q5 rfl trivial rfl rfl rfl rfl oq (fun v1 N1 hO1=>?_)
    repeat' first|apply jO|apply jN|refine Q1 ?_|refine Q0 ?_|refine ZI (h:=?_)|refine Xn (h:=?_)|refine Wd (j:=256) (h:=?_)|refine Q3t (h:=?_)|refine QA (h:=fun _=>?_)|apply jT
    rename_i c3
    refine X7 (A:=[_,_,_]) hO1 (XU c3 1 [zs.getD i 0 % 256 % 256] _ rfl rfl dq).rd Q5 rfl trivial rfl rfl rfl rfl oq (fun v2 N2 hO2=>?_)
    repeat' first|apply jO|apply jN|apply jT|refine Q1 ?_|refine Q0 ?_|refine YM (h:=?_)|apply jW
    refine Qa (i,v2,N2,(bs++[zs.getD i 0 / 256 % 256])++[zs.getD i 0 % 256 % 256]) ⟨by dsimp only;omega,by simp only[List.length_append,List.length_singleton];exact hO2,Zw (Zw hbs (Nat.mod_lt _ dq)) (Nat.mod_lt _ dq),by simp only[List.length_append,List.length_singleton];omega,?_,fun _=>?_,fun h=>?_⟩ dgq cqq Qz
    ·dsimp only
     rw[ZN,ZN,hval,hxv]
     omega
    ·exact Q47 (Q47 (hhd oq))
    ·dsimp only at h;omega
   ·have htop:=Qn5 hnn (i:=i) oq
    obtain rfl:=hnil oq
    by_cases h2:256≤zs.getD i 0
    ·repeat' first|apply jS|apply jO|apply jN|apply jT|refine Q1 ?_|refine ZI (h:=?_)|refine Xn (h:=?_)|refine Y5 (h:=?_)|refine Xy (j:=256) (h:=?_)|refine Yk (h:=?_)|refine Qx (h:=?_)|refine Q3t (h:=?_)|(refine Qk (h1:=?_) (h2:=?_)<;>intro hc<;>try (exfalso;omega))|(refine Y1 (h1:=?_) (h2:=?_)<;>intro hc<;>try (exfalso;omega))|refine QA (h:=fun _=>?_)|apply jK|refine Q8 rfl ?_|apply jB
     rename_i c2
     refine X7 (A:=[_,_]) hO (XU c2 1 [zs.getD i 0 / 256 % 256] _ rfl rfl dq).rd Q5 rfl trivial rfl rfl rfl rfl oq (fun v1 N1 hO1=>?_)
     repeat' first|apply jO|apply jN|refine Q1 ?_|refine Q0 ?_|refine ZI (h:=?_)|refine Xn (h:=?_)|refine Wd (j:=256) (h:=?_)|refine Q3t (h:=?_)|refine QA (h:=fun _=>?_)|apply jT
     rename_i c3
     refine X7 (A:=[_,_,_]) hO1 (XU c3 1 [zs.getD i 0 % 256 % 256] _ rfl rfl dq).rd Q5 rfl trivial rfl rfl rfl rfl oq (fun v2 N2 hO2=>?_)
     repeat' first|apply jO|apply jN|apply jT|refine Q1 ?_|refine Q0 ?_|refine YM (h:=?_)|apply jW
     refine Qa (i,v2,N2,([]++[zs.getD i 0 / 256 % 256])++[zs.getD i 0 % 256 % 256]) ⟨by dsimp only;omega,by simp only[List.length_append,List.length_singleton];exact hO2,Zw (Zw hbs (Nat.mod_lt _ dq)) (Nat.mod_lt _ dq),by simp only[List.length_append,List.length_singleton];omega,?_,fun _=>?_,fun h=>?_⟩ dgq cqq Qz
     ·dsimp only
      rw[ZN,ZN,hval,hxv]
      omega
     ·show zs.getD i 0 / 256 % 256≠0;omega
     ·dsimp only at h;omega
    ·repeat' first|apply jS|apply jO|apply jN|apply jT|refine Q1 ?_|refine ZI (h:=?_)|refine Xn (h:=?_)|refine Y5 (h:=?_)|refine Wd (j:=256) (h:=?_)|refine Yk (h:=?_)|refine Qx (h:=?_)|refine Q3t (h:=?_)|(refine Qk (h1:=?_) (h2:=?_)<;>intro hc<;>try (exfalso;omega))|(refine Y1 (h1:=?_) (h2:=?_)<;>intro hc<;>try (exfalso;omega))|refine QA (h:=fun _=>?_)|apply jK|refine Q8 rfl ?_|refine Q4 rfl ?_|apply jB
     rename_i c3
     refine X7 (A:=[_,_]) hO (XU c3 1 [zs.getD i 0 % 256 % 256] _ rfl rfl dq).rd Q5 rfl trivial rfl rfl rfl rfl oq (fun v2 N2 hO2=>?_)
     repeat' first|apply jO|apply jN|apply jT|refine Q1 ?_|refine Q0 ?_|refine YM (h:=?_)|apply jW
     refine Qa (i,v2,N2,[]++[zs.getD i 0 % 256 % 256]) ⟨by dsimp only;omega,by simp only[List.length_append,List.length_singleton];exact hO2,Zw hbs (Nat.mod_lt _ dq),by simp only[List.length_append,List.length_singleton];omega,?_,fun _=>?_,fun h=>?_⟩ dgq cqq Qz
     ·dsimp only
      rw[XZ]at hval
      rw[ZN,XZ,hxv]
      omega
     ·show zs.getD i 0 % 256 % 256≠0;omega
     ·dsimp only at h;omega


theorem ZW {zs:List Nat} {l:List UInt8} {k:Nat} (hz:Dig B16 zs) (hv:val B16 zs=bval (bts l)) (hl:l.length≤k):zs.length≤k:=by
 refine hz.len_le dq ?_
 rw[hv]
 exact Nat.lt_of_lt_of_le (QM hl) (Nat.pow_le_pow_left dq k)

theorem Q0z (w:World) (v:Value) (a:Int) (k:Nat) (hv:IsZ v a k) (hk:k≤1000000000000) :
  Calls Tryz.prog 79 #[v] w (Ret fun r w'=>Kp [] w w'∧r=Wv (-a)):=by
 obtain⟨p,l,rfl,hl1,rfl⟩:=hv
 refine Q9 [⟨1,1,[],[]⟩] [] spq [] Tryz.func79 rfl mixed (by kernel_rfl) Tryz.ntmps79 Tryz.results79 rfl ⟨by simp,by simp⟩ spq ?_
 simp only[toS,textOps,toSOp,kindAt,kindOf,odAt,sopsAt,ordOf,zipF]
 repeat' first|apply jS|apply jO|apply jD|apply jN|refine Q3 ?_|refine Qb ?_|refine Q7 ?_|refine QP (h:=?_)|refine Qc fun _=>?_|refine Qt fun _=>?_|apply jT
 refine Qd (A:=[_,_]) rfl trivial rfl rfl rfl (fun w hk hs=>Yu w p l oq) fun w v w' _ _ _ hR=>?_
 obtain⟨N1,zs1,hN1,hO1,hz1,hval1⟩:=hR
 refine⟨N1,hN1,?_⟩
 have hzl1:=ZW hz1 hval1 hl1
 skip
 refine Q6 trivial rfl rfl rfl (fun w hk hs=>Yb w _ _ zs1 (!p) (hO1.rd.at hk hs Q5) hz1.lt oq) fun w v w' _ _ _ hR=>?_
 subst hR
 repeat' first|apply jN|apply jT|refine Q2 ?_|refine Q2 ?_|apply jR
 exact QG 0 rfl rfl rfl (fun a w' st=>⟨st.kp,by show Wv (sgn (!p) (val B16 zs1))=_;rw[hval1,Qcy]⟩)

theorem ZE (w:World) (v:Value) (a:Int) (k:Nat) (hv:IsZ v a k) (hk:k≤1000000000000) :
  Calls Tryz.prog 33 #[v] w (Ret fun r w'=>Kp [] w w'∧r=iv a.sign):=by
 obtain⟨p,l,rfl,hl1,rfl⟩:=hv
 refine Q9 [] [] spq [] Tryz.func33 rfl mixed (by kernel_rfl) Tryz.ntmps33 Tryz.results33 rfl ⟨by simp,by simp⟩ spq ?_
 simp only[toS,textOps,toSOp,kindAt,kindOf,odAt,sopsAt,ordOf,zipF]
 repeat' first|apply jS|apply jO|apply jN|refine Q0 ?_|refine Q7 ?_|refine Qt fun _=>?_|apply jT
 refine Qd (A:=[_]) rfl trivial rfl rfl rfl (fun w hk hs=>Yu w p l oq) fun w v w' _ _ _ hR=>?_
 obtain⟨N1,zs1,hN1,hO1,hz1,hval1⟩:=hR
 refine⟨N1,hN1,?_⟩
 have hzl1:=ZW hz1 hval1 hl1
 have he:=hz1.eq_nil dq
 rw[hval1]at he
 by_cases h0:zs1.length=0
 ·have h1:=he.1 (List.eq_nil_of_length_eq_zero h0)
  rw[h1,Xm]
  repeat' first|apply jS|apply jO|apply jN|apply jT|refine Q0 ?_|refine Z8 (h:=?_)|(refine QU (h1:=?_) (h2:=?_)<;>intro hc<;>try (exfalso;omega))|apply jV|apply jR|refine Q8 rfl ?_
  exact Qh rfl (fun a w' st=>⟨st.kp,rfl⟩)
 ·have h1:bval (bts l)≠0:=fun h=>h0 (by rw[he.2 h];rfl)
  cases p with
  | false =>
   have h2:(sgn false (bval (bts l))).sign=1:=Int.sign_eq_one_of_pos (by simp[sgn];omega)
   rw[h2]
   repeat' first|apply jS|apply jO|apply jN|apply jT|refine Q3 ?_|refine Q0 ?_|refine Qb ?_|refine Z8 (h:=?_)|(refine QU (h1:=?_) (h2:=?_)<;>intro hc<;>try (exfalso;omega))|apply jK|apply jR|refine Q4 rfl ?_
   exact Qh rfl (fun a w' st=>⟨st.kp,rfl⟩)
  | true =>
   have h2:(sgn true (bval (bts l))).sign = -1:=Int.sign_eq_neg_one_of_neg (by simp[sgn];omega)
   rw[h2]
   repeat' first|apply jS|apply jO|apply jN|apply jT|refine Q3 ?_|refine Q0 ?_|refine Qb ?_|refine Z8 (h:=?_)|(refine QU (h1:=?_) (h2:=?_)<;>intro hc<;>try (exfalso;omega))|apply jV|apply jK|apply jR|refine Q8 rfl ?_|refine Q4 rfl ?_
   exact Qh rfl (fun a w' st=>⟨st.kp,rfl⟩)

theorem Q4i (w:World) (v u:Value) (a b:Int) (k:Nat) (hv:IsZ v a k) (hu:IsZ u b k) (hk:k≤1000000000000) :
  Calls Tryz.prog 51 #[v,u] w (Ret fun r w'=>Kp [] w w'∧r=Wv (a+b)):=by
 obtain⟨p,l,rfl,hl1,rfl⟩:=hv
 obtain⟨q,l',rfl,hl2,rfl⟩:=hu
 refine Q9 [⟨4,2,[],[]⟩,⟨6,2,[],[]⟩,⟨7,2,[],[]⟩] [] spq [] Tryz.func51 rfl mixed (by kernel_rfl) Tryz.ntmps51 Tryz.results51 rfl ⟨by simp,by simp⟩ spq ?_
 simp only[toS,textOps,toSOp,kindAt,kindOf,odAt,sopsAt,ordOf,zipF]
 repeat' first|apply jS|apply jO|apply jN|refine Q7 ?_|refine Qc fun _=>?_|refine Qt fun _=>?_|apply jT
 refine Qd (A:=[_,_,_]) rfl trivial rfl rfl rfl (fun w hk hs=>Yu w p l oq) fun w v w' _ _ _ hR=>?_
 obtain⟨N1,zs1,hN1,hO1,hz1,hval1⟩:=hR
 refine⟨N1,hN1,?_⟩
 have hzl1:=ZW hz1 hval1 hl1
 repeat' first|apply jS|apply jO|apply jN|refine Q0 ?_|refine Q7 ?_|apply jT
 refine Qd (A:=[_,_,_]) rfl trivial rfl rfl rfl (fun w hk hs=>Yu w q l' oq) fun w v w' _ _ _ hR=>?_
 obtain⟨N2,zs2,hN2,hO2,hz2,hval2⟩:=hR
 refine⟨N2,hN2,?_⟩
 have hzl2:=ZW hz2 hval2 hl2
 by_cases hpq:p=q
 ·subst hpq
  repeat' first|apply jS|apply jO|apply jD|apply jN|apply jT|refine Q1 ?_|refine Q3 ?_|refine Q0 ?_|refine Qb ?_|refine Q9s (h:=?_)|refine Q8 rfl ?_
  refine Qd (A:=[_,_,_]) rfl trivial rfl rfl rfl (fun w hk hs=>Qjj w _ _ _ _ _ _ (hO1.rd.at hk hs Q5) (hO2.rd.at hk hs Q5) hz1.lt hz2.lt oq oq) fun w v w' _ _ _ hR=>?_
  obtain⟨N3,zs3,hN3,hO3,hz3,hval3,hzl3⟩:=hR
  refine⟨N3,hN3,?_⟩
  rw[hval1,hval2]at hval3
  skip
  refine Q6 trivial rfl rfl rfl (fun w hk hs=>Yb w _ _ zs3 p (hO3.rd.at hk hs Q5) hz3 oq) fun w v w' _ _ _ hR=>?_
  subst hR
  repeat' first|apply jN|apply jT|refine Q2 ?_|refine Q2 ?_|apply jV|apply jR
  exact QG 0 rfl rfl rfl (fun a w' st=>⟨st.kp,by show Wv (sgn p (val B16 zs3))=_;rw[hval3,Qd1]⟩)
 have hpq':(p == q)=false:=by simpa using hpq
 repeat' first|apply jS|apply jO|apply jN|refine Q3 ?_|refine Q0 ?_|refine Qb ?_|refine Ql0 (h:=?_)|apply jT
 rw[hpq']
 repeat' first|apply jS|apply jO|apply jT|refine Q1 ?_|apply jK|refine Q4 rfl ?_
 refine Q6 trivial rfl rfl rfl (fun w hk hs=>WQ w _ _ _ _ _ _ (hO1.rd.at hk hs Q5) (hO2.rd.at hk hs Q5) hz1 hz2 oq oq) fun w v w' _ _ _ hR=>?_
 subst hR
 by_cases hlt:val B16 zs1<val B16 zs2
 ·have hneg:=Ye.2 hlt
  have hlen:zs1.length≤zs2.length:=by
   refine Decidable.byContradiction fun h=>?_
   have:=Yn (b:=B16) dq hz2 hz1 oq
   omega
  repeat' first|apply jS|apply jD|apply jN|apply jT|refine Q1 ?_|refine Q3 ?_|refine Qb ?_|(refine Y1 (h1:=?_) (h2:=?_)<;>intro hc<;>try (exfalso;omega))|apply jK|refine Q4 rfl ?_
  refine Qd (A:=[_,_,_]) rfl trivial rfl rfl rfl (fun w hk hs=>Q3c w _ _ _ _ _ _ (hO2.rd.at hk hs Q5) (hO1.rd.at hk hs Q5) hz2.lt hz1.lt oq hlen (Nat.le_of_lt hlt)) fun w v w' _ _ _ hR=>?_
  obtain⟨N3,zs3,hN3,hO3,hz3,hval3⟩:=hR
  refine⟨N3,hN3,?_⟩
  have hzl3:zs3.length≤k:=hz3.len_le dq (Nat.lt_of_le_of_lt (show val B16 zs3≤val B16 zs2 by omega) (by rw[hval2];exact Nat.lt_of_lt_of_le (QM hl2) (Nat.pow_le_pow_left dq k)))
  rw[hval1,hval2]at hval3
  rw[hval1,hval2]at hlt
  skip
  refine Q6 trivial rfl rfl rfl (fun w hk hs=>Yb w _ _ zs3 q (hO3.rd.at hk hs Q5) hz3.lt oq) fun w v w' _ _ _ hR=>?_
  subst hR
  repeat' first|apply jN|apply jT|refine Q2 ?_|refine Q2 ?_|apply jR
  exact QG 0 rfl rfl rfl (fun a w' st=>⟨st.kp,by show Wv (sgn q (val B16 zs3))=_;rw[← Q9f hpq hlt,hval3]⟩)
 ·have hneg:¬cmpV (val B16 zs1) (val B16 zs2)<0:=fun h=>hlt (Ye.1 h)
  have hlen:zs2.length≤zs1.length:=by
   refine Decidable.byContradiction fun h=>hlt ?_
   exact Yn (b:=B16) dq hz1 hz2 oq
  repeat' first|apply jS|apply jD|apply jN|apply jT|refine Q1 ?_|refine Q3 ?_|refine Qb ?_|(refine Y1 (h1:=?_) (h2:=?_)<;>intro hc<;>try (exfalso;omega))|refine Q8 rfl ?_
  refine Qd (A:=[_,_,_]) rfl trivial rfl rfl rfl (fun w hk hs=>Q3c w _ _ _ _ _ _ (hO1.rd.at hk hs Q5) (hO2.rd.at hk hs Q5) hz1.lt hz2.lt oq hlen oq) fun w v w' _ _ _ hR=>?_
  obtain⟨N3,zs3,hN3,hO3,hz3,hval3⟩:=hR
  refine⟨N3,hN3,?_⟩
  have hzl3:zs3.length≤k:=hz3.len_le dq (Nat.lt_of_le_of_lt (show val B16 zs3≤val B16 zs1 by omega) (by rw[hval1];exact Nat.lt_of_lt_of_le (QM hl1) (Nat.pow_le_pow_left dq k)))
  rw[hval1,hval2]at hval3
  rw[hval1,hval2]at hlt
  skip
  refine Q6 trivial rfl rfl rfl (fun w hk hs=>Yb w _ _ zs3 p (hO3.rd.at hk hs Q5) hz3.lt oq) fun w v w' _ _ _ hR=>?_
  subst hR
  repeat' first|apply jN|apply jT|refine Q2 ?_|refine Q2 ?_|apply jV|apply jR
  exact QG 0 rfl rfl rfl (fun a w' st=>⟨st.kp,by show Wv (sgn p (val B16 zs3))=_;rw[← Q9e hpq hlt,hval3]⟩)

theorem Qos (w:World) (v u:Value) (a b:Int) (k:Nat) (hv:IsZ v a k) (hu:IsZ u b k) (hk:k≤1000000000000) :
  Calls Tryz.prog 40 #[v,u] w (Ret fun r w'=>Kp [] w w'∧r=Wv (a-b)):=by
 have hZ:IsZ (Wv (-b)) (-b) k:=Qf (by rw[Int.natAbs_neg];exact hu.lt)
 obtain⟨p,l,rfl,hl1,rfl⟩:=hv
 obtain⟨q,l',rfl,hl2,rfl⟩:=hu
 refine Q9 [⟨1,1,[],[]⟩] [] spq [] Tryz.func40 rfl mixed (by kernel_rfl) Tryz.ntmps40 Tryz.results40 rfl ⟨by simp,by simp⟩ spq ?_
 simp only[toS,textOps,toSOp,kindAt,kindOf,odAt,sopsAt,ordOf,zipF]
 repeat' first|apply jS|apply jO|apply jD|apply jN|refine Q7 ?_|refine Qc fun _=>?_|refine Qt fun _=>?_|apply jT
 refine Q6 trivial rfl rfl rfl (fun w hk' hs=>Q0z w _ _ k ⟨q,l',rfl,hl2,rfl⟩ hk) fun w v w' _ _ _ hR=>?_
 subst hR
 skip
 refine Q6 trivial rfl rfl rfl (fun w hk' hs=>Q4i w _ _ _ _ k ⟨p,l,rfl,hl1,rfl⟩ hZ hk) fun w v w' _ _ _ hR=>?_
 subst hR
 repeat' first|apply jN|apply jT|refine Q2 ?_|refine Q2 ?_|apply jR
 exact QG 0 rfl rfl rfl (fun a w' st=>⟨st.kp,by rw[Int.sub_eq_add_neg];rfl⟩)

theorem Qfx (w:World) (v u:Value) (a b:Int) (k:Nat) (hv:IsZ v a k) (hu:IsZ u b k) (hk:k≤999999999999) :
  Calls Tryz.prog 20 #[v,u] w (Ret fun r w'=>Kp [] w w'∧r=iv (a-b).sign):=by
 have hZ:IsZ (Wv (a-b)) (a-b) (k+1):=by
  rw[Int.sub_eq_add_neg]
  exact IsZ.add hv.lt (by rw[Int.natAbs_neg];exact hu.lt)
 obtain⟨p,l,rfl,hl1,rfl⟩:=hv
 obtain⟨q,l',rfl,hl2,rfl⟩:=hu
 refine Q9 [] [] spq [] Tryz.func20 rfl mixed (by kernel_rfl) Tryz.ntmps20 Tryz.results20 rfl ⟨by simp,by simp⟩ spq ?_
 simp only[toS,textOps,toSOp,kindAt,kindOf,odAt,sopsAt,ordOf,zipF]
 repeat' first|apply jS|apply jO|apply jN|refine Q0 ?_|refine Q7 ?_|refine Qt fun _=>?_|apply jT
 refine Q6 trivial rfl rfl rfl (fun w hk' hs=>Qos w _ _ _ _ k ⟨p,l,rfl,hl1,rfl⟩ ⟨q,l',rfl,hl2,rfl⟩ oq) fun w v w' _ _ _ hR=>?_
 subst hR
 skip
 refine Q6 trivial rfl rfl rfl (fun w hk' hs=>ZE w _ _ (k+1) hZ oq) fun w v w' _ _ _ hR=>?_
 subst hR
 repeat' first|apply jN|apply jT|refine Q0 ?_|apply jR
 exact Qh rfl (fun a w' st=>⟨st.kp,rfl⟩)

theorem Qax (w:World) (v u:Value) (a b:Int) (k:Nat) (hv:IsZ v a k) (hu:IsZ u b k) (hk:k≤1000000000000) :
  Calls Tryz.prog 31 #[v,u] w (Ret fun r w'=>Kp [] w w'∧r=Wv (a*b)):=by
 obtain⟨p,l,rfl,hl1,rfl⟩:=hv
 obtain⟨q,l',rfl,hl2,rfl⟩:=hu
 refine Q9 [⟨1,1,[0,1,2,3,4,5,7,6,8,9,10,11],[]⟩] [] spq [] Tryz.func31 rfl mixed (by kernel_rfl) Tryz.ntmps31 Tryz.results31 rfl ⟨by simp,by simp⟩ spq ?_
 simp only[toS,textOps,toSOp,kindAt,kindOf,odAt,sopsAt,ordOf,zipF]
 repeat' first|apply jS|apply jO|apply jD|apply jN|refine Q3 ?_|refine Qb ?_|refine Q7 ?_|refine Q2f (h:=?_)|refine Qc fun _=>?_|refine Qt fun _=>?_|apply jT
 refine Qd (A:=[_,_,_]) rfl trivial rfl rfl rfl (fun w hk hs=>Yu w p l oq) fun w v w' _ _ _ hR=>?_
 obtain⟨N1,zs1,hN1,hO1,hz1,hval1⟩:=hR
 refine⟨N1,hN1,?_⟩
 have hzl1:=ZW hz1 hval1 hl1
 skip
 refine Qd (A:=[_,_,_]) rfl trivial rfl rfl rfl (fun w hk hs=>Yu w q l' oq) fun w v w' _ _ _ hR=>?_
 obtain⟨N2,zs2,hN2,hO2,hz2,hval2⟩:=hR
 refine⟨N2,hN2,?_⟩
 have hzl2:=ZW hz2 hval2 hl2
 skip
 refine Qd (A:=[_,_,_]) rfl trivial rfl rfl rfl (fun w hk hs=>Qfe w _ _ _ _ _ _ (hO1.rd.at hk hs Q5) (hO2.rd.at hk hs Q5) hz1.lt hz2.lt oq oq) fun w v w' _ _ _ hR=>?_
 obtain⟨N3,zs3,hN3,hO3,hz3,hval3,hzl4⟩:=hR
 refine⟨N3,hN3,?_⟩
 rw[hval1,hval2]at hval3
 have hzl3:zs3.length≤k+k:=by
  refine hz3.len_le dq ?_
  rw[hval3,Nat.pow_add]
  have h1:=Nat.lt_of_lt_of_le (QM hl1) (Nat.pow_le_pow_left (show 256≤B16 by decide) k)
  have h2:=Nat.lt_of_lt_of_le (QM hl2) (Nat.pow_le_pow_left (show 256≤B16 by decide) k)
  exact Nat.mul_lt_mul_of_lt_of_le h1 (Nat.le_of_lt h2) (Nat.pow_pos dq)
 skip
 refine Q6 trivial rfl rfl rfl (fun w hk hs=>Yb w _ _ zs3 (p != q) (hO3.rd.at hk hs Q5) hz3.lt oq) fun w v w' _ _ _ hR=>?_
 subst hR
 repeat' first|apply jN|apply jT|refine Q2 ?_|refine Q2 ?_|apply jR
 exact QG 0 rfl rfl rfl (fun a w' st=>⟨st.kp,by show Wv (sgn (p != q) (val B16 zs3))=_;rw[hval3,Qd0]⟩)


theorem Qat (w:World) (p:Bool) (l:List UInt8) (hl:l.length≤6000000000000) :
  Calls Tryz.prog 145 #[wv p l] w (Ret fun v w'=>Kp [] w w'∧v=.bool (p && decide (bval (bts l)≠0))):=by
 cases p with
 | false =>
  refine Q9 [] [] spq [] Tryz.func145 rfl mixed (by kernel_rfl) Tryz.ntmps145 Tryz.results145 rfl ⟨by simp,by simp⟩ spq ?_
  simp only[toS,textOps,toSOp,kindAt,kindOf,odAt,sopsAt,ordOf,zipF]
  repeat' first|apply jS|apply jO|apply jN|apply jT|refine Q1 ?_|refine Q3 ?_|refine Q0 ?_|refine Qb ?_|refine Qx (h:=?_)|refine Qt fun _=>?_|refine QJ (h:=?_)|apply jR
  exact Qh rfl (fun a w' st=>⟨st.kp,rfl⟩)
 | true =>
  refine Q9 [] [] spq [] Tryz.func145 rfl mixed (by kernel_rfl) Tryz.ntmps145 Tryz.results145 rfl ⟨by simp,by simp⟩ spq ?_
  simp only[toS,textOps,toSOp,kindAt,kindOf,odAt,sopsAt,ordOf,zipF]
  repeat' first|apply jS|apply jO|apply jN|refine Q1 ?_|refine Q3 ?_|refine Q0 ?_|refine Qb ?_|refine Q7 ?_|refine Qt fun _=>?_|apply jT
  refine Qd (A:=[_]) rfl pqq rfl rfl rfl (fun w hk hs=>Yu w true l hl) fun w v w' _ _ _ hR=>?_
  obtain⟨N1,zs1,hN1,hO1,hz1,hval1⟩:=hR
  refine⟨N1,hN1,?_⟩
  have he:=hz1.eq_nil dq
  rw[hval1]at he
  by_cases h0:zs1.length=0
  ·have h1:=he.1 (List.eq_nil_of_length_eq_zero h0)
   rw[h1]
   repeat' first|apply jN|apply jT|refine Q0 ?_|refine Z8 (h:=?_)|refine Ql ?_|(refine Z3 (h1:=?_) (h2:=?_)<;>intro hc<;>try (exfalso;omega))|apply jR
   exact Qh rfl (fun a w' st=>⟨st.kp,rfl⟩)
  ·have h1:bval (bts l)≠0:=fun h=>h0 (by rw[he.2 h];rfl)
   rw[decide_eq_true h1]
   repeat' first|apply jN|apply jT|refine Q0 ?_|refine Z8 (h:=?_)|refine Ql ?_|(refine Z3 (h1:=?_) (h2:=?_)<;>intro hc<;>try (exfalso;omega))|apply jR
   exact Qh rfl (fun a w' st=>⟨st.kp,rfl⟩)

theorem Qc1:val B16 [1]=1:=rfl
theorem Qgp (p:Bool) (X:Nat):∃ p',(p && decide (X≠0))=p'∧sgn p X=sgn p' X:=by
 refine⟨_,rfl,?_⟩
 by_cases h:X=0
 ·subst h;rw[Xm,Xm]
 ·rw[decide_eq_true h,Bool.and_true]

theorem Qaw (w:World) (v u:Value) (a b:Int) (k:Nat) (hv:IsZ v a k) (hu:IsZ u b k) (hk:k≤1000000000000) :
  Calls Tryz.prog 120 #[v,u] w (Ret fun r w'=>Kp [] w w'∧r=if b=0 then .tuple #[Wv 0,Wv 0,.bool false] else .tuple #[Wv (a / b),Wv (a % b),.bool true]):=by
 obtain⟨p,l,rfl,hl1,rfl⟩:=hv
 obtain⟨q,l',rfl,hl2,rfl⟩:=hu
 obtain⟨p',hp',hps⟩:=Qgp p (bval (bts l))
 rw[hps]
 refine Q9 [⟨8,3,[0,2,3,5,7,1,4,6,8,9,10,11],[]⟩] [] spq [] Tryz.func120 rfl mixed (by kernel_rfl) Tryz.ntmps120 Tryz.results120 rfl ⟨by simp,by simp⟩ spq ?_
 simp only[toS,textOps,toSOp,kindAt,kindOf,odAt,sopsAt,ordOf,zipF]
 repeat' first|apply jS|apply jO|apply jN|refine Q0 ?_|refine Q7 ?_|refine Qc fun _=>?_|refine Qt fun _=>?_|apply jT
 refine Qd (A:=[_,_,_,_]) rfl pqq rfl rfl rfl (fun w hk hs=>Yu w q l' oq) fun w v w' _ _ _ hR=>?_
 obtain⟨N2,zs2,hN2,hO2,hz2,hval2⟩:=hR
 refine⟨N2,hN2,?_⟩
 have hzl2:=ZW hz2 hval2 hl2
 have he:=hz2.eq_nil dq
 rw[hval2]at he
 by_cases h0:zs2.length=0
 ·have h1:=he.1 (List.eq_nil_of_length_eq_zero h0)
  rw[h1,if_pos (Xm q)]
  repeat' first|apply jS|apply jO|apply jN|apply jT|refine Q1 ?_|refine Q0 ?_|refine Z8 (h:=?_)|refine Q2 ?_|(refine QU (h1:=?_) (h2:=?_)<;>intro hc<;>try (exfalso;omega))|refine Zu (h:=?_)|refine Q2 ?_|apply jV|apply jR|refine Q8 rfl ?_
  exact ZF 1 0 rfl rfl rfl rfl rfl rfl rfl (fun a w' st=>⟨st.kp,rfl⟩)
 have hy0:bval (bts l')≠0:=fun h=>h0 (by rw[he.2 h];rfl)
 rw[if_neg (fun h=>hy0 ((Q2b _ _).1 h))]
 repeat' first|apply jS|apply jO|apply jN|apply jT|refine Q1 ?_|refine Q0 ?_|refine Q7 ?_|refine Z8 (h:=?_)|(refine QU (h1:=?_) (h2:=?_)<;>intro hc<;>try (exfalso;omega))|apply jK|refine Q4 rfl ?_
 refine Qd (A:=[_,_,_,_]) rfl pqq rfl rfl rfl (fun w hk hs=>Yu w p l oq) fun w v w' _ _ _ hR=>?_
 obtain⟨N1,zs1,hN1,hO1,hz1,hval1⟩:=hR
 refine⟨N1,hN1,?_⟩
 have hzl1:=ZW hz1 hval1 hl1
 have hv1:val B16 zs1<256 ^ k:=by rw[hval1];exact QM hl1
 have hv2:val B16 zs2<256 ^ k:=by rw[hval2];exact QM hl2
 have hpw:256 ^ k≤B16 ^ k:=Nat.pow_le_pow_left dq k
 have hpk:0<256 ^ k:=Nat.pow_pos dq
 repeat' first|refine Q1 ?_|fail
 refine Qd (A:=[_,_,_,_]) rfl trivial rfl rfl rfl (fun w hk hs=>Qmi w _ _ _ _ _ _ (hO1.rd.at hk hs Q5) (hO2.rd.at hk hs Q5) hz1.lt hz2 oq oq oq) fun w v w' _ _ _ hR=>?_
 obtain⟨N3,N4,v3,v4,zs3,zs4,rfl,hN34,hO3,hO4,hz3,hz4,hval3,hlt4⟩:=hR
 refine⟨_,hN34,?_⟩
 rw[List.append_assoc N3 N4]
 have hzl4:zs4.length≤k:=hz4.len_le dq oq
 have hq3:val B16 zs3≤val B16 zs1:=by
  have h1:val B16 zs3≤val B16 zs2*val B16 zs3:=Nat.le_mul_of_pos_left _ oq
  omega
 have hzl3:zs3.length≤k:=hz3.len_le dq oq
 have hlaw:=Qdt p' q (val B16 zs1) (val B16 zs2) (val B16 zs3) (val B16 zs4) oq (by rw[Nat.mul_comm];exact hval3) hlt4
 rw[hval1,hval2]at hlaw
 have he4:=hz4.eq_nil dq
 have hlaw1:=hlaw.1
 have hlaw2:=hlaw.2
 clear hlaw
 repeat' first|apply jS|apply jO|apply jN|refine Q1 ?_|refine Q0 ?_|refine Q7 ?_|refine Qn (h:=?_)|apply jT
 refine Q6 trivial rfl rfl rfl (fun w hk hs=>Qat w p l oq) fun w v w' _ _ _ hR=>?_
 rw[hp']at hR
 subst hR
 by_cases hp:p'=true∧0<zs4.length
 ·obtain⟨rfl,hp4⟩:=hp
  have hr0:0<val B16 zs4:=Nat.pos_of_ne_zero fun h=>by rw[he4.2 h]at hp4;exact absurd hp4 spq
  obtain⟨hq1,hq2⟩:=hlaw1 ⟨rfl,hr0⟩
  have hlen:=WK hz4 hz2 (Nat.le_of_lt hlt4)
  repeat' first|apply jS|apply jO|apply jN|apply jT|refine Q1 ?_|refine Z8 (h:=?_)|refine Ql ?_|(refine Z3 (h1:=?_) (h2:=?_)<;>intro hc<;>try (exfalso;omega))|refine QA (h:=fun _=>?_)|refine Q8 rfl ?_
  rename_i b9
  have hO9:OwnN [(b9,.cells ⟨[.int .i64 1]⟩ 3)] (.slice (some ⟨b9,0,none⟩) 1 1) 1 [1]:=ZU b9 1 [1] _ rfl rfl oq
  refine Qd (A:=[_,_,_,_,_]) rfl trivial rfl rfl rfl (fun w hk hs=>Qjj w _ _ _ _ _ _ (hO3.rd.at hk hs Q5) (hO9.rd.at hk hs Q5) hz3.lt (fun x hx=>by rw[List.mem_singleton]at hx;rw[hx];decide) oq oq) fun w v w' _ _ _ hR=>?_
  obtain⟨N5,zs5,hN5,hO5,hz5,hval5,hzl5⟩:=hR
  refine⟨N5,hN5,?_⟩
  rw[Qc1]at hval5
  repeat' first|apply jO|apply jN|refine Q1 ?_|refine Q0 ?_|apply jT
  refine Qd (A:=[_,_,_,_,_]) rfl trivial rfl rfl rfl (fun w hk hs=>Q3c w _ _ _ _ _ _ (hO2.rd.at hk hs Q5) (hO4.rd.at hk hs Q5) hz2.lt hz4.lt oq hlen oq) fun w v w' _ _ _ hR=>?_
  obtain⟨N6,zs6,hN6,hO6,hz6,hval6⟩:=hR
  refine⟨N6,hN6,?_⟩
  have hzl6:zs6.length≤k:=hz6.len_le dq oq
  repeat' first|apply jS|apply jD|apply jN|refine Q1 ?_|refine Q3 ?_|refine Q0 ?_|refine Qb ?_|refine Q7 ?_|apply jT
  refine Q6 pqq rfl rfl rfl (fun w hk hs=>Qat w p l oq) fun w v w' _ _ _ hR=>?_
  rw[hp']at hR
  subst hR
  repeat' first|refine Q2f (h:=?_)|fail
  refine Q6 pqq rfl rfl rfl (fun w hk hs=>Yb w _ _ zs5 (true != q) (hO5.rd.at hk hs Q5) hz5 oq) fun w v w' _ _ _ hR=>?_
  subst hR
  skip
  refine Q6 pqq rfl rfl rfl (fun w hk hs=>Yb w _ _ zs6 false (hO6.rd.at hk hs Q5) hz6.lt oq) fun w v w' _ _ _ hR=>?_
  subst hR
  repeat' first|apply jN|apply jT|refine Q0 ?_|refine Q2 ?_|refine Q2 ?_|apply jR
  refine ZF 2 1 rfl rfl rfl rfl rfl rfl rfl (fun a w' st=>⟨st.kp,?_⟩)
  show Value.tuple #[Wv (sgn (true != q) (val B16 zs5)),Wv (sgn false (val B16 zs6)),_]=_
  rw[hval5,hq1, ← hq2, ← hval2,hval6]
  rfl
 have hq:=hlaw2 (fun⟨h1,h2⟩=>hp ⟨h1,by
  refine Nat.pos_of_ne_zero fun h=>?_
  have:=List.eq_nil_of_length_eq_zero h
  rw[this]at h2
  exact absurd h2 (by simp[val])⟩)
 obtain⟨hq1,hq2⟩:=hq
 have hnp:p'=true→zs4.length=0:=fun h=>by
  refine Decidable.byContradiction fun h'=>hp ⟨h,by omega⟩
 cases p' with
 | false =>
  repeat' first|apply jS|apply jD|apply jN|apply jT|refine Q1 ?_|refine Q3 ?_|refine Qb ?_|refine Q7 ?_|refine Qx (h:=?_)|refine Q4 rfl ?_|refine QJ (h:=?_)|apply jK
  refine Q6 pqq rfl rfl rfl (fun w hk hs=>Qat w p l oq) fun w v w' _ _ _ hR=>?_
  rw[hp']at hR
  subst hR
  repeat' first|refine Q2f (h:=?_)|fail
  refine Q6 pqq rfl rfl rfl (fun w hk hs=>Yb w _ _ zs3 (false != q) (hO3.rd.at hk hs Q5) hz3.lt oq) fun w v w' _ _ _ hR=>?_
  subst hR
  skip
  refine Q6 pqq rfl rfl rfl (fun w hk hs=>Yb w _ _ zs4 false (hO4.rd.at hk hs Q5) hz4.lt oq) fun w v w' _ _ _ hR=>?_
  subst hR
  repeat' first|apply jN|apply jT|refine Q0 ?_|refine Q2 ?_|refine Q2 ?_|apply jR
  refine ZF 1 0 rfl rfl rfl rfl rfl rfl rfl (fun a w' st=>⟨st.kp,?_⟩)
  show Value.tuple #[Wv (sgn (false != q) (val B16 zs3)),Wv (sgn false (val B16 zs4)),_]=_
  rw[hq1, ← hq2]
  rfl
 | true =>
  have hz0:=hnp rfl
  repeat' first|apply jS|apply jD|apply jN|apply jT|refine Q1 ?_|refine Q3 ?_|refine Qb ?_|refine Q7 ?_|refine Z8 (h:=?_)|refine Ql ?_|(refine Z3 (h1:=?_) (h2:=?_)<;>intro hc<;>try (exfalso;omega))|apply jK|refine Q4 rfl ?_
  refine Q6 pqq rfl rfl rfl (fun w hk hs=>Qat w p l oq) fun w v w' _ _ _ hR=>?_
  rw[hp']at hR
  subst hR
  repeat' first|refine Q2f (h:=?_)|fail
  refine Q6 pqq rfl rfl rfl (fun w hk hs=>Yb w _ _ zs3 (true != q) (hO3.rd.at hk hs Q5) hz3.lt oq) fun w v w' _ _ _ hR=>?_
  subst hR
  skip
  refine Q6 pqq rfl rfl rfl (fun w hk hs=>Yb w _ _ zs4 false (hO4.rd.at hk hs Q5) hz4.lt oq) fun w v w' _ _ _ hR=>?_
  subst hR
  repeat' first|apply jN|apply jT|refine Q0 ?_|refine Q2 ?_|refine Q2 ?_|apply jR
  refine ZF 1 0 rfl rfl rfl rfl rfl rfl rfl (fun a w' st=>⟨st.kp,?_⟩)
  show Value.tuple #[Wv (sgn (true != q) (val B16 zs3)),Wv (sgn false (val B16 zs4)),_]=_
  rw[hq1, ← hq2]
  rfl

end Go.Proofs.YtljmapfihjkafaaGreatDoor

