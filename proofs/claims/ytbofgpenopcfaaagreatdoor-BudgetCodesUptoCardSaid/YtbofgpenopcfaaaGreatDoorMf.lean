import Derived.Test.YtbofgpenopcfaaaGreatDoorMe
import Derived.Laws.StructEq
import Derived.Test.YtbofgpenopcfaaaGreatDoorMd
set_option maxHeartbeats 16000000
namespace Go.Proofs.YtbofgpenopcfaaaGreatDoor
open Go Go.RowKit
set_option linter.unusedSimpArgs false
set_option linter.unusedVariables false
set_option linter.unusedSectionVars false

theorem RdY.blk {c:Cx} {b cap n:Nat} {xs:List Nat} {rest:List Value} {T:TypeId} {fz:Nat × Nat} (hl:xs.length=n) (hc:n≤cap):RdY c [(b,.cells (ZR xs rest) T fz)] (.slice (some ⟨b,0,none⟩) n cap) n xs:=by
 refine⟨by simp[hl],_,cap,rfl,hc,fun h0=>⟨⟨b,0,rfl⟩,fun w hw j u hu=>?_⟩⟩
 rw[Wf,Vq]
 refine Z4 (hw.2.blk (b,_) (Vf ..)) ?_
 have e:(ZR xs rest)[j]?=(xs.map yv++rest)[j]?:=by simp[ZR]
 rw[e,List.getElem?_append_left (List.getElem?_eq_some_iff.1 hu).1]
 exact hu

section
variable {c:Cx} {Q:Exit→Act→World→Prop} {m:Mode} {F:ak} {H:aj} {r:List bT} {g:Option (Option Tmp × Bool)} {ns:Bool} {d:Tmp} {ty t t':TypeId} {x y:Operand} {l:List UInt8} {i:Nat}
theorem Qe1 {e:TypeId} [dL c.P t] [dh c.P t' e] [TI c.P e .u8] (hm:m.dR ns r) (hd:Qw c.n (some d)=true) (hg:Qi F g=some true) (hx:ev F x=some (sv l))
  (h:∀ b cap rest fz,l.length≤cap→JO c Q m r ((d,.slice (some ⟨b,0,none⟩) l.length cap)::F) ((b,.cells (ZR (bf l) rest) e fz)::H)):JO c Q m (⟨some d,.convert t t' x,ty,g,.seq,ns⟩::r) F H:=by
 refine⟨⟨hd,.inr ⟨hg,fun a w st hs=>?_⟩⟩⟩
 unfold Oper.wp bT.oper
 have hrun:=run_bytes_of_string (P:=c.P) w t t' e ⟨l.toArray⟩ dL.und dh.und TI.und
 have hrow:bytesRow ⟨l.toArray⟩ (grownCap w (ByteArray.mk l.toArray).size 0 e)=ZR (bf l) (List.replicate (grownCap w (ByteArray.mk l.toArray).size 0 e-(ByteArray.mk l.toArray).size) (.int .u8 0)):=by
  apply Array.ext'
  simp[bytesRow,ZR,bf,Function.comp]
 rw[hrow]at hrun
 generalize hcap:grownCap w (ByteArray.mk l.toArray).size 0 e=cap at hrun
 generalize (ZR (bf l) (List.replicate (cap-(ByteArray.mk l.toArray).size) (.int .u8 0))).size=z at hrun
 have hexec:(execOp a.eval ⟨some d,.convert t t' x,ty, "",#[],none⟩).run c.P w=.ok (.value (.slice (some ⟨w.heap.size,0,none⟩) l.length cap)) (w.drew.alloc (.cells (ZR (bf l) (List.replicate (cap-(ByteArray.mk l.toArray).size) (.int .u8 0))) e (z,z+1))):=by
  simp only[execOp,st.fr.ev hx,Sem.run_bind,hrun,Result.andThen_ok,Sem.run_pure,Xn]
 rw[hexec]
 have hnew:(w.drew.alloc (.cells (ZR (bf l) (List.replicate (cap-(ByteArray.mk l.toArray).size) (.int .u8 0))) e (z,z+1))).heap[w.heap.size]?=some (.cells (ZR (bf l) (List.replicate (cap-(ByteArray.mk l.toArray).size) (.int .u8 0))) e (z,z+1)):=World.alloc_heap_new w.drew _
 have hold:∀ k,k<w.heap.size→(w.drew.alloc (.cells (ZR (bf l) (List.replicate (cap-(ByteArray.mk l.toArray).size) (.int .u8 0))) e (z,z+1))).heap[k]?=w.heap[k]?:=fun k hk=>Below.heap_alloc w.drew _ k hk
 obtain⟨st',hstep,hkk⟩:=ZV (N:=[]) (N':=[(w.heap.size,.cells (ZR (bf l) (List.replicate (cap-(ByteArray.mk l.toArray).size) (.int .u8 0))) e (z,z+1))]) (H0:=H) st aA aA (fun q hq=>by cases List.mem_singleton.1 hq;exact hnew) (fun k hk=>.inr (by simp[keys]at hk;omega)) (fun k hk _=>hold k hk) aA rfl rfl rfl
 have hcl:l.length≤cap:=by rw[← hcap,Xn];exact grownCap_ge _ _ _ _
 have hk2:Kp [] w (w.drew.alloc (.cells (ZR (bf l) (List.replicate (cap-(ByteArray.mk l.toArray).size) (.int .u8 0))) e (z,z+1))):=⟨rfl,rfl,rfl,by simp,fun k hk _=>hold k hk⟩
 refine⟨hstep,(d,_)::F,(w.heap.size,_)::H,m,(st'.perm List.perm_append_comm).put _ hd,fun k hk'=>hkk k ?_,ZY hk2 hs hm,(h _ cap _ _ hcl).h⟩
 simp only[keys,List.map_cons,Vj,List.mem_cons,List.mem_append,List.map_nil]at hk' ⊢
 rcases hk' with h1|h1
 ·exact .inr (.inl h1)
 ·exact .inl h1
theorem Q3j (hd:Qw c.n (some d)=true) (hg:Qi F g=some true) (hx:ev F x=some (yv i)) (hy:ev F y=some (.int .u8 48)) (hi:48≤i∧i<256)
  (h:JO c Q m r ((d,yv (i-48))::F) H):JO c Q m (⟨some d,.binOp .sub t x y t',ty,g,.bg,ns⟩::r) F H :=
 ZF hd hg hx hy (fun w=>by
  rw[binOp_sub]
  simp only[Op.intArith,Sem.run_pure,IntKind.wrap_u8]
  rw[show ((i:Int)-48) % 256=((i-48:Nat):Int) by omega]) h
end

def minus:List UInt8→Bool
 | x::_=>x == 45
 | []=>false
def body:List UInt8→List UInt8
 | x::l=>if x == 45 then l else x::l
 | []=>[]
theorem Q6x (l:List UInt8):(body l).length≤l.length:=by
 cases l with
 | nil=>exact V7 _
 | cons x l =>
  show (if (x == 45)=true then l else x::l).length≤_
  split<;>simp

theorem Q4e (w:World) (l:List UInt8) (hl:l.length≤10000000) :
  Calls Tryz.prog 190 #[sv l,sv [45]] w (aQ fun v w'=>Kp [] w w'∧v=.bool (minus l)):=by
 have h1:((([45]:List UInt8).length:Nat):Int)=1:=rfl
 rcases l with _|⟨x,l⟩
 ·have h0:((([]:List UInt8).length:Nat):Int)=0:=rfl
  refine Qa [] [] aA [] Tryz.func190 rfl mixed (by kernel_rfl) Tryz.ntmps190 Tryz.results190 rfl ⟨by simp,by simp⟩ aA ?_
  simp only[toS,Qe,Qx,Qo,Qr,ay,Ql,Qy,aB]
  repeat' first|apply jS|apply jO|apply jN|apply jT|refine Q1 ?_|refine Q0 ?_|refine Qq ?_|refine Zu (h:=?_)|(refine Zs (h1:=?_) (h2:=?_)<;>intro hc<;>try omega)|refine QA ?_|apply jR
  exact Qj rfl (fun a w' st=>⟨st.kp,rfl⟩)
 ·have h2:(((x::l).length:Nat):Int)=l.length+1:=by simp
  refine Qa [] [] aA [] Tryz.func190 rfl mixed (by kernel_rfl) Tryz.ntmps190 Tryz.results190 rfl ⟨by simp,by simp⟩ aA ?_
  simp only[toS,Qe,Qx,Qo,Qr,ay,Ql,Qy,aB]
  repeat' first|apply jS|apply jO|apply jN|refine Q1 ?_|refine Q0 ?_|refine Zu (h:=?_)|(refine Zs (h1:=?_) (h2:=?_)<;>intro hc<;>try omega)|apply jT
  refine Qnk (j:=1) rfl rfl rfl rfl aA ?_
  repeat' first|apply jN|apply jT|refine Q1 ?_|refine Q0 ?_|refine Qp ?_|refine Qea (h:=?_)|apply jR
  refine Qj rfl (fun a w' st=>⟨st.kp,?_⟩)
  show Value.bool (decide ((x::l).take 1=[45]))=.bool (x == 45)
  congr 1
  simp[List.take]
  rfl

theorem Q8i (w:World) (l:List UInt8) (hl:l.length≤10000000) :
  Calls Tryz.prog 168 #[sv l,sv [45]] w (aQ fun v w'=>Kp [] w w'∧v=.tuple #[sv (body l),.bool (minus l)]):=by
 by_cases hm:minus l=true
 ·refine Qa [] [] aA [] Tryz.func168 rfl mixed (by kernel_rfl) Tryz.ntmps168 Tryz.results168 rfl ⟨by simp,by simp⟩ aA ?_
  simp only[toS,Qe,Qx,Qo,Qr,ay,Ql,Qy,aB]
  repeat' first|apply jS|apply jO|apply jN|refine Q1 ?_|refine Q0 ?_|apply jT
  refine Q9 trivial rfl rfl rfl (fun w hk hs=>Q4e w l hl) fun w v w' _ _ _ hR=>?_
  rw[hm]at hR
  subst hR
  rcases l with _|⟨x,l⟩
  ·cases hm
  repeat' first|apply jS|apply jO|apply jN|apply jT|refine Q1 ?_|refine Q0 ?_|refine QG ?_|refine Zu (h:=?_)|refine Q5z (h:=?_)|apply jK|apply jR|refine Q4 rfl ?_
  refine QN rfl rfl (fun a w' st=>⟨st.kp,?_⟩)
  rw[hm]
  have:(x == 45)=true:=hm
  show _=Value.tuple #[sv (if (x == 45)=true then l else x::l),.bool true]
  rw[if_pos this]
 ·have hm:minus l=false:=by simpa using hm
  refine Qa [] [] aA [] Tryz.func168 rfl mixed (by kernel_rfl) Tryz.ntmps168 Tryz.results168 rfl ⟨by simp,by simp⟩ aA ?_
  simp only[toS,Qe,Qx,Qo,Qr,ay,Ql,Qy,aB]
  repeat' first|apply jS|apply jO|apply jN|refine Q1 ?_|refine Q0 ?_|apply jT
  refine Q9 trivial rfl rfl rfl (fun w hk hs=>Q4e w l hl) fun w v w' _ _ _ hR=>?_
  rw[hm]at hR
  subst hR
  repeat' first|apply jS|apply jO|apply jN|apply jT|refine Q1 ?_|refine Q0 ?_|refine QG ?_|apply jV|apply jR|refine Q5 rfl ?_
  refine QN rfl rfl (fun a w' st=>⟨st.kp,?_⟩)
  rw[hm]
  rcases l with _|⟨x,l⟩
  ·rfl
  ·have:¬((x == 45)=true):=by simpa [minus] using hm
   show _=Value.tuple #[sv (if (x == 45)=true then l else x::l),.bool false]
   rw[if_neg this]

theorem Q9e (w:World) (l:List UInt8) (hl:l.length≤10000000) :
  Calls Tryz.prog 137 #[sv l,sv [45]] w (aQ fun v w'=>Kp [] w w'∧v=.tuple #[sv (body l),.bool (minus l)]):=by
 refine Qa [] [] aA [] Tryz.func137 rfl mixed (by kernel_rfl) Tryz.ntmps137 Tryz.results137 rfl ⟨by simp,by simp⟩ aA ?_
 simp only[toS,Qe,Qx,Qo,Qr,ay,Ql,Qy,aB]
 repeat' first|apply jS|apply jO|apply jN|refine Q1 ?_|refine Q0 ?_|apply jT
 refine Q9 trivial rfl rfl rfl (fun w hk hs=>Q8i w l hl) fun w v w' _ _ _ hR=>?_
 subst hR
 repeat' first|apply jN|apply jT|refine Q0 ?_|refine Qu (h:=?_)|apply jR
 exact QN rfl rfl (fun a w' st=>⟨st.kp,rfl⟩)

def eP (l:List UInt8):Nat:=l.foldl (fun v c=>10*v+(c.toNat-48)) 0
def digit (c:UInt8):Bool:=Nat.ble 48 c.toNat && Nat.ble c.toNat 57
theorem Q3t (l:List UInt8) (c:UInt8):eP (l++[c])=10*eP l+(c.toNat-48):=by
 unfold eP
 rw[List.foldl_append]
 rfl
theorem X1 {l:List UInt8} {i:Nat} (h:i<l.length):l.take (i+1)=l.take i++[l[i]]:=by
 rw[List.take_add_one,List.getElem?_eq_getElem h]
 rfl
theorem Qbp {l:List UInt8} {i:Nat} (h:i<l.length):(bf l).getD i 0=(l[i]).toNat:=by simp[bf,List.getD,h]
theorem Wl {l:List UInt8} {i:Nat} (h:i<l.length):eP (l.take (i+1))=10*eP (l.take i)+((bf l).getD i 0-48):=by
 rw[X1 h,Q3t,Qbp h]
theorem Yk (c:UInt8):digit c=true↔48≤c.toNat∧c.toNat≤57:=by simp[digit]
theorem Xg {l:List UInt8}:∀ i,i≤l.length→(∀ c∈l.take i,digit c=true)→eP (l.take i)<10 ^ i
 | 0,_,_=>by simp[eP]
 | i+1,h,hd=>by
  have h0:i<l.length:=h
  rw[X1 h0]at hd ⊢
  have h1:=Xg (l:=l) i oq fun c hc=>hd c (List.mem_append.2 (.inl hc))
  have h2:=(Yk _).1 (hd (l[i]) (List.mem_append.2 (.inr (List.mem_singleton.2 rfl))))
  rw[Q3t,V9]
  omega
def PRes (l:List UInt8):Value:=if (body l).all digit then .tuple #[Wv (bC (minus l) (eP (body l))),.bool (decide (body l≠[]))] else .tuple #[Wv 0,.bool false]

theorem Qmh (w:World) (l:List UInt8) (hl:l.length≤10000000) :
  Calls Tryz.prog 71 #[sv l] w (aQ fun v w'=>Kp [] w w'∧v=PRes l):=by
 have hbl:=Q6x l
 refine Qa [⟨3,0,[],[(1,.seq)]⟩] [] aA [] Tryz.func71 rfl mixed (by kernel_rfl) Tryz.ntmps71 Tryz.results71 rfl ⟨by simp,by simp⟩ aA ?_
 simp only[toS,Qe,Qx,Qo,Qr,ay,Ql,Qy,aB]
 repeat' first|apply jS|apply jO|apply jN|refine Q1 ?_|refine Q0 ?_|refine Qh fun _=>?_|apply jT
 rename_i b2
 refine Q9 trivial rfl rfl rfl (fun w hk hs=>Q9e w l oq) fun w v w' _ _ _ hR=>?_
 subst hR
 unfold PRes
 generalize minus l=neg
 generalize body l=t at hbl
 repeat' first|apply jS|apply jO|apply jN|refine Q1 ?_|refine Q0 ?_|refine Qu (h:=?_)|apply jT
 refine Qe1 trivial rfl rfl rfl (fun bc cap rest fz hcap=>?_)
 have hbt:=Xt t
 have hRd:∀ c,RdY c [(bc,.cells (ZR (bf t) rest) 5 fz)] (.slice (some ⟨bc,0,none⟩) t.length cap) t.length (bf t):=fun c=>RdY.blk (by simp[hbt]) hcap
 repeat' first|apply jN|apply jT|refine Q1 ?_|refine ZC (h:=?_)|apply jB
 refine Qn (ι:=Nat × Value × aj × List Nat) ⟨fun z=>[(17,nv z.1),(16,nv t.length),(15,.slice (some ⟨bc,0,none⟩) t.length cap),(6,z.2.1),(5,.bool neg),(4,sv t),(2,.pointer (some ⟨b2,0,none⟩))],
  fun z=>(bc,.cells (ZR (bf t) rest) 5 fz)::(b2,.cells #[.bool false,.string ⟨#[]⟩] 75 (0,0))::(z.2.2.1++[]),
  fun z=>z.1≤t.length∧aZ z.2.2.1 z.2.1 z.2.2.2.length z.2.2.2∧dA W32 z.2.2.2∧val W32 z.2.2.2=eP (t.take z.1)∧∀ c∈t.take z.1,digit c=true,fun z=>t.length-z.1⟩
  (0,_,[],[]) ⟨V8 _,aZ.nil,dA.nil _,rfl,by simp⟩ aC QF (fun z hz=>?_)
 obtain⟨i,vx,N,zs⟩:=z
 obtain⟨hi,hO,hz,hval,hdig⟩:=hz
 dsimp only at hi hO hz hval hdig ⊢
 have hlt:=Xg i hi hdig
 have hzl:zs.length≤i:=hz.bM dq (by
  rw[hval]
  exact V6 hlt (Nat.pow_le_pow_left dq i))
 obtain⟨Ax,cx,rfl⟩:=hO.form
 by_cases hin:i<t.length
 ·have hb256:(bf t).getD i 0<256:=Q4g
  have hR1:=hRd
  have hti:=Qbp hin
  by_cases hd:48≤(bf t).getD i 0∧(bf t).getD i 0≤57
  ·have hdi:digit t[i]=true:=(Yk _).2 (by rw[← hti];exact hd)
   have hd0:=hd.1
   have hd9:=hd.2
   repeat' first|apply jS|apply jO|apply jN|apply jT|(refine Qg (h1:=?_) (h2:=?_)<;>intro hc<;>try omega)|apply jK|refine Q5 rfl ?_|apply jB
   refine Q7j rfl rfl rfl rfl (hRd _) hin ?_
   refine Qky rfl rfl rfl rfl (hRd _) Qb hin ?_
   repeat' first|apply jS|apply jO|apply jN|apply jT|refine Q1 ?_|refine Q0 ?_|refine Qq ?_|(refine Qg (h1:=?_) (h2:=?_)<;>intro hc<;>try omega)|(refine QU (h1:=?_) (h2:=?_)<;>intro hc<;>try omega)|refine QH (h:=fun _=>?_)|apply jK|refine Q4 rfl ?_
   rename_i b10
   have hO10:aZ [(b10,.cells ⟨[.int .u64 10]⟩ 126)] (.slice (some ⟨b10,0,none⟩) 1 1) 1 [10]:=YA b10 1 [10] _ rfl rfl oq
   refine Qt (A:=[_,_,_]) rfl trivial rfl rfl rfl (fun w hk hs=>Qbf w _ _ _ _ _ _ (hO.rd.at hk hs Qb) (hO10.rd.at hk hs Qb) hz.lt (fun x hx=>by rw[List.mem_singleton]at hx;rw[hx];decide) oq oq) fun w v w' _ _ _ hR=>?_
   obtain⟨N1,zs1,hN1,bG,hz1,aP⟩:=hR
   refine⟨N1,hN1,?_⟩
   rw[Q5k,hval]at aP
   have jv:zs1.length≤i+1:=hz1.bM dq (by
    rw[aP]
    refine V6 ?_ (Nat.pow_le_pow_left (show 10≤W32 by decide) (i+1))
    rw[V9]
    omega)
   repeat' first|refine Q1 ?_|fail
   refine Q3j rfl rfl rfl rfl oq ?_
   have hb64:(bf t).getD i 0-48<18446744073709551616:=by omega
   repeat' first|refine Q8v (h:=?_)|refine QH (h:=fun _=>?_)|fail
   rename_i b11
   have hO11:aZ [(b11,.cells ⟨[uv ((bf t).getD i 0-48)]⟩ 126)] (.slice (some ⟨b11,0,none⟩) 1 1) 1 [(bf t).getD i 0-48]:=YA b11 1 [(bf t).getD i 0-48] _ rfl rfl oq
   refine Q9 trivial rfl rfl rfl (fun w hk hs=>YR w _ _ _ _ (hO11.rd.at hk hs Qb) oq) fun w v w' _ _ _ hR=>?_
   obtain⟨k3,hk3,rfl,hn3⟩:=hR
   have jq:=hO11.hd hk3
   rw[← hn3]at jq
   skip
   refine Qt (A:=[_,_,_,_]) rfl trivial rfl rfl rfl (fun w hk hs=>Qin w _ _ _ _ _ _ (bG.rd.at hk hs Qb) (jq.rd.at hk hs Qb) hz1.lt (fun x hx=>by
    have:=Xq x hx
    rw[List.mem_singleton]at this
    rw[this]
    show _<4294967296
    omega) oq oq) fun w v w' _ _ _ hR=>?_
   obtain⟨N2,zs2,eH,hO2,hz2,aY⟩:=hR
   refine⟨N2,eH,?_⟩
   rw[X0,aP]at aY
   repeat' first|apply jO|apply jN|apply jT|refine Q1 ?_|refine Q0 ?_|refine Qd ?_|apply jW
   refine Q8 (i+1,_,N2,zs2) ⟨by dsimp only;omega,hO2,hz2,?_,?_⟩ aW aC QF
   ·dsimp only
    rw[aY,Wl hin,Va]
   ·dsimp only
    rw[X1 hin]
    intro c hc
    rcases List.mem_append.1 hc with h|h
    ·exact hdig c h
    ·rw[List.mem_singleton]at h;rw[h];exact hdi
  ·have hnall:¬(t.all digit=true):=fun h=>hd (by
    rw[hti]
    exact(Yk _).1 (List.all_eq_true.1 h _ (List.getElem_mem hin)))
   rw[if_neg hnall]
   by_cases hd1:(bf t).getD i 0<48
   ·repeat' first|apply jS|apply jO|apply jN|apply jT|(refine Qg (h1:=?_) (h2:=?_)<;>intro hc<;>try omega)|apply jK|refine Q5 rfl ?_|apply jB
    refine Q7j rfl rfl rfl rfl (hRd _) hin ?_
    refine Qky rfl rfl rfl rfl (hRd _) Qb hin ?_
    repeat' first|apply jS|apply jO|apply jN|apply jT|refine Q1 ?_|refine Q0 ?_|refine Qp ?_|refine Q6 ?_|(refine Qg (h1:=?_) (h2:=?_)<;>intro hc<;>try omega)|refine ZU (h:=?_)|refine Q6 ?_|apply jV|refine Q5 rfl ?_|apply Qz|refine QA ?_|apply jR
    exact Zg 1 rfl rfl rfl rfl (fun a w' st=>⟨st.kp,rfl⟩)
   ·have hd2:57<(bf t).getD i 0:=by omega
    repeat' first|apply jS|apply jO|apply jN|apply jT|(refine Qg (h1:=?_) (h2:=?_)<;>intro hc<;>try omega)|apply jK|refine Q5 rfl ?_|apply jB
    refine Q7j rfl rfl rfl rfl (hRd _) hin ?_
    refine Qky rfl rfl rfl rfl (hRd _) Qb hin ?_
    repeat' first|apply jS|apply jO|apply jN|apply jT|refine Q1 ?_|refine Q0 ?_|refine Qq ?_|refine Q6 ?_|(refine Qg (h1:=?_) (h2:=?_)<;>intro hc<;>try omega)|(refine QU (h1:=?_) (h2:=?_)<;>intro hc<;>try omega)|refine ZU (h:=?_)|refine Q6 ?_|apply jV|apply jR|refine Q5 rfl ?_|apply Qz
    exact Zg 1 rfl rfl rfl rfl (fun a w' st=>⟨st.kp,rfl⟩)
 ·obtain rfl:i=t.length:=by omega
  rw[List.take_length]at hval hdig
  rw[if_pos (List.all_eq_true.2 hdig)]
  repeat' first|apply jS|apply jO|apply jN|apply jT|refine Q1 ?_|(refine Qg (h1:=?_) (h2:=?_)<;>intro hc<;>try omega)|apply jU|apply jE|refine Q4 rfl ?_|apply Qc
  refine Q9 trivial rfl rfl rfl (fun w hk hs=>Yh w _ _ zs neg (hO.rd.at hk hs Qb) hz.lt oq) fun w v w' _ _ _ hR=>?_
  rw[hval]at hR
  subst hR
  repeat' first|apply jN|apply jT|refine Q1 ?_|refine Q0 ?_|refine Q6 ?_|refine Ya (h:=?_)|refine Q6 ?_|apply jR
  exact Zg 1 rfl rfl rfl rfl (fun a w' st=>⟨st.kp,rfl⟩)


theorem WY.hd {w:World} {A:Option Addr} {n k cap:Nat} {xs:List Nat} (hv:WY w (.slice A n cap) n xs) (hk:k≤n):WY w (.slice A k cap) k (xs.take k):=by
 have hl:=hv.len
 obtain⟨h1,A',cap',h2,h3,h4⟩:=hv
 simp only[Value.slice.injEq]at h2
 obtain⟨rfl,_,rfl⟩:=h2
 refine⟨by simp;omega,A,cap,rfl,by omega,fun h0=>⟨(h4 oq).1,fun j u hu=>?_⟩⟩
 obtain⟨⟨b,o,rfl⟩,h5⟩:=h4 oq
 refine h5 j u ?_
 rw[List.map_take,List.getElem?_take]at hu
 split at hu
 ·exact hu
 ·cases hu
theorem WY.cap {w:World} {A:Option Addr} {n cap:Nat} {xs:List Nat} (h:WY w (.slice A n cap) n xs):n≤cap:=by
 obtain⟨_,A',cap',h2,h3,_⟩:=h
 simp only[Value.slice.injEq]at h2
 obtain⟨_,_,rfl⟩:=h2
 exact h3

section
variable {c:Cx} {Q:Exit→Act→World→Prop} {m:Mode} {F:ak} {H:aj} {r:List bT} {g:Option (Option Tmp × Bool)} {ns:Bool} {d:Tmp} {ty t t':TypeId} {x y:Operand}
end


class TWide (P:Program) (t:TypeId):Prop where
 guard:P.eqGuardType P.depth t=false
 eql:∀ (w:World) (p q:Bool) (l m:List UInt8),(Op.equalIn 10000 t (wv p l) (wv q m)).run P w=.ok (p == q && decide (l=m)) w

instance:TWide Tryz.prog 75:=⟨Tryz.eqGuardType75,fun w p q l m=>by
 have hf:Tryz.prog.underlying 75=some (.struct (Tryz.prog.fieldsOf 75)):=by rw[Program.fieldsOf,Tryz.underlying75]
 rw[run_equalIn_agg w 9999 75 _ _ hf Tryz.stoodInHeld75]
 simp only[Program.fieldsOf,Tryz.underlying75]
 have h4:∀ (w:World) (xs:Array Value) (a b:Value),xs=#[a,b]→(part 4 xs 0).run Tryz.prog w=.ok a w:=by
  intro w xs a b e
  subst e
  simp[part,isAgg,run_underlying Tryz.underlying4,Sem.run_bind]
 have h9:∀ (w:World) (xs:Array Value) (a b:Value),xs=#[a,b]→(part 9 xs 1).run Tryz.prog w=.ok b w:=by
  intro w xs a b e
  subst e
  simp[part,isAgg,run_underlying Tryz.underlying9,Sem.run_bind]
 have g1:=h4 w #[.bool p,sv l] _ _ rfl
 have g2:=h4 w #[.bool q,sv m] _ _ rfl
 have g3:=h9 w #[.bool p,sv l] _ _ rfl
 have g4:=h9 w #[.bool q,sv m] _ _ rfl
 have g5:=run_equalIn_bool' (P:=Tryz.prog) w 9998 4 p q Tryz.underlying4
 have g6:=run_equalIn_string (P:=Tryz.prog) w 9998 9 ⟨l.toArray⟩ ⟨m.toArray⟩ Tryz.underlying9
 rw[Wh,Wh]at g6
 have hlm:(l == m)=decide (l=m):=by
  by_cases h:l=m
  ·simp[h]
  ·simp[h]
 rw[hlm]at g6
 simp only[Op.eqFields]
 rw[if_pos dq,if_pos dq]
 simp only[Sem.run_bind,g1,g2,g3,g4,g5,g6,Result.andThen_ok]
 cases hpq:(p == q)with
 | false=>simp
 | true =>
  simp only[Bool.not_true,Bool.false_eq_true,if_false,Sem.run_bind,g3,g4,g6,Result.andThen_ok,Bool.true_and]
  cases decide (l=m)<;>simp⟩

section
variable {c:Cx} {Q:Exit→Act→World→Prop} {m:Mode} {F:ak} {H:aj} {r:List bT} {g:Option (Option Tmp × Bool)} {ns:Bool} {d:Tmp} {ty t t':TypeId} {x y:Operand}
theorem Qku {p q:Bool} {l k:List UInt8} [hT:TWide c.P t] (hd:Qw c.n (some d)=true) (hg:Qi F g=some true) (hx:ev F x=some (wv p l)) (hy:ev F y=some (wv q k))
  (h:JO c Q m r ((d,.bool (!(p == q && decide (l=k))))::F) H):JO c Q m (⟨some d,.binOp .neq t x y t',ty,g,.bg,ns⟩::r) F H :=
 ZE hd hg (fun a w fr=>by
  simp only[execOp,fr.ev hx,fr.ev hy,Sem.run_bind,run_eqGuard_agg w .neq t x y _ _ hT.guard,Result.andThen_ok,run_neq_struct,hT.eql,Sem.run_pure]) h
end

theorem fD.i64 {n:Int} (h1 : -9223372036854775808≤n) (h2:n<9223372036854775808):fD (Wv n) n 8:=QC (by
 have:n.natAbs≤9223372036854775808:=by omega
 exact V5 this dq)


abbrev aI:Nat:=65536

theorem bH.hd {N:aj} {A:Option Addr} {n k cap:Nat} {xs:List Nat} (h:bH N (.slice A n cap) n xs) (hk:k≤n):bH N (.slice A k cap) k (xs.take k):=by
 have hl:=h.len
 obtain⟨h1,⟨h2,h3,h4⟩|⟨b,cap',cur,h2,h3,h4,h5,h6,h7⟩⟩:=h
 ·subst h4
  subst h3
  obtain rfl:k=0:=by omega
  have h0:xs=[]:=List.eq_nil_of_length_eq_zero hl
  subst h0
  rw[h2]
  exact bH.nil
 ·simp only[Value.slice.injEq,true_and]at h2
  obtain⟨rfl,rfl⟩:=h2
  refine⟨by simp;omega,.inr ⟨b,cap,cur,rfl,h3,by omega,h5,h6,?_⟩⟩
  rw[Nat.mul_one]at h7 ⊢
  rw[List.map_take, ← h7,List.take_take,Nat.min_eq_left hk]

def NewR (w w':World) (v:Value) (z m:Nat):Prop:=∃ N zs,New N w w'∧bH N v zs.length zs∧(∀ x∈zs,x<aI)∧val aI zs=z∧zs.length≤m
def NewD (w w':World) (v:Value) (z:Nat):Prop:=∃ N zs,New N w w'∧bH N v zs.length zs∧dA aI zs∧val aI zs=z

theorem Y7 (b:Nat) (l:List Nat) (x:Nat):val b (l++[x])=val b l+b ^ l.length*x:=by
 rw[YX,val,val,Nat.mul_zero,Vp]
theorem ZW {b:Nat} {l:List Nat} {x:Nat} (h:∀ y∈l,y<b) (hx:x<b):∀ y∈l++[x],y<b:=fun y hy=>by
 rcases List.mem_append.1 hy with h1|h1
 ·exact h y h1
 ·rw[List.mem_singleton.1 h1];exact hx
theorem Q25 (l:List Nat) (m:Nat) (h0:0<m) (h:m≤l.length):bV (l.take m)=l.getD (m-1) 0+256*bV (l.take (m-1)):=by
 have:=Q8j l (m-1) oq
 rwa [show m-1+1=m by omega]at this
theorem Qfe {P a b x V:Nat}:V+P*(a+256*b)+P*65536*x=V+P*(a+256*(b+256*x)):=by
 rw[Vk,Nat.add_assoc, ← Vm]
 congr 2
 omega

theorem Yl (w:World) (p:Bool) (l:List UInt8) (hl:l.length≤31000000000000) :
  Calls Tryz.prog 83 #[wv p l] w (aQ fun v w'=>Kp [] w w'∧NewD w w' v (bV (bf l))):=by
 have hbl:=Xt l
 refine Qa [] [] aA [] Tryz.func83 rfl mixed (by kernel_rfl) Tryz.ntmps83 Tryz.results83 rfl ⟨by simp,by simp⟩ aA ?_
 simp only[toS,Qe,Qx,Qo,Qr,ay,Ql,Qy,aB]
 repeat' first|apply jS|apply jO|apply jN|apply jT|refine Q1 ?_|refine Q2 ?_|refine Q0 ?_|refine Q7 ?_|refine Zu (h:=?_)|refine QM (h:=fun _=>?_)|apply jB
 rename_i b1
 refine Qn (ι:=Int × Value × aj × List Nat) ⟨fun z=>[(5,iv z.1),(3,z.2.1),(1,.pointer (some ⟨b1,0,none⟩))],fun z=>(b1,.cells #[.bool p,sv l] 75)::(z.2.2.1++[]),
  fun z=>z.1=l.length-2*z.2.2.2.length ∧ -2≤z.1∧bH z.2.2.1 z.2.1 z.2.2.2.length z.2.2.2∧(∀ x∈z.2.2.2,x<aI)∧val aI z.2.2.2+aI ^ z.2.2.2.length*bV ((bf l).take z.1.toNat)=bV (bf l),fun z=>(z.1+2).toNat⟩
  ((l.length : Int), _, [], []) ⟨by simp, by simp, bH.nil, fun _ h => absurd h List.not_mem_nil, by
   dsimp only
   rw[Int.toNat_natCast,Vd oq]
   simp[val]⟩ aC (by exact HSub.at 0 rfl (HSub.nil _)) (fun z hz=>?_)
 obtain⟨i,v,N,zs⟩:=z
 obtain⟨hi,hi2,hO,hz,hval⟩:=hz
 dsimp only at hi hi2 hO hz hval ⊢
 by_cases hin:0<i
 ·obtain⟨m,rfl⟩:∃ m:Nat,i=m:=⟨i.toNat,by omega⟩
  rw[Int.toNat_natCast]at hval
  have hm0:0<m:=by omega
  have hml:m≤l.length:=by omega
  have hd1:(bf l).getD (m-1) 0<256:=Q4g
  have hd2:(bf l).getD (m-2) 0<256:=Q4g
  by_cases hm1:1<m
  ·repeat' first|apply jS|apply jO|apply jN|apply jT|refine Q1 ?_|refine Q2 ?_|refine Q0 ?_|refine Q7 ?_|refine Z1 (i:=256) (h:=?_)|refine Z8 (h:=?_)|refine Yf (h:=?_)|refine Q7e (h:=?_)|refine Yb (h:=?_)|refine YG (h:=?_)|(refine QU (h1:=?_) (h2:=?_)<;>intro hc<;>try omega)|refine QH (h:=fun _=>?_)|apply jK|refine Q5 rfl ?_|apply jB
   rename_i b2
   refine ZG (A:=[_,_]) hO (ZH b2 1 [(bf l).getD (m-1) 0+256*(bf l).getD (m-2) 0] _ rfl rfl dq).rd Qb rfl trivial rfl rfl rfl rfl oq (fun v' N' aX=>?_)
   repeat' first|apply jO|apply jN|apply jT|refine Q1 ?_|refine Q0 ?_|refine Q7e (h:=?_)|apply jW
   refine Q8 (((m-2:Nat):Int),v',N',zs++[(bf l).getD (m-1) 0+256*(bf l).getD (m-2) 0]) ⟨by simp only[Vi,Vo];omega,by dsimp only;omega,by rw[Vi];exact aX,ZW hz (by show _<65536;omega),?_⟩ aW aC QF
   dsimp only
   rw[Y7,Vi,Vo,Int.toNat_natCast, ← hval,Q25 _ m hm0 oq,Q25 _ (m-1) oq oq,show m-1-1=m-2 by omega,V9]
   exact Qfe
  ·repeat' first|apply jS|apply jO|apply jN|apply jT|refine Q1 ?_|refine Q2 ?_|refine Q0 ?_|refine Q7 ?_|refine Yf (h:=?_)|refine Yb (h:=?_)|refine YG (h:=?_)|(refine QU (h1:=?_) (h2:=?_)<;>intro hc<;>try omega)|refine QH (h:=fun _=>?_)|apply jK|refine Q5 rfl ?_|refine Q4 rfl ?_|apply jB
   rename_i b2
   refine ZG (A:=[_,_]) hO (ZH b2 1 [(bf l).getD (m-1) 0] _ rfl rfl dq).rd Qb rfl trivial rfl rfl rfl rfl oq (fun v' N' aX=>?_)
   repeat' first|apply jO|apply jN|apply jT|refine Q1 ?_|refine Q0 ?_|refine X3 (h:=?_)|apply jW
   refine Q8 ((m:Int)-2,v',N',zs++[(bf l).getD (m-1) 0]) ⟨by simp only[Vi,Vo];omega,by dsimp only;omega,by rw[Vi];exact aX,ZW hz (by show _<65536;omega),?_⟩ aW aC QF
   dsimp only
   obtain rfl:m=1:=by omega
   rw[Y7,Vi,Vo,show ((1:Nat):Int)-2 = -1 from rfl,show (-1:Int).toNat=0 from rfl,List.take_zero,WE,Nat.mul_zero,Vp, ← hval,Q25 _ 1 dq oq,Nat.sub_self,List.take_zero,WE,Nat.mul_zero,Vp]
 ·repeat' first|apply jS|apply jO|apply jN|apply jT|refine Q1 ?_|(refine QU (h1:=?_) (h2:=?_)<;>intro hc<;>try omega)|apply jU|apply jE|refine Q4 rfl ?_|apply Qc
  obtain⟨A,cap,rfl⟩:=hO.form
  refine Q9 trivial rfl rfl rfl (fun w hk hs=>Q01 w _ _ _ _ (hO.rd.at hk hs Qb) oq) fun w v w' _ _ _ hR=>?_
  obtain⟨q,hq,rfl,hnq⟩:=hR
  repeat' first|apply jN|apply jT|refine Q0 ?_|apply jR
  have hown:=hO.hd hq
  rw[← hnq]at hown
  have jG:(nrm zs).length=q:=hown.len
  refine Qj rfl (fun a w' st=>⟨st.kp,N,nrm zs,st.bI rfl Qb,by rw[jG];exact hown,dA.of hz,?_⟩)
  rw[show i.toNat=0 by omega,List.take_zero,WE,Nat.mul_zero,Vp]at hval
  rw[Zo,hval]


theorem Q6a {l:List Nat} {i:Nat} (h:¬i<l.length):l.getD i 0=0:=by rw[List.getD,List.getElem?_eq_none oq];rfl

theorem Q5e (w:World) (v u:Value) (n k:Nat) (xs ys:List Nat) (hv:WN w v n xs) (hu:WN w u k ys) (hx:∀ x∈xs,x<aI) (hy:∀ x∈ys,x<aI) (hn:n≤16000000000000) (hk:k≤16000000000000) :
  Calls Tryz.prog 85 #[v,u] w (aQ fun v w'=>Kp [] w w'∧NewR w w' v (val aI xs+val aI ys) (max n k+1)):=by
 have hlx:=hv.len
 have hly:=hu.len
 obtain⟨M,hM1,hM2,hM3⟩:∃ M,n≤M∧k≤M∧(M=n∨M=k):=⟨max n k,by omega,by omega,by omega⟩
 refine Qa [] [] aA [] Tryz.func85 rfl mixed (by kernel_rfl) Tryz.ntmps85 Tryz.results85 rfl ⟨by simp,by simp⟩ aA ?_
 simp only[toS,Qe,Qx,Qo,Qr,ay,Ql,Qy,aB]
 repeat' first|apply jS|apply jO|apply jN|apply jT|refine Q0 ?_|apply jB
 refine Qn (ι:=Nat × Nat × Value × aj × List Nat) ⟨fun z=>[(7,nv z.1),(6,nv z.2.1),(5,z.2.2.1),(0,v),(1,u)],fun z=>z.2.2.2.1++[],
  fun z=>z.2.2.2.2.length=z.1∧(z.1≤M∨z.1=M+1∧z.2.1=0)∧z.2.1≤1∧bH z.2.2.2.1 z.2.2.1 z.1 z.2.2.2.2∧(∀ x∈z.2.2.2.2,x<aI)∧val aI z.2.2.2.2+aI ^ z.1*z.2.1=val aI (xs.take z.1)+val aI (ys.take z.1),fun z=>M+2-z.1⟩
  (0,0,_,[],[]) ⟨rfl,.inl (V8 _),V8 _,bH.nil,fun _ h=>absurd h List.not_mem_nil,by simp[val]⟩ aC (by exact HSub.nil _) (fun z hz=>?_)
 obtain⟨i,c,vo,N,zs⟩:=z
 obtain⟨hlz,hi,hc1,hO,hz,hval⟩:=hz
 dsimp only at hlz hi hc1 hO hz hval ⊢
 have hxi:xs.getD i 0<65536:=QD (b:=aI) dq hx i
 have hyi:ys.getD i 0<65536:=QD (b:=aI) dq hy i
 by_cases hin:i<n
 ·by_cases hik:i<k
  ·repeat' first|apply jS|apply jO|apply jN|apply jT|refine Q1 ?_|refine Q0 ?_|refine ZT (h:=?_)|refine Xp (h:=?_)|refine Z9 (h:=?_)|refine W6 (j:=65536) (h:=?_)|refine Z8 (h:=?_)|refine Qp ?_|(refine Qg (h1:=?_) (h2:=?_)<;>intro hc<;>try omega)|refine QH (h:=fun _=>?_)|apply jK|refine Q5 rfl ?_|refine QA ?_|apply jB
   rename_i b2
   refine ZG (A:=[_]) hO (ZH b2 1 [(c+xs.getD i 0+ys.getD i 0) % 65536] _ rfl rfl dq).rd Qb rfl trivial rfl rfl rfl rfl oq (fun v' N' aX=>?_)
   repeat' first|apply jO|apply jN|apply jT|refine Q1 ?_|refine Q0 ?_|refine W8 (j:=65536) (h:=?_)|refine Qd ?_|apply jW
   refine Q8 (i+1,(c+xs.getD i 0+ys.getD i 0) / 65536,v',N',zs++[(c+xs.getD i 0+ys.getD i 0) % 65536]) ⟨by simp only[Vi,Vo];omega,by dsimp only;omega,by dsimp only;omega,aX,ZW hz (Nat.mod_lt _ dq),?_⟩ aW aC QF
   dsimp only
   rw[Y7,hlz,QJ,QJ,V9]
   have h:=YI (b:=aI) (P:=aI ^ i) (c:=c) (s:=c+xs.getD i 0+ys.getD i 0) (x:=xs.getD i 0) (y:=ys.getD i 0) oq hval
   rw[Nat.add_add_add_comm, ← Nat.add_assoc]
   exact h
  ·have hy0:ys.getD i 0=0:=Q6a oq
   repeat' first|apply jS|apply jO|apply jN|apply jT|refine Q1 ?_|refine Q0 ?_|refine ZT (h:=?_)|refine Xp (h:=?_)|refine Z9 (h:=?_)|refine W6 (j:=65536) (h:=?_)|refine Z8 (h:=?_)|refine Qp ?_|(refine Qg (h1:=?_) (h2:=?_)<;>intro hc<;>try omega)|refine QH (h:=fun _=>?_)|apply jK|refine Q5 rfl ?_|refine Q4 rfl ?_|refine QA ?_|apply jB
   rename_i b2
   refine ZG (A:=[_]) hO (ZH b2 1 [(c+xs.getD i 0) % 65536] _ rfl rfl dq).rd Qb rfl trivial rfl rfl rfl rfl oq (fun v' N' aX=>?_)
   repeat' first|apply jO|apply jN|apply jT|refine Q1 ?_|refine Q0 ?_|refine W8 (j:=65536) (h:=?_)|refine Qd ?_|apply jW
   refine Q8 (i+1,(c+xs.getD i 0) / 65536,v',N',zs++[(c+xs.getD i 0) % 65536]) ⟨by simp only[Vi,Vo];omega,by dsimp only;omega,by dsimp only;omega,aX,ZW hz (Nat.mod_lt _ dq),?_⟩ aW aC QF
   dsimp only
   rw[Y7,hlz,QJ,QJ,V9]
   have h:=YI (b:=aI) (P:=aI ^ i) (c:=c) (s:=c+xs.getD i 0) (x:=xs.getD i 0) (y:=ys.getD i 0) oq hval
   rw[Nat.add_add_add_comm, ← Nat.add_assoc]
   exact h
 ·have hx0:xs.getD i 0=0:=Q6a oq
  by_cases hik:i<k
  ·repeat' first|apply jS|apply jO|apply jN|apply jT|refine Q1 ?_|refine Q0 ?_|refine ZT (h:=?_)|refine Xp (h:=?_)|refine Z9 (h:=?_)|refine W6 (j:=65536) (h:=?_)|refine Z8 (h:=?_)|refine Qp ?_|refine Qq ?_|(refine Qg (h1:=?_) (h2:=?_)<;>intro hc<;>try omega)|refine QH (h:=fun _=>?_)|apply jK|refine Q5 rfl ?_|refine Q4 rfl ?_|refine QA ?_|apply jB
   rename_i b2
   refine ZG (A:=[_]) hO (ZH b2 1 [(c+ys.getD i 0) % 65536] _ rfl rfl dq).rd Qb rfl trivial rfl rfl rfl rfl oq (fun v' N' aX=>?_)
   repeat' first|apply jO|apply jN|apply jT|refine Q1 ?_|refine Q0 ?_|refine W8 (j:=65536) (h:=?_)|refine Qd ?_|apply jW
   refine Q8 (i+1,(c+ys.getD i 0) / 65536,v',N',zs++[(c+ys.getD i 0) % 65536]) ⟨by simp only[Vi,Vo];omega,by dsimp only;omega,by dsimp only;omega,aX,ZW hz (Nat.mod_lt _ dq),?_⟩ aW aC QF
   dsimp only
   rw[Y7,hlz,QJ,QJ,V9]
   have h:=YI (b:=aI) (P:=aI ^ i) (c:=c) (s:=c+ys.getD i 0) (x:=xs.getD i 0) (y:=ys.getD i 0) oq hval
   rw[Nat.add_add_add_comm, ← Nat.add_assoc]
   exact h
  ·have hy0:ys.getD i 0=0:=Q6a oq
   by_cases hc0:0<c
   ·repeat' first|apply jS|apply jO|apply jN|apply jT|refine Q1 ?_|refine Q0 ?_|refine Z9 (h:=?_)|refine W6 (j:=65536) (h:=?_)|refine Qq ?_|(refine Qg (h1:=?_) (h2:=?_)<;>intro hc<;>try omega)|(refine QU (h1:=?_) (h2:=?_)<;>intro hc<;>try omega)|refine QH (h:=fun _=>?_)|apply jK|refine Q5 rfl ?_|refine Q4 rfl ?_|apply jB
    rename_i b2
    refine ZG (A:=[_]) hO (ZH b2 1 [(c) % 65536] _ rfl rfl dq).rd Qb rfl trivial rfl rfl rfl rfl oq (fun v' N' aX=>?_)
    repeat' first|apply jO|apply jN|apply jT|refine Q1 ?_|refine Q0 ?_|refine W8 (j:=65536) (h:=?_)|refine Qd ?_|apply jW
    refine Q8 (i+1,(c) / 65536,v',N',zs++[(c) % 65536]) ⟨by simp only[Vi,Vo];omega,by dsimp only;omega,by dsimp only;omega,aX,ZW hz (Nat.mod_lt _ dq),?_⟩ aW aC QF
    dsimp only
    rw[Y7,hlz,QJ,QJ,V9]
    have h:=YI (b:=aI) (P:=aI ^ i) (c:=c) (s:=c) (x:=xs.getD i 0) (y:=ys.getD i 0) oq hval
    rw[Nat.add_add_add_comm, ← Nat.add_assoc]
    exact h
   ·repeat' first|apply jS|apply jO|apply jN|apply jT|refine Q1 ?_|refine Q0 ?_|refine Z9 (h:=?_)|refine Qq ?_|(refine Qg (h1:=?_) (h2:=?_)<;>intro hc<;>try omega)|(refine QU (h1:=?_) (h2:=?_)<;>intro hc<;>try omega)|apply jU|apply jE|apply jR|refine Q4 rfl ?_|apply Qc
    obtain rfl:c=0:=by omega
    rw[Nat.mul_zero,Vp,Vd oq,Vd oq]at hval
    exact Qj rfl (fun a w' st=>⟨st.kp,N,zs,st.bI rfl Qb,by rw[hlz];exact hO,hz,hval,by omega⟩)


theorem Wu {b P c x y d c' v a a':Nat} (hs:d+(c+y)=x+b*c') (h:v+a=a'+P*c):v+P*d+(a+P*y)=(a'+P*x)+P*b*c':=by
 have e:P*d+(P*c+P*y)=P*x+P*b*c':=by rw[← Vm, ← Vm,hs,Vm,Vk]
 omega

theorem Q4b (w:World) (v u:Value) (n k:Nat) (xs ys:List Nat) (hv:WN w v n xs) (hu:WN w u k ys) (hx:∀ x∈xs,x<aI) (hy:∀ x∈ys,x<aI) (hn:n≤16000000000000) (hkn:k≤n) (hle:val aI ys≤val aI xs) :
  Calls Tryz.prog 87 #[v,u] w (aQ fun v w'=>Kp [] w w'∧NewD w w' v (val aI xs-val aI ys)):=by
 have hlx:=hv.len
 have hly:=hu.len
 refine Qa [] [] aA [] Tryz.func87 rfl mixed (by kernel_rfl) Tryz.ntmps87 Tryz.results87 rfl ⟨by simp,by simp⟩ aA ?_
 simp only[toS,Qe,Qx,Qo,Qr,ay,Ql,Qy,aB]
 repeat' first|apply jS|apply jO|apply jN|apply jT|refine Q0 ?_|apply jB
 refine Qn (ι:=Nat × Nat × Value × aj × List Nat) ⟨fun z=>[(7,nv z.1),(6,nv z.2.1),(5,z.2.2.1),(0,v),(1,u)],fun z=>z.2.2.2.1++[],
  fun z=>z.2.2.2.2.length=z.1∧z.1≤n∧z.2.1≤1∧bH z.2.2.2.1 z.2.2.1 z.1 z.2.2.2.2∧(∀ x∈z.2.2.2.2,x<aI)∧val aI z.2.2.2.2+val aI (ys.take z.1)=val aI (xs.take z.1)+aI ^ z.1*z.2.1,fun z=>n-z.1⟩
  (0,0,_,[],[]) ⟨rfl,V8 _,V8 _,bH.nil,fun _ h=>absurd h List.not_mem_nil,by simp[val]⟩ aC (by exact HSub.nil _) (fun z hz=>?_)
 obtain⟨i,c,vo,N,zs⟩:=z
 obtain⟨hlz,hi,hc1,hO,hz,hval⟩:=hz
 dsimp only at hlz hi hc1 hO hz hval ⊢
 have hxi:xs.getD i 0<65536:=QD (b:=aI) dq hx i
 have hyi:ys.getD i 0<65536:=QD (b:=aI) dq hy i
 by_cases hin:i<n
 ·by_cases hik:i<k
  ·by_cases hd:xs.getD i 0<c+ys.getD i 0
   ·have hD:∃ q:Nat,q=xs.getD i 0+65536-(c+ys.getD i 0)∧q<65536:=⟨_,rfl,by omega⟩
    obtain⟨q,hq,hq2⟩:=hD
    repeat' first|apply jS|apply jO|apply jN|apply jT|refine Q1 ?_|refine Q0 ?_|refine ZT (h:=?_)|refine Xp (h:=?_)|refine Z9 (h:=?_)|refine Q61 (h:=?_)|refine X3 (h:=?_)|(refine Qg (h1:=?_) (h2:=?_)<;>intro hc<;>try omega)|refine QH (h:=fun _=>?_)|apply jK|refine Q5 rfl ?_|apply jB
    have e:Value.int .i64 ((xs.getD i 0:Int)-c-(ys.getD i 0:Int)+65536)=nv q:=by
     show iv _=iv _
     congr 1
     omega
    rw[e]
    rename_i b2
    refine ZG (A:=[_]) hO (ZH b2 1 [q] _ rfl rfl dq).rd Qb rfl trivial rfl rfl rfl rfl oq (fun v' N' aX=>?_)
    repeat' first|apply jO|apply jN|apply jT|refine Q1 ?_|refine Q0 ?_|refine Qd ?_|apply jW
    refine Q8 (i+1,1,v',N',zs++[q]) ⟨by simp only[Vi,Vo];omega,by dsimp only;omega,by dsimp only;omega,aX,ZW hz hq2,?_⟩ aW aC QF
    dsimp only
    rw[Y7,hlz,QJ,QJ,V9]
    exact Wu (b:=aI) (c:=c) (c':=1) (by show q+_=_+65536*_;omega) hval
   ·have hD:∃ q:Nat,q=xs.getD i 0-(c+ys.getD i 0)∧q<65536:=⟨_,rfl,by omega⟩
    obtain⟨q,hq,hq2⟩:=hD
    repeat' first|apply jS|apply jO|apply jN|apply jT|refine Q1 ?_|refine Q0 ?_|refine ZT (h:=?_)|refine Xp (h:=?_)|refine Z9 (h:=?_)|refine WQ (h:=?_)|(refine Qg (h1:=?_) (h2:=?_)<;>intro hc<;>try omega)|refine QH (h:=fun _=>?_)|apply jK|refine Q5 rfl ?_|refine Q4 rfl ?_|apply jB
    have e:Value.int .i64 ((xs.getD i 0-c-ys.getD i 0:Nat):Int)=nv q:=by
     show iv _=iv _
     congr 1
     omega
    rw[e]
    rename_i b2
    refine ZG (A:=[_]) hO (ZH b2 1 [q] _ rfl rfl dq).rd Qb rfl trivial rfl rfl rfl rfl oq (fun v' N' aX=>?_)
    repeat' first|apply jO|apply jN|apply jT|refine Q1 ?_|refine Q0 ?_|refine Qd ?_|apply jW
    refine Q8 (i+1,0,v',N',zs++[q]) ⟨by simp only[Vi,Vo];omega,by dsimp only;omega,by dsimp only;omega,aX,ZW hz hq2,?_⟩ aW aC QF
    dsimp only
    rw[Y7,hlz,QJ,QJ,V9]
    exact Wu (b:=aI) (c:=c) (c':=0) (by show q+_=_+65536*_;omega) hval
  ·have hy0:ys.getD i 0=0:=Q6a oq
   by_cases hd:xs.getD i 0<c
   ·have hD:∃ q:Nat,q=xs.getD i 0+65536-(c+0)∧q<65536:=⟨_,rfl,by omega⟩
    obtain⟨q,hq,hq2⟩:=hD
    repeat' first|apply jS|apply jO|apply jN|apply jT|refine Q1 ?_|refine Q0 ?_|refine ZT (h:=?_)|refine Xp (h:=?_)|refine Z9 (h:=?_)|refine Q61 (h:=?_)|refine X3 (h:=?_)|(refine Qg (h1:=?_) (h2:=?_)<;>intro hc<;>try omega)|refine QH (h:=fun _=>?_)|apply jK|refine Q5 rfl ?_|refine Q4 rfl ?_|apply jB
    have e:Value.int .i64 ((xs.getD i 0:Int)-c+65536)=nv q:=by
     show iv _=iv _
     congr 1
     omega
    rw[e]
    rename_i b2
    refine ZG (A:=[_]) hO (ZH b2 1 [q] _ rfl rfl dq).rd Qb rfl trivial rfl rfl rfl rfl oq (fun v' N' aX=>?_)
    repeat' first|apply jO|apply jN|apply jT|refine Q1 ?_|refine Q0 ?_|refine Qd ?_|apply jW
    refine Q8 (i+1,1,v',N',zs++[q]) ⟨by simp only[Vi,Vo];omega,by dsimp only;omega,by dsimp only;omega,aX,ZW hz hq2,?_⟩ aW aC QF
    dsimp only
    rw[Y7,hlz,QJ,QJ,V9]
    exact Wu (b:=aI) (c:=c) (c':=1) (by show q+_=_+65536*_;omega) hval
   ·have hD:∃ q:Nat,q=xs.getD i 0-(c+0)∧q<65536:=⟨_,rfl,by omega⟩
    obtain⟨q,hq,hq2⟩:=hD
    repeat' first|apply jS|apply jO|apply jN|apply jT|refine Q1 ?_|refine Q0 ?_|refine ZT (h:=?_)|refine Xp (h:=?_)|refine Z9 (h:=?_)|refine WQ (h:=?_)|(refine Qg (h1:=?_) (h2:=?_)<;>intro hc<;>try omega)|refine QH (h:=fun _=>?_)|apply jK|refine Q5 rfl ?_|refine Q4 rfl ?_|apply jB
    have e:Value.int .i64 ((xs.getD i 0-c:Nat):Int)=nv q:=by
     show iv _=iv _
     congr 1
     omega
    rw[e]
    rename_i b2
    refine ZG (A:=[_]) hO (ZH b2 1 [q] _ rfl rfl dq).rd Qb rfl trivial rfl rfl rfl rfl oq (fun v' N' aX=>?_)
    repeat' first|apply jO|apply jN|apply jT|refine Q1 ?_|refine Q0 ?_|refine Qd ?_|apply jW
    refine Q8 (i+1,0,v',N',zs++[q]) ⟨by simp only[Vi,Vo];omega,by dsimp only;omega,by dsimp only;omega,aX,ZW hz hq2,?_⟩ aW aC QF
    dsimp only
    rw[Y7,hlz,QJ,QJ,V9]
    exact Wu (b:=aI) (c:=c) (c':=0) (by show q+_=_+65536*_;omega) hval
 ·repeat' first|apply jS|apply jO|apply jN|apply jT|refine Q1 ?_|refine Z9 (h:=?_)|(refine Qg (h1:=?_) (h2:=?_)<;>intro hc<;>try omega)|apply jU|apply jE|refine Q4 rfl ?_|apply Qc
  obtain rfl:i=n:=by omega
  rw[Vd oq,Vd oq]at hval
  have hc0:c=0:=by
   rcases Nat.eq_zero_or_pos c with h|h
   ·exact h
   ·have h1:aI ^ i≤aI ^ i*c:=Nat.le_mul_of_pos_right _ h
    have h2:=Yi hz
    rw[hlz]at h2
    omega
  subst hc0
  rw[Nat.mul_zero,Vp]at hval
  obtain⟨A,cap,rfl⟩:=hO.form
  refine Q9 trivial rfl rfl rfl (fun w hk hs=>Q01 w _ _ _ _ (hO.rd.at hk hs Qb) oq) fun w v w' _ _ _ hR=>?_
  obtain⟨q,hq,rfl,hnq⟩:=hR
  repeat' first|apply jN|apply jT|refine Q0 ?_|apply jR
  have hown:=hO.hd hq
  rw[← hnq]at hown
  have jG:(nrm zs).length=q:=hown.len
  refine Qj rfl (fun a w' st=>⟨st.kp,N,nrm zs,st.bI rfl Qb,by rw[jG];exact hown,dA.of hz,?_⟩)
  rw[Zo]
  omega


theorem Q1d (w:World) (v u:Value) (n k:Nat) (xs ys:List Nat) (hv:WN w v n xs) (hu:WN w u k ys) (hx:dA aI xs) (hy:dA aI ys) (hn:n≤16000000000000) (hk:k≤16000000000000) :
  Calls Tryz.prog 86 #[v,u] w (aQ fun v w'=>Kp [] w w'∧v=iv (fG (val aI xs) (val aI ys))):=by
 have hlx:=hv.len
 have hly:=hu.len
 refine Qa [⟨8,1,[],[]⟩,⟨9,1,[],[]⟩] [] aA [] Tryz.func86 rfl mixed (by kernel_rfl) Tryz.ntmps86 Tryz.results86 rfl ⟨by simp,by simp⟩ aA ?_
 simp only[toS,Qe,Qx,Qo,Qr,ay,Ql,Qy,aB]
 rcases Nat.lt_trichotomy n k with h|h|h
 ·have hcc:=YL dq hx hy oq
  repeat' first|apply jS|apply jO|apply jN|apply jT|refine Q1 ?_|refine Q0 ?_|refine Z9 (h:=?_)|(refine Qg (h1:=?_) (h2:=?_)<;>intro hc<;>try omega)|(refine ZP (h1:=?_) (h2:=?_)<;>intro hc<;>try omega)|apply jV|apply jR|refine Q5 rfl ?_
  exact Qj rfl (fun a w' st=>⟨st.kp,by unfold fG;rw[if_pos hcc]⟩)
 ·repeat' first|apply jS|apply jO|apply jN|apply jT|refine Q1 ?_|refine Q0 ?_|refine Z9 (h:=?_)|refine X3 (h:=?_)|(refine ZP (h1:=?_) (h2:=?_)<;>intro hc<;>try omega)|apply jK|refine Q4 rfl ?_|apply jB
  refine Qn (ι:=Nat) ⟨fun q=>[(5,iv ((q:Int)-1)),(0,v),(1,u)],fun _=>[],fun q=>q≤n∧xs.drop q=ys.drop q,fun q=>q⟩ n ⟨V7 _,by rw[List.drop_eq_nil_of_le oq,List.drop_eq_nil_of_le oq]⟩ aC QE (fun q hq=>?_)
  obtain⟨hqn,hd⟩:=hq
  dsimp only at hqn hd ⊢
  rcases q with _|q
  ·repeat' first|apply jS|apply jO|apply jN|apply jT|refine Q1 ?_|refine Q0 ?_|(refine Zs (h1:=?_) (h2:=?_)<;>intro hc<;>try omega)|apply jU|apply jE|apply jR|refine Q4 rfl ?_|apply Qc
   have:xs=ys:=hd
   exact Qj rfl (fun a w' st=>⟨st.kp,by unfold fG;rw[this,if_neg (Nat.lt_irrefl _),if_neg (Nat.lt_irrefl _)]⟩)
  ·have hiv:iv (((q+1:Nat):Int)-1)=nv q:=by
    show iv _=iv _
    congr 1
    omega
   rw[hiv]
   rcases Nat.lt_trichotomy (xs.getD q 0) (ys.getD q 0)with h1|h1|h1
   ·have hcc:=Q5m (b:=aI) oq oq hx.lt h1 hd
    repeat' first|apply jS|apply jO|apply jD|apply jN|apply jT|refine Q1 ?_|refine Q0 ?_|refine ZT (h:=?_)|refine Xp (h:=?_)|(refine Qg (h1:=?_) (h2:=?_)<;>intro hc<;>try omega)|(refine Zs (h1:=?_) (h2:=?_)<;>intro hc<;>try omega)|(refine ZP (h1:=?_) (h2:=?_)<;>intro hc<;>try omega)|apply jV|apply jK|apply jR|refine Q5 rfl ?_|apply jB|apply Qz
    exact Qj rfl (fun a w' st=>⟨st.kp,by unfold fG;rw[if_pos hcc]⟩)
   ·repeat' first|apply jS|apply jO|apply jD|apply jN|apply jT|refine Q1 ?_|refine Q0 ?_|refine ZT (h:=?_)|refine Xp (h:=?_)|refine X3 (h:=?_)|(refine Zs (h1:=?_) (h2:=?_)<;>intro hc<;>try omega)|(refine ZP (h1:=?_) (h2:=?_)<;>intro hc<;>try omega)|apply jK|refine Q5 rfl ?_|refine Q4 rfl ?_|apply jB|apply jW
    refine Q8 q ⟨by omega,?_⟩ aW aC QE
    rw[List.drop_eq_getElem_cons (show q<xs.length by omega),List.drop_eq_getElem_cons (show q<ys.length by omega),hd]
    have e:xs[q]'oq=ys[q]'oq:=by
     simpa [List.getD,List.getElem?_eq_getElem (show q<xs.length by omega),List.getElem?_eq_getElem (show q<ys.length by omega)] using h1
    rw[e]
   ·have hcc:=Q5m (b:=aI) oq oq hy.lt h1 hd.symm
    repeat' first|apply jS|apply jO|apply jD|apply jN|apply jT|refine Q1 ?_|refine Q0 ?_|refine ZT (h:=?_)|refine Xp (h:=?_)|(refine Qg (h1:=?_) (h2:=?_)<;>intro hc<;>try omega)|(refine Zs (h1:=?_) (h2:=?_)<;>intro hc<;>try omega)|(refine ZP (h1:=?_) (h2:=?_)<;>intro hc<;>try omega)|apply jV|apply jK|apply jR|refine Q5 rfl ?_|refine Q4 rfl ?_|apply jB|apply Qz
    exact Qj rfl (fun a w' st=>⟨st.kp,by unfold fG;rw[if_neg oq,if_pos hcc]⟩)
 ·have hcc:=YL dq hy hx oq
  repeat' first|apply jS|apply jO|apply jN|apply jT|refine Q1 ?_|refine Q0 ?_|refine Z9 (h:=?_)|(refine Qg (h1:=?_) (h2:=?_)<;>intro hc<;>try omega)|(refine ZP (h1:=?_) (h2:=?_)<;>intro hc<;>try omega)|apply jV|apply jK|apply jR|refine Q5 rfl ?_|refine Q4 rfl ?_
  exact Qj rfl (fun a w' st=>⟨st.kp,by unfold fG;rw[if_neg oq,if_pos hcc]⟩)


theorem Q92 {x y:Nat} (hx:x<65536) (hy:y<65536):x*y≤4294836225:=by
 have:=Vn (show x≤65535 by omega) (show y≤65535 by omega)
 omega

theorem Qfs (w:World) (v u:Value) (n k:Nat) (xs ys:List Nat) (hv:WN w v n xs) (hu:WN w u k ys) (hx:∀ x∈xs,x<aI) (hy:∀ x∈ys,x<aI) (hn:n≤8500000000000) (hk:k≤8500000000000) :
  Calls Tryz.prog 127 #[v,u] w (aQ fun v w'=>Kp [] w w'∧∃ N zs,New N w w'∧bH N v zs.length zs∧dA aI zs∧val aI zs=val aI xs*val aI ys∧zs.length≤n+k):=by
 have hlx:=hv.len
 have hly:=hu.len
 refine Qa [⟨9,1,[],[]⟩] [] aA [] Tryz.func127 rfl mixed (by kernel_rfl) Tryz.ntmps127 Tryz.results127 rfl ⟨by simp,by simp⟩ aA ?_
 simp only[toS,Qe,Qx,Qo,Qr,ay,Ql,Qy,aB]
 repeat' first|apply jS|apply jO|apply jN|refine Q1 ?_|refine Q0 ?_|refine Z9 (h:=?_)|refine Z8 (h:=?_)|apply jT
 refine Xf (n:=n+k) rfl rfl rfl rfl rfl oq oq (fun b5=>?_)
 have hO:=Q7m b5 (n+k) (by simp only[maxLen];omega)
 repeat' first|apply jS|apply jO|apply jN|apply jT|refine Q0 ?_|apply jB
 refine Qn (ι:=Nat × aj × List Nat) ⟨fun z=>[(6,nv z.1),(5,.slice (some ⟨b5,0,none⟩) (n+k) (n+k)),(0,v),(1,u)],fun z=>z.2.1++[],
  fun z=>z.1≤n∧bH z.2.1 (.slice (some ⟨b5,0,none⟩) (n+k) (n+k)) (n+k) z.2.2∧(∀ x∈z.2.2,x<aI)∧val aI z.2.2=val aI (xs.take z.1)*val aI ys∧∀ j,z.1+k≤j→z.2.2.getD j 0=0,fun z=>n-z.1⟩
  (0,_,_) ⟨V8 _,hO,fun x hx=>by obtain⟨a,_,rfl⟩:=List.mem_map.1 hx;decide,by show val aI (tab (n+k) fun _=>0)=_;rw[We];simp[val],fun j _=>Xe _ j⟩ aC QE (fun z hz=>?_)
 clear hO
 obtain⟨i,N,zs⟩:=z
 obtain⟨hi,hO,hz,hval,hzero⟩:=hz
 dsimp only at hi hO hz hval hzero ⊢
 have hlz:=hO.len
 by_cases hin:i<n
 ·have hxi:xs.getD i 0<65536:=QD (b:=aI) dq hx i
  repeat' first|apply jS|apply jO|apply jN|apply jT|refine Q1 ?_|refine Q0 ?_|refine Z9 (h:=?_)|(refine Qg (h1:=?_) (h2:=?_)<;>intro hc<;>try omega)|apply jK|refine Q5 rfl ?_|apply jB
  refine Qn (ι:=Nat × Nat × aj × List Nat) ⟨fun y=>[(8,nv y.1),(7,nv y.2.1),(6,nv i),(5,.slice (some ⟨b5,0,none⟩) (n+k) (n+k)),(0,v),(1,u)],fun y=>y.2.2.1++[],
   fun y=>y.1≤k∧bH y.2.2.1 (.slice (some ⟨b5,0,none⟩) (n+k) (n+k)) (n+k) y.2.2.2∧(∀ x∈y.2.2.2,x<aI)∧y.2.1<65536∧val aI y.2.2.2+aI ^ (i+y.1)*y.2.1=val aI (xs.take i)*val aI ys+aI ^ i*(xs.getD i 0*val aI (ys.take y.1))∧∀ j,i+k≤j→y.2.2.2.getD j 0=0,fun y=>k-y.1⟩
   (0,0,_,_) ⟨V8 _,hO,hz,by show (0:Nat)<65536;decide,by simp[hval,val],hzero⟩ aC QE (fun y hyy=>?_)
  clear hO hz hval hzero hlz
  obtain⟨q,c,M,us⟩:=y
  obtain⟨hq,hO,hz,hc1,hval,hzero⟩:=hyy
  dsimp only at hq hO hz hc1 hval hzero ⊢
  have hlz:=hO.len
  by_cases hqk:q<k
  ·have hyq:ys.getD q 0<65536:=QD (b:=aI) dq hy q
   have huq:us.getD (i+q) 0<65536:=QD (b:=aI) dq hz (i+q)
   have hxy:=Q92 hxi hyq
   repeat' first|apply jS|apply jO|apply jD|apply jN|apply jT|refine Q1 ?_|refine Q0 ?_|refine ZT (h:=?_)|refine Xp (h:=?_)|refine Z9 (h:=?_)|refine W6 (j:=65536) (h:=?_)|refine Z8 (h:=?_)|refine Z1 (h:=?_)|(refine Qg (h1:=?_) (h2:=?_)<;>intro hc<;>try omega)|apply jK|refine Q5 rfl ?_|apply jB
   refine Qhi (A:=[]) hO rfl rfl trivial rfl rfl oq (fun M' aX=>?_)
   repeat' first|apply jO|apply jN|apply jT|refine Q1 ?_|refine Q0 ?_|refine W8 (j:=65536) (h:=?_)|refine Qd ?_|apply jW
   refine Q8 (q+1,_,M',_) ⟨by dsimp only;omega,aX,Yj hz (Nat.mod_lt _ dq),?_,?_,fun j hj=>?_⟩ aW aC QE
   ·dsimp only;omega
   ·dsimp only
    have e:=Xk (b:=aI) (l:=us) (j:=i+q) (u:=(us.getD (i+q) 0+xs.getD i 0*ys.getD q 0+c) % aI) oq
    have:=Q7s e rfl hval
    rw[QJ,Vm,Vm, ← Nat.add_assoc (_*_), ← Nat.add_assoc i q 1,V9]
    have e3:aI ^ i*(xs.getD i 0*(aI ^ q*ys.getD q 0))=aI ^ (i+q)*(xs.getD i 0*ys.getD q 0):=by
     rw[Nat.pow_add]
     simp only[Nat.mul_left_comm,Vk]
    rw[e3]
    exact this
   ·dsimp only at hj ⊢
    rw[getD_set_ne oq]
    exact hzero j oq
  ·obtain rfl:q=k:=by omega
   repeat' first|apply jS|apply jO|apply jN|apply jT|refine Q1 ?_|refine ZT (h:=?_)|refine Z9 (h:=?_)|refine Z8 (h:=?_)|(refine Qg (h1:=?_) (h2:=?_)<;>intro hc<;>try omega)|apply jU|apply jE|refine Q4 rfl ?_|apply Qc
   refine Qhi (A:=[]) hO rfl rfl trivial rfl rfl oq (fun M' aX=>?_)
   repeat' first|apply jO|apply jN|apply jT|refine Q1 ?_|refine Q0 ?_|refine Qd ?_|apply jW
   refine Q8 (i+1,M',_) ⟨by dsimp only;omega,aX,Yj hz hc1,?_,fun j hj=>?_⟩ aW aC QE
   ·dsimp only
    have e:=Xk (b:=aI) (l:=us) (j:=i+q) (u:=c) oq
    rw[hzero (i+q) (V7 _),Nat.mul_zero,Vp,hval]at e
    rw[e,QJ,Vl,Vd (l:=ys) (i:=q) oq,Vk]
   ·dsimp only at hj ⊢
    rw[getD_set_ne oq]
    exact hzero j oq
 ·repeat' first|apply jS|apply jO|apply jN|apply jT|refine Q1 ?_|refine Z9 (h:=?_)|(refine Qg (h1:=?_) (h2:=?_)<;>intro hc<;>try omega)|apply jU|apply jE|refine Q4 rfl ?_|apply Qc
  refine Q9 trivial rfl rfl rfl (fun w hk hs=>Q01 w _ _ _ _ (hO.rd.at hk hs Qb) oq) fun w v w' _ _ _ hR=>?_
  obtain⟨q,hq,rfl,hnq⟩:=hR
  repeat' first|apply jN|apply jT|refine Q0 ?_|apply jR
  have hown:=hO.hd hq
  rw[← hnq]at hown
  have jG:(nrm zs).length=q:=hown.len
  refine Qj rfl (fun a w' st=>⟨st.kp,N,nrm zs,st.bI rfl Qb,by rw[jG];exact hown,dA.of hz,?_,by rw[jG];exact hq⟩)
  rw[Zo,hval,Vd oq]


theorem c_by (w:World) (v:Value) (n:Nat) (xs:List Nat) (d:Nat) (hv:WN w v n xs) (hx:∀ x∈xs,x<aI) (hn:n≤8400000000000) (hd:d<aI) :
  Calls Tryz.prog 145 #[v,nv d] w (aQ fun v w'=>Kp [] w w'∧∃ N zs,New N w w'∧bH N v zs.length zs∧dA aI zs∧val aI zs=val aI xs*d∧zs.length≤n+1):=by
 have hlx:=hv.len
 refine Qa [] [] aA [] Tryz.func145 rfl mixed (by kernel_rfl) Tryz.ntmps145 Tryz.results145 rfl ⟨by simp,by simp⟩ aA ?_
 simp only[toS,Qe,Qx,Qo,Qr,ay,Ql,Qy,aB]
 repeat' first|apply jS|apply jO|apply jN|refine Q1 ?_|refine Q0 ?_|refine QH (h:=fun _=>?_)|apply jT
 rename_i b1
 have hL:bH [(b1,.cells ⟨[nv d]⟩ 3)] (.slice (some ⟨b1,0,none⟩) 1 1) 1 [d]:=ZH b1 1 [d] _ rfl rfl dq
 refine Qt (A:=[]) rfl trivial rfl rfl rfl (fun w hk hs=>Qfs w _ _ _ _ xs [d] (hv.mono hk) (hL.rd.at hk hs Qb) hx (fun x hx=>by rw[List.mem_singleton.1 hx];exact hd) oq dq) fun w v w' _ _ _ hR=>?_
 obtain⟨N1,zs1,hN1,bG,hz1,aP,hl1⟩:=hR
 refine⟨N1,hN1,?_⟩
 repeat' first|apply jN|apply jT|refine Q0 ?_|apply jR
 exact Qj rfl (fun a w' st=>⟨st.kp,N1,zs1,st.bI rfl Qb,bG,hz1,by rw[aP,val,val,Nat.mul_zero,Vp],hl1⟩)

theorem Q13 {l r:List Nat} (hl:dA aI l) (hr:dA aI r) (h:val aI l≤val aI r):l.length≤r.length:=by
 refine Ve fun h2=>?_
 have:=YL (b:=aI) dq hr hl oq
 omega
theorem Q6p {a b:Nat}:fG a b≤0↔a≤b:=by
 unfold fG
 split
 ·simp_all;omega
 ·split<;>simp_all
theorem Q56 {R x r D y V low b:Nat} (h1:R=x+b*r) (h2:D=y*V+r) (h3:y*low≤R):x+b*D=y*(low+b*V)+(R-y*low):=by
 have e1:b*D=b*(y*V)+b*r:=by rw[h2,Vm]
 have e2:y*(low+b*V)=y*low+b*(y*V):=by rw[Vm,Nat.mul_left_comm y b V]
 omega

def Qp3 (X Y:Nat) (w:World) (r:Value) (w':World):Prop:=∃ N1 N2 v1 v2 qs rs,r=.tuple #[v1,v2]∧New (N1++N2) w w'∧bH N1 v1 qs.length qs∧bH N2 v2 rs.length rs∧dA aI qs∧dA aI rs∧X=Y*val aI qs+val aI rs∧val aI rs<Y

theorem Qfx (w:World) (v u:Value) (n k:Nat) (xs ys:List Nat) (hv:WN w v n xs) (hu:WN w u k ys) (hx:∀ x∈xs,x<aI) (hy:dA aI ys) (h0:0<val aI ys) (hn:n≤8000000000000) (hk:k≤8000000000000) :
  Calls Tryz.prog 144 #[v,u] w (aQ fun r w'=>Kp [] w w'∧Qp3 (val aI xs) (val aI ys) w r w'):=by
 have hlx:=hv.len
 have hly:=hu.len
 refine Qa [] [] aA [] Tryz.func144 rfl mixed (by kernel_rfl) Tryz.ntmps144 Tryz.results144 rfl ⟨by simp,by simp⟩ aA ?_
 simp only[toS,Qe,Qx,Qo,Qr,ay,Ql,Qy,aB]
 repeat' first|apply jS|apply jO|apply jN|refine Q1 ?_|refine Q0 ?_|refine Z9 (h:=?_)|apply jT
 refine Xf (n:=n) rfl rfl rfl rfl rfl oq oq (fun b5=>?_)
 have hO:=Q7m b5 n (by simp only[maxLen];omega)
 repeat' first|apply jS|apply jO|apply jN|apply jT|refine Q1 ?_|refine Q0 ?_|refine Z9 (h:=?_)|refine X3 (h:=?_)|apply jB
 refine Qn (ι:=Nat × Value × aj × List Nat × aj × List Nat) ⟨fun z=>[(8,iv ((z.1:Int)-1)),(7,z.2.1),(6,.slice (some ⟨b5,0,none⟩) n n),(0,v),(1,u)],fun z=>z.2.2.1++(z.2.2.2.2.1++[]),
  fun z=>z.1≤n∧bH z.2.2.1 z.2.1 z.2.2.2.1.length z.2.2.2.1∧dA aI z.2.2.2.1∧bH z.2.2.2.2.1 (.slice (some ⟨b5,0,none⟩) n n) n z.2.2.2.2.2∧(∀ x∈z.2.2.2.2.2,x<aI)∧val aI z.2.2.2.1<val aI ys∧val aI (xs.drop z.1)=val aI ys*val aI (z.2.2.2.2.2.drop z.1)+val aI z.2.2.2.1,fun z=>z.1⟩
  (n, .slice none 0 0, [], [], _, _) ⟨V7 _, bH.nil, dA.nil _, hO, fun x hx => by obtain ⟨a, _, rfl⟩ := List.mem_map.1 hx; decide, h0, by
   dsimp only
   rw[Z5 oq,Z5 aA,Nat.mul_zero];rfl⟩ aC QE (fun z hz=>?_)
 clear hO
 obtain⟨m,vr,Nr,rs,Nq,qs⟩:=z
 obtain⟨hm,hOr,hzr,hOq,hzq,hlt,hval⟩:=hz
 dsimp only at hm hOr hzr hOq hzq hlt hval ⊢
 have hlq:=hOq.len
 have hrl:rs.length≤k:=by have:=Q13 hzr hy (Nat.le_of_lt hlt);omega
 rcases m with _|i
 ·repeat' first|apply jS|apply jO|apply jN|apply jT|refine Q1 ?_|(refine Zs (h1:=?_) (h2:=?_)<;>intro hc<;>try omega)|apply jU|apply jE|refine Q4 rfl ?_|apply Qc
  refine Q9 trivial rfl rfl rfl (fun w hk hs=>Q01 w _ _ _ _ (hOq.rd.at hk hs Qb) oq) fun w v w' _ _ _ hR=>?_
  obtain⟨q,hq,rfl,hnq⟩:=hR
  repeat' first|apply jN|apply jT|refine Q1 ?_|refine Q0 ?_|apply jR
  have hown:=hOq.hd hq
  rw[← hnq]at hown
  have jG:(nrm qs).length=q:=hown.len
  refine QN rfl rfl (fun a w' st=>⟨st.kp,Nq,Nr,_,_,nrm qs,rs,rfl,st.bI rfl ?_,by rw[jG];exact hown,hOr,dA.of hzq,hzr,?_,hlt⟩)
  ·exact⟨[],by simpa using List.perm_append_comm⟩
  ·rw[List.drop_zero,List.drop_zero]at hval
   rw[Zo,hval]
 ·have hiv:iv (((i+1:Nat):Int)-1)=nv i:=by
   show iv _=iv _
   congr 1
   omega
  rw[hiv]
  have hxi:xs.getD i 0<65536:=QD (b:=aI) dq hx i
  generalize hxe:xs.getD i 0=x at hxi
  have hxv:val aI (xs.drop i)=x+65536*val aI (xs.drop (i+1)):=by rw[Z6 (show i<xs.length by omega),hxe]
  repeat' first|apply jS|apply jO|apply jN|apply jT|refine Q1 ?_|refine ZT (h:=?_)|refine Xp (h:=?_)|(refine Zs (h1:=?_) (h2:=?_)<;>intro hc<;>try omega)|refine QH (h:=fun _=>?_)|apply jK|refine Q5 rfl ?_|apply jB
  rename_i b2
  rw[hxe]
  refine ZG (A:=[]) (N:=[(b2,_)]) (ZH b2 1 [x] _ rfl rfl dq) hOr.rd Qb rfl trivial rfl rfl rfl rfl oq (fun v' N' aX=>?_)
  obtain⟨A',cap',rfl⟩:=aX.form
  skip
  refine Q9 trivial rfl rfl rfl (fun w hk hs=>Q01 w _ _ _ _ (aX.rd.at hk hs Qb) oq) fun w v w' _ _ _ hR=>?_
  obtain⟨q,hq,rfl,hnq⟩:=hR
  have hR1:=aX.hd hq
  rw[← hnq]at hR1
  have hz1:dA aI (nrm ([x]++rs)):=dA.of fun y hy2=>by
   rcases List.mem_append.1 hy2 with h|h
   ·rw[List.mem_singleton.1 h];exact hxi
   ·exact hzr.lt y h
  have hv1:val aI (nrm ([x]++rs))=x+65536*val aI rs:=by rw[Zo];rfl
  have hq1:=hR1.len
  generalize nrm ([x]++rs)=r1 at hR1 hz1 hv1 hq1
  have hbig:val aI r1<val aI ys*65536:=by omega
  clear hnq
  repeat' first|apply jS|apply jO|apply jN|refine Q1 ?_|refine Q0 ?_|apply jT
  refine Q9 trivial rfl rfl rfl (fun w hk hs=>Q1d w _ _ _ _ r1 ys (hR1.rd.at hk hs Qb) (hu.mono hk) hz1 hy oq oq) fun w v w' _ _ _ hR=>?_
  subst hR
  by_cases hcmp:val aI r1<val aI ys
  ·have hc0:=YB.2 hcmp
   repeat' first|apply jS|apply jO|apply jN|apply jT|refine Q0 ?_|(refine Qg (h1:=?_) (h2:=?_)<;>intro hc<;>try omega)|refine Q5 rfl ?_|apply jB
   refine Qn (ι:=Nat × Nat) ⟨fun z=>[(10,nv z.2),(9,nv z.1),(8,nv i),(7,.slice A' q cap'),(6,.slice (some ⟨b5,0,none⟩) n n),(0,v),(1,u)],fun _=>N'++(Nq++[]),
    fun z=>z.1<z.2∧z.2≤65536∧val aI ys*z.1≤val aI r1∧val aI r1<val aI ys*z.2,fun z=>z.2-z.1⟩ (0,1) ⟨by decide,by decide,by rw[Nat.mul_zero];exact V8 _,by rw[Nat.mul_one];exact hcmp⟩ aC QF (fun z hz=>?_)
   obtain⟨low,high⟩:=z
   obtain⟨hlh,hhb,hlow,hhigh⟩:=hz
   dsimp only at hlh hhb hlow hhigh ⊢
   by_cases hgo:1<high-low
   ·repeat' first|apply jS|apply jO|apply jN|apply jT|refine Q1 ?_|refine Q0 ?_|refine W8 (j:=2) (h:=?_)|refine Z8 (h:=?_)|refine WQ (h:=?_)|(refine QU (h1:=?_) (h2:=?_)<;>intro hc<;>try omega)|apply jK|refine Q5 rfl ?_|apply jB
    have hmb:(low+high) / 2<65536:=by omega
    refine Qt (A:=[]) rfl trivial rfl rfl rfl (fun w hk hs=>c_by w _ _ ys ((low+high) / 2) (hu.mono hk) hy.lt oq hmb) fun w v w' _ _ _ hR=>?_
    obtain⟨N3,dD,hN3,hO3,hz3,hval3,hl3⟩:=hR
    refine⟨N3,hN3,?_⟩
    repeat' first|refine Q1 ?_|fail
    refine Q9 trivial rfl rfl rfl (fun w hk hs=>Q1d w _ _ _ _ dD r1 (hO3.rd.at hk hs Qb) (hR1.rd.at hk hs Qb) hz3 hz1 oq oq) fun w v w' _ _ _ hR=>?_
    subst hR
    by_cases hle:val aI dD≤val aI r1
    ·have hc9:=Q6p.2 hle
     repeat' first|apply jO|apply jN|apply jT|refine Q1 ?_|refine Q0 ?_|(refine Xo (h1:=?_) (h2:=?_)<;>intro hc<;>try omega)|refine Q5 rfl ?_|apply jW
     refine Q8 ((low+high) / 2,high) ⟨by dsimp only;omega,hhb,by rw[← hval3];exact hle,hhigh⟩ aW aC QF
    ·have hc9:¬fG (val aI dD) (val aI r1)≤0:=fun h=>hle (Q6p.1 h)
     repeat' first|apply jO|apply jN|apply jT|refine Q1 ?_|refine Q0 ?_|(refine Xo (h1:=?_) (h2:=?_)<;>intro hc<;>try omega)|refine Q4 rfl ?_|apply jW
     refine Q8 (low,(low+high) / 2) ⟨by dsimp only;omega,by dsimp only;omega,hlow,by dsimp only;rw[← hval3];omega⟩ aW aC QF
   ·repeat' first|apply jS|apply jO|apply jN|apply jT|refine Q1 ?_|refine ZT (h:=?_)|refine WQ (h:=?_)|(refine QU (h1:=?_) (h2:=?_)<;>intro hc<;>try omega)|apply jU|apply jE|refine Q4 rfl ?_|apply Qc
    refine Qhi (A:=N') hOq rfl rfl trivial rfl rfl oq (fun Nq' iJ=>?_)
    repeat' first|apply jO|apply jN|refine Q1 ?_|apply jT
    refine Qt (A:=[]) rfl trivial rfl rfl rfl (fun w hk hs=>c_by w _ _ ys low (hu.mono hk) hy.lt oq (by show low<65536;omega)) fun w v w' _ _ _ hR=>?_
    obtain⟨N4,fE,hN4,hO4,je,hval4,hl4⟩:=hR
    refine⟨N4,hN4,?_⟩
    skip
    have hle4:val aI fE≤val aI r1:=by rw[hval4];exact hlow
    have hll4:=Q13 je hz1 hle4
    refine Qt (A:=[]) rfl trivial rfl rfl rfl (fun w hk hs=>Q4b w _ _ _ _ r1 fE (hR1.rd.at hk hs Qb) (hO4.rd.at hk hs Qb) hz1.lt je.lt oq oq hle4) fun w v w' _ _ _ hR=>?_
    obtain⟨N5,zs5,hN5,iy,hz5,dX⟩:=hR
    refine⟨N5,hN5,?_⟩
    have hhl:high=low+1:=by omega
    subst hhl
    rw[Vm,Nat.mul_one]at hhigh
    repeat' first|apply jO|apply jN|apply jT|refine Q1 ?_|refine Q0 ?_|refine X3 (h:=?_)|apply jW
    refine Q8 (i,_,N5,zs5,Nq',qs.set i low) ⟨by dsimp only;omega,iy,hz5,iJ,Yj hzq (by show low<65536;omega),by dsimp only;omega,?_⟩ aW aC QF
    dsimp only
    rw[hxv,Z6 (l:=qs.set i low) (show i<(qs.set i low).length by simp;omega),QP oq,Xj,dX,hval4]
    exact Q56 hv1 hval hlow
  ·have hc0:¬fG (val aI r1) (val aI ys)<0:=fun h=>hcmp (YB.1 h)
   repeat' first|apply jS|apply jN|apply jT|(refine Qg (h1:=?_) (h2:=?_)<;>intro hc<;>try omega)|apply jK|refine Q4 rfl ?_|apply jB
   refine Qn (ι:=Nat × Nat) ⟨fun z=>[(10,nv z.2),(9,nv z.1),(8,nv i),(7,.slice A' q cap'),(6,.slice (some ⟨b5,0,none⟩) n n),(0,v),(1,u)],fun _=>N'++(Nq++[]),
    fun z=>z.1<z.2∧z.2≤65536∧val aI ys*z.1≤val aI r1∧val aI r1<val aI ys*z.2,fun z=>z.2-z.1⟩ (0,65536) ⟨by decide,by decide,by rw[Nat.mul_zero];exact V8 _,hbig⟩ aC QF (fun z hz=>?_)
   obtain⟨low,high⟩:=z
   obtain⟨hlh,hhb,hlow,hhigh⟩:=hz
   dsimp only at hlh hhb hlow hhigh ⊢
   by_cases hgo:1<high-low
   ·repeat' first|apply jS|apply jO|apply jN|apply jT|refine Q1 ?_|refine Q0 ?_|refine W8 (j:=2) (h:=?_)|refine Z8 (h:=?_)|refine WQ (h:=?_)|(refine QU (h1:=?_) (h2:=?_)<;>intro hc<;>try omega)|apply jK|refine Q5 rfl ?_|apply jB
    have hmb:(low+high) / 2<65536:=by omega
    refine Qt (A:=[]) rfl trivial rfl rfl rfl (fun w hk hs=>c_by w _ _ ys ((low+high) / 2) (hu.mono hk) hy.lt oq hmb) fun w v w' _ _ _ hR=>?_
    obtain⟨N3,dD,hN3,hO3,hz3,hval3,hl3⟩:=hR
    refine⟨N3,hN3,?_⟩
    repeat' first|refine Q1 ?_|fail
    refine Q9 trivial rfl rfl rfl (fun w hk hs=>Q1d w _ _ _ _ dD r1 (hO3.rd.at hk hs Qb) (hR1.rd.at hk hs Qb) hz3 hz1 oq oq) fun w v w' _ _ _ hR=>?_
    subst hR
    by_cases hle:val aI dD≤val aI r1
    ·have hc9:=Q6p.2 hle
     repeat' first|apply jO|apply jN|apply jT|refine Q1 ?_|refine Q0 ?_|(refine Xo (h1:=?_) (h2:=?_)<;>intro hc<;>try omega)|refine Q5 rfl ?_|apply jW
     refine Q8 ((low+high) / 2,high) ⟨by dsimp only;omega,hhb,by rw[← hval3];exact hle,hhigh⟩ aW aC QF
    ·have hc9:¬fG (val aI dD) (val aI r1)≤0:=fun h=>hle (Q6p.1 h)
     repeat' first|apply jO|apply jN|apply jT|refine Q1 ?_|refine Q0 ?_|(refine Xo (h1:=?_) (h2:=?_)<;>intro hc<;>try omega)|refine Q4 rfl ?_|apply jW
     refine Q8 (low,(low+high) / 2) ⟨by dsimp only;omega,by dsimp only;omega,hlow,by dsimp only;rw[← hval3];omega⟩ aW aC QF
   ·repeat' first|apply jS|apply jO|apply jN|apply jT|refine Q1 ?_|refine ZT (h:=?_)|refine WQ (h:=?_)|(refine QU (h1:=?_) (h2:=?_)<;>intro hc<;>try omega)|apply jU|apply jE|refine Q4 rfl ?_|apply Qc
    refine Qhi (A:=N') hOq rfl rfl trivial rfl rfl oq (fun Nq' iJ=>?_)
    repeat' first|apply jO|apply jN|refine Q1 ?_|apply jT
    refine Qt (A:=[]) rfl trivial rfl rfl rfl (fun w hk hs=>c_by w _ _ ys low (hu.mono hk) hy.lt oq (by show low<65536;omega)) fun w v w' _ _ _ hR=>?_
    obtain⟨N4,fE,hN4,hO4,je,hval4,hl4⟩:=hR
    refine⟨N4,hN4,?_⟩
    skip
    have hle4:val aI fE≤val aI r1:=by rw[hval4];exact hlow
    have hll4:=Q13 je hz1 hle4
    refine Qt (A:=[]) rfl trivial rfl rfl rfl (fun w hk hs=>Q4b w _ _ _ _ r1 fE (hR1.rd.at hk hs Qb) (hO4.rd.at hk hs Qb) hz1.lt je.lt oq oq hle4) fun w v w' _ _ _ hR=>?_
    obtain⟨N5,zs5,hN5,iy,hz5,dX⟩:=hR
    refine⟨N5,hN5,?_⟩
    have hhl:high=low+1:=by omega
    subst hhl
    rw[Vm,Nat.mul_one]at hhigh
    repeat' first|apply jO|apply jN|apply jT|refine Q1 ?_|refine Q0 ?_|refine X3 (h:=?_)|apply jW
    refine Q8 (i,_,N5,zs5,Nq',qs.set i low) ⟨by dsimp only;omega,iy,hz5,iJ,Yj hzq (by show low<65536;omega),by dsimp only;omega,?_⟩ aW aC QF
    dsimp only
    rw[hxv,Z6 (l:=qs.set i low) (show i<(qs.set i low).length by simp;omega),QP oq,Xj,dX,hval4]
    exact Q56 hv1 hval hlow


theorem WN.hd {w:World} {A:Option Addr} {n k cap:Nat} {xs:List Nat} (hv:WN w (.slice A n cap) n xs) (hk:k≤n):WN w (.slice A k cap) k (xs.take k):=by
 have hl:=hv.len
 obtain⟨h1,A',cap',h2,h3,h4⟩:=hv
 simp only[Value.slice.injEq]at h2
 obtain⟨rfl,_,rfl⟩:=h2
 refine⟨by simp;omega,A,cap,rfl,by omega,fun h0=>⟨(h4 oq).1,fun j u hu=>?_⟩⟩
 obtain⟨⟨b,o,rfl⟩,h5⟩:=h4 oq
 refine h5 j u ?_
 rw[List.map_take,List.getElem?_take]at hu
 split at hu
 ·exact hu
 ·cases hu
theorem lead {p:Bool} {l:List UInt8} {V:Nat} (h1:(bf l).getD 0 0≠0) (h2:bV (bf l)=V):wv p l=Wv (bC p V):=by
 have hl:l.dropWhile (· == 0)=l:=by
  cases l with
  | nil=>rfl
  | cons a l =>
   have:(a == 0)=false:=by
    simp only[beq_eq_false_iff_ne]
    intro e
    subst e
    exact h1 rfl
   rw[List.dropWhile,this]
 have hm:=Q65 (l:=l)
 rw[hl,h2]at hm
 rw[Qgf, ← hm]
 have hne:l≠[]:=fun e=>by subst e;exact h1 rfl
 rw[decide_eq_true hne,Bool.and_true]

theorem Q5b {l:List Nat} {x:Nat} (h:l.getD 0 0≠0):(l++[x]).getD 0 0≠0:=by
 cases l with
 | nil=>exact absurd rfl h
 | cons a l=>exact h
theorem Qn4 {l:List Nat} {i:Nat} (h:nrm l=l) (hi:l.length=i+1):l.getD i 0≠0:=by
 intro h0
 have e:l=l.take i++[0]:=by
  conv=>lhs;rw[← List.take_append_drop i l,List.drop_eq_getElem_cons (show i<l.length by omega),List.drop_eq_nil_of_le oq]
  rw[List.getD,List.getElem?_eq_getElem (show i<l.length by omega)]at h0
  rw[show l[i]'oq=0 from h0]
 have h2:=congrArg List.length h
 rw[e,Q3y]at h2
 have h3:∀ r:List Nat,(nrm r).length≤r.length:=fun r=>by
  induction r with
  | nil=>exact V7 _
  | cons x r ih =>
   rw[nrm]
   cases hn:nrm r with
   | nil=>by_cases hx:x=0<;>simp[hx]
   | cons y s=>rw[hn]at ih;simp at ih ⊢;exact ih
 have h4:=h3 (l.take i)
 simp at h2 h4
 omega

theorem ZS (w:World) (v:Value) (n:Nat) (xs:List Nat) (p:Bool) (hv:WN w v n xs) (hx:∀ x∈xs,x<aI) (hn:n≤17000000000000) :
  Calls Tryz.prog 84 #[.bool p,v] w (aQ fun r w'=>Kp [] w w'∧r=Wv (bC p (val aI xs))):=by
 obtain⟨A,cap,rfl⟩:=hv.form
 refine Qa [⟨11,0,[],[(2,.seq)]⟩] [] aA [] Tryz.func84 rfl mixed (by kernel_rfl) Tryz.ntmps84 Tryz.results84 rfl ⟨by simp,by simp⟩ aA ?_
 simp only[toS,Qe,Qx,Qo,Qr,ay,Ql,Qy,aB]
 repeat' first|apply jS|apply jO|apply jN|refine Q1 ?_|refine Qh fun _=>?_|apply jT
 rename_i b4
 refine Q9 trivial rfl rfl rfl (fun w hk hs=>Q01 w _ _ _ _ (hv.mono hk) oq) fun w v w' _ _ _ hR=>?_
 obtain⟨k,hkn,rfl,hnk⟩:=hR
 have hvk:=hv.hd hkn
 rw[← hnk]at hvk
 have hlk:(nrm xs).length=k:=hvk.len
 have hval0:val aI xs=val aI (nrm xs):=(Zo _ _).symm
 have hxl:∀ x∈nrm xs,x<aI:=fun x h=>hx x (Xq x h)
 have hnn:=Qep xs
 rw[hval0]
 generalize nrm xs=zs at hvk hlk hxl hnn
 by_cases hk0:k=0
 ·repeat' first|apply jS|apply jO|apply jN|apply jT|refine Q1 ?_|refine Q0 ?_|refine ZC (h:=?_)|refine Q6 ?_|(refine Zm (h1:=?_) (h2:=?_)<;>intro hc<;>try omega)|refine ZU (h:=?_)|refine Q6 ?_|apply jV|apply jR|refine Q5 rfl ?_
  obtain rfl:zs=[]:=List.eq_nil_of_length_eq_zero oq
  exact Z0 0 rfl rfl rfl (fun a w' st=>⟨st.kp,by rw[show val aI []=0 from rfl,YS];rfl⟩)
 ·repeat' first|apply jS|apply jO|apply jN|apply jT|refine Q1 ?_|refine Q0 ?_|refine ZC (h:=?_)|refine Yf (h:=?_)|(refine Zm (h1:=?_) (h2:=?_)<;>intro hc<;>try omega)|apply jK|refine Q4 rfl ?_|apply jB
  have e0:Value.int .i64 ((k-1:Nat):Int)=iv ((k:Int)-1):=by
   show iv _=iv _
   congr 1
   omega
  rw[e0]
  refine Qn (ι:=Nat × Value × aj × List Nat) ⟨fun z=>[(6,iv ((z.1:Int)-1)),(5,z.2.1),(4,.pointer (some ⟨b4,0,none⟩)),(1,.slice A k cap),(0,.bool p)],fun z=>(b4,.cells #[.bool false,.string ⟨#[]⟩] 75)::(z.2.2.1++[]),
   fun z=>z.1≤k∧dU z.2.2.1 z.2.1 z.2.2.2.length z.2.2.2∧(∀ x∈z.2.2.2,x<256)∧z.2.2.2.length≤2*(k-z.1)∧bV z.2.2.2=val aI (zs.drop z.1)∧(z.1<k→z.2.2.2.getD 0 0≠0)∧(z.1=k→z.2.2.2=[]),fun z=>z.1⟩
   (k,_,[],[]) ⟨V7 _,dU.nil,fun _ h=>absurd h List.not_mem_nil,by simp,by dsimp only;rw[Z5 oq];rfl,fun h=>absurd h (Nat.lt_irrefl _),fun _=>rfl⟩ aC QF (fun z hz=>?_)
  obtain⟨m,vb,Nb,bs⟩:=z
  obtain⟨hm,hO,hbs,hbl,hval,hhd,hnil⟩:=hz
  dsimp only at hm hO hbs hbl hval hhd hnil ⊢
  rcases m with _|i
  ·repeat' first|apply jS|apply jO|apply jN|apply jT|refine Q1 ?_|(refine Zs (h1:=?_) (h2:=?_)<;>intro hc<;>try omega)|apply jU|apply jE|refine Q4 rfl ?_|apply Qc
   refine Q09 hbs hO.rd Qb trivial rfl rfl rfl (fun l hl=>?_)
   repeat' first|apply jN|apply jT|refine Q6 ?_|refine ZU (h:=?_)|refine Q6 ?_|apply jR
   rw[List.drop_zero]at hval
   have hfin:=lead (p:=p) (l:=l) (V:=val aI zs) (by rw[hl];exact hhd oq) (by rw[hl];exact hval)
   exact Z0 0 rfl rfl rfl (fun a w' st=>⟨st.kp,hfin⟩)
  ·have hiv:iv (((i+1:Nat):Int)-1)=nv i:=by
    show iv _=iv _
    congr 1
    omega
   rw[hiv]
   have hxi:zs.getD i 0<65536:=QD (b:=aI) dq hxl i
   have hxv:val aI (zs.drop i)=zs.getD i 0+65536*val aI (zs.drop (i+1)):=Z6 (show i<zs.length by omega)
   by_cases h1:i<k-1
   ·repeat' first|apply jS|apply jO|apply jN|apply jT|refine Q1 ?_|refine ZT (h:=?_)|refine Xp (h:=?_)|refine ZC (h:=?_)|refine W8 (j:=256) (h:=?_)|refine Yf (h:=?_)|refine Qp ?_|refine Q0v (h:=?_)|(refine Qg (h1:=?_) (h2:=?_)<;>intro hc<;>try omega)|(refine Zs (h1:=?_) (h2:=?_)<;>intro hc<;>try omega)|refine QH (h:=fun _=>?_)|apply jK|refine Q5 rfl ?_|refine QA ?_|apply jB
    rename_i c2
    refine Xz (A:=[_,_]) hO (Xh c2 1 [zs.getD i 0 / 256 % 256] _ rfl rfl dq).rd Qb rfl trivial rfl rfl rfl rfl oq (fun v1 N1 bG=>?_)
    repeat' first|apply jO|apply jN|refine Q1 ?_|refine Q0 ?_|refine ZT (h:=?_)|refine Xp (h:=?_)|refine W6 (j:=256) (h:=?_)|refine Q0v (h:=?_)|refine QH (h:=fun _=>?_)|apply jT
    rename_i c3
    refine Xz (A:=[_,_,_]) bG (Xh c3 1 [zs.getD i 0 % 256 % 256] _ rfl rfl dq).rd Qb rfl trivial rfl rfl rfl rfl oq (fun v2 N2 hO2=>?_)
    repeat' first|apply jO|apply jN|apply jT|refine Q1 ?_|refine Q0 ?_|refine X3 (h:=?_)|apply jW
    refine Q8 (i,v2,N2,(bs++[zs.getD i 0 / 256 % 256])++[zs.getD i 0 % 256 % 256]) ⟨by dsimp only;omega,by simp only[Vi,Vo];exact hO2,ZW (ZW hbs (Nat.mod_lt _ dq)) (Nat.mod_lt _ dq),by simp only[Vi,Vo];omega,?_,fun _=>?_,fun h=>?_⟩ aW aC QF
    ·dsimp only
     rw[Y6,Y6,hval,hxv]
     omega
    ·exact Q5b (Q5b (hhd oq))
    ·dsimp only at h;omega
   ·have htop:=Qn4 hnn (i:=i) oq
    obtain rfl:=hnil oq
    by_cases h2:256≤zs.getD i 0
    ·repeat' first|apply jS|apply jO|apply jN|apply jT|refine Q1 ?_|refine ZT (h:=?_)|refine Xp (h:=?_)|refine ZC (h:=?_)|refine W8 (j:=256) (h:=?_)|refine Yf (h:=?_)|refine Qq ?_|refine Q0v (h:=?_)|(refine Qg (h1:=?_) (h2:=?_)<;>intro hc<;>try omega)|(refine Zs (h1:=?_) (h2:=?_)<;>intro hc<;>try omega)|refine QH (h:=fun _=>?_)|apply jK|refine Q5 rfl ?_|apply jB
     rename_i c2
     refine Xz (A:=[_,_]) hO (Xh c2 1 [zs.getD i 0 / 256 % 256] _ rfl rfl dq).rd Qb rfl trivial rfl rfl rfl rfl oq (fun v1 N1 bG=>?_)
     repeat' first|apply jO|apply jN|refine Q1 ?_|refine Q0 ?_|refine ZT (h:=?_)|refine Xp (h:=?_)|refine W6 (j:=256) (h:=?_)|refine Q0v (h:=?_)|refine QH (h:=fun _=>?_)|apply jT
     rename_i c3
     refine Xz (A:=[_,_,_]) bG (Xh c3 1 [zs.getD i 0 % 256 % 256] _ rfl rfl dq).rd Qb rfl trivial rfl rfl rfl rfl oq (fun v2 N2 hO2=>?_)
     repeat' first|apply jO|apply jN|apply jT|refine Q1 ?_|refine Q0 ?_|refine X3 (h:=?_)|apply jW
     refine Q8 (i,v2,N2,([]++[zs.getD i 0 / 256 % 256])++[zs.getD i 0 % 256 % 256]) ⟨by dsimp only;omega,by simp only[Vi,Vo];exact hO2,ZW (ZW hbs (Nat.mod_lt _ dq)) (Nat.mod_lt _ dq),by simp only[Vi,Vo];omega,?_,fun _=>?_,fun h=>?_⟩ aW aC QF
     ·dsimp only
      rw[Y6,Y6,hval,hxv]
      omega
     ·show zs.getD i 0 / 256 % 256≠0;omega
     ·dsimp only at h;omega
    ·repeat' first|apply jS|apply jO|apply jN|apply jT|refine Q1 ?_|refine ZT (h:=?_)|refine Xp (h:=?_)|refine ZC (h:=?_)|refine W6 (j:=256) (h:=?_)|refine Yf (h:=?_)|refine Qq ?_|refine Q0v (h:=?_)|(refine Qg (h1:=?_) (h2:=?_)<;>intro hc<;>try omega)|(refine Zs (h1:=?_) (h2:=?_)<;>intro hc<;>try omega)|refine QH (h:=fun _=>?_)|apply jK|refine Q5 rfl ?_|refine Q4 rfl ?_|apply jB
     rename_i c3
     refine Xz (A:=[_,_]) hO (Xh c3 1 [zs.getD i 0 % 256 % 256] _ rfl rfl dq).rd Qb rfl trivial rfl rfl rfl rfl oq (fun v2 N2 hO2=>?_)
     repeat' first|apply jO|apply jN|apply jT|refine Q1 ?_|refine Q0 ?_|refine X3 (h:=?_)|apply jW
     refine Q8 (i,v2,N2,[]++[zs.getD i 0 % 256 % 256]) ⟨by dsimp only;omega,by simp only[Vi,Vo];exact hO2,ZW hbs (Nat.mod_lt _ dq),by simp only[Vi,Vo];omega,?_,fun _=>?_,fun h=>?_⟩ aW aC QF
     ·dsimp only
      rw[WE]at hval
      rw[Y6,WE,hxv]
      omega
     ·show zs.getD i 0 % 256 % 256≠0;omega
     ·dsimp only at h;omega


theorem ZQ {zs:List Nat} {l:List UInt8} {k:Nat} (hz:dA aI zs) (hv:val aI zs=bV (bf l)) (hl:l.length≤k):zs.length≤(k+1) / 2:=by
 refine hz.bM dq ?_
 rw[hv,show aI=256 ^ 2 from rfl, ← Nat.pow_mul]
 exact QZ oq

theorem Q4d (w:World) (v:Value) (a:Int) (k:Nat) (hv:fD v a k) (hk:k≤30000000000000) :
  Calls Tryz.prog 62 #[v] w (aQ fun r w'=>Kp [] w w'∧r=Wv (-a)):=by
 obtain⟨p,l,rfl,hl1,rfl⟩:=hv
 refine Qa [⟨1,1,[],[]⟩] [] aA [] Tryz.func62 rfl mixed (by kernel_rfl) Tryz.ntmps62 Tryz.results62 rfl ⟨by simp,by simp⟩ aA ?_
 simp only[toS,Qe,Qx,Qo,Qr,ay,Ql,Qy,aB]
 repeat' first|apply jS|apply jO|apply jD|apply jN|refine Q2 ?_|refine Q7 ?_|refine Qm ?_|refine QG ?_|refine Qh fun _=>?_|refine QM (h:=fun _=>?_)|apply jT
 refine Qt (A:=[_,_]) rfl trivial rfl rfl rfl (fun w hk hs=>Yl w p l oq) fun w v w' _ _ _ hR=>?_
 obtain⟨N1,zs1,hN1,bG,hz1,aP⟩:=hR
 refine⟨N1,hN1,?_⟩
 have jv:=ZQ hz1 aP hl1
 skip
 refine Q9 trivial rfl rfl rfl (fun w hk hs=>ZS w _ _ zs1 (!p) (bG.rd.at hk hs Qb) hz1.lt oq) fun w v w' _ _ _ hR=>?_
 subst hR
 repeat' first|apply jN|apply jT|refine Q6 ?_|refine Q6 ?_|apply jR
 exact Z0 0 rfl rfl rfl (fun a w' st=>⟨st.kp,by show Wv (bC (!p) (val aI zs1))=_;rw[aP,Qdr]⟩)

theorem Q6u (w:World) (v:Value) (a:Int) (k:Nat) (hv:fD v a k) (hk:k≤30000000000000) :
  Calls Tryz.prog 89 #[v] w (aQ fun r w'=>Kp [] w w'∧r=iv a.sign):=by
 obtain⟨p,l,rfl,hl1,rfl⟩:=hv
 refine Qa [] [] aA [] Tryz.func89 rfl mixed (by kernel_rfl) Tryz.ntmps89 Tryz.results89 rfl ⟨by simp,by simp⟩ aA ?_
 simp only[toS,Qe,Qx,Qo,Qr,ay,Ql,Qy,aB]
 repeat' first|apply jS|apply jO|apply jN|refine Q0 ?_|refine Qm ?_|refine QM (h:=fun _=>?_)|apply jT
 refine Qt (A:=[_]) rfl trivial rfl rfl rfl (fun w hk hs=>Yl w p l oq) fun w v w' _ _ _ hR=>?_
 obtain⟨N1,zs1,hN1,bG,hz1,aP⟩:=hR
 refine⟨N1,hN1,?_⟩
 have jv:=ZQ hz1 aP hl1
 have he:=hz1.eq_nil dq
 rw[aP]at he
 by_cases h0:zs1.length=0
 ·have h1:=he.1 (List.eq_nil_of_length_eq_zero h0)
  rw[h1,YS]
  repeat' first|apply jS|apply jO|apply jN|apply jT|refine Q0 ?_|refine Z9 (h:=?_)|(refine Zm (h1:=?_) (h2:=?_)<;>intro hc<;>try omega)|apply jV|apply jR|refine Q5 rfl ?_
  exact Qj rfl (fun a w' st=>⟨st.kp,rfl⟩)
 ·have h1:bV (bf l)≠0:=fun h=>h0 (by rw[he.2 h];rfl)
  cases p with
  | false =>
   have h2:(bC false (bV (bf l))).sign=1:=Int.sign_eq_one_of_pos (by simp[bC];omega)
   rw[h2]
   repeat' first|apply jS|apply jO|apply jN|apply jT|refine Q2 ?_|refine Q0 ?_|refine Q7 ?_|refine Z9 (h:=?_)|(refine Zm (h1:=?_) (h2:=?_)<;>intro hc<;>try omega)|apply jK|apply jR|refine Q4 rfl ?_
   exact Qj rfl (fun a w' st=>⟨st.kp,rfl⟩)
  | true =>
   have h2:(bC true (bV (bf l))).sign = -1:=Int.sign_eq_neg_one_of_neg (by simp[bC];omega)
   rw[h2]
   repeat' first|apply jS|apply jO|apply jN|apply jT|refine Q2 ?_|refine Q0 ?_|refine Q7 ?_|refine Z9 (h:=?_)|(refine Zm (h1:=?_) (h2:=?_)<;>intro hc<;>try omega)|apply jV|apply jK|apply jR|refine Q5 rfl ?_|refine Q4 rfl ?_
   exact Qj rfl (fun a w' st=>⟨st.kp,rfl⟩)

theorem Q5f (w:World) (v u:Value) (a b:Int) (k:Nat) (hv:fD v a k) (hu:fD u b k) (hk:k≤30000000000000) :
  Calls Tryz.prog 34 #[v,u] w (aQ fun r w'=>Kp [] w w'∧r=Wv (a+b)):=by
 obtain⟨p,l,rfl,hl1,rfl⟩:=hv
 obtain⟨q,l',rfl,hl2,rfl⟩:=hu
 refine Qa [⟨4,2,[],[]⟩,⟨6,2,[],[]⟩,⟨7,2,[],[]⟩] [] aA [] Tryz.func34 rfl mixed (by kernel_rfl) Tryz.ntmps34 Tryz.results34 rfl ⟨by simp,by simp⟩ aA ?_
 simp only[toS,Qe,Qx,Qo,Qr,ay,Ql,Qy,aB]
 repeat' first|apply jS|apply jO|apply jN|refine Qm ?_|refine Qh fun _=>?_|refine QM (h:=fun _=>?_)|apply jT
 refine Qt (A:=[_,_,_]) rfl trivial rfl rfl rfl (fun w hk hs=>Yl w p l oq) fun w v w' _ _ _ hR=>?_
 obtain⟨N1,zs1,hN1,bG,hz1,aP⟩:=hR
 refine⟨N1,hN1,?_⟩
 have jv:=ZQ hz1 aP hl1
 repeat' first|apply jS|apply jO|apply jN|refine Q0 ?_|refine Qm ?_|apply jT
 refine Qt (A:=[_,_,_]) rfl trivial rfl rfl rfl (fun w hk hs=>Yl w q l' oq) fun w v w' _ _ _ hR=>?_
 obtain⟨N2,zs2,eH,hO2,hz2,aY⟩:=hR
 refine⟨N2,eH,?_⟩
 have hzl2:=ZQ hz2 aY hl2
 by_cases hpq:p=q
 ·subst hpq
  repeat' first|apply jS|apply jO|apply jD|apply jN|apply jT|refine Q1 ?_|refine Q2 ?_|refine Q0 ?_|refine Q7 ?_|refine Qeb (h:=?_)|refine Q5 rfl ?_
  refine Qt (A:=[_,_,_]) rfl trivial rfl rfl rfl (fun w hk hs=>Q5e w _ _ _ _ _ _ (bG.rd.at hk hs Qb) (hO2.rd.at hk hs Qb) hz1.lt hz2.lt oq oq) fun w v w' _ _ _ hR=>?_
  obtain⟨N3,dD,hN3,hO3,hz3,hval3,hzl3⟩:=hR
  refine⟨N3,hN3,?_⟩
  rw[aP,aY]at hval3
  skip
  refine Q9 trivial rfl rfl rfl (fun w hk hs=>ZS w _ _ dD p (hO3.rd.at hk hs Qb) hz3 oq) fun w v w' _ _ _ hR=>?_
  subst hR
  repeat' first|apply jN|apply jT|refine Q6 ?_|refine Q6 ?_|apply jV|apply jR
  exact Z0 0 rfl rfl rfl (fun a w' st=>⟨st.kp,by show Wv (bC p (val aI dD))=_;rw[hval3,Qdu]⟩)
 have hpq':(p == q)=false:=by simpa using hpq
 repeat' first|apply jS|apply jO|apply jN|refine Q2 ?_|refine Q0 ?_|refine Q7 ?_|refine Ql1 (h:=?_)|apply jT
 rw[hpq']
 repeat' first|apply jS|apply jO|apply jT|refine Q1 ?_|apply jK|refine Q4 rfl ?_
 refine Q9 trivial rfl rfl rfl (fun w hk hs=>Q1d w _ _ _ _ _ _ (bG.rd.at hk hs Qb) (hO2.rd.at hk hs Qb) hz1 hz2 oq oq) fun w v w' _ _ _ hR=>?_
 subst hR
 by_cases hlt:val aI zs1<val aI zs2
 ·have hneg:=YB.2 hlt
  have hlen:zs1.length≤zs2.length:=by
   refine Ve fun h=>?_
   have:=YL (b:=aI) dq hz2 hz1 oq
   omega
  repeat' first|apply jS|apply jD|apply jN|apply jT|refine Q1 ?_|refine Q2 ?_|refine Q7 ?_|(refine Zs (h1:=?_) (h2:=?_)<;>intro hc<;>try omega)|apply jK|refine Q4 rfl ?_
  refine Qt (A:=[_,_,_]) rfl trivial rfl rfl rfl (fun w hk hs=>Q4b w _ _ _ _ _ _ (hO2.rd.at hk hs Qb) (bG.rd.at hk hs Qb) hz2.lt hz1.lt oq hlen (Nat.le_of_lt hlt)) fun w v w' _ _ _ hR=>?_
  obtain⟨N3,dD,hN3,hO3,hz3,hval3⟩:=hR
  refine⟨N3,hN3,?_⟩
  have hzl3:dD.length≤(k+1) / 2:=hz3.bM dq (V5 (show val aI dD≤val aI zs2 by omega) (by rw[aY,show aI=256 ^ 2 from rfl, ← Nat.pow_mul];exact QZ oq))
  rw[aP,aY]at hval3
  rw[aP,aY]at hlt
  skip
  refine Q9 trivial rfl rfl rfl (fun w hk hs=>ZS w _ _ dD q (hO3.rd.at hk hs Qb) hz3.lt oq) fun w v w' _ _ _ hR=>?_
  subst hR
  repeat' first|apply jN|apply jT|refine Q6 ?_|refine Q6 ?_|apply jR
  exact Z0 0 rfl rfl rfl (fun a w' st=>⟨st.kp,by show Wv (bC q (val aI dD))=_;rw[← Q9x hpq hlt,hval3]⟩)
 ·have hneg:¬fG (val aI zs1) (val aI zs2)<0:=fun h=>hlt (YB.1 h)
  have hlen:zs2.length≤zs1.length:=by
   refine Ve fun h=>hlt ?_
   exact YL (b:=aI) dq hz1 hz2 oq
  repeat' first|apply jS|apply jD|apply jN|apply jT|refine Q1 ?_|refine Q2 ?_|refine Q7 ?_|(refine Zs (h1:=?_) (h2:=?_)<;>intro hc<;>try omega)|refine Q5 rfl ?_
  refine Qt (A:=[_,_,_]) rfl trivial rfl rfl rfl (fun w hk hs=>Q4b w _ _ _ _ _ _ (bG.rd.at hk hs Qb) (hO2.rd.at hk hs Qb) hz1.lt hz2.lt oq hlen oq) fun w v w' _ _ _ hR=>?_
  obtain⟨N3,dD,hN3,hO3,hz3,hval3⟩:=hR
  refine⟨N3,hN3,?_⟩
  have hzl3:dD.length≤(k+1) / 2:=hz3.bM dq (V5 (show val aI dD≤val aI zs1 by omega) (by rw[aP,show aI=256 ^ 2 from rfl, ← Nat.pow_mul];exact QZ oq))
  rw[aP,aY]at hval3
  rw[aP,aY]at hlt
  skip
  refine Q9 trivial rfl rfl rfl (fun w hk hs=>ZS w _ _ dD p (hO3.rd.at hk hs Qb) hz3.lt oq) fun w v w' _ _ _ hR=>?_
  subst hR
  repeat' first|apply jN|apply jT|refine Q6 ?_|refine Q6 ?_|apply jV|apply jR
  exact Z0 0 rfl rfl rfl (fun a w' st=>⟨st.kp,by show Wv (bC p (val aI dD))=_;rw[← Q9w hpq hlt,hval3]⟩)

theorem Qon (w:World) (v u:Value) (a b:Int) (k:Nat) (hv:fD v a k) (hu:fD u b k) (hk:k≤30000000000000) :
  Calls Tryz.prog 200 #[v,u] w (aQ fun r w'=>Kp [] w w'∧r=Wv (a-b)):=by
 have hZ:fD (Wv (-b)) (-b) k:=QC (by rw[Int.natAbs_neg];exact hu.lt)
 obtain⟨p,l,rfl,hl1,rfl⟩:=hv
 obtain⟨q,l',rfl,hl2,rfl⟩:=hu
 refine Qa [⟨1,1,[],[]⟩] [] aA [] Tryz.func200 rfl mixed (by kernel_rfl) Tryz.ntmps200 Tryz.results200 rfl ⟨by simp,by simp⟩ aA ?_
 simp only[toS,Qe,Qx,Qo,Qr,ay,Ql,Qy,aB]
 repeat' first|apply jS|apply jO|apply jD|apply jN|refine Qm ?_|refine Qh fun _=>?_|refine QM (h:=fun _=>?_)|apply jT
 refine Q9 trivial rfl rfl rfl (fun w hk' hs=>Q4d w _ _ k ⟨q,l',rfl,hl2,rfl⟩ hk) fun w v w' _ _ _ hR=>?_
 subst hR
 skip
 refine Q9 trivial rfl rfl rfl (fun w hk' hs=>Q5f w _ _ _ _ k ⟨p,l,rfl,hl1,rfl⟩ hZ hk) fun w v w' _ _ _ hR=>?_
 subst hR
 repeat' first|apply jN|apply jT|refine Q6 ?_|refine Q6 ?_|apply jR
 exact Z0 0 rfl rfl rfl (fun a w' st=>⟨st.kp,by rw[Int.sub_eq_add_neg];rfl⟩)

theorem Qor (w:World) (v u:Value) (a b:Int) (k:Nat) (hv:fD v a k) (hu:fD u b k) (hk:k≤29999999999999) :
  Calls Tryz.prog 185 #[v,u] w (aQ fun r w'=>Kp [] w w'∧r=iv (a-b).sign):=by
 have hZ:fD (Wv (a-b)) (a-b) (k+1):=by
  rw[Int.sub_eq_add_neg]
  exact fD.add hv.lt (by rw[Int.natAbs_neg];exact hu.lt)
 obtain⟨p,l,rfl,hl1,rfl⟩:=hv
 obtain⟨q,l',rfl,hl2,rfl⟩:=hu
 refine Qa [] [] aA [] Tryz.func185 rfl mixed (by kernel_rfl) Tryz.ntmps185 Tryz.results185 rfl ⟨by simp,by simp⟩ aA ?_
 simp only[toS,Qe,Qx,Qo,Qr,ay,Ql,Qy,aB]
 repeat' first|apply jS|apply jO|apply jN|refine Q0 ?_|refine Qm ?_|refine QM (h:=fun _=>?_)|apply jT
 refine Q9 trivial rfl rfl rfl (fun w hk' hs=>Qon w _ _ _ _ k ⟨p,l,rfl,hl1,rfl⟩ ⟨q,l',rfl,hl2,rfl⟩ oq) fun w v w' _ _ _ hR=>?_
 subst hR
 skip
 refine Q9 trivial rfl rfl rfl (fun w hk' hs=>Q6u w _ _ (k+1) hZ oq) fun w v w' _ _ _ hR=>?_
 subst hR
 repeat' first|apply jN|apply jT|refine Q0 ?_|apply jR
 exact Qj rfl (fun a w' st=>⟨st.kp,rfl⟩)

theorem Q8g (w:World) (v u:Value) (a b:Int) (k:Nat) (hv:fD v a k) (hu:fD u b k) (hk:k≤15000000000000) :
  Calls Tryz.prog 63 #[v,u] w (aQ fun r w'=>Kp [] w w'∧r=Wv (a*b)):=by
 obtain⟨p,l,rfl,hl1,rfl⟩:=hv
 obtain⟨q,l',rfl,hl2,rfl⟩:=hu
 refine Qa [⟨1,1,[0,1,2,3,4,5,7,6,8,9,10,11],[]⟩] [] aA [] Tryz.func63 rfl mixed (by kernel_rfl) Tryz.ntmps63 Tryz.results63 rfl ⟨by simp,by simp⟩ aA ?_
 simp only[toS,Qe,Qx,Qo,Qr,ay,Ql,Qy,aB]
 repeat' first|apply jS|apply jO|apply jD|apply jN|refine Q2 ?_|refine Q7 ?_|refine Qm ?_|refine Q0b (h:=?_)|refine Qh fun _=>?_|refine QM (h:=fun _=>?_)|apply jT
 refine Qt (A:=[_,_,_]) rfl trivial rfl rfl rfl (fun w hk hs=>Yl w p l oq) fun w v w' _ _ _ hR=>?_
 obtain⟨N1,zs1,hN1,bG,hz1,aP⟩:=hR
 refine⟨N1,hN1,?_⟩
 have jv:=ZQ hz1 aP hl1
 skip
 refine Qt (A:=[_,_,_]) rfl trivial rfl rfl rfl (fun w hk hs=>Yl w q l' oq) fun w v w' _ _ _ hR=>?_
 obtain⟨N2,zs2,eH,hO2,hz2,aY⟩:=hR
 refine⟨N2,eH,?_⟩
 have hzl2:=ZQ hz2 aY hl2
 skip
 refine Qt (A:=[_,_,_]) rfl trivial rfl rfl rfl (fun w hk hs=>Qfs w _ _ _ _ _ _ (bG.rd.at hk hs Qb) (hO2.rd.at hk hs Qb) hz1.lt hz2.lt oq oq) fun w v w' _ _ _ hR=>?_
 obtain⟨N3,dD,hN3,hO3,hz3,hval3,hzl4⟩:=hR
 refine⟨N3,hN3,?_⟩
 rw[aP,aY]at hval3
 have hzl3:dD.length≤k+k:=by
  refine hz3.bM dq ?_
  rw[hval3,Nat.pow_add]
  have h1:=V6 (QZ hl1) (Nat.pow_le_pow_left (show 256≤aI by decide) k)
  have h2:=V6 (QZ hl2) (Nat.pow_le_pow_left (show 256≤aI by decide) k)
  exact Nat.mul_lt_mul_of_lt_of_le h1 (Nat.le_of_lt h2) (Nat.pow_pos dq)
 skip
 refine Q9 trivial rfl rfl rfl (fun w hk hs=>ZS w _ _ dD (p != q) (hO3.rd.at hk hs Qb) hz3.lt oq) fun w v w' _ _ _ hR=>?_
 subst hR
 repeat' first|apply jN|apply jT|refine Q6 ?_|refine Q6 ?_|apply jR
 exact Z0 0 rfl rfl rfl (fun a w' st=>⟨st.kp,by show Wv (bC (p != q) (val aI dD))=_;rw[hval3,Qdt]⟩)

end Go.Proofs.YtbofgpenopcfaaaGreatDoor

